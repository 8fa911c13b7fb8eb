/- An abstract machine over programs of the model, and its soundness: what it tells of a function, the model's machine does, continued. Conditions: none. -/
import Derived.Laws.Tables
import Derived.Great.BuildSlice
import Derived.Laws.StructEq
import Derived.ChangeKeysEq
import Derived.Orders
import Derived.LoopN
import Derived.Test.YtepopigkpnoflaaGreatTwAm1
set_option linter.unusedVariables false
set_option linter.unusedSimpArgs false
namespace AM
open Go
variable {α:Type}{P:Program}{base:Nat}
theorem Rr {dst ty pos after guard}{x:Operand}{args:Array Operand}{tys:Array TypeId}{t:TypeId}{A2:List TypeId}{st:St}{k:AV->St->Option α}{r:α}(ha:args.toList=[x])(ht:tys.toList=t::A2)
  (h:(match st.ev x with| .val (.slice none 0 0)=>(match mY P t with|true=>k (.val (.int .i64 0)) st|false=>none)|_=>none)=some r):nT P base ⟨dst, .call ⟨.builtin .cap,args,tys⟩,ty,pos,after,guard⟩ st k r:=by
 have nu:args= #[x]:=by cases args;simp at ha;subst ha;rfl
 have zO:tys[0]?=some t:=by cases tys;simp at ht;subst ht;simp
 subst nu;split at h
 ·rename_i e1
  split at h
  ·rename_i hs
   obtain⟨e,hu⟩:=rR hs;refine⟨_,_,h,lq.pure λN D w a s=>⟨.int .i64 0,?_,ee.2 rfl⟩⟩;simp[execOp,resolve,invoke,builtin,Builtin.cap_,zO,s.sJ e1,run_underlying hu,goInt]
  ·cases h
 ·cases h
theorem Rs {dst ty pos after guard}{x y:Operand}{args:Array Operand}{tys:Array TypeId}{st:St}{k:AV->St->Option α}{r:α}(ha:args.toList=[x,y])
  (h:(match st.ev x,st.ev y with| .val (.int ka a), .val (.int kb b)=>(if ka=kb then k (.val (.int ka (qF a b))) st else none)|_,_=>none)=some r):nT P base ⟨dst, .call ⟨.builtin .min,args,tys⟩,ty,pos,after,guard⟩ st k r:=by
 have nu:args= #[x,y]:=by cases args;simp at ha;subst ha;rfl
 subst nu;split at h
 ·rename_i ka a kb b e1 e2
  split at h
  ·rename_i hk
   subst hk;refine⟨_,_,h,lq.pure λN D w act s=>⟨.int ka (qF a b),?_,ee.2 rfl⟩⟩;by_cases hc:b<a<;>simp[execOp,resolve,invoke,builtin,Builtin.min_,Builtin.min2,s.sJ e1,s.sJ e2,qF,kJ,hc]
  ·cases h
 ·cases h
theorem Rt {dst ty pos after guard}{x y:Operand}{args:Array Operand}{tys:Array TypeId}{st:St}{k:AV->St->Option α}{r:α}(ha:args.toList=[x,y])
  (h:(match st.ev x,st.ev y with| .val (.int ka a), .val (.int kb b)=>(if ka=kb then k (.val (.int ka (imax a b))) st else none)|_,_=>none)=some r):nT P base ⟨dst, .call ⟨.builtin .max,args,tys⟩,ty,pos,after,guard⟩ st k r:=by
 have nu:args= #[x,y]:=by cases args;simp at ha;subst ha;rfl
 subst nu;split at h
 ·rename_i ka a kb b e1 e2
  split at h
  ·rename_i hk
   subst hk;refine⟨_,_,h,lq.pure λN D w act s=>⟨.int ka (imax a b),?_,ee.2 rfl⟩⟩;by_cases hc:b>a<;>simp[execOp,resolve,invoke,builtin,Builtin.max_,Builtin.max2,s.sJ e1,s.sJ e2,imax,kJ,hc]
  ·cases h
 ·cases h
theorem DJ: ∀(l:List Int) (r:ByteArray),l.foldl (λr n=>r.push (UInt8.ofNat n.toNat)) r=⟨r.data++(l.map λn=>n.toNat.toUInt8).toArray⟩
 | [],r=>by simp
 |n::l,r=>by
  simp only[zem];rw[DJ l];simp[ByteArray.push]
theorem Ru (b:ByteArray):(b.data.toList.map λc=>((c.toNat:Nat):Int)).length=b.size:=by simp
theorem FI (b:ByteArray)(c:Nat)(h:b.size<=c):(bytesRow b c).size=c:=by
 have e:b.data.size=b.size:=rfl;simp[bytesRow,e];omega
theorem Lv (w:World)(ba:Addr)(xs:List Int)(cap:Nat)(h:xs.length≠0->ba.spot=none/\∀j y,xs[j]?=some y->w.cell? ⟨ba.block,ba.off+j,none⟩=some (.int .u8 y)):
  (Conv.bytesToString (.slice (some ba) xs.length cap)).run P w= .ok (.string (uu xs)) w:=by
 have tN:(loadCells ba xs.length).run P w= .ok (xs.map (Value.int .u8)).toArray w:=by
  have:=run_loadCells_list (P:=P) w ba (xs.map (Value.int .u8)) λj v hv=>by
   rw[zej,zd9] at hv;obtain⟨y,hy,rfl⟩:=hv;have lR:xs.length≠0:=by
    have:=(List.getElem?_eq_some_iff.1 hy).1;omega
   obtain⟨f1,f2⟩:=h lR;have:=f2 j y hy;obtain⟨bb,oo,sp⟩:=ba;simp only at f1;subst f1;rw[oy];exact this
  rwa [zen] at this
 rw[run_bytesToString w ba _ cap _ tN,DJ];simp[uu]
theorem Lw {w:World}{b:Nat}{c:Array Value}{ty:TypeId}{fz:Nat×Nat}(h:w.heap[b]?=some (.cells c ty fz)):
  (w.freeze ⟨b,c.size,none⟩ 1).heap[b]?=some (.cells c ty (if fz.1==fz.2 then(c.size,c.size+1) else(min fz.1 c.size,max fz.2 (c.size+1))))/\∀b',b'≠b->(w.freeze ⟨b,c.size,none⟩ 1).heap[b']?=w.heap[b']?:=by
 constructor
 ·simp[World.freeze,zdT,h]
 ·intro b' hb
  simp[World.freeze,zdT];intro e;exact absurd e.symm hb
theorem HI {dst ty pos after guard}{src dt:TypeId}{x:Operand}{st:St}{id:Nat}(pF:id=name st.ep (dst.getD 999) 0){k:AV->St->Option α}{r:α}(h:AQ P st id src dt (st.ev x) k=some r):nT P base ⟨dst, .convert src dt x,ty,pos,after,guard⟩ st k r:=by
 unfold AQ at h;split at h
 ·rename_i ki n e1
  split at h
  ·rename_i ks kd h1 h2
   refine⟨_,_,h,lq.pure λN D w a s=>⟨_,?_,ee.2 rfl⟩⟩;simp[execOp,s.sJ e1,Go.convert,run_underlying h1,run_underlying h2,Conv.intToInt,pE]
  ·cases h
 ·rename_i b e1
  split at h
  ·rename_i h1 h2
   refine⟨_,_,h,lq.pure λN D w a s=>⟨_,?_,ee.2 rfl⟩⟩;simp[execOp,s.sJ e1,Go.convert,run_underlying h1,run_underlying h2]
  ·rename_i e h1 h2
   split at h
   ·rename_i h3
    obtain⟨h4,h5⟩:=zR h;refine⟨_,_,h5,rfl,rfl,rfl,λj _ hj=>by
     have:j≠id:=λe=>by subst e;subst pF;simp[qo,makes,qW] at hj
     simp[St.set,this],λN D w a s=>?_⟩
    have jI:=run_bytes_of_string (P:=P) w src dt e b h1 h2 h3;have so:=grownCap_ge w b.size 0 e;have hl:aO (β:=(Ty.int .u8).den) (b.data.toList.map λc=>((c.toNat:Nat):Int))=b.size:=by
     exact Ru b
    obtain⟨N',n1,n2,n3⟩:=s.nr.HF (t:= .int .u8) (xs:=(b.data.toList.map λc=>((c.toNat:Nat):Int))) h4 w.drew (bytesRow b (grownCap w b.size 0 e)) e ((bytesRow b (grownCap w b.size 0 e)).size,(bytesRow b (grownCap w b.size 0 e)).size+1) (grownCap w b.size 0 e) rfl rfl rfl rfl (by rw[hl];exact so)
     (by rw[FI _ _ so];simp[Ty.size]) (.inr ⟨zdz _,rfl⟩) ((Gi b).congr λj hj=>by
      rw[hl] at hj;simp only[Ty.size,zel] at hj;have BR:j<b.data.size:=hj;rw[bytesRow_at b _ j BR];simp only[zej,Array.getElem?_toList,zdV BR,zds])
    rw[hl] at n3;refine⟨N',D,_,_, .inl ?_,by rw[St.sY];exact n2,by rw[St.sY];exact n1,n3⟩
    simp only[execOp,s.sJ e1,zdE,jI,zdF,zdG]
   ·cases h
  ·cases h
 ·split at h
  ·rename_i e h1 h2
   split at h
   ·rename_i h3
    obtain⟨xs,ids,h4,h5⟩:=uA h;refine⟨_,_,h4,lq.pure λN D w a s=>⟨_,?_,ee.2 rfl⟩⟩;obtain⟨ba,cap,g1,g2,g3,g4⟩:=h5 N D w base s.nr _ (s.Fy x);simp only[execOp,g1,zdE,run_convert_bytes_string w src dt e ba _ cap h1 h3 h2];cases ba with
    |none=>
     have:=g3 rfl;have Lq:xs=[]:=zdM (by simp only[aO] at g2;omega)
     subst Lq;simp[Conv.bytesToString,uu];rfl
    |some ba=>
     have hb:=Lv (P:=P) w ba xs cap λlR=>⟨(g4 ba rfl lR).1,λj y hy=>by
      have h9:aV w ba (j*1+0)=some (.int .u8 y):=(g4 ba rfl lR).2 j y hy;simpa [aV] using h9⟩
     exact(congrArg (λq:Result Value=>q.andThen λa w'=>(pure (Next.value a):Sem Next).run P w') hb)
   ·cases h
  ·rename_i e0 e h1 h2
   split at h
   ·rename_i j off h3 Lx hv
    simp only[zdr] at Lx;subst Lx;split at h
    ·rename_i xs ho
     split at h
     ·rename_i kR
      simp only[zdr] at kR;refine⟨_,_,h,rfl,rfl,rfl,λ_ _ _=>rfl,λN D w a s=>?_⟩;have hr:=s.uj hv;have KO:=hr;unfold cq at hr;simp only[AV.isAgg,jw,an] at hr;obtain⟨nm,n1,n2,n3,n4,n5⟩:=hr;obtain⟨mD,o1,o2,o3,o4,o5,o6⟩:=s.nr.obj j _ ho;rw[n1] at o1;cases o1;cases hb:nm.base with
      |none=>
       rw[hb] at n5;have:=n5.1;simp only[aO] at o4;omega
      |some ad=>
       rw[hb] at n5 o6;obtain⟨v,rm,g1,g2,a2,cap,g3,g4,g5,g6⟩:=n5;simp only[aO] at o4;have ha2:a2=Addr.at_ ad (off*nm.sh.size):=by
        rcases g6 with g6|g6
        ·exact g6
        ·omega
       subst ha2;simp only[zdj] at g1;obtain⟨p1,⟨c,ty,fz,p2,p3,p4⟩,p5,p6⟩:=o6;obtain⟨z1,z2⟩:=Lw p2;have jI:(Go.convert src src (a.eval x)).run P w= .ok (a.eval x) (w.freeze ⟨ad.block,c.size,none⟩ 1):=by
        have yw:w.shape? ad.block=some (ty,c.size):=by unfold World.shape?;rw[p2]
        rw[g1,g3];rw[h1] at h2;cases h2;simp[Go.convert,run_underlying h1,run_underlying h3,markStringish,yw,Addr.at_]
       have zb9:kn st.h j (.row false (.int .u8) xs)=st.h:=by
        funext i
        simp only[kn];split
        ·rename_i e;subst e;exact ho.symm
        ·rfl
       have tN: ∀jj,aV (w.freeze ⟨ad.block,c.size,none⟩ 1) ad jj=aV w ad jj:=λjj=>by
        simp only[aV,World.cell?,z1,p2]
       obtain⟨W1,W2⟩:=s.nr.write (w':=w.freeze ⟨ad.block,c.size,none⟩ 1) (o':= .row false (.int .u8) xs) ho rfl n1 hb (by simp[World.freeze]) (by simp[World.freeze]) (by simp[World.freeze]) (by simp[World.freeze]) z2 (by
        refine⟨nm,n1,n2,o3,o4,o5,?_⟩;rw[hb];refine⟨p1,⟨c,ty,_,z1,p3,λNw=>?_⟩,p5,λi y hy=>?_⟩
        ·right
         refine⟨?_,rfl⟩;rcases(p4 Nw).imp_right And.left with e|e
         ·rw[e];simp
         ·obtain⟨lo,hi⟩:=fz
          simp only at e⊢;split
          ·exact zdz _
          ·simp only;omega
        ·have hD: ∀b,D b->(w.freeze ⟨ad.block,c.size,none⟩ 1).heap[b]?=w.heap[b]?:=λb uX=>z2 b λe=>by
          subst e;simp at p5;exact p5.2 uX
         have h9:=kv (Names.le_refl _) (λ_ h=>h) hD (.int .u8) y _ (p6 i y hy);have e:(λjj=>aV (w.freeze ⟨ad.block,c.size,none⟩ 1) ad (i*(Ty.int .u8).size+jj))=λjj=>aV w ad (i*(Ty.int .u8).size+jj):=by funext jj;exact tN _
         rw[e];exact h9)
       rw[zb9] at W1 W2;refine⟨N,D,_,a.eval x, .inl ?_,W2,W1,?_⟩
       ·simp only[execOp,zdE,jI,zdF,zdG]
       ·exact W2.val s.nr (by rw[<-hv];exact s.Fy x)
     ·cases h
    ·cases h
   ·cases h
  ·cases h
end AM
namespace AM
open Go
def part (h:Nat->Option fP)(F:Nat->Bool):Nat->Option fP:=λid=>if F id then h id else some .dead
def join (h h':Nat->Option fP)(W:Nat->Bool):Nat->Option fP:=λid=>if W id then h' id else h id
section
variable {N N':Names}{D D':Nat->Prop}{w w':World}{base:Nat}{h h':Nat->Option fP}{F W:Nat->Bool}
theorem zS {id b:Nat}{o:fP}(e:AM.part h F id=some o)(hr:iQ N id o b):F id=true/\h id=some o:=by
 unfold AM.part at e;split at e
 ·exact⟨‹_›,e⟩
 ·cases e;exact hr.elim
theorem DK {b:Nat}(ho:yY N (AM.part h F) b):yY N h b:=by
 obtain⟨id,o,h1,h2⟩:=ho;exact⟨id,o,(zS h1 h2).2,h2⟩
theorem jV.part (S:jV N D w base h)(F:Nat->Bool):jV N D w base (AM.part h F):=by
 refine⟨λid o e=>?_,λi j oi oj b hi hj ri rj=>S.apart i j oi oj b (zS hi ri).2 (zS hj rj).2 ri rj,S.frozen,λid nm hn=>?_,S.size,λg hg=>?_⟩
 ·unfold AM.part at e
  split at e
  ·exact S.obj id o e
  ·cases e;trivial
 ·unfold AM.part
  split
  ·exact S.named id nm hn
  ·simp
 ·unfold AM.part at hg
  split at hg
  ·exact S.iI g hg
  ·cases hg
theorem A4 (S:jV N D w base h){id b:Nat}{o:fP}(ho:h id=some o)(hr:iQ N id o b)(hF:F id=false):
  ¬yY N (AM.part h F) b/\b<w.heap.size/\¬D b:=by
 refine⟨λhO=>?_,(S.oX ho hr).2.2,(S.oX ho hr).1⟩;obtain⟨id2,o2,h1,h2⟩:=hO;obtain⟨h6,h7⟩:=zS h1 h2;have:=S.apart id id2 o o2 b ho h7 hr h2;subst this;rw[hF] at h6;cases h6
theorem jV.tO (S:jV N D w base h){id:Nat}{ep:List (Nat×aH)}{xs:List (cP ep)}(ho:h id=some (.store ep xs)):SB+(id-SB)=id:=by
 have:=S.obj id _ ho;simp only[qu,jd] at this;omega
theorem jV.join (S:jV N D w base h)(x:Ext N D w (AM.part h F) N' D' w' h')(S':jV N' D' w' base h')(hW: ∀id,W id=true->F id=true)(I0: ∀id,F id=true->W id=false->h' id=AM.part h F id):
  jV N' D' w' base (AM.join h h' W)/\Ext N D w h N' D' w' (AM.join h h' W):=by
 have yf: ∀id,F id=true->AM.join h h' W id=h' id:=by
  intro id hF;unfold AM.join;cases hw:W id with
  |true=>simp
  |false=>rw[I0 id hF hw];simp[AM.part,hF]
 have js: ∀id,F id=false->AM.join h h' W id=h id:=by
  intro id hF;unfold AM.join;cases hw:W id with
  |true=>rw[hW id hw] at hF;cases hF
  |false=>simp
 have vn: ∀id,F id=false->∀nm,N' id=some nm->N id=some nm:=by
  intro id hF nm hn;rcases x.fresh id nm hn with h1|h1
  ·exact h1
  ·unfold AM.part at h1;simp[hF] at h1
 have Ly: ∀id,F id=false->N' id=N id:=by
  intro id hF;cases e:N' id with
  |some nm=>exact(vn id hF nm e).symm
  |none=>
   cases e':N id with
   |none=>rfl
   |some nm=>rw[x.names id nm e'] at e;cases e
 have zM: ∀g,F (SB+g)=false->∀k,N'.sub g k=N.sub g k:=λg hF=>(x.pF g (by simp[AM.part,hF])).2
 have hold: ∀id o b,F id=false->h id=some o->(iQ N' id o b↔iQ N id o b):=by
  intro id o b hF ho;by_cases jZ: ∃ep xs,o= .store ep xs
  ·obtain⟨ep,xs,rfl⟩:=jZ
   have e:=S.tO ho;exact iQ.names (Ly id hF) (zM _ (by rw[e];exact hF))
  ·cases o with
   |dead=>exact Iff.rfl
   |void=>exact Iff.rfl
   |var v=>exact ox.eq (Ly id hF)
   |row ro t xs=>
    cases ro with
    |true=>exact Iff.rfl
    |false=>exact ox.eq (Ly id hF)
   |store ep xs=>exact absurd ⟨ep,xs,rfl⟩ jZ
 have zal: ∀b,b<w.heap.size->yY N' (AM.join h h' W) b->yY N h b:=by
  rintro b kR ⟨id,o,h1,h2⟩
  cases hF:F id with
  |true=>
   rw[yf id hF] at h1;exact DK (x.own b kR ⟨id,o,h1,h2⟩)
  |false=>
   rw[js id hF] at h1;exact⟨id,o,h1,(hold id o b hF h1).1 h2⟩
 have HJ:=x.Ji (S.part F);refine⟨⟨λid o e=>?_,?_,S'.frozen,λid nm hn=>?_,S'.size,λg hg=>?_⟩,⟨x.names,x.frozen,x.os,x.tape,x.output,x.size,λb hb ho=>x.sI b hb (λmS=>ho (DK mS)),zal,λb hb=>?_,λi nm hn=>?_,λi hi=>?_,λg hg=>?_⟩⟩
 ·cases hF:F id with
  |true=>rw[yf id hF] at e;exact S'.obj id o e
  |false=>
   rw[js id hF] at e;refine nN (S.obj id o e) x.names x.frozen HJ (λb hO=>?_) (λep xs eo=>?_)
   ·obtain⟨g1,g2,g3⟩:=A4 (F:=F) S e hO hF
    refine⟨x.sI _ g2 g1,λ_ hd=>?_⟩;rcases x.Jh _ hd with h1|h1|h1
    ·exact g3 h1
    ·exact g1 h1
    ·omega
   ·subst eo
    have e':=S.tO e;exact zM _ (by rw[e'];exact hF)
 ·intro i j oi oj b hi hj ri rj
  cases X9:F i<;>cases Ya:F j
  ·rw[js i X9] at hi
   rw[js j Ya] at hj;exact S.apart i j oi oj b hi hj ((hold i oi b X9 hi).1 ri) ((hold j oj b Ya hj).1 rj)
  ·exfalso
   rw[js i X9] at hi;rw[yf j Ya] at hj;obtain⟨g1,g2,g3⟩:=A4 (F:=F) S hi ((hold i oi b X9 hi).1 ri) X9;exact g1 (x.own _ g2 ⟨j,oj,hj,rj⟩)
  ·exfalso
   rw[yf i X9] at hi;rw[js j Ya] at hj;obtain⟨g1,g2,g3⟩:=A4 (F:=F) S hj ((hold j oj b Ya hj).1 rj) Ya;exact g1 (x.own _ g2 ⟨i,oi,hi,ri⟩)
  ·rw[yf i X9] at hi
   rw[yf j Ya] at hj;exact S'.apart i j oi oj b hi hj ri rj
 ·cases hF:F id with
  |true=>rw[yf id hF];exact S'.named id nm hn
  |false=>rw[js id hF];exact S.named id nm (vn id hF nm hn)
 ·cases hF:F (SB+g) with
  |true=>rw[yf _ hF] at hg;exact S'.iI g hg
  |false=>
   rw[js _ hF] at hg;exact λk=>(zM g hF k).trans (S.iI g hg k)
 ·rcases x.Jh b hb with h1|h1|h1
  ·exact .inl h1
  ·exact .inr (.inl (DK h1))
  ·exact .inr (.inr h1)
 ·rcases x.fresh i nm hn with h1|h1
  ·exact .inl h1
  ·right
   unfold AM.part at h1;split at h1
   ·exact h1
   ·cases h1
 ·cases hF:F i with
  |true=>
   rw[yf i hF] at hi;have:=x.live i hi;simpa [AM.part,hF] using this
  |false=>rw[js i hF] at hi;exact hi
 ·cases hF:F (SB+g) with
  |true=>
   rw[yf _ hF];exact x.pF g (by simp[AM.part,hF,hg])
  |false=>
   rw[js _ hF];exact⟨hg,zM g hF⟩
end
end AM
namespace AM
open Go
variable {α:Type}{P:Program}{base:Nat}
def A5:List AV->List (Nat×AV)->List AV->Prop
 |l,[],l'=>l'=l
 |l,(i,u)::ps,l'=>(∃v,l[i]?=some v/\u.size=v.size)/\A5 (l.set i u) ps l'
def Gk (N:Names)(D:Nat->Prop)(w:World):List (Nat×AV)->List (Nat×Value)->Prop
 | [],cs=>cs=[]
 |p::ps,cs=> ∃c tq,cs=(p.1,c)::tq/\c.cells.size=p.2.size/\an N D w p.2 (c.cells[·]?)/\Gk N D w ps tq
theorem Gl (off:Nat): ∀(l:List Value) (k:Nat) (cells:Array Value),off+k+l.length<=cells.size->
  ((l.zipIdx k).foldl (λcs (c,j)=>cs.setIfInBounds (off+j) c) cells).size=cells.size/\
  ∀j,((l.zipIdx k).foldl (λcs (c,j)=>cs.setIfInBounds (off+j) c) cells)[j]?=if off+k<=j/\j<off+k+l.length then l[j-(off+k)]? else cells[j]?
 | [],k,cells,_=>⟨rfl,λj=>by simp;intro h1 h2;omega⟩
 |c::l,k,cells,h=>by
  simp only[List.zipIdx_cons,zem];simp only[zdn] at h;obtain⟨h1,h2⟩:=Gl off l (k+1) (cells.setIfInBounds (off+k) c) (by simp;omega)
  refine⟨by rw[h1];simp,λj=>?_⟩
  rw[h2 j];by_cases e:j=off+k
  ·subst e
   rw[if_neg (by omega),if_pos (by simp)]
   simp[show off+k<cells.size by omega]
  ·by_cases e2:off+(k+1)<=j/\j<off+(k+1)+l.length
   ·rw[if_pos e2,if_pos (by simp only[zdn];omega),show j-(off+k)=(j-(off+(k+1)))+1 by omega,List.getElem?_cons_succ]
   ·rw[if_neg e2,if_neg (by simp only[zdn];omega),Array.getElem?_setIfInBounds_ne (by omega)]
theorem Gm: ∀(l:List AV) (i:Nat) (v u:AV),l[i]?=some v->u.size=v.size->AV.dD (l.set i u)=AV.dD l/\(∀j,AV.dD ((l.set i u).take j)=AV.dD (l.take j))/\∀(j:Nat) (v':AV),(l.set i u)[j]?=some v'->∃v'',l[j]?=some v''/\v'.size=v''.size
 | [],i,v,u,h,_=>by simp at h
 |x::xs,0,v,u,h,e=>by
  simp at h;subst h;refine⟨by simp[AV.dD,e],λj=>?_,λj v' hj=>?_⟩
  ·cases j<;>simp[AV.dD,e]
  ·cases j with
   |zero=>simp at hj;subst hj;exact⟨x,rfl,e⟩
   |succ j=>exact⟨v',by simpa using hj,rfl⟩
 |x::xs,i+1,v,u,h,e=>by
  obtain⟨h1,h2,h3⟩:=Gm xs i v u (by simpa using h) e
  refine⟨by simp[AV.dD,h1],λj=>?_,λj v' hj=>?_⟩
  ·cases j with
   |zero=>simp[AV.dD]
   |succ j=>simp[AV.dD,h2 j]
  ·cases j with
   |zero=>simp at hj;subst hj;exact⟨x,rfl,rfl⟩
   |succ j=>simpa using h3 j v' (by simpa using hj)
theorem vY {N:Names}{D:Nat->Prop}{w:World}{place:Nat->Option (Nat×Nat)}: ∀(ps:List (Nat×AV)) (l l':List AV) (cs:List (Nat×Value)) (cells:Array Value),A5 l ps l'->Gk N D w ps cs->cells.size=AV.dD l->ff N D w l (cells[·]?)->
  (∀(i:Nat) (v:AV),l[i]?=some v->place i=some (AV.dD (l.take i),v.size))->∃ly,Instr.fill place cells cs=some ly/\ly.size=AV.dD l'/\AV.dD l'=AV.dD l/\ff N D w l' (ly[·]?)
 | [],l,l',cs,cells,hf,hp,hs,hr,hpl=>by
  simp only[A5] at hf;simp only[Gk] at hp;subst hf;subst hp;exact⟨cells,rfl,hs,rfl,hr⟩
 |(i,u)::ps,l,l',cs,cells,hf,hp,hs,hr,hpl=>by
  obtain⟨⟨v,hv,hu⟩,hf⟩:=hf;obtain⟨c,tq,rfl,hc,hrc,hp⟩:=hp;simp only at hc hrc;have hle:=uJ l i v hv;obtain⟨p1,p2⟩:=Gl (AV.dD (l.take i)) c.cells.toList 0 cells (by simp;omega)
  obtain⟨q1,q2,q3⟩:=Gm l i v u hv hu;have hz:c.cells.zipIdx.foldl (λcs (c,j)=>cs.setIfInBounds (AV.dD (l.take i)+j) c) cells=(c.cells.toList.zipIdx 0).foldl (λcs (c,j)=>cs.setIfInBounds (AV.dD (l.take i)+j) c) cells:=by
   rw[<-Array.foldl_toList,Array.toList_zipIdx]
  obtain⟨ly,r1,r2,r3,r4⟩:=vY (place:=place) ps (l.set i u) l' tq ((c.cells.toList.zipIdx 0).foldl (λcs (c,j)=>cs.setIfInBounds (AV.dD (l.take i)+j) c) cells) hf hp (by rw[p1,hs,q1]) (by
   refine yZ l i v u (cells[·]?) _ hv hu hr (λj hj=>?_) (jP u _ _ (λj hj=>?_) hrc)
   ·simp only[p2]
    rw[if_neg (by simp only[Array.length_toList];omega)]
   ·simp only[p2]
    rw[if_pos (by simp only[Array.length_toList];omega)]
    simp) (λj v' hj=>by
   obtain⟨v'',g1,g2⟩:=q3 j v' hj;rw[hpl j v'' g1,q2 j,g2])
  refine⟨ly,?_,r2,r3.trans q1,r4⟩;unfold Instr.fill;rw[hpl i v hv];simp only;rw[if_neg (by simp only[zeo,zdr,not_or];constructor<;>omega),hz]
  exact r1
theorem HK {v u:AV}(h:v.lj u=true):u.size=v.size:=by rw[<-kO,<-vQ v u h,kO]
theorem zU: ∀(ps:List (Nat×AV)) (l l':List AV),zB l ps=some l'->A5 l ps l'/\∀p∈ps,p.2.nq=true
 | [],l,l',h=>by
  simp only[zB,zdj] at h;exact⟨h.symm,λp hp=>by simp at hp⟩
 |(i,u)::ps,l,l',h=>by
  simp only[zB] at h;split at h
  ·rename_i v hv
   split at h
   ·rename_i hs
    simp only[zdl] at hs;obtain⟨h1,h2⟩:=zU ps _ l' h;exact⟨⟨⟨v,hv,HK hs.1⟩,h1⟩,List.forall_mem_cons.2 ⟨hs.2,h2⟩⟩
   ·cases h
  ·cases h
theorem BX {sz:Nat}: ∀(ps:List (Nat×AV)) (l l':List AV),(∀v∈l,v.size=sz)->Dk sz l ps=some l'->A5 l ps l'/\(∀p∈ps,p.2.nq=true)/\l'.length=l.length/\(∀v∈l',v.size=sz)
 | [],l,l',hl,h=>by
  simp only[Dk,zdj] at h;subst h;exact⟨rfl,(λp hp=>by simp at hp),rfl,hl⟩
 |(i,u)::ps,l,l',hl,h=>by
  simp only[Dk] at h;split at h
  ·rename_i hs
   simp only[zdl,zdr] at hs;obtain⟨h1,h2,h3,h4⟩:=BX ps _ l' (λv hv=>by
    rcases zep hv with hv|rfl
    ·exact hl v hv
    ·exact hs.2) h
   refine⟨⟨⟨l[i]'hs.1.1,zdi _,?_⟩,h1⟩,List.forall_mem_cons.2 ⟨hs.1.2,h2⟩,by rw[h3];simp,h4⟩
   exact hs.2.trans (hl _ (zeq _)).symm
  ·cases h
theorem zV {N:Names}{D:Nat->Prop}{w:World}{st:St}{a:Act}(s:kt N D w base st a): ∀(ps:List (Nat×Operand)),(∀p∈ps,(st.ev p.2).nq=true)->Gk N D w (ps.map λp=>(p.1,st.ev p.2)) (ps.map λp=>(p.1,a.eval p.2))
 | [],_=>rfl
 |p::ps,h=>by
  obtain⟨h1,h2,_⟩:=tK (h p (zdq ..)) (s.Fy p.2);exact⟨_,_,rfl,h1,h2,zV s ps λp hp=>h p (zdp _ hp)⟩
theorem xE {N:Names}{D:Nat->Prop}{w:World}{t:Ty}: ∀(xs:List t.den) (g:Nat->Option Value),ff N D w (xs.map (enc t)) g↔ed N D w t xs g
 | [],g=>by simp only[List.map_nil,ff,true_iff];exact ed.nil
 |x::xs,g=>by
  simp only[zea,ff];rw[kK,xE xs,nD];constructor
  ·rintro⟨h1,h2⟩ i y hy
   cases i with
   |zero=>
    simp only[jU,zdP,zdj] at hy;subst hy;exact iq.func h1 λj=>by simp
   |succ i=>
    exact iq.func (h2 i y (by simpa [jU] using hy)) λj=>congrArg g (by rw[zdx];omega)
  ·intro h
   refine⟨iq.func (h 0 x rfl) λj=>by simp,λi y hy=>?_⟩
   exact iq.func (h (i+1) y (by simpa [jU] using hy)) λj=>congrArg g (by rw[zdx];omega)
theorem vZ {t:Ty}: ∀(xs:List t.den),AV.dD (xs.map (enc t))=xs.length*t.size
 | []=>by simp[AV.dD]
 |x::xs=>by simp only[zea,AV.dD,nD,vZ xs,zdn,zdx];omega
theorem zW {s:St}{t:Ty}: ∀(ps:List (Nat×AV)) (xs:List t.den) (k:List t.den->Option α) (r:α),CX s t xs ps k=some r->
  ∃BW us,k BW=some r/\A5 (xs.map (enc t)) us (BW.map (enc t))/\BW.length=xs.length/\(∀p∈ps,p.2.nq=true)/\∀N D w base,jV N D w base s.h->∀cs,Gk N D w ps cs->Gk N D w us cs
 | [],xs,k,r,h=>⟨xs,[],h,rfl,rfl,(λp hp=>by simp at hp),λ_ _ _ _ _ cs hp=>hp⟩
 |(i,u)::ps,xs,k,r,h=>by
  simp only[CX] at h;obtain⟨hsz,x,ids,h1,h2⟩:=mF t u _ r h;split at h1
  ·split at h1
   ·rename_i hi
    simp only[zdl,zdr] at hi;obtain⟨BW,us,g1,g2,g3,g4,g5⟩:=zW ps _ k r h1;refine⟨BW,(i,enc t x)::us,g1,⟨⟨enc t (xs[i]'hi.1),by simp[hi.1],by rw[nD,nD]⟩,by rw[<-List.map_set];exact g2⟩,by rw[g3];simp,List.forall_mem_cons.2 ⟨hi.2,g4⟩,λN D w base S cs hp=>?_⟩
    obtain⟨c,tq,rfl,c1,c2,c3⟩:=hp;exact⟨c,tq,rfl,by rw[c1,nD,hsz],(kK t x _).2 (h2 N D w base S _ c2 D (λ_ h=>h) (by intro q hq;simp at hq)),g5 N D w base S tq c3⟩
   ·cases h1
  ·cases h1
theorem xF: ∀(fl:List Field) (off:Nat) (fs:List AV),tm P fl off fs=true->∃A6,fl.mapM (λf=>(P.info? f.type).map λi=>(f.offset,i.size))=some A6/\∀(i:Nat) (v:AV),fs[i]?=some v->A6[i]?=some (off+AV.dD (fs.take i),v.size)
 | [],off,[],_=>⟨[],rfl,λi v h=>by simp at h⟩
 |f::fl,off,v::vs,h=>by
  simp only[tm,zdl,zdr] at h;obtain⟨⟨⟨h1,h2⟩,h3⟩,h4⟩:=h;obtain⟨A6,g1,g2⟩:=xF fl _ vs h4;obtain⟨i,hi⟩:=Option.isSome_iff_exists.1 h3;have hsz:i.size=v.size:=by rw[<-h2];simp[Program.cellsOf,hi]
  refine⟨(f.offset,i.size)::A6,by simp[List.mapM_cons,hi,g1],λj u hj=>?_⟩
  cases j with
  |zero=>simp at hj;subst hj;simp[AV.dD,h1,hsz]
  |succ j=>
   simp only[List.getElem?_cons_succ] at hj⊢;rw[g2 j u hj];simp[AV.dD,zdy]
 | [],_,_::_,h=>by simp[tm] at h
 |_::_,_,[],h=>by simp[tm] at h
theorem LA {dst ty pos after guard}{t:TypeId}{parts:Array (Nat×Operand)}{st:St}{k:AV->St->Option α}{r:α}(h:Hj P st t (parts.toList.map λp=>(p.1,st.ev p.2)) k=some r):nT P base ⟨dst, .build t parts,ty,pos,after,guard⟩ st k r:=by
 unfold Hj at h;obtain⟨v,i,z,h,hi,hz,_,_,g1,g2⟩:=rJ h;split at h
 ·rename_i fl fs hu _ _
  split at h
  ·rename_i lf
   split at h
   ·rename_i fs' zam
    obtain⟨h1,h2⟩:=zU _ _ _ zam;obtain⟨A6,p1,p2⟩:=xF _ _ _ lf;refine⟨_,_,h,lq.pure λN D w a s=>?_⟩;have hp:=zV s parts.toList λp hp=>h2 (p.1,st.ev p.2) (List.mem_map_of_mem hp);obtain⟨ly,r1,r2,r3,r4⟩:=vY _ _ _ _ z.cells h1 hp g1 (by have:=g2 N D w;simpa only[an] using this) (place:=(A6.toArray[·]?)) λj u hj=>by simp only[List.getElem?_toArray];rw[p2 j u hj,zd2]
    refine⟨.agg ly,?_,xn.2 ⟨ly,rfl,r2,r4⟩⟩;have hb:P.built t (parts.map λp=>(p.1,a.eval p.2)).toList=some ly:=by
     simp only[Program.built,hi,hu,hz,p1,Array.toList_map];exact r1
    simp only[execOp,zdE,run_build w t _ ly hb,zdF,zdG]
   ·cases h
  ·cases h
 ·rename_i m e n te xs hu _ _
  split at h
  ·rename_i hc
   simp only[zdl,zdr] at hc;obtain⟨⟨rfl,O3⟩,Z9⟩:=hc;obtain⟨ie,Z9⟩:=Option.isSome_iff_exists.1 Z9;have zca:ie.size=te.size:=by rw[<-O3];simp[Program.cellsOf,Z9]
   obtain⟨BW,us,q1,q2,q3,q4,q5⟩:=zW _ _ _ _ h;refine⟨_,_,q1,lq.pure λN D w a s=>?_⟩;have hp:=q5 N D w base s.nr _ (zV s parts.toList λp hp=>q4 (p.1,st.ev p.2) (List.mem_map_of_mem hp));have Rv:=g2 N D w;simp only[an,iq] at Rv;have hlen:List.length (α:=te.den) xs=m:=Rv.1;obtain⟨ly,r1,r2,r3,r4⟩:=vY _ _ _ _ z.cells q2 hp (by rw[g1,vZ,hlen];rfl) ((xE xs _).2 Rv.2) (place:=λi=>some (i*ie.size,ie.size)) λj u hj=>by
    rw[zej] at hj;obtain⟨y,hy,rfl⟩:=Option.map_eq_some_iff.1 hj;have hjl:=(List.getElem?_eq_some_iff.1 hy).1;rw[<-List.map_take,vZ,nD,zca,zdH,zeg (by omega)]
   refine⟨.agg ly,?_,ve.2 ⟨ly,rfl,?_,?_⟩⟩
   ·have hb:P.built t (parts.map λp=>(p.1,a.eval p.2)).toList=some ly:=by
     simp only[Program.built,hi,hu,hz,Z9,Array.toList_map];exact r1
    simp only[execOp,zdE,run_build w t _ ly hb,zdF,zdG]
   ·rw[r2,vZ,q3,hlen]
   ·exact⟨by show List.length (α:=te.den) BW=m;rw[q3,hlen],(xE BW _).1 r4⟩
  ·cases h
 ·cases h
theorem BY: ∀(ids:List Nat) (s s':St),s.freeze ids=some s'->∀j,j∉ids->s'.h j=s.h j
 | [],s,s',h,j,_=>by simp only[St.freeze,zdj] at h;subst h;rfl
 |i::l,s,s',h,j,hj=>by
  simp only[St.freeze] at h;simp only[zdX,not_or] at hj;split at h
  ·rw[BY l _ s' h j hj.2]
   simp[St.set,hj.1]
  ·cases h
theorem BZ {s:St}{t:Ty}: ∀(l:List AV) (k:List t.den->List Nat->Option α) (r:α),elems s t l k=some r->
  ∃xs ids,k xs ids=some r/\xs.length=l.length/\∀N D w base,jV N D w base s.h->∀D',(∀b,D b->D' b)->lr N D' ids->∀g,ff N D w l g->ed N D' w t xs g
 | [],k,r,h=>⟨[],[],h,rfl,λN D w base S D' _ _ g _=>ed.nil⟩
 |v::vs,k,r,h=>by
  simp only[elems] at h;obtain⟨hsz,x,ids,h1,h2⟩:=mF t v _ r h;obtain⟨xs,XQ,h3,h4,h5⟩:=BZ vs _ r h1;refine⟨x::xs,ids++XQ,h3,by simp[h4],λN D w base S D' hD hF g hg=>?_⟩
  simp only[ff] at hg;have a1:=h2 N D w base S g hg.1 D' hD hF.left;have a2:=h5 N D w base S D' hD hF.right _ hg.2;intro i y hy;cases i with
  |zero=>
   simp only[jU,zdP,zdj] at hy;subst hy;exact iq.func a1 λj=>by simp
  |succ i=>
   exact iq.func (a2 i y (by simpa [jU] using hy)) λj=>congrArg g (by rw[hsz,zdx];omega)
theorem vo {N:Names}{D:Nat->Prop}{w:World}{v:AV}{z:Array Value}(hz:z.size=v.size)(hr:an N D w v (z[·]?)): ∀(n:Nat) (g:Nat->Option Value),(∀j,j<n*v.size->g j=z[j%v.size]?)->ff N D w (List.replicate n v) g
 |0,g,_=>by simp only[zer,ff]
 |n+1,g,hg=>by
  simp only[zdZ,ff];refine⟨jP v _ _ (λj hj=>?_) hr,vo hz hr n _ λj hj=>?_⟩
  ·rw[hg j (by rw[zdx];omega),Nat.mod_eq_of_lt hj]
  ·rw[hg (v.size+j) (by rw[zdx];omega),Nat.add_mod_left]
theorem pZ (v:AV): ∀n,AV.dD (List.replicate n v)=n*v.size
 |0=>by simp[AV.dD]
 |n+1=>by simp only[zdZ,AV.dD,pZ v n,zdx];omega
theorem Jr {sz:Nat}: ∀(l:List AV),(∀v∈l,v.size=sz)->AV.dD l=l.length*sz
 | [],_=>by simp[AV.dD]
 |v::l,h=>by
  simp only[AV.dD,zdn,zdx];rw[h v (zdq ..),Jr l λv hv=>h v (zdp _ hv)];omega
theorem CA {dst ty pos after guard}{t:TypeId}{len:Nat}{parts:Array (Nat×Operand)}{st:St}{id:Nat}(pF:id=name st.ep (dst.getD 999) 0){k:AV->St->Option α}{r:α}(h:vM P st id t len (parts.toList.map λp=>(p.1,st.ev p.2)) k=some r):nT P base ⟨dst, .buildSlice t len parts,ty,pos,after,guard⟩ st k r:=by
 unfold vM at h;split at h
 ·rename_i e te he
  obtain⟨hu,Nr,hsz,hb,i,hi,vk,Rp,_⟩:=qh he;obtain⟨v,i',z,h,nA,hz,X0,zc,uk,hzr⟩:=rJ h;rw[hi] at nA;cases nA;have zcb:z.cells.size=te.size:=by
   have:=tu 12 e te v Nr X0;rw[<-zc] at this;rw[<-mV te,<-this];simp
  have hvs:v.size=te.size:=by rw[<-uk,zcb]
  split at h
  ·cases h
  ·rename_i l um
   obtain⟨f1,f2,f3,f4⟩:=BX _ _ _ (λu hu=>by rw[List.eq_of_mem_replicate hu,hvs]) um
   have tN: ∀N D w a,kt N D w base st a->∃ly,Instr.fill (λi'=>some (i'*i.size,i.size)) ((Array.range (len*i.size)).map (z.cells[·%z.cells.size]!)) (parts.toList.map λp=>(p.1,a.eval p.2))=some ly/\ly.size=AV.dD l/\AV.dD l=AV.dD (List.replicate len v)/\ff N D w l (ly[·]?):=by
    intro N D w a s;have hp:=zV s parts.toList λp hp=>f2 (p.1,st.ev p.2) (List.mem_map_of_mem hp);refine vY _ _ _ _ _ f1 hp (by rw[pZ,hvs,vk];simp) (vo uk (hzr N D w) len _ λj hj=>?_) λq u hq=>?_
    ·have hp0:0<v.size:=by
      rcases zdD v.size with q|q
      ·rw[q] at hj;omega
      ·exact q
     have hm:j%v.size<z.cells.size:=by rw[uk];exact Nat.mod_lt _ hp0
     rw[hvs,<-vk] at hj;simp only[Array.getElem?_map,Array.getElem?_range,hj,if_true,zds];rw[uk,getElem!_pos z.cells _ hm,zdV hm]
    ·have hql:=(List.getElem?_eq_some_iff.1 hq).1
     have hu':=List.eq_of_mem_replicate (zee hq);subst hu';rw[List.take_replicate,pZ,zeg (by simp at hql;omega),hvs,vk]
   have zan:Hk st id len te.size l k=some r->nT P base ⟨dst, .buildSlice t len parts,ty,pos,after,guard⟩ st k r:=by
    intro h1;unfold Hk at h1;split at h1;rotate_left
    ·cases h1
    rename_i HL;simp only[zdr] at HL;obtain⟨UB,_⟩:=HL;have vp:st.h id=none:=by
     unfold St.new at h1;split at h1
     ·assumption
     ·cases h1
    have um:st.new id (.var (.agg l)) (λs=>some s)=some (st.set id (.var (.agg l))):=by unfold St.new;rw[vp]
    have g1:k (.ue id len) (st.set id (.var (.agg l)))=some r:=by unfold St.new at h1;rw[vp] at h1;exact h1
    obtain⟨s',q0,g2,g3,g4,I0,g5⟩:=HC um;simp only[zdj] at q0;subst q0;refine⟨_,_,g1,g2,g3,g4,λj _ hn=>I0 j (λe=>by subst e;subst pF;simp[qo,makes,qW] at hn),λN D w a s=>?_⟩
    obtain⟨ly,r1,r2,r3,r4⟩:=tN N D w a s;obtain⟨N',n1,n2,n3⟩:=g5 N D w base s.nr ly e (by simpa [AV.size] using r2) (by simp only[an];exact r4)
    refine⟨N',D,_, .slice (some ⟨w.heap.size,0,none⟩) len len, .inl ?_,n2,n1,?_⟩
    ·have hpm:(parts.map λp=>(p.1,a.eval p.2)).toList=parts.toList.map λp=>(p.1,a.eval p.2):=by simp
     have:=run_buildSlice (P:=P) w t e len (parts.map λp=>(p.1,a.eval p.2)) ly i z hu hi hz (by rw[vk];omega) (by rw[vk];omega) (by rw[hpm];exact r1)
     simp only[execOp,zdE,this,zdF,zdG]
    ·unfold cq at n3⊢
     simp only[AV.isAgg,jw,an] at n3⊢;obtain⟨nm,ad,o,q1,q2,q3,q4⟩:=n3;have Fm:nm.row=false:=by
      cases hr:nm.row with
      |false=>rfl
      |true=>simp[Nm.off,hr] at q3
     simp only[Nm.off,Fm,fH,zdk,if_false,zdj] at q3;subst q3;refine⟨nm,ad,q1,q2,Fm,?_⟩;simp only[zdj,Value.pointer.injEq,Addr.at_,zec,Addr.mk.injEq] at q4;obtain⟨q5,q6,_⟩:=q4;have Fo:ad.spot=none:=by
      obtain⟨mD,ad',e1,e2,_,_,e5,_⟩:=n1.obj id (.var (.agg l)) (by simp[St.set])
      rw[q1] at e1;cases e1;rw[q2] at e2;cases e2;exact e5
     obtain⟨b,off,sp⟩:=ad;simp only at q5 q6 Fo;rw[q5,q6,Fo]
   split at h
   ·exact zan h
   obtain⟨xs,ids,h1,WV,mE⟩:=BZ _ _ _ h;split at h1;rotate_left
   ·exact zan h1
   ·rename_i s1 zc4
    split at h1;rotate_left
    ·cases h1
    rename_i s1 hfz;obtain⟨z1,z2,z3,z4⟩:=vT _ _ _ hfz;split at h1
    ·rename_i HL
     simp only[zdl,zdr,zdW,zes] at HL;obtain⟨s',g1,g2,g3,g4,I0,g5⟩:=Nt h1;refine⟨_,_,g1,by rw[g2,z1],by rw[g3,z2],by rw[g4,z3],λj hj hn=>?_,λN D w a s=>?_⟩
     ·rw[I0 j (λe=>by subst e;subst pF;simp[qo,makes,qW] at hn)]
      refine BY _ _ _ hfz j λBR=>hj ?_;have:=HL.2 j BR;simp only[Nb];rw[List.flatMap_map] at this;exact this
     ·obtain⟨D1,y1,y2,y3,y4⟩:=z4 N D w base s.nr
      have hlen:List.length (α:=te.den) xs=len:=by rw[WV,f3];simp
      obtain⟨ly,r1,r2,r3,r4⟩:=tN N D w a s;have yy:ly.size=len*te.size:=by rw[r2,r3,pZ,hvs]
      obtain⟨N',n1,n2,n3⟩:=g5 N D1 w base y3 w ly e (0,0) len rfl rfl rfl rfl (by show List.length (α:=te.den) xs<=len;omega) (by omega) (.inl rfl) (mE N D w base s.nr D1 y1 y2 _ r4)
      refine⟨N',D1,_,_, .inl ?_,y4.trans n2,n1,n3⟩;have hpm:(parts.map λp=>(p.1,a.eval p.2)).toList=parts.toList.map λp=>(p.1,a.eval p.2):=by simp
      have OY:aO (β:=te.den) xs=len:=hlen;rw[OY];by_cases UB:len*i.size=0
      ·have oA:Instr.fill (λi'=>some (i'*i.size,i.size)) #[] (parts.toList.map λp=>(p.1,a.eval p.2))=some ly:=by
        rw[<-r1];congr 1;rw[UB];simp
       simp only[execOp,zdE];have O3:P.cellsOf e=i.size:=by rw[vk,hsz]
       simp only[Instr.buildSlice,zdE,run_underlying hu,zdF,run_sizeOf w hi,O3,UB,Nat.not_lt_zero,gt_iff_lt,if_false,if_true,zdG];have he0:(Array.range 0).map ((#[]:Array Value)[·% (#[]:Array Value).size]!)= #[]:=by simp
       have hpe:(parts.map λx=>(x.1,a.eval x.2)).toList=parts.toList.map λp=>(p.1,a.eval p.2):=by simp
       rw[he0,hpe,oA];simp[newRow]
      ·have:=run_buildSlice (P:=P) w t e len (parts.map λp=>(p.1,a.eval p.2)) ly i z hu hi hz (by rw[vk];omega) UB (by rw[hpm];exact r1)
       simp only[execOp,zdE,this,zdF,zdG]
    ·cases h1
 ·cases h
end AM
namespace AM
open Go
variable {α:Type}{P:Program}{base:Nat}
theorem Rw {e:TypeId}{k:IntKind}(h:va P 12 e=some (.int k)):P.underlying e=some (.int k):=by
 unfold va at h;split at h
 ·rename_i k' hu
  simp only[zdj,Ty.int.injEq] at h;rw[hu,h]
 ·simp at h
 ·simp at h
 ·rename_i fs hu
  exfalso
  cases hl:fs.toList with
  |nil=>rw[hl] at h;simp at h
  |cons f fl=>
   rw[hl] at h;simp only[zd8] at h;split at h<;>simp at h
 ·simp only[zd9] at h
  obtain⟨_,_,h⟩:=h;cases h
 ·simp only[zd9] at h
  obtain⟨_,_,h⟩:=h;cases h
 ·simp at h
 ·cases h
theorem B0 {e:TypeId}{k:IntKind}(hu:P.underlying e=some (.int k))(hf: ∀x:Int,rY P e (enc (.int k) x)=true)(hc:P.cellsOf e=1){D:Nat}(hD:1<=D){w:World}{cx cy:Array Value}: ∀(xs ys:List Int) (s:Nat),xs.length=ys.length->(∀i x,xs[i]?=some x->cx[s+i]?=some (.int k x))->(∀i y,ys[i]?=some y->cy[s+i]?=some (.int k y))->
  (Op.eqItems D e (P.cellsOf e) cx cy (List.range' s xs.length)).run P w= .ok ((xs.zip ys).all λp=>aj p.1 p.2) w
 | [],ys,s,hl,_,_=>by simp[Op.eqItems]
 |x::xs,[],s,hl,_,_=>by simp at hl
 |x::xs,y::ys,s,hl,hx,hy=>by
  obtain⟨D',rfl⟩: ∃D',D=D'+1:=⟨D-1,by omega⟩
  have hpx:(Go.part e cx (s*1)).run P w= .ok (.int k x) w:=by
   obtain⟨c,h1,h2⟩:=tL (P:=P) (N:=Names.nil) (D:=λ_=>False) (w:=w) (cs:=cx) (off:=s*1) (hf x) (by
    have:=hx 0 x rfl;simp only[enc,an];rw[zel,<-this])
   have:c= .int k x:=by simpa [enc] using ee.1 h2
   rw[h1,this]
  have hpy:(Go.part e cy (s*1)).run P w= .ok (.int k y) w:=by
   obtain⟨c,h1,h2⟩:=tL (P:=P) (N:=Names.nil) (D:=λ_=>False) (w:=w) (cs:=cy) (off:=s*1) (hf y) (by
    have:=hy 0 y rfl;simp only[enc,an];rw[zel,<-this])
   have:c= .int k y:=by simpa [enc] using ee.1 h2
   rw[h1,this]
  have ih:=B0 hu hf hc hD (w:=w) (cx:=cx) (cy:=cy) xs ys (s+1) (by simpa using hl) (λi z hz=>by rw[show s+1+i=s+(i+1) by omega];exact hx (i+1) z (by simpa using hz)) (λi z hz=>by rw[show s+1+i=s+(i+1) by omega];exact hy (i+1) z (by simpa using hz))
  rw[hc] at ih⊢;simp only[zdn,List.range'_succ,Op.eqItems,zdE,hpx,hpy,zdF,run_equalIn_int w D' e k k x y hu,List.zip_cons_cons,List.all_cons];have hxy:(x==y)=aj x y:=by simp only[aj,kJ];rfl
  rw[hxy];cases aj x y with
  |false=>simp
  |true=>simpa using ih
def WW (P:Program)(d:Nat):Prop:= ∀(t:TypeId) (x y:AV) (b:Bool),T4 P d t x y=some b->∀D,d<=D->∀N Dd w vx vy,cq N Dd w x vx->cq N Dd w y vy->(Op.equalIn D t vx vy).run P w= .ok b w
theorem Rx {d:Nat}(hA:WW P d): ∀(fs:List Field) (off:Nat) (xs ys:List AV) (b:Bool),T4.KY P d fs off xs ys=some b->∀D,d<=D->∀N Dd w (cx cy:Array Value),ff N Dd w xs (λj=>cx[off+j]?)->ff N Dd w ys (λj=>cy[off+j]?)->(Op.eqFields D cx cy fs).run P w= .ok b w:=by
 intro fs;induction fs with
 |nil=>
  intro off xs ys b h D hD N Dd w cx cy hx hy;cases xs<;>cases ys<;>simp[T4.KY] at h
  subst h;simp[Op.eqFields]
 |cons f fs ih=>
  intro off xs ys b h D hD N Dd w cx cy hx hy;cases xs with
  |nil=>simp[T4.KY] at h
  |cons x xs=>
   cases ys with
   |nil=>simp[T4.KY] at h
   |cons y ys=>
    simp only[T4.KY] at h;split at h
    ·cases h
    ·rename_i hn
     simp only[not_or,Decidable.not_not] at hn;split at h
     ·cases h
     ·rename_i lf
      simp only[zdl,zdr] at lf;split at h
      ·rename_i a b' ha hb
       cases h;simp only[ff] at hx hy;obtain⟨c1,p1,v1⟩:=tL (P:=P) (N:=N) (D:=Dd) (w:=w) (cs:=cx) (off:=off) lf.1.1 hx.1;obtain⟨c2,p2,v2⟩:=tL (P:=P) (N:=N) (D:=Dd) (w:=w) (cs:=cy) (off:=off) lf.1.2 hy.1;have h1:=hA f.type x y a ha D hD N Dd w c1 c2 v1 v2;have h2:=ih (off+x.size) xs ys b' hb D hD N Dd w cx cy (by have:=hx.2;simpa only[zdy] using this) (by have:=hy.2;rw[<-lf.2] at this;simpa only[zdy] using this)
       simp only[Op.eqFields,hn.1,ne_eq,not_false_eq_true,if_true,zdE,hn.2,p1,p2,zdF,h1];cases a with
       |false=>simp
       |true=>simpa using h2
      ·cases h
theorem Nx: ∀d:Nat,WW P d
 |0=>λt x y b h=>by simp[T4] at h
 |d+1=>by
  intro t x y b h D hD N Dd w vx vy hx hy;obtain⟨D',rfl⟩: ∃D',D=D'+1:=⟨D-1,by omega⟩
  unfold T4 at h;split at h
  ·rename_i k ka a kb c hu
   split at h
   ·rename_i hk
    obtain⟨rfl,rfl⟩:=hk;cases h;rw[ee.1 hx,ee.1 hy,run_equalIn_int w D' t _ _ a c hu];simp only[aj,kJ];rfl
   ·cases h
  ·rename_i a c hu
   cases h;rw[ee.1 hx,ee.1 hy,run_equalIn_bool' w D' t a c hu];rfl
  ·rename_i a c hu
   cases h;rw[ee.1 hx,ee.1 hy,run_equalIn_string w D' t a c hu];rfl
  ·rename_i fs xs ys hu
   split at h
   ·cases h
   ·rename_i jZ
    obtain⟨cx,rfl,_,Z6⟩:=xn.1 hx;obtain⟨cy,rfl,_,hcy⟩:=xn.1 hy;have hfo:P.fieldsOf t=fs:=by simp[Program.fieldsOf,hu]
    rw[run_equalIn_struct w D' t cx cy (by rw[hfo];exact hu) jZ,hfo]
    exact Rx (Nx d) fs.toList 0 xs ys b h D' (by omega) N Dd w cx cy (by simpa using Z6) (by simpa using hcy)
  ·rename_i n e m t' xs m' t'' ys hu
   split at h
   ·rename_i te ys' Nr xG
    obtain⟨rfl,rfl⟩:=iK xG;split at h
    ·rename_i hc
     obtain⟨rfl,rfl,rfl,hint,hd,O3,Z9⟩:=hc;cases h;obtain⟨cx,rfl,_,Z6⟩:=ve.1 hx;obtain⟨cy,rfl,_,hcy⟩:=ve.1 hy;obtain⟨i,hi⟩:=Option.isSome_iff_exists.1 Z9;rw[run_equalIn_array w D' cx cy hu hi];cases te with
     |int k=>
      have h1:List.length (α:=Int) xs=m':=Z6.1;have h2:List.length (α:=Int) ys'=m':=hcy.1;have:=B0 (P:=P) (e:=e) (k:=k) (D:=D') (w:=w) (cx:=cx) (cy:=cy) (Rw Nr) (λx=>DF Nr (by rw[O3];rfl) x) O3 (by omega) xs ys' 0 (by rw[h1,h2]) (λi x hx=>by
       have:=Z6.2 i x hx;simp only[iq,Ty.size,zel,zec] at this;rw[zd2];exact this) (λi x hx=>by
       have:=hcy.2 i x hx;simp only[iq,Ty.size,zel,zec] at this;rw[zd2];exact this)
      rw[h1] at this;rw[List.range_eq_range'];exact this
     |_=>simp[M8] at hint
    ·cases h
   ·cases h
  ·cases h
theorem O4 {op:BinOp}{t:TypeId}{x y:Operand}{st:St}{b:Bool}(h:Ut P t (st.ev x) (st.ev y)=some b): ∀N D w a,kt N D w base st a->(op= .eql\/op= .neq)->(do eqGuard op t x y (a.eval x) (a.eval y);Go.binOp op t (a.eval x) (a.eval y):Sem Value).run P w= .ok (.bool (zK op b)) w:=by
 intro N D w a s uY;unfold Ut at h;split at h
 ·rename_i Fk
  simp only[zdl] at Fk;obtain⟨Fk,zcc⟩:=Fk;split at h
  ·cases h
  ·rename_i hg
   have hx:=s.Fy x;have hy:=s.Fy y;have jI:=Nx (P:=P) 12 t _ _ b h 10000 (by omega) N D w _ _ hx hy
   have hvx: ∃cx,a.eval x= .agg cx:=by
    unfold cq at hx;rw[Fk] at hx;obtain⟨c,h1,_⟩:=hx;exact⟨c,h1⟩
   have hvy: ∃cy,a.eval y= .agg cy:=by
    unfold cq at hy;rw[zcc] at hy;obtain⟨c,h1,_⟩:=hy;exact⟨c,h1⟩
   obtain⟨cx,ex⟩:=hvx;obtain⟨cy,ey⟩:=hvy;rw[ex,ey] at jI⊢;rw[zdE,run_eqGuard_agg w op t x y cx cy hg,zdF];rcases uY with rfl|rfl
   ·rw[run_eql_struct w t cx cy,jI];rfl
   ·rw[run_neq_struct w t cx cy,jI];rfl
 ·cases h
end AM
namespace AM
open Go
variable {α:Type}{P:Program}{base:Nat}
theorem Rn.first {N:Names}{w:World}{t:Ty}{ys:List t.den}{D:Nat->Prop}{c:Value}(h:Rn N D w t ys c){n:Nat}(hn:n<=aO (β:=t.den) ys): ∃cs:List Value,cs.length=n*t.size/\ed N D w t (ys.take n:List t.den) (cs[·]?)/\(∀v∈cs,v.oneCell'=true)/\
  (Builtin.firstCells t.size n c).run P w= .ok cs.toArray w/\(Builtin.lenOf c).run P w= .ok (aO (β:=t.den) ys) w:=by
 obtain⟨a,cap,rfl,h1,h2,h3⟩:=h;have htk:aO (β:=t.den) (ys.take n)=n:=by simp only[aO,zdH];simp only[aO] at hn;omega
 by_cases h0:aO (β:=t.den) ys=0
 ·have WT:n=0:=by omega
  subst WT;refine⟨[],by simp,by simpa using ed.nil,by simp,?_,xD _ _ _ _⟩
  cases a with
  |none=>exact run_firstCells_none (P:=P) w _ _ _ _
  |some a=>exact run_firstCells_some (P:=P) w t.size 0 a _ cap [] (by simp) (by simp)
 ·cases a with
  |none=>have:=h2 rfl;omega
  |some a=>
   obtain⟨f1,f2⟩:=h3 a rfl h0;obtain⟨cs,g1,g2,g3,g4⟩:=(f2.take n).cells;rw[htk] at g1;refine⟨cs,g1,g3,g4,?_,xD _ _ _ _⟩;refine run_firstCells_some (P:=P) w t.size n a _ cap cs g1 λj v hv=>?_;obtain⟨b,o,sp⟩:=a;simp only at f1;subst f1;rw[oy];exact g2 j v hv
theorem HM {w:World}{b o:Nat}{v:Value}(h:w.cell? ⟨b,o,none⟩=some v):w.setCell ⟨b,o,none⟩ v=w:=by
 have e:(w.setCell ⟨b,o,none⟩ v).heap=w.heap:=by
  apply Array.ext_getElem?;intro i;simp only[World.setCell,zdT];by_cases hi:b=i
  ·subst hi
   unfold World.cell? at h;split at h
   ·rename_i c el fz hb
    simp only[zet,zdk,if_false] at h;simp only at hb;rw[hb];simp only[if_true,zds,zet,zdk,if_false];have:c.setIfInBounds o v=c:=by
     apply Array.ext_getElem?;intro j;rw[Array.getElem?_setIfInBounds];split
     ·rename_i hj;subst hj
      split
      ·exact h.symm
      ·rename_i kR;rw[Array.getElem?_eq_none (by omega)] at h;cases h
     ·rfl
    rw[this]
   ·cases h
  ·rw[if_neg hi]
 have e2:w.setCell ⟨b,o,none⟩ v={w with heap:=(w.setCell ⟨b,o,none⟩ v).heap}:=rfl;rw[e2,e]
theorem sK (b:Nat): ∀(xs ys:List Value) (o:Nat) (w:World),w.setCells b o (xs++ys)=(w.setCells b o xs).setCells b (o+xs.length) ys
 | [],ys,o,w=>rfl
 |x::xs,ys,o,w=>by
  simp only[zdS,World.setCells,zdn];rw[sK b xs ys,show o+1+xs.length=o+(xs.length+1) by omega]
theorem uK (b:Nat): ∀(xs:List Value) (o:Nat) (w:World),(∀j v,xs[j]?=some v->w.cell? ⟨b,o+j,none⟩=some v)->w.setCells b o xs=w
 | [],o,w,_=>rfl
 |x::xs,o,w,h=>by
  rw[World.setCells,HM (by simpa using h 0 x rfl)]
  exact uK b xs (o+1) w λj v hv=>by
   have:=h (j+1) v (by simpa using hv)
   rwa [show o+1+j=o+(j+1) by omega]
theorem HN {b o:Nat}{w:World}{pre cs suf:List Value}(h1: ∀j v,pre[j]?=some v->w.cell? ⟨b,o+j,none⟩=some v)(h2: ∀j v,suf[j]?=some v->w.cell? ⟨b,o+pre.length+cs.length+j,none⟩=some v):
  w.setCells b o (pre++(cs++suf))=w.setCells b (o+pre.length) cs:=by
 rw[sK,uK b pre o w h1,sK];refine uK b suf _ _ λj v hv=>?_;rw[World.cell?_setCells_out _ _ _ _ _ (λ_ _=>by simp only;omega)]
 exact h2 j v hv
theorem HO {dst rt pos after guard}{x y:Operand}{args:Array Operand}{tys:Array TypeId}{tx e:TypeId}{te:Ty}{A2:List TypeId}{st:St}{k:AV->St->Option α}{r:α}(ha:args.toList=[x,y])(ht:tys.toList=tx::A2)(he:zA P tx=some (e,te))
  {ys xs:List te.den} {q n off len:Nat} {p:List Step} (hx:st.ev x= .slice q p off len) (mE:(p.isEmpty&&zy st q)=false) (FH: ∀N D w base,jV N D w base st.h->∀c,cq N D w (st.ev y) c->Rn N D w te ys c)
  (yw:st.shape q p=some (.arr n (rX te))) (qH: ∀N D w base,jV N D w base st.h->∀nm a o,N q=some nm->nm.base=some a->nm.off p=some o->a.spot=none/\an N D w (.arr n te xs) (λj=>aV w a (o+j)))
  (h:st.store q p (.arr n te (xs.take off++(ys.take len++xs.drop (off+min ys.length len)))) (λs=>k (.val (.int .i64 ((min ys.length len:Nat):Int))) s)=some r):nT P base ⟨dst, .call ⟨.builtin .copy,args,tys⟩,rt,pos,after,guard⟩ st k r:=by
 obtain⟨hu,Nr,hsz,hb1,i,hi,vk,Rp,_⟩:=qh he;have nu:args= #[x,y]:=by cases args;simp at ha;subst ha;rfl
 have zO:tys[0]?=some tx:=by
  have:tys.toList[0]?=some tx:=by rw[ht];rfl
  simpa using this
 subst nu;obtain⟨s',h1,h2,h3,h4,h5,h6⟩:=xv h rfl;refine⟨_,_,h1,h2,h3,h4,λj hj _=>h5 j (λe'=>hj (by simp[Nb,hx,vd,e'])) (by simp[AV.ids]),λN D w a s=>?_⟩
 have hv:=s.uj hx;have hy:=FH N D w base s.nr _ (s.Fy y);unfold cq at hv;simp only[AV.isAgg,jw,an] at hv;obtain⟨nm,g1,hv⟩:=hv;have KL:=xr mE yw s.nr g1;generalize hn:min (aO (β:=te.den) ys) len=m;have OP:min (List.length (α:=te.den) ys) len=m:=hn;cases hb:nm.base with
 |none=>rw[hb] at hv;rw[KL] at hv;cases hv.1
 |some ad=>
  rw[hb] at hv;simp only at hv;rw[if_neg (by rw[KL];simp)] at hv
  obtain⟨o,n',e',u,room,i1,i2,i3,i4,i5,a',sk,rfl,i6,rfl,i7⟩:=hv;simp only[zdj] at i4;have KM:=AZ yw s.nr g1;rw[i2] at KM;simp only[zdj,Sh.arr.injEq] at KM;obtain⟨rfl,rfl⟩:=KM;rw[iJ] at i7;obtain⟨j1,j2⟩:=qH N D w base s.nr nm ad o g1 hb i1;simp only[an,iq] at j2;obtain⟨hlen,zao⟩:=j2;have zap:ed N D w te xs (λj=>aV w ad (o+j)):=zao;have zc0:List.length (α:=te.den) xs=n':=hlen;obtain⟨W,w1,w2,w3,w4⟩:=zap.cells;obtain⟨cs,c1,c2,c3,c4,c5⟩:=hy.first (P:=P) (n:=m) (by omega)
  have hml:m<=len:=by omega
  have hW:W.length=n'*te.size:=by rw[w1];congr 1
  have nv:off*te.size+m*te.size<=n'*te.size:=by rw[<-zdx];exact zdw _ (by omega)
  have hyt:ys.take len=ys.take m:=by
   rcases Nat.le_total (List.length (α:=te.den) ys) len with hle|hle
   ·rw[zdN hle,zdN (by omega)]
   ·have:m=len:=by omega
    rw[this]
  have I2:aO (β:=te.den) (ys.take m)=m:=by simp only[aO,zdH];simp only[aO] at hn;omega
  have htx:aO (β:=te.den) (xs.take off)=off:=by simp only[aO,zdH];omega
  have O5:(W.take (off*te.size)).length=off*te.size:=by rw[zdH];omega
  have hval:cq N D w (.arr n' te (xs.take off++(ys.take len++xs.drop (off+min ys.length len)))) (.agg (W.take (off*te.size)++(cs++W.drop ((off+m)*te.size))).toArray):=by
   rw[hyt,OP];refine ve.2 ⟨_,rfl,?_,?_,?_⟩
   ·simp only[List.size_toArray,zdm,O5,c1,zdI,hW,zdx];omega
   ·show List.length (α:=te.den) _=n'
    simp only[zdm,zdH,zdI];simp only[aO] at I2 hn;omega
   ·have key:ed N D w te (xs.take off++(ys.take m++xs.drop (off+m)):List te.den) ((W.take (off*te.size)++(cs++W.drop ((off+m)*te.size)))[·]?):=by
     refine ed.qX ((w3.take off).congr λj hj=>?_) (by rw[O5,htx]) (ed.qX c2 (by rw[c1,I2]) ((w3.drop (off+m)).congr λj hj=>?_))
     ·rw[htx] at hj
      rw[zdJ,if_pos hj]
     ·rw[zdK]
    exact key.congr λj hj=>by simp
  obtain⟨k1,⟨C,Lh,fz,k2,k3,k4⟩,D',k5,k6⟩:=h6 N D w base s.nr nm ad o _ g1 hb i1 hval;have tN:(Value.agg (W.take (off*te.size)++(cs++W.drop ((off+m)*te.size))).toArray).cells.toList=W.take (off*te.size)++(cs++W.drop ((off+m)*te.size)):=by simp[Value.cells]
  have Yb:w.setCells ad.block (ad.off+o) (W.take (off*te.size)++(cs++W.drop ((off+m)*te.size)))=w.setCells ad.block (ad.off+o+off*te.size) cs:=by
   have:=HN (b:=ad.block) (o:=ad.off+o) (w:=w) (pre:=W.take (off*te.size)) (cs:=cs) (suf:=W.drop ((off+m)*te.size)) (λj v hj=>?_) (λj v hj=>?_)
   ·rw[O5] at this;exact this
   ·rw[zdJ] at hj
    split at hj
    ·have:=w2 j v hj
     simpa only[aV,zdy] using this
    ·cases hj
   ·rw[zdK] at hj
    have:=w2 _ v hj;simp only[aV] at this;rw[<-this,O5,c1];congr 2
    rw[zdx];omega
  rw[tN,Yb] at k5 k6;have jZ:(storeCells a' cs).run P w= .ok () (w.setCells ad.block (ad.off+o+off*te.size) cs):=by
   by_cases hc:cs=[]
   ·subst hc;rfl
   ·have lR:sk≠0:=by
     intro e0;have:m=0:=by omega
     rw[this,zd1] at c1;exact hc (zdM c1)
    rcases i7 with rfl|i7
    ·have:=pa (P:=P) (w:=w) (b:=ad.block) (o:=ad.off+(o+off*te.size)) k2 k3 (by rw[c1];have k4':ad.off+o+n'*te.size<=C.size:=k4;omega) c3
     simpa only[Addr.at_,zdy] using this
    ·exact absurd i7 lR
  have hmm:min (aO (β:=te.den) ys) len=m:=hn;refine⟨N,D',_,_, .inl ?_,k6,k5,ee.2 rfl⟩;simp only[execOp,resolve,invoke,builtin,Builtin.copy_,zdE,zdF,zdG];simp[zO,i4,run_underlying hu,c5,run_sizeOf w hi,<-hsz,hmm,c4,jZ,goInt]
theorem O6 {dst rt pos after guard}{x y:Operand}{args:Array Operand}{tys:Array TypeId}{tx:TypeId}{A2:List TypeId}{st:St}{k:AV->St->Option α}{r:α}(ha:args.toList=[x,y])(ht:tys.toList=tx::A2)
  (h:K0 P st tx (st.ev x) (st.ev y) k=some r):nT P base ⟨dst, .call ⟨.builtin .copy,args,tys⟩,rt,pos,after,guard⟩ st k r:=by
 unfold K0 at h;split at h
 ·rename_i e te he
  obtain⟨hu,Nr,hsz,hb1,i,hi,vk,Rp,_⟩:=qh he;obtain⟨ys,ids,h,FH⟩:=uA h;split at h
  ·rename_i q off hx
   split at h
   ·rename_i t' xs ho
    split at h
    ·cases h
    ·rename_i h0
     simp only[zdr] at h0;subst h0;split at h
     ·rename_i BW xG
      obtain⟨rfl,rfl⟩:=iK xG;have nu:args= #[x,y]:=by cases args;simp at ha;subst ha;rfl
      have zO:tys[0]?=some tx:=by
       have:tys.toList[0]?=some tx:=by rw[ht];rfl
       simpa using this
      subst nu;refine⟨_,_,h,rfl,rfl,rfl,λj hj _=>?_,λN D w a s=>?_⟩
      ·have BR:j≠q:=by
        intro e';apply hj;simp[Nb,hx,vd,e']
       simp[St.set,BR]
      ·have hv:=s.uj hx
       have hy:=FH N D w base s.nr _ (s.Fy y);unfold cq at hv;simp only[AV.isAgg,jw,an] at hv;obtain⟨nm,g1,g2,g3,g4,g5⟩:=hv;obtain⟨mD,i1,i2,i3,i4,i5,i6⟩:=s.nr.obj q _ ho;rw[g1] at i1;cases i1;generalize hn:min (aO (β:=t'.den) ys) (aO (β:=t'.den) BW)=n;have OP:min (List.length (α:=t'.den) ys) (List.length (α:=t'.den) BW)=n:=hn;have zaq:(ys.take (List.length (α:=t'.den) BW)++BW.drop (List.length (α:=t'.den) ys):List t'.den)=ys.take n++BW.drop n:=by
        rcases Nat.le_total (List.length (α:=t'.den) ys) (List.length (α:=t'.den) BW) with hle|hle
        ·have:n=List.length (α:=t'.den) ys:=by omega
         rw[this,zdN hle,zeu]
        ·have:n=List.length (α:=t'.den) BW:=by omega
         rw[this,List.drop_of_length_le hle,List.drop_of_length_le (zdz _)]
       obtain⟨cs,c1,c2,c3,c4,c5⟩:=hy.first (P:=P) (n:=n) (by omega)
       rw[zaq];have OY:aO (β:=t'.den) (ys.take n++BW.drop n)=nm.len:=by
        rw[i4];simp only[aO,zdm,zdH,zdI];simp only[aO] at hn;omega
       have Yc: ∀m,m=aO (β:=t'.den) BW->Nat.min (aO (β:=t'.den) ys) m=n:=λm hm=>by rw[hm];exact hn
       cases hb:nm.base with
       |none=>
        rw[hb] at g5;obtain⟨g5,g6⟩:=g5;simp only[zdj] at g6;have Hw:aO (β:=t'.den) BW=0:=by omega
        have WT:n=0:=by omega
        have Lq:BW=[]:=zdM Hw;subst WT;subst Lq;have vn:(kn st.h q (.row false t' (ys.take 0++([]:List t'.den).drop 0:List t'.den)))=st.h:=by simpa using xC ho
        refine⟨N,D,w,_, .inl ?_,?_,?_,ee.2 rfl⟩
        ·have yy:cs=[]:=zdM (by rw[c1];simp)
         subst yy;simp only[execOp,resolve,invoke,builtin,Builtin.copy_,zdE,zdF,zdG];simp[zO,g6,run_underlying hu,c5,run_sizeOf w hi,<-hsz,c4,goInt]
        ·rw[St.sY,vn];exact Ext.refl _ _ _ _
        ·rw[St.sY,vn];exact s.nr
       |some ad=>
        rw[hb] at g5 i6;obtain⟨v,room,g6,g7,a',sk,rfl,g8,rfl,g9⟩:=g5;simp only[zdj] at g6;obtain⟨j1,⟨C,Lh,fz,j2,j3,j4⟩,j5,j6⟩:=i6;replace j4:=j4 rfl
        simp only[zdk,if_false] at j5;have mE:ed N D w t' BW (aV w ad):=j6;have FC:cs.length<=nm.cap*t'.size:=by rw[c1];exact zdw _ (by omega)
        have jZ:(storeCells a' cs).run P w= .ok () (w.setCells ad.block ad.off cs):=by
         by_cases hc:cs=[]
         ·subst hc;rfl
         ·have lR:sk≠0:=by
           intro e0;have:n=0:=by omega
           rw[this,zd1] at c1;exact hc (zdM c1)
          rcases g9 with rfl|g9
          ·simp only[zd1,Addr.at_,zec]
           exact pa j2 (j4.imp_right And.left) (by omega) c3
          ·exact absurd g9 lR
        obtain⟨o1,o2,o3⟩:=kT ad.block cs ad.off w;obtain⟨C',f1,f2⟩:=je ad.block cs ad.off w C Lh fz j2;have Ua:=jA ad.block cs ad.off w;have one:=kx ad.block cs ad.off w;have hD: ∀b,D b->(w.setCells ad.block ad.off cs).heap[b]?=w.heap[b]?:=λb uX=>one b (λe=>j5.2 (e▸uX));have KO:=mE.mono (λ_ h=>h) hD;have key:=s.nr.write (o':= .row false t' (ys.take n++BW.drop n:List t'.den)) ho rfl g1 hb o1 o2 o3 Ua one (by
         refine⟨nm,g1,i2,i3,OY.symm,i5,?_⟩;rw[hb];show _/\_/\_/\_
         refine⟨j1,⟨C',Lh,fz,f1,by rw[f2];exact j3,λ_=>by rw[f2];exact j4⟩,by simp only[zdk,if_false];exact j5,?_⟩
         have I2:aO (β:=t'.den) (ys.take n)=n:=by simp only[aO,zdH];simp only[aO] at hn;omega
         have hB:ed N D (w.setCells ad.block ad.off cs) t' (ys.take n:List t'.den) (aV (w.setCells ad.block ad.off cs) ad):=by
          refine(c2.mono (λ_ h=>h) hD).congr λj hj=>?_;rw[I2,<-c1] at hj;have:=World.cell?_setCells_in ad.block cs ad.off w (λj hj=>iX j2 (by omega)) j hj
          simp only[aV];rw[this];simp
         have hC:ed N D (w.setCells ad.block ad.off cs) t' (BW.drop n:List t'.den) (λj=>aV (w.setCells ad.block ad.off cs) ad (n*t'.size+j)):=by
          refine(KO.drop _).congr λj hj=>?_;simp only[aV];refine(World.cell?_setCells_out _ _ _ _ _ (λ_ _=>?_)).symm;right
          simp only;rw[c1];omega
         exact ed.append hB (by rw[I2];exact hC))
        refine⟨N,D,_,_, .inl ?_,by rw[St.sY];exact key.2,by rw[St.sY];exact key.1,ee.2 rfl⟩
        have hm:=Yc nm.len (by omega)
        have WY:min (aO (β:=t'.den) ys) nm.len=n:=hm;simp only[execOp,resolve,invoke,builtin,Builtin.copy_,zdE,zdF,zdG];simp[zO,g6,run_underlying hu,c5,run_sizeOf w hi,<-hsz,WY,c4,jZ,goInt]
     ·cases h
   ·cases h
  ·rename_i q p off len hx
   split at h
   ·cases h
   rename_i mE;obtain⟨u,h,yw,qH⟩:=px h;split at h
   ·rename_i n t' xs
    split at h
    ·rename_i BW xG
     obtain⟨rfl,rfl⟩:=iK xG;exact HO ha ht he hx (by simpa using mE) FH (by simpa [AV.sh] using yw) (λN D w base S nm a o h1 h2 h3=>by obtain⟨q1,q2,_⟩:=qH N D w base S nm a o h1 h2 h3;exact⟨q1,q2⟩) h
    ·cases h
   ·cases h
  ·cases h
 ·cases h
end AM
namespace AM
open Go
variable {α:Type}{P:Program}{base:Nat}
theorem C3 {β γ:Type}{f:β->γ}{l:List β}{a b:γ}(h:l.map f=[a,b]): ∃x y,l=[x,y]/\f x=a/\f y=b:=by
 match l,h with
 | [x,y],h=>simp at h;exact⟨x,y,rfl,h.1,h.2⟩
theorem HP {β γ:Type}{f:β->γ}{l:List β}{a:γ}(h:l.map f=[a]): ∃x,l=[x]/\f x=a:=by
 match l,h with
 | [x],h=>simp at h;exact⟨x,rfl,h⟩
theorem HQ {dst rt pos after guard}{b:Builtin}{args:Array Operand}{tys:Array TypeId}{st:St}{k:AV->St->Option α}{r:α}
  (h:AR P st (name st.ep (dst.getD 999) 0) b (args.toList.map st.ev) tys.toList k=some r):nT P base ⟨dst, .call ⟨.builtin b,args,tys⟩,rt,pos,after,guard⟩ st k r:=by
 generalize ha:args.toList.map st.ev=l at h;generalize ht:tys.toList=tl at h;unfold AR at h;split at h
 ·rename_i x t A2
  obtain⟨x',hx,rfl⟩:=HP ha;exact Rl hx ht h
 ·rename_i x t A2
  obtain⟨x',hx,rfl⟩:=HP ha;exact Rr hx ht h
 ·rename_i x y _
  obtain⟨x',y',hx,rfl,rfl⟩:=C3 ha;exact Rs hx h
 ·rename_i x y _
  obtain⟨x',y',hx,rfl,rfl⟩:=C3 ha;exact Rt hx h
 ·rename_i x y tx ty _
  obtain⟨x',y',hx,rfl,rfl⟩:=C3 ha;exact Jq rfl hx ht h
 ·rename_i x y tx _
  obtain⟨x',y',hx,rfl,rfl⟩:=C3 ha;exact O6 hx ht h
 ·rename_i x tx _
  obtain⟨x',hx,rfl⟩:=HP ha;exact Lu hx ht h
 ·cases h
theorem O7 {st:St}{o:Oper}{k:AV->St->Option α}{r:α}(h:aop P st o k=some r):nT P base o st k r:=by
 obtain⟨dst,op,ty,pos,after,guard⟩:=o;unfold aop at h;simp only at h;split at h
 ·exact OS h
 ·exact Jl h
 ·exact FD h
 ·exact DB h
 ·exact Ll h
 ·exact OR h
 ·exact Lg h
 ·exact OT h
 ·exact Ri h (λb hb N D w a s uY=>O4 hb N D w a s uY)
 ·exact OU h
 ·exact HI rfl h
 ·exact HD h
 ·exact Li rfl h
 ·exact Rj rfl h
 ·exact LA h
 ·exact CA rfl h
 ·exact DG rfl h
 ·exact DD h
 ·exact Ln h
 ·exact Lp h
 ·exact Jo h
 ·exact FE h
 ·exact HQ h
 ·cases h
end AM
namespace AM
open Go
variable {α:Type}{P:Program}{base:Nat}
def xH (P:Program)(base:Nat)(W:List Nat)(f:FuncId)(args:List AV)(st:St)(fresh:Nat)(av:AV)(eY:St):Prop:=
 (∃fn,P.funcs[f]?=some fn/\fn.body.isNone=false/\(fn.name== "runtime.NumGoroutine")=false)/\
 eY.t=st.t/\eY.nt=st.nt/\eY.ep=st.ep/\(∀id,id∉W->id/100≠fresh/100->eY.h id=st.h id)/\
 ∀N D w,jV N D w base st.h->∀lu:List Value,bA N D w args lu->Calls P f lu.toArray w λe w'=>match e with
  | .returned v=> ∃N' D',Ext N D w st.h N' D' w' eY.h/\jV N' D' w' base eY.h/\cq N' D' w' av v
  |_=>False
def sr (P:Program)(base:Nat)(env:Env α):Prop:= ∀f args st fresh k r,fresh%100=0->env.call f args st fresh k=some r->∃av eY,k av eY=some r/\xH P base (env.fp f args st fresh).2 f args st fresh av eY
def DL (P:Program)(base:Nat)(W:List Nat)(o:Oper)(st:St)(av:AV)(eY:St):Prop:=
 eY.t=st.t/\eY.nt=st.nt/\eY.ep=st.ep/\(∀id,id∉W->qo st.ep o id=false->eY.h id=st.h id)/\
 ∀N D w a,kt N D w base st a->∀(next:Act->World->Prop) (Q:Exit->Act->World->Prop),
  (∀N' D' w' v,Ext N D w st.h N' D' w' eY.h->jV N' D' w' base eY.h->cq N' D' w' av v->next (a.put o.dst v) w')->o.wp P a w next Q
theorem O8 {st eY:St}{o:Oper}{av:AV}(h:lq P base o st av eY):DL P base (Nb st o) o st av eY:=by
 obtain⟨h1,h2,h3,h4,h5⟩:=h;refine⟨h1,h2,h3,h4,λN D w a s next Q hn=>?_⟩;obtain⟨N',D',w',v,jI,hx,hs,hv⟩:=h5 N D w a s;unfold Oper.wp;rcases jI with jI|⟨jI,rfl⟩
 ·rw[jI,Oper.upon_value];exact hn N' D' w' v hx hs hv
 ·rw[jI,Oper.upon_skip];exact hn N' D' w' _ hx hs hv
theorem B1 {st eY:St}{av:AV}{dst ty pos after guard}{fo:Operand}{args:Array Operand}{tys:Array TypeId}{f:FuncId}{cs:List AV}{W:List Nat}
  (hf:(∃first captured,st.ev fo= .val (.func (.func f) first captured)/\first.size+captured.size=0/\cs=[])\/st.ev fo= .wN (.func f) cs)
  (h:xH P base W f (args.toList.map st.ev++cs) st (name st.ep (dst.getD 999) 0) av eY):DL P base W ⟨dst, .call ⟨.value fo,args,tys⟩,ty,pos,after,guard⟩ st av eY:=by
 obtain⟨⟨fn,g1,g2,g3⟩,h1,h2,h3,h4,h5⟩:=h;refine⟨h1,h2,h3,λid hi hn=>h4 id hi λe=>?_,λN D w a s next Q hn=>?_⟩
 ·rw[qW] at e
  simp[qo,makes,e] at hn
 ·have nu:bA N D w (args.toList.map st.ev) (args.map a.eval).toList:=by
   have:=uz s args.toList;simpa using this
  have Yd: ∃lu:List Value,bA N D w (args.toList.map st.ev++cs) lu/\(execOp a.eval ⟨dst, .call ⟨.value fo,args,tys⟩,ty,pos,after,guard⟩).run P w= .ok (.enter f lu.toArray) w:=by
   have hcf: ∀xs:Array Value,(callFunc f xs).run P w= .ok (.enter f xs) w:=by
    intro xs;simp only[callFunc,zdE,run_program,zdF,g1,g3,g2,zdk,if_false,zdG]
   rcases hf with⟨first,captured,e1,e2,rfl⟩|e1
   ·have Ye:first= #[]:=zeb (by omega)
    have FC:captured= #[]:=zeb (by omega)
    subst Ye;subst FC;refine⟨(args.map a.eval).toList,by simpa using nu,?_⟩
    simp[execOp,resolve,s.sJ e1,Deferred.ofValue,invoke,hcf];apply Array.ext';simp
   ·have hv:=s.uj e1
    unfold cq at hv;simp only[AV.isAgg,jw,an] at hv;obtain⟨cc,h6,h7⟩:=hv;simp only[zdj] at h6;refine⟨(args.map a.eval).toList++cc.toList,?_,?_⟩
    ·have app: ∀(l:List AV) (c:List Value),bA N D w l c->bA N D w (l++cs) (c++cc.toList):=by
      intro l;induction l with
      |nil=>intro c hc;simp only[bA] at hc;subst hc;simpa using h7
      |cons x xs ih=>
       intro c hc;simp only[bA] at hc;obtain⟨c1,c2,rfl,q1,q2⟩:=hc;simp only[zdS,bA];exact⟨c1,c2++cc.toList,rfl,q1,ih c2 q2⟩
     exact app _ _ nu
    ·simp[execOp,resolve,h6,Deferred.ofValue,invoke,hcf]
  obtain⟨lu,k1,k2⟩:=Yd;unfold Oper.wp;rw[k2,Oper.upon_enter];refine(h5 N D w s.nr lu k1).mono λe w' he=>?_;cases e with
  |returned v=>
   obtain⟨N',D',q1,q2,q3⟩:=he;exact hn N' D' w' v q1 q2 q3
  |panicked c=>exact he.elim
  |outgrown=>exact he.elim
theorem Js (a b:Nat):name a b 0%100=0:=by unfold name;omega
theorem xI {env:Env α}(he:sr P base env){st:St}{o:Oper}{k:AV->St->Option α}{r:α}(h:Je P env st o k=some r): ∃av eY,k av eY=some r/\DL P base (yv env st o).2 o st av eY:=by
 obtain⟨dst,op,ty,pos,after,guard⟩:=o;unfold Je at h;simp only at h;split at h
 ·rename_i fo args tys
  split at h
  ·rename_i f first captured e1
   split at h
   ·rename_i hs
    obtain⟨av,eY,h1,h2⟩:=he _ _ _ _ _ _ (Js _ _) h;refine⟨av,eY,h1,?_⟩;simp only[yv,e1];exact B1 (cs:=[]) (.inl ⟨first,captured,e1,hs,rfl⟩) (by simpa using h2)
   ·cases h
  ·rename_i f cs e1
   obtain⟨av,eY,h1,h2⟩:=he _ _ _ _ _ _ (Js _ _) h;refine⟨av,eY,h1,?_⟩;simp only[yv,e1];exact B1 (.inr e1) h2
  ·cases h
 ·rename_i vS
  obtain⟨av,eY,h1,h2⟩:=O7 (base:=base) h;refine⟨av,eY,h1,?_⟩;have e:(yv env st ⟨dst,op,ty,pos,after,guard⟩).2=Nb st ⟨dst,op,ty,pos,after,guard⟩:=by
   unfold yv;simp only;split<;>first|rfl|skip
   all_goals (rename_i e1;exact absurd rfl (vS _ _ _))
  rw[e];exact O8 h2
end AM
namespace AM
open Go
variable {α:Type}{P:Program}{base:Nat}
def zX:Out->Exit
 | .norm=> .normal| .ret=> .ret| .exit id=> .exit id
def pM (P:Program):List Item->(Exit->Act->World->Prop)->Exit->Act->World->Prop
 | [],Q=>Q
 | .code c::k,Q=>Exit.then (c.wp P (pM P k Q)) (pM P k Q)
 | .Na id::k,Q=>Exit.inBlock id (pM P k Q)
 |_::k,Q=>pM P k Q
def Item.clean:Item->Bool
 | .code _| .Na _=>true
 |_=>false
theorem tv (Q:Exit->Act->World->Prop): ∀(k:List Item) (a:Act) (w:World),pM P k Q .ret a w=Q .ret a w
 | [],_,_=>rfl
 | .code c::k,a,w=>by simp only[pM,Exit.then];exact tv Q k a w
 | .Na id::k,a,w=>by simp only[pM,Exit.inBlock];exact tv Q k a w
 | .ops _ _::k,a,w=>by simp only[pM];exact tv Q k a w
 | .zC _ _ _ _::k,a,w=>by simp only[pM];exact tv Q k a w
theorem tP (Q:Exit->Act->World->Prop)(id:Nat): ∀(k:List Item) (a:Act) (w:World),pM P k Q (.exit id) a w=match AM.unwind id k with|some k'=>pM P k' Q .normal a w|none=>Q (.exit id) a w
 | [],_,_=>rfl
 | .code c::k,a,w=>by simp only[pM,Exit.then,AM.unwind];exact tP Q id k a w
 | .Na i::k,a,w=>by
  simp only[pM,Exit.inBlock,AM.unwind];by_cases e:i=id
  ·subst e;simp
  ·rw[if_neg (λe'=>e e'.symm),if_neg e];exact tP Q id k a w
 | .ops _ _::k,a,w=>by simp only[pM,AM.unwind];exact tP Q id k a w
 | .zC _ _ _ _::k,a,w=>by simp only[pM,AM.unwind];exact tP Q id k a w
def m7 (fn:Func):Code->Prop
 | .seq a b=>m7 fn a/\m7 fn b
 | .cond _ a b=>m7 fn a/\m7 fn b
 | .block _ c=>m7 fn c
 | .scope c=>m7 fn c
 | .loop c=>(∀id,mh c=some id->qP id fn=c)/\m7 fn c
 |_=>True
def Item.ok (fn:Func):Item->Prop
 | .code c=>m7 fn c
 |_=>True
def Ry (P:Program)(base:Nat)(fn:Func)(id:Nat)(st:St)(out:Out)(eY:St):Prop:=
 ∀N D w a,kt N D w base st a->(Code.loop (qP id fn)).wp P (λe a' w'=>e=zX out/\∃N' D',kt N' D' w' base eY a'/\Ext N D w st.h N' D' w' eY.h) a w
def xJ (P:Program)(base:Nat)(fn:Func)(env:Env α):Prop:= ∀id st k r,env.loop id st k=some r->∃out eY,k out eY=some r/\Ry P base fn id st out eY
def zar (P:Program)(todo:List Item)(Q:Exit->Act->World->Prop)(a:Act)(w:World):Prop:=match todo with
 | .ops all rest::k=> ∀i,i<=all.size->rest=all.toList.drop i->wpOps P all (pM P k Q) (List.range' i (all.size-i)) a w
 |todo=>pM P todo Q .normal a w
theorem kt.WZ {N:Names}{D:Nat->Prop}{w:World}{st:St}{a:Act}(s:kt N D w base st a)(e:Nat):kt N D w base {st with ep:=e} a:=⟨s.nr,s.tmps,s.nt,s.defers⟩
theorem py {k:List Item}(hk: ∀x∈k,x.clean=true){Q:Exit->Act->World->Prop}{a:Act}{w:World}(h:zar P k Q a w):pM P k Q .normal a w:=by
 cases k with
 |nil=>exact h
 |cons x k=>
  cases x with
  |ops all rest=>have:=hk _ (zdq ..);simp[Item.clean] at this
  |zC all i rest Dq=>have:=hk _ (zdq ..);simp[Item.clean] at this
  |code c=>exact h
  |Na id=>exact h
end AM
namespace AM
open Go
variable {α:Type}{P:Program}{base:Nat}
theorem kt.refine {N:Names}{D:Nat->Prop}{w:World}{st:St}{a:Act}(s:kt N D w base st a)(slot:Nat){u:AV}(hu:cq N D w u (a.tmps.getD slot Go.undef)):kt N D w base (st.put (some slot) u) a:=by
 refine⟨by rw[St.BN];exact s.nr,λx=>?_,by rw[St.Hu];exact s.nt,s.defers⟩
 simp only[St.put];split
 ·by_cases e:x=slot
  ·subst e;simp only[if_true];exact hu
  ·simp only[if_neg e];exact s.tmps x
 ·exact s.tmps x
structure wF (base:Nat)(st wG:St):Prop where
 h:wG.h=st.h
 nt:wG.nt=st.nt
 ep:wG.ep=st.ep
 rel: ∀N D w a,kt N D w base st a->kt N D w base wG a
theorem wF.refl (base:Nat)(st:St):wF base st st:=⟨rfl,rfl,rfl,λ_ _ _ _ h=>h⟩
theorem wF.put {st:St}{slot:Nat}{v:Value}(e:st.t slot= .val v):wF base st (st.put (some slot) (.val v)):=
 ⟨St.BN _ _ _,St.Hu _ _ _,St.Rd _ _ _,λN D w a s=>s.refine slot (by have:=s.tmps slot;rwa [e] at this)⟩
theorem pb {N:Names}{D:Nat->Prop}{w:World}{st:St}{a:Act}(s:kt N D w base st a){all:Array Oper}{j slot:Nat}{b:Bool}(hj:(all[j]?).bind (·.dst)=some slot)(e:st.t slot= .val (.bool b)):yielded all a.tmps j=some b:=by
 have h1:=s.tmps slot;rw[e] at h1;replace h1:=ee.1 h1
 simp only[yielded,hj,zdc];cases h2:a.tmps[slot]? with
 |none=>simp[h2,Go.undef] at h1
 |some v=>simp[h2] at h1;subst h1;rfl
theorem B2 {N:Names}{D:Nat->Prop}{w:World}{st:St}{a:Act}(s:kt N D w base st a){all:Array Oper}{j slot:Nat}{c:Array Value}(hj:(all[j]?).bind (·.dst)=some slot)(e:st.t slot= .val (.tuple c)):yielded all a.tmps j=none:=by
 have h1:=s.tmps slot;rw[e] at h1;replace h1:=ee.1 h1
 simp only[yielded,hj,zdc];cases h2:a.tmps[slot]? with
 |none=>rfl
 |some v=>simp[h2] at h1;subst h1;rfl
theorem HR {all:Array Oper}{o:Oper}{st:St}{next skip:St->Option α}{r:α}(h:guarded all o st next skip=some r):
  (∃wG,next wG=some r/\wF base st wG/\∀N D w a,kt N D w base st a->Region.wanted o (yielded all a.tmps)=true)\/
  (∃wG,skip (wG.put o.dst (.val Go.undef))=some r/\wF base st wG/\∀N D w a,kt N D w base st a->Region.wanted o (yielded all a.tmps)=false):=by
 unfold guarded at h;split at h
 ·rename_i hg
  exact .inl ⟨st,h,wF.refl _ _,λN D w a s=>by simp[Region.wanted,hg]⟩
 ·rename_i j want hg
  split at h
  ·cases h
  ·rename_i slot hj
   split at h
   ·rename_i b hb
    cases b<;>cases want<;>simp only at h
    ·exact .inl ⟨_,h,wF.put hb,λN D w a s=>by simp[Region.wanted,hg,pb s hj hb]⟩
    ·exact .inr ⟨_,h,wF.put hb,λN D w a s=>by simp[Region.wanted,hg,pb s hj hb]⟩
    ·exact .inr ⟨_,h,wF.put hb,λN D w a s=>by simp[Region.wanted,hg,pb s hj hb]⟩
    ·exact .inl ⟨_,h,wF.put hb,λN D w a s=>by simp[Region.wanted,hg,pb s hj hb]⟩
   ·rename_i c hc
    exact .inr ⟨st,h,wF.refl _ _,λN D w a s=>by simp[Region.wanted,hg,B2 s hj hc]⟩
   ·cases h
end AM
namespace AM
open Go
variable {α:Type}{P:Program}{base:Nat}
theorem Rz {st:St}{slot:Nat}{v:AV}(e:st.t slot=v):st.put (some slot) v=st:=by
 simp only[St.put];split
 ·have:(λx=>if x=slot then v else st.t x)=st.t:=by
   funext x
   by_cases h:x=slot
   ·subst h;simp[e]
   ·simp[h]
  rw[this]
 ·rfl
theorem FJ {all:Array Oper}{o:Oper}{st:St}{next skip:St->Option α}{r:α}(h:guarded all o st next skip=some r):
  (next st=some r/\∀T:St,(∀x∈o.looksAt all,T.t x=st.t x)->∀N D w a,kt N D w base T a->Region.wanted o (yielded all a.tmps)=true)\/
  (skip (st.put o.dst (.val Go.undef))=some r/\∀T:St,(∀x∈o.looksAt all,T.t x=st.t x)->∀N D w a,kt N D w base T a->Region.wanted o (yielded all a.tmps)=false):=by
 unfold guarded at h;split at h
 ·rename_i hg
  exact .inl ⟨h,λT _ N D w a s=>by simp[Region.wanted,hg]⟩
 ·rename_i j want hg
  split at h
  ·cases h
  ·rename_i slot hj
   have tf:slot∈o.looksAt all:=by simp[Oper.looksAt,hg,hj]
   split at h
   ·rename_i b hb
    cases b<;>cases want<;>simp only[Rz hb] at h
    ·exact .inl ⟨h,λT hT N D w a s=>by simp[Region.wanted,hg,pb s hj ((hT slot tf).trans hb)]⟩
    ·exact .inr ⟨h,λT hT N D w a s=>by simp[Region.wanted,hg,pb s hj ((hT slot tf).trans hb)]⟩
    ·exact .inr ⟨h,λT hT N D w a s=>by simp[Region.wanted,hg,pb s hj ((hT slot tf).trans hb)]⟩
    ·exact .inl ⟨h,λT hT N D w a s=>by simp[Region.wanted,hg,pb s hj ((hT slot tf).trans hb)]⟩
   ·rename_i c hc
    exact .inr ⟨h,λT hT N D w a s=>by simp[Region.wanted,hg,B2 s hj ((hT slot tf).trans hc)]⟩
   ·cases h
theorem Jt {N:Names}{D:Nat->Prop}{w:World}{h:Nat->Option fP}(S:jV N D w base h){v:AV}{c:Value}(hv:cq N D w v c):cq N D w (Ho h v) c:=by
 unfold Ho;split
 ·rename_i i p f off
  split
  ·rename_i fs hs
   split
   ·rename_i hd
    simp only[zdr] at hd;unfold cq at hv;simp only[AV.isAgg,jw,an] at hv;obtain⟨nm,a,o,h1,h2,h3,h4⟩:=hv;have yw:=nO (s:=⟨λ_=> .undef,h,0,0⟩) hs S h1;refine jr.2 ⟨nm,a,_,h1,h2,tc h3 yw hd.2,?_⟩;simp only[zdj] at h4;rw[h4,hd.1]
   ·exact hv
  ·exact hv
 ·exact hv
theorem kt.norm {N:Names}{D:Nat->Prop}{w:World}{st:St}{a:Act}(s:kt N D w base st a):kt N D w base (rD st) a:=⟨s.nr,λx=>Jt s.nr (s.tmps x),s.nt,s.defers⟩
structure sD where
 dst:Option Tmp
 av:AV
 W:Nat->Bool
 h:Nat->Option fP
def sD.ap (E:sD)(st:St):St:=St.put {st with h:=λid=>if E.W id then E.h id else st.h id} E.dst E.av
theorem sD.UC (E:sD)(st:St)(id:Nat):(E.ap st).h id=if E.W id then E.h id else st.h id:=by unfold sD.ap;rw[St.BN]
theorem sD.W3 (E:sD)(st:St):(E.ap st).nt=st.nt:=by unfold sD.ap;rw[St.Hu]
theorem sD.W4 (E:sD)(st:St):(E.ap st).ep=st.ep:=by unfold sD.ap;rw[St.Rd]
theorem sD.O9 (E:sD)(st:St)(x:Nat):(E.ap st).t x=if E.dst=some x/\x<st.nt then E.av else st.t x:=by
 unfold sD.ap;cases hd:E.dst with
 |none=>simp[St.put]
 |some d=>
  simp only[St.put,zdj];by_cases h1:d<st.nt
  ·rw[if_pos h1]
   by_cases h2:x=d
   ·subst h2;simp[h1]
   ·simp[h2,Ne.symm h2]
  ·rw[if_neg h1]
   by_cases h2:d=x
   ·subst h2;simp[h1]
   ·simp[h2]
def lF (E:Nat->sD)(X:Nat->Bool)(S0:St):Nat->St
 |0=>S0
 |n+1=>if X n then(E n).ap (lF E X S0 n) else lF E X S0 n
theorem rS (E:Nat->sD)(X:Nat->Bool)(S0:St): ∀n,(lF E X S0 n).nt=S0.nt
 |0=>rfl
 |n+1=>by simp only[lF];split<;>simp[sD.W3,rS E X S0 n]
theorem yi (E:Nat->sD)(X:Nat->Bool)(S0:St): ∀n,(lF E X S0 n).ep=S0.ep
 |0=>rfl
 |n+1=>by simp only[lF];split<;>simp[sD.W4,yi E X S0 n]
theorem v7 {E:Nat->sD}{X Y:Nat->Bool}{S0:St}{x:Nat}: ∀n,(∀j,j<n->X j≠Y j->(E j).dst≠some x)->(lF E X S0 n).t x=(lF E Y S0 n).t x
 |0,_=>rfl
 |n+1,h=>by
  have ih:=v7 (S0:=S0) n λj hj=>h j (by omega)
  simp only[lF];cases hx:X n<;>cases hy:Y n<;>simp only[if_true,if_false,zdk,sD.O9,rS]
  ·exact ih
  ·rw[if_neg (λe=>h n (by omega) (by rw[hx,hy];simp) e.1)];exact ih
  ·rw[if_neg (λe=>h n (by omega) (by rw[hx,hy];simp) e.1)];exact ih
  ·split
   ·rfl
   ·exact ih
theorem v8 {E:Nat->sD}{X Y:Nat->Bool}{S0:St}{id:Nat}: ∀n,(∀j,j<n->X j≠Y j->(E j).W id=false)->(lF E X S0 n).h id=(lF E Y S0 n).h id
 |0,_=>rfl
 |n+1,h=>by
  have ih:=v8 (S0:=S0) n λj hj=>h j (by omega)
  simp only[lF];cases hx:X n<;>cases hy:Y n<;>simp only[if_true,if_false,zdk,sD.UC]
  ·exact ih
  ·rw[h n (by omega) (by rw[hx,hy];simp)];simpa using ih
  ·rw[h n (by omega) (by rw[hx,hy];simp)];simpa using ih
  ·split
   ·rfl
   ·exact ih
theorem B3 {E:Nat->sD}{X:Nat->Bool}{S0:St}{x i:Nat}(hX:X i=true)(hd:(E i).dst=some x): ∀n,i<n->(∀j,i<j->j<n->X j=true->(E j).dst≠some x)->(lF E X S0 n).t x=if x<S0.nt then(E i).av else S0.t x
 |0,h,_=>by omega
 |n+1,h,hl=>by
  have base:x<S0.nt\/¬x<S0.nt:=zdC x S0.nt|>.imp id Nat.not_lt.2
  by_cases e:i=n
  ·subst e
   simp only[lF,hX,if_true,sD.O9,hd,true_and,rS];rcases base with hb|hb
   ·simp[hb]
   ·simp only[hb,if_false]
    have out: ∀m,(lF E X S0 m).t x=S0.t x:=by
     intro m;induction m with
     |zero=>rfl
     |succ m ih=>
      simp only[lF];split
      ·rw[sD.O9,rS,if_neg (λq=>hb q.2)];exact ih
      ·exact ih
    exact out i
  ·have ih:=B3 (S0:=S0) hX hd n (by omega) λj h1 h2 h3=>hl j h1 (by omega) h3
   simp only[lF];split
   ·rename_i hn
    rw[sD.O9,if_neg (λq=>hl n (by omega) (by omega) hn q.1)];exact ih
   ·exact ih
theorem B4 {E:Nat->sD}{X:Nat->Bool}{S0:St}{id i:Nat}(hX:X i=true)(hd:(E i).W id=true): ∀n,i<n->(∀j,i<j->j<n->X j=true->(E j).W id=false)->(lF E X S0 n).h id=(E i).h id
 |0,h,_=>by omega
 |n+1,h,hl=>by
  by_cases e:i=n
  ·subst e
   simp only[lF,hX,if_true,sD.UC,hd]
  ·have ih:=B4 (S0:=S0) hX hd n (by omega) λj h1 h2 h3=>hl j h1 (by omega) h3
   simp only[lF];split
   ·rename_i hn
    rw[sD.UC,hl n (by omega) (by omega) hn];simpa using ih
   ·exact ih
end AM
namespace AM
open Go
def B5 (o:Oper)(acc:Array Nat):Nat:=o.after.foldl (λs e=>if Region.binds .any e then s|||2^e.on|||acc.getD e.on 0 else s) 0
def qY (l:List Oper)(acc:Array Nat):Array Nat:=l.foldl (λacc o=>acc.push (B5 o acc)) acc
theorem Gn (ops:Array Oper):Region.before ops=qY ops.toList #[]:=by
 unfold Region.before qY;rw[<-Array.foldl_toList];rfl
theorem zd: ∀(l:List Oper) (acc:Array Nat),(qY l acc).size=acc.size+l.length
 | [],acc=>by simp[qY]
 |o::l,acc=>by
  have:=zd l (acc.push (B5 o acc));simp only[qY,zem] at this⊢;rw[this];simp;omega
theorem A7: ∀(l:List Oper) (acc:Array Nat) (j:Nat),j<acc.size->(qY l acc)[j]?=acc[j]?
 | [],acc,j,_=>by simp[qY]
 |o::l,acc,j,h=>by
  have:=A7 l (acc.push (B5 o acc)) j (by simp;omega)
  simp only[qY,zem] at this⊢;rw[this,zdY,if_neg (by omega)]
theorem Gp: ∀(l:List Oper) (acc:Array Nat) (j:Nat) (o:Oper),l[j]?=some o->(qY l acc)[acc.size+j]?=some (B5 o (qY (l.take j) acc))
 | [],acc,j,o,h=>by simp at h
 |o'::l,acc,0,o,h=>by
  simp only[zdP,zdj] at h;subst h;have:=A7 l (acc.push (B5 o' acc)) acc.size (by simp)
  simp only[qY,zem,zec,List.take_zero,List.foldl_nil] at this⊢;rw[this];simp
 |o'::l,acc,j+1,o,h=>by
  have:=Gp l (acc.push (B5 o' acc)) j o (by simpa using h)
  simp only[qY,zem,Array.size_push,List.take_succ_cons] at this⊢;rw[show acc.size+(j+1)=acc.size+1+j by omega,this]
theorem LB (l:List Oper)(j e:Nat)(he:e<j)(hj:j<=l.length):(qY (l.take j) #[]).getD e 0=(qY l #[]).getD e 0:=by
 have h1:qY l #[]=qY (l.drop j) (qY (l.take j) #[]):=by
  unfold qY;rw[<-List.foldl_append,zev]
 have h2:=A7 (l.drop j) (qY (l.take j) #[]) e (by rw[zd];simp;omega)
 rw[h1,zew,zew,h2]
theorem Pb {o:Oper}{acc:Array Nat}{i:Nat}(h:(B5 o acc).testBit i=true): ∃e∈o.after,Region.binds .any e=true/\(i=e.on\/(acc.getD e.on 0).testBit i=true):=by
 unfold B5 at h;rw[<-Array.foldl_toList] at h;have key: ∀(l:List Edge) (s:Nat),(l.foldl (λs e=>if Region.binds .any e then s|||2^e.on|||acc.getD e.on 0 else s) s).testBit i=true->s.testBit i=true\/∃e∈l,Region.binds .any e=true/\(i=e.on\/(acc.getD e.on 0).testBit i=true):=by
  intro l;induction l with
  |nil=>intro s h;exact .inl h
  |cons e l ih=>
   intro s h;simp only[zem] at h;rcases ih _ h with h1|⟨e',h1,h2⟩
   ·split at h1
    ·rename_i hb
     simp only[Nat.testBit_or,zeo] at h1;rcases h1 with(h1|h1)|h1
     ·exact .inl h1
     ·rw[Nat.testBit_two_pow] at h1
      exact .inr ⟨e,zdq ..,hb, .inl (of_decide_eq_true h1).symm⟩
     ·exact .inr ⟨e,zdq ..,hb, .inr h1⟩
    ·exact .inl h1
   ·exact .inr ⟨e',zdp _ h1,h2⟩
 rcases key _ _ h with h1|⟨e,h1,h2⟩
 ·simp at h1
 ·exact⟨e,by simpa using h1,h2⟩
def rL (ops:Array Oper):Bool:=(List.range ops.size).all λj=>match ops[j]? with|some o=>o.after.all λe=>!Region.binds .any e||decide (e.on<j)|none=>true
theorem xK {ops:Array Oper}(h:rL ops=true){j:Nat}{o:Oper}(ho:ops[j]?=some o){e:Edge}(he:e∈o.after)(hb:Region.binds .any e=true):e.on<j:=by
 have hj:j<ops.size:=(Array.getElem?_eq_some_iff.1 ho).1;have:=List.all_eq_true.1 h j (by simpa using hj)
 simp only[ho] at this;have:=Array.all_eq_true_iff_forall_mem.1 this e he;simpa [hb] using this
theorem yK {ops:Array Oper}(hE:rL ops=true){X:Nat->Prop}(hX: ∀j o,ops[j]?=some o->X j->∀e∈o.after,Region.binds .any e=true->X e.on): ∀(j i:Nat),X j->((Region.before ops).getD j 0).testBit i=true->X i:=by
 intro j;induction j using Nat.strongRecOn with
 |_ j ih=>
  intro i hj hb;rw[Gn] at hb;cases ho:ops.toList[j]? with
  |none=>
   have hsz:ops.toList.length<=j:=List.getElem?_eq_none_iff.1 ho;rw[zew,Array.getElem?_eq_none (by rw[zd];simp at hsz⊢;omega)] at hb
   simp at hb
  |some o=>
   have mS:ops[j]?=some o:=by simpa using ho
   have h1:=Gp ops.toList #[] j o ho;simp only[List.size_toArray,zdo,zd2] at h1;rw[zew,h1,zex] at hb;obtain⟨e,he,W5,hc⟩:=Pb hb;have kR:=xK hE mS he W5;have hXe:=hX j o mS hj e he W5;rcases hc with rfl|hc
   ·exact hXe
   ·have hjl:j<=ops.toList.length:=Nat.le_of_lt (List.getElem?_eq_some_iff.1 ho).1
    rw[LB _ _ _ kR hjl,<-Gn] at hc;exact ih e.on kR i hXe hc
end AM
namespace AM
open Go
variable {α:Type}{P:Program}{base:Nat}
structure HS (P:Program)(base:Nat)(ops:Array Oper)(o:Oper)(S:St)(E:sD)(F:Option Fp):Prop where
 dst:E.dst=o.dst
 run:match F with
  |none=>E.av= .val Go.undef/\(∀id,E.W id=false)/\∀T:St,(∀x∈o.looksAt ops,T.t x=S.t x)->∀N D w a,kt N D w base T a->Region.wanted o (yielded ops a.tmps)=false
  |some f=>f.2=keyOf S.ep o/\(∀id,E.W id=(f.1.2.contains id||qo S.ep o id))/\(∀T:St,(∀x∈o.looksAt ops,T.t x=S.t x)->∀N D w a,kt N D w base T a->Region.wanted o (yielded ops a.tmps)=true)/\
    ∃eY,DL P base f.1.2 o (wC S o f.1) E.av eY/\∀id,E.W id=true->E.h id=eY.h id
theorem DL.zcd {W W':List Nat}{o:Oper}{st:St}{av:AV}{eY:St}(h:DL P base W o st av eY)(hW: ∀i∈W,i∈W'):DL P base W' o st av eY:=
 ⟨h.1,h.2.1,h.2.2.1,λid hi hn=>h.2.2.2.1 id (λh'=>hi (hW id h')) hn,h.2.2.2.2⟩
theorem RA {env:Env α}(he:sr P base env){ops:Array Oper}: ∀(n i:Nat) (rest:List Oper) (Dq:List (Nat×Fp)) (k:List Item) (st:St) (K:Out->St->Option α) (r:α),
  exec P env n (.zC ops i rest Dq::k) st K=some r->i<=ops.size->rest=ops.toList.drop i->
  ∃m LC,m<n/\exec P env m k (rD LC) K=some r/\∃(E:Nat->sD) (S:Nat->St) (F:Nat->Option Fp),S i=st/\S ops.size=LC/\
   (∀j o,i<=j->ops[j]?=some o->S (j+1)=(E j).ap (S j)/\HS P base ops o (S j) (E j) (F j))/\
   (∀j f,i<=j->F j=some f->(∀q g,(q,g)∈Dq->((Region.before ops).getD j 0).testBit q=true\/yH g f=false)/\∀q g,i<=q->q<j->F q=some g->((Region.before ops).getD j 0).testBit q=true\/yH g f=false):=by
 intro n;induction n with
 |zero=>intro i rest Dq k st K r h;simp[exec] at h
 |succ n ih=>
  intro i rest Dq k st K r h hi zY;unfold exec at h;cases rest with
  |nil=>
   have hsz:i=ops.size:=by
    have:=congrArg List.length zY;simp at this;omega
   subst hsz;refine⟨n,st,zey n,h,λ_=>⟨none, .undef,λ_=>false,λ_=>none⟩,λ_=>st,λ_=>none,rfl,rfl,λj o hj ho=>?_,λj f _ hf=>by cases hf⟩
   have:=(Array.getElem?_eq_some_iff.1 ho).1;omega
  |cons o rest=>
   have kR:i<ops.size:=by
    have:=congrArg List.length zY;simp at this;omega
   have UD:ops[i]?=some o:=by
    have h1:(ops.toList.drop i)[0]?=some o:=by rw[<-zY];rfl
    rw[zdK] at h1;simpa using h1
   have HT:rest=ops.toList.drop (i+1):=by
    have h1:(ops.toList.drop i).tail=rest:=by rw[<-zY];rfl
    rw[<-h1,List.tail_drop]
   simp only at h;have lR: ∀j,i+1<=j->j≠i:=λj hj=>by omega
   have HU: ∀(E0:sD) (F0:Option Fp) (RB:List (Nat×Fp)) (HV:St),HV=E0.ap st->HS P base ops o st E0 F0->exec P env n (.zC ops (i+1) rest RB::k) HV K=some r->
     (∀p,p∈Dq->p∈RB)->(∀f,F0=some f->(i,f)∈RB/\∀q g,(q,g)∈Dq->((Region.before ops).getD i 0).testBit q=true\/yH g f=false)->
     ∃m LC,m<n+1/\exec P env m k (rD LC) K=some r/\∃(E:Nat->sD) (S:Nat->St) (F:Nat->Option Fp),S i=st/\S ops.size=LC/\
      (∀j o,i<=j->ops[j]?=some o->S (j+1)=(E j).ap (S j)/\HS P base ops o (S j) (E j) (F j))/\
      (∀j f,i<=j->F j=some f->(∀q g,(q,g)∈Dq->((Region.before ops).getD j 0).testBit q=true\/yH g f=false)/\∀q g,i<=q->q<j->F q=some g->((Region.before ops).getD j 0).testBit q=true\/yH g f=false):=by
    intro E0 F0 RB HV e2 hs hx zM hF0;obtain⟨m,LC,g1,g2,E',S',F',g3,g4,g5,g6⟩:=ih (i+1) rest RB k HV K r hx kR HT;refine⟨m,LC,Nat.lt_succ_of_lt g1,g2,λj=>if j=i then E0 else E' j,λj=>if j=i then st else S' j,λj=>if j=i then F0 else F' j,by simp,?_,λj o' hj mS=>?_,λj f hj hf=>?_⟩
    ·simp only[if_neg (show ops.size≠i by omega)];exact g4
    ·by_cases e:j=i
     ·subst e
      rw[UD] at mS;cases mS;simp only[if_true,if_neg (show j+1≠j by omega)]
      exact⟨by rw[g3,e2],hs⟩
     ·simp only[if_neg e,if_neg (show j+1≠i by omega)]
      exact g5 j o' (by omega) mS
    ·by_cases e:j=i
     ·subst e
      simp only[if_true] at hf;exact⟨(hF0 f hf).2,λq g h1 h2=>by omega⟩
     ·simp only[if_neg e] at hf
      obtain⟨h1,h2⟩:=g6 j f (by omega) hf
      refine⟨λq g hq=>h1 q g (zM _ hq),λq g h3 h4 h5=>?_⟩;by_cases e3:q=i
      ·subst e3
       simp only[if_true] at h5;exact h1 q g (hF0 g h5).1
      ·simp only[if_neg e3] at h5
       exact h2 q g (by omega) h4 h5
   rcases FJ (base:=base) h with⟨h1,hw⟩|⟨h1,hw⟩
   ·split at h1
    ·rename_i Yf
     split at h1
     ·cases h1
     ·rename_i HH
      obtain⟨av,eY,h2,LD⟩:=xI he h1;refine HU ⟨o.dst,av,λid=>(yv env (rD st) o).2.contains id||qo st.ep o id,eY.h⟩ (some (yv env (rD st) o,keyOf st.ep o)) _ _ rfl ⟨rfl,rfl,λ_=>rfl,hw,eY,LD.zcd (λi hi=>?_),λ_ _=>rfl⟩ h2 (λp hp=>zdp _ hp) (λf hf=>?_)
      ·have:=List.all_eq_true.1 HH i hi
       simpa using this
      ·cases hf
       refine⟨zdq ..,λq g hq=>?_⟩;have:=List.all_eq_true.1 Yf (q,g) hq;simpa using this
    ·split at h1
     ·rename_i t0 x0 f0 uY
      split at h1
      ·rename_i Yf
       obtain⟨av,eY,h2,LD⟩:=xI he h1;have hW:(yv env (wC st o ([],[])) o).2=[]:=by
        unfold yv;rw[uY];simp only[Nb,uY]
       rw[hW] at LD;refine HU ⟨o.dst,av,λid=>([]:List Nat).contains id||qo st.ep o id,eY.h⟩ (some (([],[]),keyOf st.ep o)) _ _ rfl ⟨rfl,rfl,λ_=>rfl,hw,eY,LD,λ_ _=>rfl⟩ h2 (λp hp=>zdp _ hp) (λf hf=>?_)
       cases hf;refine⟨zdq ..,λq g hq=>?_⟩;have:=List.all_eq_true.1 Yf (q,g) hq;simpa using this
      ·cases h1
     ·cases h1
   ·refine HU ⟨o.dst, .val Go.undef,λ_=>false,λ_=>none⟩ none Dq _ ?_ ⟨rfl,rfl,λ_=>rfl,hw⟩ h1 (λp hp=>hp) (λf hf=>by cases hf)
    simp[sD.ap]
end AM
namespace AM
open Go
variable {α:Type}{P:Program}{base:Nat}
def sL (ops:Array Oper):Bool:=rL ops&& (List.range ops.size).all λj=>(List.range j).all λi=>((Region.before ops).getD j 0).testBit i||(match ops[i]?,ops[j]? with|some x,some y=>x.apart ops y|_,_=>true)
theorem pc {ops:Array Oper}(h:sL ops=true):rL ops=true/\∀i j x y,i<j->ops[i]?=some x->ops[j]?=some y->((Region.before ops).getD j 0).testBit i=true\/x.apart ops y=true:=by
 simp only[sL,zdl] at h;refine⟨h.1,λi j x y hij hx hy=>?_⟩;have hj:j<ops.size:=(Array.getElem?_eq_some_iff.1 hy).1;have:=List.all_eq_true.1 h.2 j (by simpa using hj)
 have:=List.all_eq_true.1 this i (by simpa using hij)
 simpa [hx,hy] using this
theorem LF {a b:Fp}(h:yH a b=false):(∀id∈a.1.2,id∉b.1.1/\id∉b.1.2)/\(∀id∈b.1.2,id∉a.1.1)/\(∀k,a.2=some k->∀id,id∈b.1.1\/id∈b.1.2->id/100≠k)/\(∀k,b.2=some k->∀id,id∈a.1.1\/id∈a.1.2->id/100≠k)/\∀k,a.2=some k->b.2≠some k:=by
 simp only[yH,Bool.or_eq_false_iff] at h;obtain⟨⟨⟨⟨h1,h2⟩,h3⟩,h4⟩,h5⟩:=h;refine⟨λid hi=>?_,λid hi=>?_,λk hk id hi=>?_,λk hk id hi=>?_,λk hk sZ=>?_⟩
 ·have:=List.any_eq_false.1 h1 id hi
  simpa using this
 ·have:=List.any_eq_false.1 h2 id hi
  simpa using this
 ·rw[hk] at h3
  have:=List.any_eq_false.1 h3 id (by simpa using hi)
  simpa using this
 ·rw[hk] at h4
  have:=List.any_eq_false.1 h4 id (by simpa using hi)
  simpa using this
 ·rw[hk,sZ] at h5;simp at h5
theorem ze {E:Nat->sD}{X Y:Nat->Bool}{S0:St}: ∀n,(∀j,j<n->X j=Y j)->lF E X S0 n=lF E Y S0 n
 |0,_=>rfl
 |n+1,h=>by
  have ih:=ze (S0:=S0) (E:=E) n λj hj=>h j (by omega)
  simp only[lF,h n (by omega),ih]
theorem HW {E:Nat->sD}{S0:St}{i:Nat}: ∀n,i<=n->lF E (λj=>decide (j<i)) S0 n=lF E (λ_=>true) S0 i
 |0,h=>by
  have:i=0:=by omega
  subst this;rfl
 |n+1,h=>by
  by_cases e:i=n+1
  ·subst e;exact ze _ λj hj=>by simpa using hj
  ·have ih:=HW (S0:=S0) (E:=E) n (show i<=n by omega)
   simp only[lF];rw[if_neg (by simp;omega)];exact ih
theorem RC {E:Nat->sD}{X:Nat->Bool}{S0:St}{i n:Nat}(hi:i<n)(hX:X i=false)(ht: ∀j,i<j->j<n->X j=true->∀x,(E i).dst=some x->(E j).dst≠some x)(hh: ∀j,i<j->j<n->X j=true->∀id,(E i).W id=true->(E j).W id=false):
  lF E (λj=>X j||decide (j=i)) S0 n=(E i).ap (lF E X S0 n):=by
 have lR: ∀j,X j≠(X j||decide (j=i))->j=i:=by
  intro j h;by_cases e:j=i
  ·exact e
  ·simp[e] at h
 have e1: ∀a b:St,a.t=b.t->a.h=b.h->a.ep=b.ep->a.nt=b.nt->a=b:=by
  intro a b h1 h2 h3 h4;cases a;cases b;simp_all
 apply e1
 ·funext x
  rw[sD.O9,rS];by_cases hd:(E i).dst=some x
  ·have RD:=B3 (E:=E) (X:=λj=>X j||decide (j=i)) (S0:=S0) (x:=x) (i:=i) (by simp) hd n hi λj h1 h2 h3=>ht j h1 h2 (by
    have hji:j≠i:=by omega
    simpa [hji] using h3) x hd
   rw[RD];by_cases hb:x<S0.nt
   ·simp[hd,hb]
   ·simp only[hb,hd,and_false,if_false]
    have out: ∀m,(lF E X S0 m).t x=S0.t x:=by
     intro m;induction m with
     |zero=>rfl
     |succ m ih=>
      simp only[lF];split
      ·rw[sD.O9,rS,if_neg (λq=>hb q.2)];exact ih
      ·exact ih
    exact(out n).symm
  ·rw[if_neg (λq=>hd q.1)]
   refine(v7 n λj _ hj=>?_).symm;rw[lR j hj];exact hd
 ·funext id
  rw[sD.UC];cases hd:(E i).W id with
  |true=>
   have RD:=B4 (E:=E) (X:=λj=>X j||decide (j=i)) (S0:=S0) (id:=id) (i:=i) (by simp) hd n hi λj h1 h2 h3=>hh j h1 h2 (by
    have hji:j≠i:=by omega
    simpa [hji] using h3) id hd
   rw[RD];simp
  |false=>
   simp only[zdk,if_false];refine(v8 n λj _ hj=>?_).symm;rw[lR j hj];exact hd
 ·rw[yi,sD.W4,yi]
 ·rw[rS,sD.W3,rS]
end AM
namespace AM
open Go
variable {α:Type}{P:Program}{base:Nat}
theorem HX {o:Oper}{ops:Array Oper}{x:Nat}(h:x∈Q3 o):x∈o.looksAt ops:=zdu _ h
structure lG (P:Program)(base:Nat)(ops:Array Oper)(E:Nat->sD)(S:Nat->St)(F:Nat->Option Fp):Prop where
 step: ∀j o,ops[j]?=some o->S (j+1)=(E j).ap (S j)/\HS P base ops o (S j) (E j) (F j)
 pair: ∀q j f g,q<j->F j=some f->F q=some g->((Region.before ops).getD j 0).testBit q=true\/yH g f=false
theorem lG.Pc {ops:Array Oper}{E:Nat->sD}{S:Nat->St}{F:Nat->Option Fp}(R:lG P base ops E S F): ∀j,j<=ops.size->S j=lF E (λ_=>true) (S 0) j
 |0,_=>rfl
 |j+1,h=>by
  rw[(R.step j ops[j] (zdV (by omega))).1,R.Pc j (by omega)]
  simp[lF]
theorem lG.ep {ops:Array Oper}{E:Nat->sD}{S:Nat->St}{F:Nat->Option Fp}(R:lG P base ops E S F){j:Nat}(h:j<=ops.size):(S j).ep=(S 0).ep:=by rw[R.Pc j h,yi]
theorem lG.nt {ops:Array Oper}{E:Nat->sD}{S:Nat->St}{F:Nat->Option Fp}(R:lG P base ops E S F){j:Nat}(h:j<=ops.size):(S j).nt=(S 0).nt:=by rw[R.Pc j h,rS]
structure sM (ops:Array Oper)(X:Nat->Bool)(i:Nat)(o:Oper):Prop where
 op:ops[i]?=some o
 not:X i=false
 closed: ∀j o,ops[j]?=some o->X j=true->∀e∈o.after,Region.binds .any e=true->X e.on=true
 ready: ∀e∈o.after,Region.binds .any e=true->X e.on=true
theorem sM.before {ops:Array Oper}(hE:rL ops=true){X:Nat->Bool}{i:Nat}{o:Oper}(h:sM ops X i o){j:Nat}(hj:((Region.before ops).getD i 0).testBit j=true):X j=true\/j=i:=by
 refine yK hE (X:=λq=>X q=true\/q=i) (λq o' ho hq e he hb=>?_) i j (.inr rfl) hj;rcases hq with hq|rfl
 ·exact .inl (h.closed q o' ho hq e he hb)
 ·rw[h.op] at ho;cases ho;exact .inl (h.ready e he hb)
theorem sM.after {ops:Array Oper}(hE:rL ops=true){X:Nat->Bool}{i:Nat}{o:Oper}(h:sM ops X i o){j:Nat}(hX:X j=true):((Region.before ops).getD j 0).testBit i=false:=by
 cases e:((Region.before ops).getD j 0).testBit i with
 |false=>rfl
 |true=>
  have:=yK hE (X:=λq=>X q=true) (λq o' ho hq e he hb=>h.closed q o' ho hq e he hb) j i hX e;rw[h.not] at this;cases this
section
variable {ops:Array Oper}{E:Nat->sD}{S:Nat->St}{F:Nat->Option Fp}
theorem sM.unordered (hD:sL ops=true){X:Nat->Bool}{i:Nat}{o:Oper}(h:sM ops X i o){j:Nat}(hj:X j≠decide (j<i)):j≠i/\(j<i->((Region.before ops).getD i 0).testBit j=false)/\(i<j->((Region.before ops).getD j 0).testBit i=false):=by
 have hE:=(pc hD).1;have lR:j≠i:=by intro e;subst e;simp[h.not] at hj
 refine⟨lR,λkR=>?_,λkR=>?_⟩
 ·cases e:((Region.before ops).getD i 0).testBit j with
  |false=>rfl
  |true=>
   rcases h.before hE e with h1|h1
   ·simp[h1,kR] at hj
   ·exact absurd h1 lR
 ·have hX:X j=true:=by
   cases e:X j with
   |true=>rfl
   |false=>simp[e,Nat.not_lt.2 (Nat.le_of_lt kR)] at hj
  exact h.after hE hX
theorem lG.jM (R:lG P base ops E S F)(hD:sL ops=true){X:Nat->Bool}{i:Nat}{o:Oper}(h:sM ops X i o){x:Nat}(hx:x∈o.looksAt ops):(lF E X (S 0) ops.size).t x=(S i).t x:=by
 have hi:i<ops.size:=(Array.getElem?_eq_some_iff.1 h.op).1;rw[R.Pc i (by omega),<-HW ops.size (show i<=ops.size by omega)]
 refine v7 _ λj hj lR hd=>?_;obtain⟨h1,h2,h3⟩:=h.unordered hD lR;have hoj:=zdV hj;rw[(R.step j _ hoj).2.dst] at hd;rcases Nat.lt_or_gt_of_ne h1 with kR|kR
 ·rcases(pc hD).2 j i _ _ kR hoj h.op with q|q
  ·rw[h2 kR] at q;cases q
  ·exact(Oper.apart_spec q).1 x hd hx
 ·rcases(pc hD).2 i j _ _ kR h.op hoj with q|q
  ·rw[h3 kR] at q;cases q
  ·exact(Oper.apart_spec q).2.2 x hd hx
def Fp.all (f:Fp)(id:Nat):Prop:=id∈f.1.1\/id∈f.1.2\/f.2=some (id/100)
def Fp.out (f:Fp)(id:Nat):Prop:=id∈f.1.2\/f.2=some (id/100)
theorem A8 {a b:Fp}(h:yH a b=false){id:Nat}:(a.out id->¬b.all id)/\(b.out id->¬a.all id):=by
 obtain⟨h1,h2,h3,h4,h5⟩:=LF h;constructor
 ·rintro(ha|ha) (hb|hb|hb)
  ·exact(h1 id ha).1 hb
  ·exact(h1 id ha).2 hb
  ·exact h4 _ hb id (.inr ha) rfl
  ·exact h3 _ ha id (.inl hb) rfl
  ·exact h3 _ ha id (.inr hb) rfl
  ·exact h5 _ ha hb
 ·rintro(hb|hb) (ha|ha|ha)
  ·exact h2 id hb ha
  ·exact(h1 id ha).2 hb
  ·exact h3 _ ha id (.inr hb) rfl
  ·exact h4 _ hb id (.inl ha) rfl
  ·exact h4 _ hb id (.inr ha) rfl
  ·exact h5 _ ha hb
theorem Ny {ep:Nat}{o:Oper}{id:Nat}:qo ep o id=true↔keyOf ep o=some (id/100):=by
 unfold qo keyOf;cases makes o
 ·simp
 ·simp[eq_comm]
theorem lG.out (R:lG P base ops E S F){j:Nat}{o:Oper}(ho:ops[j]?=some o){id:Nat}(h:(E j).W id=true): ∃f,F j=some f/\f.out id:=by
 have:=(R.step j o ho).2.run;cases hF:F j with
 |none=>rw[hF] at this;rw[this.2.1 id] at h;cases h
 |some f=>
  rw[hF] at this;refine⟨f,rfl,?_⟩;rw[this.2.1 id,zeo] at h;rcases h with h|h
  ·exact .inl (by simpa using h)
  ·exact .inr (by rw[this.1];exact Ny.1 h)
theorem lG.heap (R:lG P base ops E S F)(hD:sL ops=true){X:Nat->Bool}{i:Nat}{o:Oper}(h:sM ops X i o){f:Fp}(hF:F i=some f){id:Nat}(pF:f.all id):(lF E X (S 0) ops.size).h id=(S i).h id:=by
 have hi:i<ops.size:=(Array.getElem?_eq_some_iff.1 h.op).1;rw[R.Pc i (by omega),<-HW ops.size (show i<=ops.size by omega)]
 refine v8 _ λj hj lR=>?_;obtain⟨h1,h2,h3⟩:=h.unordered hD lR;cases hW:(E j).W id with
 |false=>rfl
 |true=>
  exfalso
  obtain⟨g,hg,js⟩:=R.out (zdV hj) hW;rcases Nat.lt_or_gt_of_ne h1 with kR|kR
  ·rcases R.pair j i f g kR hF hg with q|q
   ·rw[h2 kR] at q;cases q
   ·exact(A8 q).1 js pF
  ·rcases R.pair i j g f kR hg hF with q|q
   ·rw[h3 kR] at q;cases q
   ·exact(A8 q).2 js pF
theorem lG.put (R:lG P base ops E S F)(hD:sL ops=true){X:Nat->Bool}{i:Nat}{o:Oper}(h:sM ops X i o):lF E (λj=>X j||decide (j=i)) (S 0) ops.size=(E i).ap (lF E X (S 0) ops.size):=by
 have hi:i<ops.size:=(Array.getElem?_eq_some_iff.1 h.op).1;refine RC hi h.not (λj kR hj hX x hdi hdj=>?_) (λj kR hj hX id hWi=>?_)
 ·have hoj:=zdV hj
  rw[(R.step j _ hoj).2.dst] at hdj;rw[(R.step i _ h.op).2.dst] at hdi;have hb:=h.after (pc hD).1 hX;rcases(pc hD).2 i j _ _ kR h.op hoj with q|q
  ·rw[hb] at q;cases q
  ·exact(Oper.apart_spec q).2.1 x hdi hdj
 ·cases hW:(E j).W id with
  |false=>rfl
  |true=>
   exfalso
   obtain⟨f,hf,hfo⟩:=R.out h.op hWi;obtain⟨g,hg,WS⟩:=R.out (zdV hj) hW;have hb:=h.after (pc hD).1 hX;rcases R.pair i j g f kR hg hf with q|q
   ·rw[hb] at q;cases q
   ·refine(A8 q).1 hfo ?_
    rcases WS with WS|WS
    ·exact .inr (.inl WS)
    ·exact .inr (.inr WS)
end
end AM
namespace AM
open Go
variable {α:Type}{P:Program}{base:Nat}
section
variable {ops:Array Oper}{E:Nat->sD}{S:Nat->St}{F:Nat->Option Fp}
theorem lG.wC (R:lG P base ops E S F)(hD:sL ops=true){X:Nat->Bool}{i:Nat}{o:Oper}(h:sM ops X i o){f:Fp}(hF:F i=some f)(hk:f.2=keyOf (S i).ep o):AM.wC (lF E X (S 0) ops.size) o f.1=AM.wC (S i) o f.1:=by
 have hi:i<ops.size:=(Array.getElem?_eq_some_iff.1 h.op).1;have uf:(lF E X (S 0) ops.size).ep=(S i).ep:=by rw[yi];exact(R.ep (by omega)).symm
 have RE:(lF E X (S 0) ops.size).nt=(S i).nt:=by rw[rS];exact(R.nt (by omega)).symm
 have hH:Dr (lF E X (S 0) ops.size) o f.1=Dr (S i) o f.1:=by
  funext id
  unfold Dr;rw[uf];split
  ·rename_i hx
   refine R.heap hD h hF ?_;simp only[zeo,List.contains_iff_mem] at hx;rcases hx with(hx|hx)|hx
   ·exact .inl hx
   ·exact .inr (.inl hx)
   ·exact .inr (.inr (by rw[hk];exact Ny.1 hx))
  ·rfl
 unfold AM.wC;rw[uf,RE,hH];congr 1
 funext x
 split
 ·rename_i hx
  rw[R.jM hD h (HX (by simpa using hx))]
 ·rfl
theorem lG.one (R:lG P base ops E S F)(hD:sL ops=true){X:Nat->Bool}{i:Nat}{o:Oper}(h:sM ops X i o){N:Names}{D:Nat->Prop}{w:World}{a:Act}(s:kt N D w base (lF E X (S 0) ops.size) a){Q:Exit->Act->World->Prop}{K:Act->World->Prop}
  (hK: ∀N' D' w' a',kt N' D' w' base (lF E (λj=>X j||decide (j=i)) (S 0) ops.size) a'->Ext N D w (lF E X (S 0) ops.size).h N' D' w' (lF E (λj=>X j||decide (j=i)) (S 0) ops.size).h->K a' w'):wpOp P ops Q i K a w:=by
 have hi:i<ops.size:=(Array.getElem?_eq_some_iff.1 h.op).1;obtain⟨jZ,mc⟩:=R.step i o h.op;have jI:=mc.run;have wE: ∀x∈o.looksAt ops,(lF E X (S 0) ops.size).t x=(S i).t x:=λx hx=>R.jM hD h hx;rw[R.put hD h] at hK;unfold wpOp;rw[h.op];simp only;cases hF:F i with
 |none=>
  rw[hF] at jI;obtain⟨h1,h2,h3⟩:=jI;rw[if_neg (by rw[h3 _ wE N D w a s];simp)]
  have s2:=s.put (Ext.refl _ _ _ _) s.nr rfl rfl o.dst (u:= .val Go.undef) (v:=Go.undef) (ee.2 rfl);have e:(E i).ap (lF E X (S 0) ops.size)=(lF E X (S 0) ops.size).put o.dst (.val Go.undef):=by
   unfold sD.ap;rw[mc.dst,h1];simp[h2]
  rw[e] at hK;exact hK N D w _ s2 (by rw[St.BN];exact Ext.refl _ _ _ _)
 |some f=>
  rw[hF] at jI;obtain⟨h1,h2,h3,eY,LD,h4⟩:=jI;rw[if_pos (h3 _ wE N D w a s)];left
  have LG:=R.wC hD h hF h1;rw[<-LG] at LD;obtain⟨o1,o2,o3,o4,o5⟩:=LD;generalize hT:lF E X (S 0) ops.size=T at*;have uf:T.ep=(S i).ep:=by rw[<-hT,yi];exact(R.ep (by omega)).symm
  have sR:kt N D w base (AM.wC T o f.1) a:=⟨s.nr.part (λid=>f.1.1.contains id||f.1.2.contains id||qo T.ep o id),λx=>by
   unfold AM.wC;simp only;split
   ·exact Jt (s.nr.part (λid=>f.1.1.contains id||f.1.2.contains id||qo T.ep o id)) (s.tmps x)
   ·exact oY,s.nt,s.defers⟩
  refine o5 N D w a sR K Q λN' D' w' v x' s' hv=>?_;obtain⟨jS,jE⟩:=s.nr.join (F:=λid=>f.1.1.contains id||f.1.2.contains id||qo T.ep o id) (W:=(E i).W) x' s' (λid pF=>by
   rw[h2 id,<-uf] at pF;simp only[zeo] at pF⊢;rcases pF with pF|pF
   ·exact .inl (.inr pF)
   ·exact .inr pF) (λid _ pF=>by
   rw[h2 id,<-uf,Bool.or_eq_false_iff] at pF;exact o4 id (by simpa using pF.1) pF.2)
  have hj:AM.join T.h eY.h (E i).W=λid=>if(E i).W id then(E i).h id else T.h id:=by
   funext id
   unfold AM.join;cases hw:(E i).W id with
   |true=>simp[h4 id hw]
   |false=>simp
  rw[hj] at jS jE;have s2:=s.put (eY:={T with h:=λid=>if(E i).W id then(E i).h id else T.h id}) jE jS rfl rfl o.dst hv
  have e:(E i).ap T=St.put {T with h:=λid=>if(E i).W id then(E i).h id else T.h id} o.dst (E i).av:=by unfold sD.ap;rw[mc.dst]
  rw[e] at hK;exact hK N' D' w' _ s2 (by rw[St.BN];exact jE)
end
end AM
namespace AM
open Go
variable {α:Type}{P:Program}{base:Nat}
section
variable {ops:Array Oper}{E:Nat->sD}{S:Nat->St}{F:Nat->Option Fp}
def su (l:Array Bool)(j:Nat):Bool:=l.getD j false
def HY (ops:Array Oper)(l:Array Bool):Prop:=l.size=ops.size/\∀j o,ops[j]?=some o->su l j=true->∀e∈o.after,Region.binds .any e=true->su l e.on=true
theorem DM {l:Array Bool}(hc:HY ops l){i:Nat}(h:i∈Region.ready .any ops l): ∃o,sM ops (su l) i o:=by
 unfold Region.ready at h;simp only[List.mem_filter,List.mem_range,zdl,Bool.not_eq_eq_eq_not,zdg] at h;obtain⟨hi,h1,h2⟩:=h;have UD:=zdV hi;refine⟨ops[i],UD,?_,hc.2,λe he hb=>?_⟩
 ·have hl:i<l.size:=by rw[hc.1];exact hi
  unfold su;simp[Array.getD,hl] at h1⊢;exact h1
 ·rw[UD] at h2
  simp only[zds,zex] at h2;have:=Array.all_eq_true_iff_forall_mem.1 h2 e he;simpa [hb,su] using this
theorem LH (hE:rL ops=true){l:Array Bool}(hc:HY ops l)(h:Region.ready .any ops l=[]): ∀i,i<ops.size->su l i=true:=by
 intro i;induction i using Nat.strongRecOn with
 |_ i ih=>
  intro hi;cases hX:su l i with
  |true=>rfl
  |false=>
   exfalso
   have hl:i<l.size:=by rw[hc.1];exact hi
   have UD:=zdV hi;have:i∈Region.ready .any ops l:=by
    unfold Region.ready;simp only[List.mem_filter,List.mem_range,zdl,Bool.not_eq_eq_eq_not,zdg];refine⟨hi,?_,?_⟩
    ·unfold su at hX
     simp[Array.getD,hl] at hX⊢;exact hX
    ·rw[UD]
     simp only[zds,zex];refine Array.all_eq_true_iff_forall_mem.2 λe he=>?_;cases hb:Region.binds .any e with
     |false=>simp
     |true=>
      have:=xK hE UD he hb;have:=ih e.on this (by omega)
      unfold su at this;simp[this]
   rw[h] at this;cases this
def yL (l:Array Bool):Nat->Nat
 |0=>0
 |m+1=>yL l m+(if su l m then 0 else 1)
theorem Ju {l:Array Bool}: ∀m,yL l m=0->∀j,j<m->su l j=true
 |0,_,j,h=>by omega
 |m+1,h,j,hj=>by
  simp only[yL] at h;by_cases e:j=m
  ·subst e
   cases hX:su l j with
   |true=>rfl
   |false=>simp[hX] at h
  ·exact Ju m (by omega) j (by omega)
theorem DN {l:Array Bool}{i j:Nat}(hi:i<l.size):su (l.setIfInBounds i true) j=(su l j||decide (j=i)):=by
 unfold su;by_cases e:j=i
 ·subst e;simp[Array.getD,hi]
 ·simp[zew,Array.getElem?_setIfInBounds_ne (Ne.symm e),e]
theorem NA {l:Array Bool}{i:Nat}(hi:i<l.size)(hX:su l i=false): ∀m,yL (l.setIfInBounds i true) m+(if i<m then 1 else 0)=yL l m
 |0=>by simp[yL]
 |m+1=>by
  have ih:=NA hi hX m;simp only[yL,DN hi];by_cases e:m=i
  ·subst e;simp[hX] at ih⊢;omega
  ·by_cases kR:i<m
   ·simp[e,kR,show i<m+1 by omega] at ih⊢;omega
   ·simp[e,kR,show¬i<m+1 by omega] at ih⊢;omega
theorem lG.any (R:lG P base ops E S F)(hD:sL ops=true){Q:Exit->Act->World->Prop}: ∀(fuel:Nat) (l:Array Bool),HY ops l->yL l ops.size<=fuel->∀N D w a,kt N D w base (lF E (su l) (S 0) ops.size) a->
  (∀N' D' w' a',kt N' D' w' base (S ops.size) a'->Ext N D w (lF E (su l) (S 0) ops.size).h N' D' w' (S ops.size).h->Q .normal a' w')->wpAny P .any ops Q fuel l a w:=by
 have hE:=(pc hD).1;have zas: ∀(l:Array Bool),(∀i,i<ops.size->su l i=true)->lF E (su l) (S 0) ops.size=S ops.size:=λl hl=>by
  rw[R.Pc _ (zdz _)];exact ze _ λj hj=>hl j hj
 intro fuel;induction fuel with
 |zero=>
  intro l hc hf N D w a s hQ;have HH:=Ju (l:=l) ops.size (Nat.le_zero.1 hf);refine⟨?_,?_⟩
  ·cases hr:Region.ready .any ops l with
   |nil=>rfl
   |cons i is=>
    obtain⟨o,hn⟩:=DM hc (i:=i) (by rw[hr];exact zdq ..)
    have:=HH i (Array.getElem?_eq_some_iff.1 hn.op).1;rw[hn.not] at this;cases this
  ·have e:=zas l HH
   rw[e] at s hQ;exact hQ N D w a s (Ext.refl _ _ _ _)
 |succ fuel ih=>
  intro l hc hf N D w a s hQ;refine⟨λhr=>?_,λi hi=>?_⟩
  ·have e:=zas l (LH hE hc hr)
   rw[e] at s hQ;exact hQ N D w a s (Ext.refl _ _ _ _)
  ·obtain⟨o,hn⟩:=DM hc hi
   have yf:i<ops.size:=(Array.getElem?_eq_some_iff.1 hn.op).1;have hil:i<l.size:=by rw[hc.1];exact yf
   have hX:(λj=>su l j||decide (j=i))=su (l.setIfInBounds i true):=by funext j;rw[DN hil]
   refine R.one hD hn s λN' D' w' a' s' x'=>?_;rw[hX] at s' x';have FK:=NA hil hn.not ops.size;rw[if_pos yf] at FK;refine ih _ ⟨by simp[hc.1],λj o' mS hj e he hb=>?_⟩ (by omega) N' D' w' a' s' λN2 D2 w2 a2 s2 x2=>hQ N2 D2 w2 a2 s2 (x'.trans x2)
   rw[DN hil] at hj⊢;simp only[zeo,zdr] at hj⊢;rcases hj with hj|rfl
   ·exact .inl (hc.2 j o' mS hj e he hb)
   ·rw[hn.op] at mS;cases mS;exact .inl (hn.ready e he hb)
end
end AM
namespace AM
open Go
variable {α:Type}{P:Program}{base:Nat}
def pz:Code->Prop
 | .seq a b=>pz a/\pz b
 | .cond _ a b=>pz a/\pz b
 | .block _ c=>pz c
 | .scope c=>pz c
 | .region _ ops draw=>draw=true->sL ops=true
 |_=>True
theorem LI {env:Env α}(he:sr P base env)(hm:P.follows .mixedOrders=true){ops:Array Oper}(hd:sL ops=true){n:Nat}{k:List Item}{st:St}{K:Out->St->Option α}{r:α}(h:exec P env n (.zC ops 0 ops.toList []::k) st K=some r):
  ∃m LC,m<n/\exec P env m k LC K=some r/\∀N D w a id Q,kt N D w base st a->(∀N' D' w' a',kt N' D' w' base LC a'->Ext N D w st.h N' D' w' LC.h->Q .normal a' w')->(Code.region id ops true).wp P Q a w:=by
 obtain⟨m,LC,h1,h2,E,S,F,h3,h4,h5,h6⟩:=RA he n 0 ops.toList [] k st K r h (zek _) (by simp)
 have R:lG P base ops E S F:=⟨λj o ho=>h5 j o (zek _) ho,λq j f g hq hf hg=>(h6 j f (zek _) hf).2 q g (zek _) hq hg⟩;refine⟨m,rD LC,h1,h2,λN D w a id Q s hQ=>wp_region_any hm ?_⟩;have vp: ∀j,su (Array.replicate ops.size false) j=false:=λj=>by
  unfold su;rw[zew,Array.getElem?_replicate];split<;>rfl
 have h0:lF E (su (Array.replicate ops.size false)) (S 0) ops.size=st:=by
  rw[h3];have: ∀m,lF E (su (Array.replicate ops.size false)) st m=st:=by
   intro m;induction m with
   |zero=>rfl
   |succ m ih=>simp only[lF,vp];exact ih
  exact this _
 have FK: ∀m,yL (Array.replicate ops.size false) m=m:=by
  intro m;induction m with
  |zero=>rfl
  |succ m ih=>simp[yL,vp,ih]
 have s0:kt N D {w with drawn:=w.drawn+1} base st a:=⟨⟨λi o hi=>nN (s.nr.obj i o hi) (Names.le_refl _) (λ_ h=>h) (λ_ _=>rfl) (λ_ _=>⟨rfl,λh=>h⟩) (λ_ _ _ _=>rfl),s.nr.apart,s.nr.frozen,s.nr.named,s.nr.size,s.nr.iI⟩,λx=>Gc (w:=w) (w':={w with drawn:=w.drawn+1}) (Names.le_refl _) (λ_ h=>h) (λ_ _=>rfl) (s.tmps x),s.nt,s.defers⟩;refine R.any hd ops.size _ ⟨by simp,λj o _ hj=>by rw[vp] at hj;cases hj⟩ (by rw[FK];exact zdz _) N D _ a (by rw[h0];exact s0) λN' D' w' a' s' x'=>?_
 rw[h4] at s' x';rw[h0] at x';exact hQ N' D' w' a' s'.norm ⟨x'.names,x'.frozen,x'.os,x'.tape,x'.output,x'.size,x'.sI,x'.own,x'.Jh,x'.fresh,x'.live,x'.pF⟩
def Item.Yg:Item->Prop
 | .code c=>pz c
 |_=>True
theorem qj {id:Nat}: ∀{k k':List Item},AM.unwind id k=some k'->∀x∈k',x∈k
 | [],_,h=>by simp[AM.unwind] at h
 | .Na i::k,k',h=>by
  simp only[AM.unwind] at h;split at h
  ·cases h;exact λx hx=>zdp _ hx
  ·exact λx hx=>zdp _ (qj h x hx)
 | .code _::k,k',h=>by simp only[AM.unwind] at h;exact λx hx=>zdp _ (qj h x hx)
 | .ops _ _::k,k',h=>by simp only[AM.unwind] at h;exact λx hx=>zdp _ (qj h x hx)
 | .zC _ _ _ _::k,k',h=>by simp only[AM.unwind] at h;exact λx hx=>zdp _ (qj h x hx)
structure Good (fn:Func)(todo:List Item):Prop where
 ok: ∀x∈todo,x.ok fn
 Yg: ∀x∈todo,x.Yg
 clean: ∀x∈todo.tail,x.clean=true
 head: ∀all i rest Dq k,todo≠ .zC all i rest Dq::k
def sv (fn:Func)(k:List Item):Prop:=(∀x∈k,x.ok fn)/\(∀x∈k,x.Yg)/\∀x∈k,x.clean=true
theorem sv.CB {fn:Func}{k:List Item}(h:sv fn k):Good fn k:=
 ⟨h.1,h.2.1,λx hx=>h.2.2 x (List.mem_of_mem_tail hx),λall i rest Dq k' e=>by subst e;have:=h.2.2 _ (zdq ..);simp[Item.clean] at this⟩
theorem sv.cons {fn:Func}{c:Code}{k:List Item}(h:sv fn k)(h1:m7 fn c)(h2:pz c):sv fn (.code c::k):=
 ⟨List.forall_mem_cons.2 ⟨h1,h.1⟩,List.forall_mem_cons.2 ⟨h2,h.2.1⟩,List.forall_mem_cons.2 ⟨rfl,h.2.2⟩⟩
theorem sv.Na {fn:Func}{id:Nat}{k:List Item}(h:sv fn k):sv fn (.Na id::k):=
 ⟨List.forall_mem_cons.2 ⟨trivial,h.1⟩,List.forall_mem_cons.2 ⟨trivial,h.2.1⟩,List.forall_mem_cons.2 ⟨rfl,h.2.2⟩⟩
theorem sv.unwind {fn:Func}{id:Nat}{k k':List Item}(h:sv fn k)(e:AM.unwind id k=some k'):sv fn k':=
 ⟨λx hx=>h.1 x (qj e x hx),λx hx=>h.2.1 x (qj e x hx),λx hx=>h.2.2 x (qj e x hx)⟩
theorem sv.ops {fn:Func}{all:Array Oper}{rest:List Oper}{k:List Item}(h:sv fn k):Good fn (.ops all rest::k):=
 ⟨List.forall_mem_cons.2 ⟨trivial,h.1⟩,List.forall_mem_cons.2 ⟨trivial,h.2.1⟩,h.2.2,λ_ _ _ _ _ e=>by cases e⟩
theorem Good.tail {fn:Func}{x:Item}{k:List Item}(h:Good fn (x::k)):sv fn k:=
 ⟨λy hy=>h.ok y (zdp _ hy),λy hy=>h.Yg y (zdp _ hy),h.clean⟩
theorem DO {env:Env α}(he:sr P base env){fn:Func}(hl:xJ P base fn env)(hm:P.follows .mixedOrders=true): ∀(n:Nat) (todo:List Item) (st:St) (K:Out->St->Option α) (r:α),exec P env n todo st K=some r->Good fn todo->
  ∀N D w a (Q:Exit->Act->World->Prop),kt N D w base st a->(∀out eY,K out eY=some r->∀N' D' w' a',kt N' D' w' base eY a'->Ext N D w st.h N' D' w' eY.h->Q (zX out) a' w')->zar P todo Q a w:=by
 intro n;induction n using Nat.strongRecOn with
 |_ n ih=>
 intro todo st K r h hg N D w a Q s hQ;cases n with
 |zero=>simp[exec] at h
 |succ n=>
 have W6: ∀(id:Nat) (k:List Item) (eY:St),sv fn k->(match AM.unwind id k with|some k'=>exec P env n k' eY K|none=>K (.exit id) eY)=some r->∀N' D' w' a',kt N' D' w' base eY a'->Ext N D w st.h N' D' w' eY.h->pM P k Q (.exit id) a' w':=by
  intro id k eY hk h2 N' D' w' a' s' x';rw[tP];cases hu:AM.unwind id k with
  |some k'=>
   rw[hu] at h2;exact py (hk.unwind hu).2.2 (ih n (zey n) k' eY K r h2 (hk.unwind hu).CB N' D' w' a' Q s' λout LJ hK N2 D2 w2 a2 s2 x2=>hQ out LJ hK N2 D2 w2 a2 s2 (x'.trans x2))
  |none=>
   rw[hu] at h2;exact hQ _ eY h2 N' D' w' a' s' x'
 unfold exec at h;match todo,hg,h with
 | [],hg,h=>exact hQ .norm st h N D w a s (Ext.refl _ _ _ _)
 | .Na id::k,hg,h=>
  have hk:=hg.tail;exact py hk.2.2 (ih n (zey n) k st K r h hk.CB N D w a Q s hQ)
 | .zC all i rest Dq::k,hg,h=>exact absurd rfl (hg.head all i rest Dq k)
 | .ops all rest::k,hg,h=>
  have hk:=hg.tail;intro i hi zY;cases rest with
  |nil=>
   have hlen:all.size-i=0:=by
    have:=congrArg List.length zY;simp at this;omega
   rw[hlen];exact py hk.2.2 (ih n (zey n) k st K r h hk.CB N D w a Q s hQ)
  |cons o rest=>
   have kR:i<all.size:=by
    have:=congrArg List.length zY;simp at this;omega
   have UD:all[i]?=some o:=by
    have h1:(all.toList.drop i)[0]?=some o:=by rw[<-zY];rfl
    rw[zdK] at h1;simpa using h1
   have HT:rest=all.toList.drop (i+1):=by
    have h1:(all.toList.drop i).tail=rest:=by rw[<-zY];rfl
    rw[<-h1,List.tail_drop]
   have hr:List.range' i (all.size-i)=i::List.range' (i+1) (all.size-(i+1)):=by
    rw[show all.size-i=(all.size-(i+1))+1 by omega,List.range'_succ]
   rw[hr];simp only[wpOps,UD];simp only at h;rcases HR (base:=base) h with⟨wG,h1,hf,hw⟩|⟨wG,h1,hf,hw⟩
   ·rw[if_pos (hw N D w a s)]
    left
    obtain⟨av,eY,h2,o1,o2,o3,o4,o5⟩:=xI he h1;refine o5 N D w a (hf.rel _ _ _ _ s) _ _ λN' D' w' v x' s' hv=>?_;have s2:=(hf.rel _ _ _ _ s).put x' s' o1 o2 o.dst hv;refine ih n (zey n) (.ops all rest::k) _ K r h2 hk.ops N' D' w' _ Q s2 (λout LJ hK N2 D2 w2 a2 s3 x2=>?_) (i+1) kR HT;rw[St.BN] at x2;refine hQ out LJ hK N2 D2 w2 a2 s3 ?_;rw[<-hf.h];exact x'.trans x2
   ·have hwf:=hw N D w a s
    rw[if_neg (by rw[hwf];simp)]
    have s1:=hf.rel _ _ _ _ s;have s2:=s1.put (Ext.refl _ _ _ _) s1.nr rfl rfl o.dst (u:= .val Go.undef) (v:=Go.undef) (ee.2 rfl);refine ih n (zey n) (.ops all rest::k) _ K r h1 hk.ops N D w _ Q s2 (λout LJ hK N2 D2 w2 a2 s3 x2=>?_) (i+1) kR HT;rw[St.BN,hf.h] at x2;exact hQ out LJ hK N2 D2 w2 a2 s3 x2
 | .code c::k,hg,h=>
  have hk:=hg.tail;have hc:=hg.ok _ (zdq ..);have RF:=hg.Yg _ (zdq ..);show c.wp P (pM P k Q) a w
  simp only at h;split at h
  ·exact wp_skip (py hk.2.2 (ih n (zey n) k st K r h hk.CB N D w a Q s hQ))
  ·exact wp_label (py hk.2.2 (ih n (zey n) k st K r h hk.CB N D w a Q s hQ))
  ·rename_i x y
   exact wp_seq (ih n (zey n) (.code x:: .code y::k) st K r h ((hk.cons hc.2 RF.2).cons hc.1 RF.1).CB N D w a Q s hQ)
  ·rename_i id ops draw
   split at h
   ·refine wp_region ?_
    have:=ih n (zey n) (.ops ops ops.toList::k) {st with ep:=st.ep+1} K r h hk.ops N D w a Q (s.WZ _) hQ 0 (zek _) (by simp)
    rwa [Nat.sub_zero,<-List.range_eq_range'] at this
   ·obtain⟨m,LC,h1,h2,h3⟩:=LI he hm (RF rfl) h
    refine h3 N D w a id _ (s.WZ _) λN' D' w' a' s' x'=>?_;exact py hk.2.2 (ih m (Nat.lt_succ_of_lt h1) k LC K r h2 hk.CB N' D' w' a' Q s' λout LJ hK N2 D2 w2 a2 s3 x2=>hQ out LJ hK N2 D2 w2 a2 s3 (x'.trans x2))
  ·rename_i c' x y
   split at h
   ·rename_i b hb
    have hev:=s.sJ hb;cases b with
    |true=>exact wp_cond_true hev (ih n (zey n) (.code x::k) st K r h (hk.cons hc.1 RF.1).CB N D w a Q s hQ)
    |false=>exact wp_cond_false hev (ih n (zey n) (.code y::k) st K r h (hk.cons hc.2 RF.2).CB N D w a Q s hQ)
   ·rename_i hb
    split at h
    ·rename_i heq
     have heq:=kN.1 heq;have hv:=s.uj hb;unfold cq at hv;simp only[AV.isAgg,jw,an] at hv;obtain⟨b,hv⟩:=hv;simp only[zdj] at hv;cases b with
     |true=>exact wp_cond_true hv (ih n (zey n) (.code x::k) st K r h (hk.cons hc.1 RF.1).CB N D w a Q s hQ)
     |false=>exact wp_cond_false hv (ih n (zey n) (.code y::k) st K r (heq▸h) (hk.cons hc.2 RF.2).CB N D w a Q s hQ)
    ·cases h
   ·cases h
  ·rename_i id c'
   exact wp_block (ih n (zey n) (.code c':: .Na id::k) st K r h (sv.cons (c:=c') (sv.Na (id:=id) hk) hc RF).CB N D w a Q s hQ)
  ·rename_i id
   exact wp_exit (W6 id k st hk h N D w a s (Ext.refl _ _ _ _))
  ·refine wp_ret ?_
   rw[tv];exact hQ .ret st h N D w a s (Ext.refl _ _ _ _)
  ·rename_i c'
   split at h
   ·rename_i id pF
    obtain⟨out,eY,h1,h2⟩:=hl _ _ _ _ h;have hla:=hc.1 id pF;have:=h2 N D w a s;rw[hla] at this;refine wp_mono this λe a' w' hq=>?_;obtain⟨rfl,N',D',s',x'⟩:=hq;split at h1
    ·cases h1
    ·show pM P k Q .ret a' w'
     rw[tv];exact hQ .ret eY h1 N' D' w' a' s' x'
    ·rename_i QK
     exact W6 QK k eY hk h1 N' D' w' a' s' x'
   ·cases h
  ·cases h
end AM
namespace AM
open Go
variable {α:Type}{P:Program}{base:Nat}
def Sh.isAgg:Sh->Bool
 | .one=>false
 |_=>true
theorem zZ (v:AV):v.isAgg=v.sh.isAgg:=by cases v<;>simp[AV.isAgg,AV.sh,Sh.isAgg]
theorem C4 {N N':Names}{D D':Nat->Prop}{w w':World}{v v':AV}{c:Value}(hs:v'.sh=v.sh)(h:cq N D w v c)(hr: ∀g,an N D w v g->an N' D' w' v' g):cq N' D' w' v' c:=by
 unfold cq at*;rw[zZ v',hs,<-zZ v,<-kO v',hs,kO v];exact xm hr h
def kq.le (b b':kq):Prop:= ∀c g,b.get c=some g->b'.get c=some g
theorem kq.le_refl (b:kq):b.le b:=λ_ _ h=>h
theorem kq.le_trans {b b' UE:kq}(h1:b.le b')(h2:b'.le UE):b.le UE:=λc g h=>h2 c g (h1 c g h)
theorem kq.tQ {b b':kq}{c:Nat}{g:wP}(h:b.add c g=some b'):b.le b'/\b'.get c=some g:=by
 unfold kq.add at h;split at h
 ·rename_i hn
  cases h;refine⟨λc' g' h'=>?_,by simp[kq.get]⟩
  by_cases e:c=c'
  ·subst e;rw[hn] at h';cases h'
  ·simp[kq.get,e,h']
 ·rename_i i j hi
  split at h
  ·rename_i e
   cases h;subst e;exact⟨kq.le_refl _,hi⟩
  ·cases h
 ·rename_i i j hi
  split at h
  ·rename_i e
   cases h;subst e;exact⟨kq.le_refl _,hi⟩
  ·cases h
 ·cases h
def Nm.shift (off:Nat)(nm:Nm):Nm:={nm with base:=nm.base.map (Addr.at_ · (min off nm.cap*nm.sh.size)),len:=nm.len-off,cap:=nm.cap-off}
def Nm.cut (off len:Nat)(nm:Nm):Nm:={nm.shift off with len:=min len (nm.len-off)}
def lz (N:Names)(b:kq)(Nc:Names)(c:Nat):Prop:=match b.get c with
 |some (.at_ i)=>Nc c=N i
 |some (.tl i off)=>Nc c=(N i).map (Nm.shift off)
 |some (.sl i off len)=>Nc c=(N i).map (Nm.cut off len)
 |some .nil=> ∃nm,Nc c=some nm/\nm.row=true/\nm.len=0/\nm.cap=0/\nm.base=none
 |none=>True
theorem lz.at_ {N:Names}{b:kq}{Nc:Names}{c i:Nat}(h:lz N b Nc c)(e:b.get c=some (.at_ i)):Nc c=N i:=by unfold lz at h;rw[e] at h;exact h
theorem lz.tl {N:Names}{b:kq}{Nc:Names}{c i off:Nat}(h:lz N b Nc c)(e:b.get c=some (.tl i off)):Nc c=(N i).map (Nm.shift off):=by unfold lz at h;rw[e] at h;exact h
theorem lz.sl {N:Names}{b:kq}{Nc:Names}{c i off len:Nat}(h:lz N b Nc c)(e:b.get c=some (.sl i off len)):Nc c=(N i).map (Nm.cut off len):=by unfold lz at h;rw[e] at h;exact h
theorem lz.nil {N:Names}{b:kq}{Nc:Names}{c:Nat}(h:lz N b Nc c)(e:b.get c=some .nil): ∃nm,Nc c=some nm/\nm.row=true/\nm.len=0/\nm.cap=0/\nm.base=none:=by unfold lz at h;rw[e] at h;exact h
theorem lz.mono {N:Names}{b b':kq}{Nc:Names}{c:Nat}(h:lz N b' Nc c)(hl:b.le b'):lz N b Nc c:=by
 unfold lz;split
 ·rename_i i e;exact h.at_ (hl _ _ e)
 ·rename_i i off e;exact h.tl (hl _ _ e)
 ·rename_i i off len e;exact h.sl (hl _ _ e)
 ·rename_i e;exact h.nil (hl _ _ e)
 ·trivial
theorem HZ {s:St}: ∀(t:Ty) (v:AV) (k:t.den->List Nat->Option α) (r:α),qG s t v k=some r->v.sh=rX t
 | .int k',v,k,r,h=>by
  unfold qG at h;split at h
  ·simp[AV.sh,rX]
  ·cases h
 | .bool,v,k,r,h=>by
  unfold qG at h;split at h
  ·simp[AV.sh,rX]
  ·cases h
 | .str,v,k,r,h=>by
  unfold qG at h;split at h
  ·simp[AV.sh,rX]
  ·cases h
 | .nil,v,k,r,h=>by
  unfold qG at h;split at h
  ·simp[AV.sh,AV.xc,rX]
  ·cases h
 | .cons a b,v,k,r,h=>by
  unfold qG at h;split at h
  ·rename_i x l
   have h1:=HZ a x _ r h;obtain⟨_,y,ids,h2,_⟩:=mF a x _ r h;have h3:=HZ b (.agg l) _ r h2;simp only[AV.sh] at h3;simp only[AV.sh,AV.xc,rX,<-h3,h1]
  ·cases h
 | .arr n t,v,k,r,h=>by
  unfold qG at h;split at h
  ·rename_i n' t' xs
   split at h
   ·rename_i e
    subst e;split at h
    ·rename_i ys hc
     obtain⟨rfl,_⟩:=iK hc;simp[AV.sh,rX]
    ·cases h
   ·cases h
  ·cases h
 | .deep t,v,k,r,h=>by
  unfold qG KW at h;split at h
  ·simp[AV.sh,rX]
  obtain⟨h1,h2,h3⟩:=zH h;have:=zZ v;rw[h1] at this;cases hv:v.sh with
  |one=>simp[rX]
  |agg l=>rw[hv] at this;simp[Sh.isAgg] at this
  |arr n e=>rw[hv] at this;simp[Sh.isAgg] at this
 | .ref _,v,k,r,h=>by
  unfold qG at h;split at h
  ·split at h
   ·simp[AV.sh,rX]
   ·cases h
  ·simp[AV.sh,rX]
  ·cases h
theorem zaa {ad:Addr}{len room W7:Nat}{v:Value}(h:Ht ad len room v)(e:room=W7):Ht ad len W7 v:=e▸h
theorem NC (a:Addr)(n m:Nat):Addr.at_ (Addr.at_ a n) m=Addr.at_ a (n+m):=by simp[Addr.at_,zdy]
theorem UF {f g:Fn}(h:XM f g=true):f=g:=by
 cases f<;>cases g<;>simp[XM] at h
 subst h;rfl
theorem sN: ∀(p:List om) (q:List Step) (k:om.wO p->Option α) (f:Option α) (r:α),nC p q k f=some r->f=some r\/∃d,k d=some r/\om.mk p d=q
 | [],[],k,f,r,h=> .inr ⟨(),h,rfl⟩
 | [],_::_,k,f,r,h=>by unfold nC at h;exact .inl h
 | .im n::p,[],k,f,r,h=>by unfold nC at h;exact .inl h
 | .im n::p, .im m::q,k,f,r,h=>by
  unfold nC at h;split at h
  ·rename_i e
   simp only[zdr] at e;subst e;rcases sN p q k f r h with h1|⟨d,h1,h2⟩
   ·exact .inl h1
   ·exact .inr ⟨d,h1,by simp only[om.mk,h2]⟩
  ·exact .inl h
 | .im n::p, .idx i::q,k,f,r,h=>by unfold nC at h;exact .inl h
 | .idx::p,[],k,f,r,h=>by unfold nC at h;exact .inl h
 | .idx::p, .im m::q,k,f,r,h=>by unfold nC at h;exact .inl h
 | .idx::p, .idx i::q,k,f,r,h=>by
  unfold nC at h;rcases sN p q _ f r h with h1|⟨d,h1,h2⟩
  ·exact .inl h1
  ·exact .inr ⟨(i,d),h1,by simp only[om.mk,h2]⟩
def Fits (s:St)(v:AV)(b':kq)(i:List Nat)(cs ks:List Nat)(u:AV):Prop:=
 u.sh=v.sh/\∀N D w base,jV N D w base s.h->∀Nc D',mi ks N Nc->(∀c∈cs,lz N b' Nc c)->(∀b,D b->D' b)->lr N D' i->∀g,an N D w v g->an Nc D' w u g
mutual
theorem qZ {s:St}: ∀(p:cj) (v:AV) (b:kq) (k:p.den->List Nat->kq->Option α) (f:Option α) (r:α),oK s p v b k f=some r->
  f=some r\/∃x i b',k x i b'=some r/\b.le b'/\Fits s v b' i p.cs p.ks (p.mk (λc=>c) x)
 | .hole t,v,b,k,f,r,h=>by
  unfold oK zaf at h;split at h
  ·right
   obtain⟨_,x,ids,h1,h2⟩:=mF t v _ r h;refine⟨x,ids,b,h1,kq.le_refl _,?_,λN D w base S Nc D' hE _ hD hF g hg=>?_⟩
   ·simp only[cj.mk];rw[rE,HZ t v _ r h]
   ·simp only[cj.mk]
    exact(kK t x g).2 (kr (λ_ h=>h) (λ_ _=>rfl) t x g (by simpa only[cj.ks] using hE) (h2 N D w base S g hg D' hD hF))
  ·exact .inl h
 | .uZ t,v,b,k,f,r,h=>by
  unfold oK at h;split at h
  ·rename_i i p
   right
   obtain⟨u,h1,yw,qH⟩:=px h;obtain⟨_,x,ids,h2,h3⟩:=mF t u _ r h1;refine⟨x,i::ids,b,h2,kq.le_refl _,by simp only[cj.mk,AV.sh],λN D w base S Nc D' hE _ hD hF g hg=>?_⟩
   simp only[cj.mk,an] at hg⊢;obtain⟨nm,a,o,g1,g2,g3,g4⟩:=hg;obtain⟨g5,g6,_⟩:=qH N D w base S nm a o g1 g2 g3;refine⟨Addr.at_ a o,g4,rfl,hF i (by simp) nm a g1 g2,(kK t x _).2 ?_⟩
   have:=h3 N D w base S _ g6 D' hD (λq hq=>hF q (zdp _ hq));exact kr (λ_ h=>h) (λ_ _=>rfl) _ _ _ (by simpa only[cj.ks] using hE) (ji _ _ _ _ (λj _=>by simp only[aV,Addr.at_,zdy]) this)
  ·rename_i u
   right
   obtain⟨_,x,ids,h2,h3⟩:=mF t u _ r h;refine⟨x,ids,b,h2,kq.le_refl _,by simp only[cj.mk,AV.sh],λN D w base S Nc D' hE _ hD hF g hg=>?_⟩
   simp only[cj.mk,an] at hg⊢;obtain⟨a,g1,g2,g3,g4⟩:=hg;exact⟨a,g1,g2,hD _ g3,(kK t x _).2 (kr (λ_ h=>h) (λ_ _=>rfl) t x _ (by simpa only[cj.ks] using hE) (h3 N D w base S _ g4 D' hD hF))⟩
  ·exact .inl h
 | .const c,v,b,k,f,r,h=>by
  unfold oK at h;split at h
  ·rename_i v'
   split at h
   ·rename_i hv
    right
    have:=Rk hv;subst this;exact⟨(),[],b,h,kq.le_refl _,rfl,λN D w base S Nc D' hE _ _ _ g hg=>by simpa only[cj.mk,an] using hg⟩
   ·exact .inl h
  ·exact .inl h
 | .ptr c,v,b,k,f,r,h=>by
  unfold oK at h;split at h
  ·rename_i i
   split at h
   ·rename_i b' hb
    right
    obtain⟨h1,h2⟩:=kq.tQ hb;refine⟨(),[],b',h,h1,rfl,λN D w base S Nc D' hE hR _ _ g hg=>?_⟩;simp only[cj.mk,an] at hg⊢;obtain⟨nm,a,o,g1,g2⟩:=hg;exact⟨nm,a,o,by rw[(hR c (by simp[cj.cs])).at_ h2];exact g1,g2⟩
   ·exact .inl h
  ·exact .inl h
 | .own c,v,b,k,f,r,h=>by
  unfold oK at h;split at h
  ·rename_i i off
   split at h
   ·rename_i b' hb
    right
    obtain⟨h1,h2⟩:=kq.tQ hb;refine⟨(),[],b',h,h1,rfl,λN D w base S Nc D' hE hR _ _ g hg=>?_⟩;simp only[cj.mk,an] at hg⊢;obtain⟨nm,g1,g2,g3,g4,g5⟩:=hg;refine⟨nm.shift off,by rw[(hR c (by simp[cj.cs])).tl h2,g1];rfl,g2,zek _,by simp only[Nm.shift];omega,?_⟩
    cases pG:nm.base with
    |none=>
     rw[pG] at g5;simp only[Nm.shift,pG,zeh];exact⟨by rw[g5.1];exact Nat.zero_sub _,g5.2⟩
    |some a=>
     rw[pG] at g5;simp only[Nm.shift,pG,zds];obtain⟨u,room,g6,g7,g8⟩:=g5;refine⟨u,room,g6,by omega,?_⟩
     rw[NC,zeg (zdA g3 g4)];simpa using g8
   ·exact .inl h
  ·split at h
   ·rename_i b' hb
    right
    obtain⟨h1,h2⟩:=kq.tQ hb;refine⟨(),[],b',h,h1,rfl,λN D w base S Nc D' hE hR _ _ g hg=>?_⟩;simp only[cj.mk,an] at hg⊢;obtain⟨nm,g1,g2,g3,g4,g5⟩:=(hR c (by simp[cj.cs])).nil h2
    refine⟨nm,g1,g2,zek _,by omega,?_⟩
    rw[g5];exact⟨g3,hg⟩
   ·exact .inl h
  ·split at h
   ·rename_i i off len _ mE
    split at h
    ·rename_i b' hb
     right
     obtain⟨h1,h2⟩:=kq.tQ hb;refine⟨(),[],b',h,h1,rfl,λN D w base S Nc D' hE hR _ _ g hg=>?_⟩;simp only[cj.mk,an] at hg⊢;obtain⟨nm,g1,g2⟩:=hg;have hr:nm.row=true:=by
      unfold zy at mE;split at mE
      ·rename_i ho
       obtain⟨mD,e1,e2,_⟩:=S.obj i _ ho;rw[g1] at e1;cases e1;exact e2
      ·cases mE
     refine⟨nm.cut off len,by rw[(hR c (by simp[cj.cs])).sl h2,g1];rfl,hr,zek _,?_,?_⟩
     ·cases pG:nm.base with
      |none=>rw[pG] at g2;simp only[Nm.cut,Nm.shift];omega
      |some a=>
       rw[pG] at g2;simp only[hr,List.isEmpty_nil,zez,if_true] at g2;simp only[Nm.cut,Nm.shift];omega
     cases pG:nm.base with
     |none=>
      rw[pG] at g2;simp only[Nm.cut,Nm.shift,pG,zeh];obtain⟨_,_,g3,_,g4⟩:=g2;subst g3;exact⟨by omega,g4⟩
     |some a=>
      rw[pG] at g2;simp only[hr,List.isEmpty_nil,zez,if_true] at g2;obtain⟨g3,g4,u,room,g5,g6,g7,g8⟩:=g2;simp only[Nm.cut,Nm.shift,pG,zds];refine⟨u,room,g5,by omega,?_⟩
      rw[NC,zeg (show off<=nm.cap by omega),zeg (show len<=nm.len-off by omega)]
      simpa using g8
    ·exact .inl h
   ·exact .inl h
  ·exact .inl h
 | .Fw c,v,b,k,f,r,h=>by
  unfold oK at h;split at h
  ·rename_i i off len
   split at h
   ·rename_i h0
    simp only[zdr] at h0;subst h0;split at h
    ·rename_i b' hb
     right
     obtain⟨h1,h2⟩:=kq.tQ hb;refine⟨len,[],b',h,h1,rfl,λN D w base S Nc D' hE hR _ _ g hg=>?_⟩;simp only[cj.mk,an] at hg⊢;obtain⟨nm,g1,g2⟩:=hg;refine⟨nm.shift 0,by rw[(hR c (by simp[cj.cs])).tl h2,g1];rfl,?_⟩
     cases pG:nm.base with
     |none=>
      rw[pG] at g2;simp only[Nm.shift,pG,zeh];exact g2
     |some a=>
      rw[pG] at g2;simp only[Nm.shift,pG,zds];simp only at g2;split at g2
      ·rename_i mE
       rw[if_pos mE];obtain⟨g3,g4,u,room,g5,g6,g7,g8⟩:=g2;exact⟨g3,g4,u,room,g5,g6,g7,by rw[NC];simpa using g8⟩
      ·rename_i mE
       rw[if_neg mE];obtain⟨o,n,e,u,room,g3,g4,g5,g6,g7,g8⟩:=g2;exact⟨o,n,e,u,room,g3,g4,g5,g6,g7,by rw[NC];simpa using g8⟩
    ·exact .inl h
   ·exact .inl h
  ·exact .inl h
 | .agg ps,v,b,k,f,r,h=>by
  unfold oK at h;split at h
  ·rename_i vs
   rcases uL ps vs b k f r h with h1|⟨x,i,b',h1,h2,h3,h4⟩
   ·exact .inl h1
   ·right
    refine⟨x,i,b',h1,h2,by simp only[cj.mk,AV.sh,h3],λN D w base S Nc D' hE hR hD hF g hg=>?_⟩
    simp only[cj.mk,an] at hg⊢;exact(h4 N D w base S Nc D' (by simpa [cj.ks] using hE) (by simpa [cj.cs] using hR) hD hF).1 g hg
  ·exact .inl h
 | .kc c p,v,b,k,f,r,h=>by
  unfold oK at h;split at h
  ·rename_i i q
   rcases sN p q _ f r h with h1|⟨d,hd,hq⟩
   ·exact .inl h1
   ·split at hd
    ·rename_i b' hb
     right
     obtain⟨h1,h2⟩:=kq.tQ hb;refine⟨d,[],b',hd,h1,rfl,λN D w base S Nc D' hE hR _ _ g hg=>?_⟩;simp only[cj.mk,an] at hg⊢;obtain⟨nm,a,o,g1,g2⟩:=hg;exact⟨nm,a,o,by rw[(hR c (by simp[cj.cs])).at_ h2];exact g1,by rw[hq];exact g2⟩
    ·exact .inl hd
  ·exact .inl h
 | .wN fn ps,v,b,k,f,r,h=>by
  unfold oK at h;split at h
  ·rename_i fn' vs
   split at h
   ·rename_i hfn
    have hfn:=UF hfn;subst hfn;rcases uL ps vs b k f r h with h1|⟨x,i,b',h1,h2,h3,h4⟩
    ·exact .inl h1
    ·right
     refine⟨x,i,b',h1,h2,by simp only[cj.mk,AV.sh],λN D w base S Nc D' hE hR hD hF g hg=>?_⟩
     simp only[cj.mk,an] at hg⊢;obtain⟨cs,g1,g2⟩:=hg;exact⟨cs,g1,(h4 N D w base S Nc D' (by simpa [cj.ks] using hE) (by simpa [cj.cs] using hR) hD hF).2 _ g2⟩
   ·exact .inl h
  ·exact .inl h
 | .ue c n,v,b,k,f,r,h=>by
  unfold oK at h;split at h
  ·rename_i i m
   split at h
   ·rename_i hn
    simp only[zdr] at hn;subst hn;split at h
    ·rename_i b' hb
     right
     obtain⟨h1,h2⟩:=kq.tQ hb;refine⟨(),[],b',h,h1,rfl,λN D w base S Nc D' hE hR _ _ g hg=>?_⟩;simp only[cj.mk,an] at hg⊢;obtain⟨nm,a,g1,g2⟩:=hg;exact⟨nm,a,by rw[(hR c (by simp[cj.cs])).at_ h2];exact g1,g2⟩
    ·exact .inl h
   ·exact .inl h
  ·exact .inl h
 | .skip,v,b,k,f,r,h=>by
  unfold oK at h;split at h
  ·rename_i yw
   right
   exact⟨(),[],b,h,kq.le_refl _,by simp only[cj.mk,AV.sh];exact yw.symm,λN D w base S Nc D' hE _ _ _ g hg=>by simp only[cj.mk,an]⟩
  ·exact .inl h
 | .I8 p,v,b,k,f,r,h=>by
  unfold oK at h;split at h
  ·rename_i i q
   obtain⟨u,h1,yw,qH⟩:=px h;rcases qZ p u b _ f r h1 with h2|⟨x,ids,b',h2,h3,h4,h5⟩
   ·exact .inl h2
   ·right
    refine⟨x,i::ids,b',h2,h3,by simp only[cj.mk,AV.sh],λN D w base S Nc D' hE hR hD hF g hg=>?_⟩
    simp only[cj.mk,an] at hg⊢;obtain⟨nm,a,o,g1,g2,g3,g4⟩:=hg;obtain⟨g5,g6,_⟩:=qH N D w base S nm a o g1 g2 g3;refine⟨Addr.at_ a o,g4,rfl,hF i (by simp) nm a g1 g2,?_⟩
    have:=h5 N D w base S Nc D' (by simpa only[cj.ks] using hE) (by simpa only[cj.cs] using hR) hD (λq hq=>hF q (zdp _ hq)) _ g6
    exact jP _ _ _ (λj _=>by simp only[aV,Addr.at_,zdy]) this
  ·rename_i u
   rcases qZ p u b k f r h with h2|⟨x,ids,b',h2,h3,h4,h5⟩
   ·exact .inl h2
   ·right
    refine⟨x,ids,b',h2,h3,by simp only[cj.mk,AV.sh],λN D w base S Nc D' hE hR hD hF g hg=>?_⟩
    simp only[cj.mk,an] at hg⊢;obtain⟨a,g1,g2,g3,g4⟩:=hg;exact⟨a,g1,g2,hD _ g3,h5 N D w base S Nc D' (by simpa only[cj.ks] using hE) (by simpa only[cj.cs] using hR) hD hF _ g4⟩
  ·exact .inl h
theorem uL {s:St}: ∀(ps:List cj) (vs:List AV) (b:kq) (k:cj.wO ps->List Nat->kq->Option α) (f:Option α) (r:α),uv s ps vs b k f=some r->
  f=some r\/∃x i b',k x i b'=some r/\b.le b'/\AV.xc (cj.qL (λc=>c) ps x)=AV.xc vs/\∀N D w base,jV N D w base s.h->∀Nc D',mi (cj.Q5 ps) N Nc->(∀c∈cj.Uv ps,lz N b' Nc c)->(∀b,D b->D' b)->lr N D' i->(∀g,ff N D w vs g->ff Nc D' w (cj.qL (λc=>c) ps x) g)/\∀cs,bA N D w vs cs->bA Nc D' w (cj.qL (λc=>c) ps x) cs
 | [],[],b,k,f,r,h=>by
  unfold uv at h;exact .inr ⟨(),[],b,h,kq.le_refl _,rfl,λN D w base S Nc D' hE _ _ _=>⟨λg _=>by simp only[cj.qL,ff],λcs hc=>by simpa only[cj.qL,bA] using hc⟩⟩
 |p::ps,v::vs,b,k,f,r,h=>by
  unfold uv at h;rcases qZ p v b _ f r h with h1|⟨x,i,b',h1,h2,h3,h4⟩
  ·exact .inl h1
  ·rcases uL ps vs b' _ f r h1 with h5|⟨y,j,UE,h5,h6,h7,h8⟩
   ·exact .inl h5
   ·right
    refine⟨(x,y),i++j,UE,h5,kq.le_trans h2 h6,by simp only[cj.qL,AV.xc,h3,h7],λN D w base S Nc D' hE hR hD hF=>?_⟩
    simp only[cj.Q5] at hE;have a1:=h4 N D w base S Nc D' hE.left (λc hc=>(hR c (by simp[cj.Uv,hc])).mono h6) hD hF.left
    obtain⟨a2,a3⟩:=h8 N D w base S Nc D' hE.right (λc hc=>hR c (by simp[cj.Uv,hc])) hD hF.right
    have hsz:(p.mk (λc=>c) x).size=v.size:=by rw[<-kO,h3,kO]
    refine⟨λg hg=>?_,λcs hc=>?_⟩
    ·simp only[cj.qL,ff] at hg⊢
     refine⟨a1 g hg.1,?_⟩;rw[hsz];exact a2 _ hg.2
    ·simp only[cj.qL,bA] at hc⊢
     obtain⟨c,tq,e1,e2,e3⟩:=hc;exact⟨c,tq,e1,C4 (v:=v) h3 e2 a1,a3 _ e3⟩
 | [],_::_,b,k,f,r,h=>by unfold uv at h;exact .inl h
 |_::_,[],b,k,f,r,h=>by unfold uv at h;exact .inl h
end
end AM
namespace AM
open Go
variable {α:Type}{P:Program}{base:Nat}
def aH.sh:aH->Sh
 | .row t=>rX t
 |_=> .one
def aH.isVar:aH->Bool
 | .var _=>true
 |_=>false
theorem fM {l:List (Nat×aH)}{x:Nat}:cY l x=true↔∃e∈l,e.1=x/\e.2.mU=true:=by
 unfold cY;rw[List.any_eq_true];constructor
 ·rintro⟨e,he,h⟩
  rw[zdl] at h;refine⟨e,he,by simpa using h.1,?_⟩
  have h2:=h.2;unfold aH.mU;exact h2
 ·rintro⟨e,he,h1,h2⟩
  refine⟨e,he,?_⟩;rw[zdl];exact⟨by simpa using h1,h2⟩
theorem C5 {b:kq}{c:Nat}(h: ¬SB<=c):b.look c=b.get c:=by unfold kq.look;rw[decide_eq_false h]
theorem uB {b:kq}{c:Nat}(h:SB<=c):b.look c=some (.at_ c):=by unfold kq.look;rw[decide_eq_true h]
theorem ND {b b':kq}(h:b.le b'){c:Nat}{g:wP}(e:b.look c=some g):b'.look c=some g:=by
 by_cases hc:SB<=c
 ·rw[uB hc] at e⊢;exact e
 ·rw[C5 hc] at e⊢;exact h _ _ e
def xL (N:Names)(g:Option wP)(p:aH):Option Nm:=match p.mU with
 |true=>none
 |false=>match g with
  |some (.at_ i)=>N i
  |some (.tl i off)=>(N i).map (Nm.shift off)
  |some (.sl i off len)=>(N i).map (Nm.cut off len)
  |some .nil=>some ⟨none,p.sh,true,0,0⟩
  |none=>none
def sO (N:Names)(b:kq):List (Nat×aH)->Nat->Option Nm
 | []=>λ_=>none
 |o::os=>λc=>if c=o.1 then xL N (b.look o.1) o.2 else sO N b os c
def iY (N:Names)(b:kq)(l:List (Nat×aH)):Names:=⟨λp=>match p with| []=>sO N b l|(g,k)::p=>if cY l (SB+g)=true then N.at_ ((g,k)::p) else λ_=>none⟩
theorem zab (N:Names)(b:kq)(l:List (Nat×aH))(c:Nat):iY N b l c=sO N b l c:=rfl
theorem vq {N:Names}{b:kq}{l:List (Nat×aH)}{g:Nat}(h:cY l (SB+g)=true)(k:Nat):(iY N b l).sub g k=N.sub g k:=by
 unfold Names.sub iY;simp only[h,if_true]
theorem zf {N:Names}{b:kq}{l:List (Nat×aH)}{g:Nat}(h:cY l (SB+g)=false)(k:Nat):(iY N b l).sub g k=Names.nil:=by
 unfold Names.sub iY Names.nil;simp only[h,zdk,if_false]
theorem z5 {s:St}: ∀(l:List (Nat×cj)) (b:kq) (k:wD l->List Nat->kq->Option α) (f:Option α) (r:α),Hp s l b k f=some r->
  f=some r\/∃x i b',k x i b'=some r/\b.le b'/\∀N D w base,jV N D w base s.h->∀Nc D',mi (Du l) N Nc->(∀c∈AU l,lz N b' Nc c)->(∀b,D b->D' b)->lr N D' i->∀y c,cq N D w (s.t y) c->cq Nc D' w (yX (λc=>c) l x y) c
 | [],b,k,f,r,h=> .inr ⟨(),[],b,h,kq.le_refl _,λN D w base S Nc D' _ _ _ _ y c _=>by simp only[yX];exact oY⟩
 |o::os,b,k,f,r,h=>by
  unfold Hp at h;rcases qZ o.2 (s.t o.1) b _ f r h with h1|⟨x,i,b',h1,h2,h3,h4⟩
  ·exact .inl h1
  ·rcases z5 os b' _ f r h1 with h5|⟨y,j,UE,h5,h6,h7⟩
   ·exact .inl h5
   ·right
    refine⟨(x,y),i++j,UE,h5,kq.le_trans h2 h6,λN D w base S Nc D' hE hR hD hF z c hc=>?_⟩;have hE:mi (o.2.ks++Du os) N Nc:=by simpa only[Du,zd0] using hE
    simp only[yX];by_cases e:z=o.1
    ·rw[if_pos e]
     subst e;exact C4 h3 hc λg hg=>h4 N D w base S Nc D' hE.left (λc hc=>(hR c (by simp[AU,hc])).mono h6) hD hF.left g hg
    ·rw[if_neg e]
     exact h7 N D w base S Nc D' hE.right (λc hc=>hR c (by simp only[AU,zd0,zeA] at hc⊢;exact .inr hc)) hD hF.right z c hc
def fP.own:fP->Bool
 | .store _ _=>true
 |o=>o.rw
def UG (s:St)(p:aH)(g:wP):Prop:= ∀i∈g.ids,(∃o,s.h i=some o/\o.own=true/\(p.mU=false->o.rw=true))\/p.mU=true/\iI (s.h i)=true
def NF (s:St)(N:Names)(D:Nat->Prop)(l:List Nat):Prop:= ∀i∈l,∀o b,s.h i=some o->iQ N i o b->¬D b
theorem DP {e e':List (Nat×aH)}{xs:List (cP e)}{ys:List (cP e')}(h:Nf e e' xs=some ys): ∃q:e=e',ys=q▸xs:=by
 unfold Nf at h;split at h
 ·rename_i hb
  simp only[zdj] at h;exact⟨CY hb,h.symm⟩
 ·cases h
theorem Gq {N Nc:Names}{D D':Nat->Prop}{w:World}{t:Ty}{xs:List t.den}{i c off len:Nat}{nm mD:Nm}(e1:N i=some nm)(h:nE N D w base i false t xs)(hc:Nc c=some mD)(hb:mD.base=(nm.shift off).base)(hs:mD.sh=nm.sh)(hr:mD.row=nm.row)(hl:mD.len=len)(FC:mD.cap=nm.cap-off)
  (hle:len<=nm.len-off) (hK:mi t.ks N Nc) (hD: ∀b,D b->D' b) (hnd: ∀a,nm.base=some a->¬D' a.block):nE Nc D' w base c false t ((xs.drop off).take len:List t.den):=by
 obtain⟨WQ,f1,e2,e3,e4,e5,e6⟩:=h;rw[e1] at f1;cases f1;have hlen:aO (β:=t.den) ((xs.drop off).take len)=len:=by simp only[aO,zdH,zdI];simp only[aO] at e4;omega
 refine⟨mD,hc,by rw[hr];exact e2,by rw[hs];exact e3,by rw[hl];exact hlen.symm,by rw[hl,FC];omega,?_⟩
 cases uX:nm.base with
 |none=>
  rw[uX] at e6;rw[hb];simp only[Nm.shift,uX,zeh];omega
 |some a=>
  rw[uX] at e6;rw[hb];simp only[Nm.shift,uX,zds];obtain⟨f1,⟨cc,ty,fz,f2,f3,f4⟩,f5,f6⟩:=e6;simp only[zdk,if_false] at f5⊢;have hsz:nm.sh.size=t.size:=by rw[e3,iJ]
  refine⟨rfl,⟨cc,ty,fz,f2,?_,λ_=>f4 rfl⟩,⟨f5.1,hnd a uX⟩,λj x hx=>?_⟩
  ·have h1:min off nm.cap*nm.sh.size+(nm.cap-off)*t.size=nm.cap*t.size:=by
    rw[hsz,<-zdx];congr 1;omega
   rw[FC];simp only[Addr.at_];omega
  ·have hx2:((xs.drop off).take len)[j]?=some x:=hx
   rw[zdJ] at hx2;split at hx2
   ·rename_i hj
    rw[zdK] at hx2;have BP:jU (β:=t.den) xs (off+j)=some x:=hx2;have kR:=yh BP;have Yc:min off nm.cap=off:=by omega
    refine iq.func (kr hD (λ_ _=>rfl) _ _ _ hK (f6 _ _ BP)) λm=>?_;simp only[aV,Addr.at_];congr 2
    rw[Yc,hsz,zdx];omega
   ·cases hx2
theorem H0 {s:St}{f:Option α}(p:aH)(g:wP)(b:kq)(k:p.den->List Nat->kq->Option α)(r:α)(h:K2 s f p g b k=some r):
  f=some r\/∃x i b',k x i b'=some r/\b.le b'/\UG s p g/\(p.isVar=true->∃i,g= .at_ i)/\(∀ep ys,p.mk (λc=>c) x= .store ep ys->∃i,g= .at_ i/\SB<=i/\(s.h i=some (.store ep ys)\/iI (s.h i)=true/\ys=[]))/\
   ∀N D w base,jV N D w base s.h->∀Nc D' c,mi p.ks N Nc->(∀c∈p.cs,lz N b' Nc c)->(∀b,D b->D' b)->lr N D' i->NF s N D' g.ids->(p.mU=false->Nc c=xL N (some g) p)->(p.mU=true->g= .at_ c/\∀k,Nc.sub (c-SB) k=N.sub (c-SB) k)->qu Nc D' w base c (p.mk (λc=>c) x):=by
 unfold K2 at h;split at h
 ·rename_i p i k
  split at h
  ·rename_i v hv
   rcases qZ p v b _ f r h with h1|⟨x,j,b',h1,h2,h3,h4⟩
   ·exact .inl h1
   ·refine .inr ⟨x,j,b',h1,h2,λi' nA=>?_,λ_=>⟨i,rfl⟩,λep ys e=>by simp[aH.mk] at e,λN D w base S Nc D' c hE hR hD hF hN hc _=>?_⟩
    ·simp only[wP.ids,zeB] at nA
     subst nA;exact .inl ⟨_,hv,rfl,λ_=>rfl⟩
    ·obtain⟨nm,a,e1,e2,e3,e4,e5,e6,e7,e8,⟨cc,ty,e9,ye⟩,Nn⟩:=S.obj i _ hv
     have hc:Nc c=N i:=hc rfl;refine⟨nm,a,by rw[hc];exact e1,e2,e3,by rw[e4];exact h3.symm,e5,e6,e7,hN i (by simp[wP.ids]) _ _ hv (iQ.of rfl e1 e2),⟨cc,ty,e9,?_⟩,h4 N D w base S Nc D' hE hR hD hF _ Nn⟩
     rw[ye,<-kO v,<-kO,h3]
  ·cases h
 ·rename_i t i off k
  split at h
  ·rename_i t' xs hv
   split at h
   ·rename_i ys xG
    obtain⟨rfl,rfl⟩:=iK xG;refine .inr ⟨_,_,_,h,kq.le_refl _,λi' nA=>?_,(by intro e;cases e),λep ys e=>by simp[aH.mk] at e,λN D w base S Nc D' c hE hR hD hF hN hc _=>?_⟩
    ·simp only[wP.ids,zeB] at nA
     subst nA;exact .inl ⟨_,hv,rfl,λ_=>rfl⟩
    ·have mZ:nE N D w base i false t' ys:=S.obj i _ hv
     obtain⟨nm,e1,e2,e3,e4,e5,e6⟩:=id mZ;have hc:Nc c=some (nm.shift off):=by have:=hc rfl;simpa [xL,aH.mU,e1] using this
     have:=Gq (len:=nm.len-off) e1 mZ hc rfl rfl rfl rfl rfl (zdz _) hE hD (λa ha=>hN i (by simp[wP.ids]) _ _ hv (iQ.of rfl e1 ha))
     rw[e4] at this;have e:((ys.drop off).take (aO (β:=t'.den) ys-off):List t'.den)=ys.drop off:=zdN (by simp[aO])
     rw[e] at this;exact this
   ·cases h
  ·cases h
 ·rename_i t i off len k
  split at h
  ·rename_i t' xs hv
   split at h
   ·rename_i ys xG
    obtain⟨rfl,rfl⟩:=iK xG;refine .inr ⟨_,_,_,h,kq.le_refl _,λi' nA=>?_,(by intro e;cases e),λep ys e=>by simp[aH.mk] at e,λN D w base S Nc D' c hE hR hD hF hN hc _=>?_⟩
    ·simp only[wP.ids,zeB] at nA
     subst nA;exact .inl ⟨_,hv,rfl,λ_=>rfl⟩
    ·have mZ:nE N D w base i false t' ys:=S.obj i _ hv
     obtain⟨nm,e1,e2,e3,e4,e5,e6⟩:=id mZ;have hc:Nc c=some (nm.cut off len):=by have:=hc rfl;simpa [xL,aH.mU,e1] using this
     have:=Gq (len:=min len (nm.len-off)) e1 mZ hc rfl rfl rfl rfl rfl (Nat.min_le_right _ _) hE hD (λa ha=>hN i (by simp[wP.ids]) _ _ hv (iQ.of rfl e1 ha))
     rw[e4] at this;have e:((ys.drop off).take (min len (aO (β:=t'.den) ys-off)):List t'.den)=(ys.drop off).take len:=by
      rcases Nat.le_total len (aO (β:=t'.den) ys-off) with hl|hl
      ·rw[zeg hl]
      ·rw[Nat.min_eq_right hl,zdN (show(ys.drop off).length<=len by simpa [aO] using hl),zdN (by simp[aO])]
     rw[e] at this;exact this
   ·cases h
  ·cases h
 ·rename_i t k
  refine .inr ⟨_,_,_,h,kq.le_refl _,λi' nA=>by simp[wP.ids] at nA,(by intro e;cases e),λep ys e=>by simp[aH.mk] at e,λN D w base S Nc D' c hE hR hD hF hN hc _=>?_⟩
  exact⟨_,hc rfl,rfl,rfl,rfl,zdz _,rfl⟩
 ·rename_i ep i k
  split at h
  ·rename_i hSB
   simp only[zdr] at hSB;have UH:iI (s.h i)=true->k [] [] b=some r->∃x j b',k x j b'=some r/\b.le b'/\UG s (.store ep) (.at_ i)/\((aH.store ep).isVar=true->∃i',wP.at_ i= .at_ i')/\(∀Fx ys,(aH.store ep).mk (λc=>c) x= .store Fx ys->∃i',wP.at_ i= .at_ i'/\SB<=i'/\(s.h i'=some (.store Fx ys)\/iI (s.h i')=true/\ys=[]))/\
     ∀N D w base,jV N D w base s.h->∀Nc D' c,mi (aH.store ep).ks N Nc->(∀c∈(aH.store ep).cs,lz N b' Nc c)->(∀b,D b->D' b)->lr N D' j->NF s N D' (wP.at_ i).ids->((aH.store ep).mU=false->Nc c=xL N (some (.at_ i)) (.store ep))->((aH.store ep).mU=true->wP.at_ i= .at_ c/\∀k,Nc.sub (c-SB) k=N.sub (c-SB) k)->qu Nc D' w base c ((aH.store ep).mk (λc=>c) x):=by
    intro ha hk;refine⟨_,_,_,hk,kq.le_refl _,λi' nA=>?_,(by intro e;cases e),λFx ys e=>?_,λN D w base S Nc D' c hE hR hD hF hN _ hc=>?_⟩
    ·simp only[wP.ids,zeB] at nA
     subst nA;exact .inr ⟨rfl,ha⟩
    ·simp only[aH.mk,fP.store.injEq] at e
     obtain⟨rfl,e⟩:=e;exact⟨i,rfl,hSB, .inr ⟨ha,(eq_of_heq e).symm⟩⟩
    ·obtain⟨h1,h2⟩:=hc rfl
     cases h1;have oA:=S.iI (i-SB) (by rw[show SB+(i-SB)=i by omega];exact ha)
     simp only[aH.mk,qu,jd];exact⟨hSB,λk d hk=>by simp[jU] at hk,λk _=>by rw[h2,oA],λk k' d d' b hk=>by simp[jU] at hk⟩
   split at h
   ·rename_i Fx xs hv
    split at h
    ·rename_i ys xG
     obtain⟨rfl,rfl⟩:=DP xG;refine .inr ⟨_,_,_,h,kq.le_refl _,λi' nA=>?_,(by intro e;cases e),λep ys e=>?_,λN D w base S Nc D' c hE hR hD hF hN _ hc=>?_⟩
     ·simp only[wP.ids,zeB] at nA
      subst nA;exact .inl ⟨_,hv,rfl,λe=>by cases e⟩
     ·simp only[aH.mk,fP.store.injEq] at e
      obtain⟨rfl,e⟩:=e;have e:=eq_of_heq e;subst e;exact⟨i,rfl,hSB, .inl hv⟩
     ·obtain⟨h1,h2⟩:=hc rfl
      cases h1;exact(jd.congr hD (λ_ _=>rfl) (show jd D w base N i (.store _) _ from S.obj i _ hv) λb hO=>⟨rfl,λ_=>hN i (by simp[wP.ids]) _ _ hv hO⟩).uy h2
    ·cases h
   ·rename_i hv;exact .inr (UH (by rw[hv];rfl) h)
   ·rename_i hv;exact .inr (UH (by rw[hv];rfl) h)
   ·cases h
  ·cases h
 ·cases h
def RG (s:St)(l:List (Nat×aH))(y:cP l):Prop:= ∀c ep ys,mN (λc=>c) l y (λ_=>none) c=some (.store ep ys)->SB<=c/\(s.h c=some (.store ep ys)\/iI (s.h c)=true/\ys=[])
theorem z6 {s:St}{f:Option α}: ∀(l:List (Nat×aH)) (b:kq) (k:cP l->List Nat->kq->Option α) (r:α),Hq s f l b k=some r->
  f=some r\/∃y j b',k y j b'=some r/\b.le b'/\(∀e∈l,∃g,b'.look e.1=some g/\UG s e.2 g/\(e.2.isVar=true->∃i,g= .at_ i)/\(e.2.mU=true->g= .at_ e.1->SB<=e.1))/\((∀e∈l,e.2.mU=true->SB<=e.1)->RG s l y)/\
  ∀N D w base,jV N D w base s.h->∀Nc D',mi (Dv l) N Nc->(∀c∈AW l,lz N b' Nc c)->(∀b,D b->D' b)->lr N D' j->NF s N D' (iM l b')->(∀e∈l,e.2.mU=true->SB<=e.1/\∀k,Nc.sub (e.1-SB) k=N.sub (e.1-SB) k)->∀c o,mN (λc=>c) l y (λ_=>none) c=some o->Nc c=sO N b' l c->qu Nc D' w base c o
 | [],b,k,r,h=> .inr ⟨(),[],b,h,kq.le_refl _,λe he=>by simp at he,λ_ c ep ys hc=>by simp[mN] at hc,λN D w base S Nc D' _ _ _ _ _ _ c o ho=>by simp[mN] at ho⟩
 |(ce,pe)::es,b,k,r,h=>by
  unfold Hq at h;split at h
  ·rename_i g hg
   rcases H0 pe g b _ r h with hf|⟨x,i,b',h1,h2,h3,h3v,h3s,h4⟩
   ·exact .inl hf
   rcases z6 es b' _ r h1 with hf|⟨y,j,UE,h5,h6,h7,h7s,h8⟩
   ·exact .inl hf
   have CC:UE.look ce=some g:=ND h6 (ND h2 hg);refine .inr ⟨(x,y),i++j,UE,h5,kq.le_trans h2 h6,List.forall_mem_cons.2 ⟨⟨g,CC,h3,h3v,λjZ e=>?_⟩,h7⟩,λHH c ep ys hc=>?_,λN D w base S Nc D' hE hR hD hF hN hS c o ho hc=>?_⟩
   ·subst e
    cases pe with
    |store ep=>obtain⟨i',e1,e2,_⟩:=h3s ep x rfl;cases e1;exact e2
    |var p=>cases jZ
    |row t=>cases jZ
   ·simp only[mN] at hc
    split at hc
    ·rename_i e
     subst e;simp only[zdj] at hc;obtain⟨i',e1,e2,e3⟩:=h3s ep ys hc;have so:SB<=c:=by
      refine HH (c,pe) (zdq ..) ?_;cases pe<;>simp[aH.mk] at hc
      rfl
     rw[uB so] at hg;rw[e1] at hg;cases hg;exact⟨so,e3⟩
    ·exact h7s (λe he=>HH e (zdp _ he)) c ep ys hc
   ·simp only[mN] at ho
    simp only[sO] at hc;have hE:mi (pe.ks++Dv es) N Nc:=by simpa only[Dv,zd0] using hE
    by_cases ec:c=ce
    ·rw[if_pos ec] at ho hc
     cases ho;subst ec;rw[CC] at hc;refine h4 N D w base S Nc D' c hE.left (λc hc=>(hR c (by simp[AW,hc])).mono h6) hD hF.left (λi hi=>hN i (by simp only[iM,zd0,CC,zeA];exact .inl hi)) (λ_=>hc) λjZ=>?_
     obtain⟨g1,g2⟩:=hS (c,pe) (zdq ..) jZ;rw[uB g1] at CC;cases CC;exact⟨rfl,g2⟩
    ·rw[if_neg ec] at ho hc
     exact h8 N D w base S Nc D' hE.right (λc hc=>hR c (by simp only[AW,zd0,zeA] at hc⊢;exact .inr hc)) hD hF.right (λi hi=>hN i (by simp only[iM,zd0,zeA] at hi⊢;exact .inr hi)) (λe he=>hS e (zdp _ he)) c o ho hc
  ·cases h
end AM
namespace AM
open Go
variable {α:Type}{P:Program}{base:Nat}
structure wa (sp:jt):Prop where
 cs: ∀c,(c∈AU sp.jM\/c∈AW sp.heap)->c<SB/\∃e∈sp.heap,e.1=c
 ks: ∀g,(g∈Du sp.jM\/g∈Dv sp.heap)->cY sp.heap (SB+g)=true
 st: ∀e∈sp.heap,(e.2.mU=true↔SB<=e.1)
theorem uC {sp:jt}(h:sp.closed=true):wa sp:=by
 simp only[jt.closed,zdl,zdW,zdr,List.any_eq_true] at h;refine⟨λc hc=>h.1.1 c (List.mem_append.2 hc),λg hg=>h.1.2 g (List.mem_append.2 hg),λe he=>?_⟩;have:=h.2 e he;rw[beq_iff_eq] at this;rw[this];simp
def A9 (N:Names)(D:Nat->Prop)(ro:List Nat)(b:Nat):Prop:=D b\/∃i∈ro,∃nm a,N i=some nm/\nm.base=some a/\a.block=b
structure H2 (s:St)(sp:jt)(b:kq)(ro:List Nat)(d:cP sp.heap):Prop where
 bound: ∀e∈sp.heap,∃g,b.look e.1=some g/\UG s e.2 g/\(e.2.isVar=true->∃i,g= .at_ i)
 nodup:nodup (iM sp.heap b)=true
 ro: ∀i∈ro,i∉iM sp.heap b/\∃o,s.h i=some o/\((∃v,o= .var v)\/∃r t xs,o= .row r t xs)
 link:RG s sp.heap d
 st: ∀e∈sp.heap,(e.2.mU=true↔SB<=e.1)
def DQ (b:kq)(c:Nat):List Nat:=match b.look c with|some g=>g.ids|none=> []
theorem RH (l:List (Nat×aH))(b:kq):iM l b=l.flatMap λo=>DQ b o.1:=rfl
theorem Ba {l:List (Nat×aH)}{b:kq}{i:Nat}:i∈iM l b↔∃e∈l,i∈DQ b e.1:=by rw[RH,List.mem_flatMap]
theorem Pd {N:Names}{b:kq}{c:Nat}{p:aH}{nm:Nm}{a:Addr}(h:xL N (b.look c) p=some nm)(hb:nm.base=some a): ∃i∈DQ b c,∃mD a',N i=some mD/\mD.base=some a'/\a'.block=a.block:=by
 unfold DQ;unfold xL at h;split at h
 ·cases h
 cases hg:b.look c with
 |none=>rw[hg] at h;cases h
 |some g=>
  rw[hg] at h;cases g with
  |at_ i=>exact⟨i,by simp[wP.ids],nm,a,h,hb,rfl⟩
  |tl i off=>
   simp only[zd9] at h;obtain⟨mD,h1,rfl⟩:=h;simp only[Nm.shift,zd9] at hb;obtain⟨a',h2,rfl⟩:=hb;exact⟨i,by simp[wP.ids],mD,a',h1,h2,rfl⟩
  |sl i off len=>
   simp only[zd9] at h;obtain⟨mD,h1,rfl⟩:=h;simp only[Nm.cut,Nm.shift,zd9] at hb;obtain⟨a',h2,rfl⟩:=hb;exact⟨i,by simp[wP.ids],mD,a',h1,h2,rfl⟩
  |nil=>
   simp only[zdj] at h;subst h;cases hb
theorem xM {N:Names}{g:Option wP}{p:aH}{nm:Nm}(h:xL N g p=some nm):p.mU=false:=by
 unfold xL at h;split at h
 ·cases h
 ·assumption
theorem tw {N:Names}{b:kq}{c:Nat}{nm:Nm}: ∀{l:List (Nat×aH)},sO N b l c=some nm->∃e∈l,e.1=c/\xL N (b.look c) e.2=some nm
 | [],h=>by simp[sO] at h
 |e::es,h=>by
  simp only[sO] at h;split at h
  ·rename_i ec
   exact⟨e,zdq ..,ec.symm,by rw[ec];exact h⟩
  ·obtain⟨e',h1,h2⟩:=tw h
   exact⟨e',zdp _ h1,h2⟩
theorem DR {N:Names}{b:kq}{l0:List (Nat×aH)}{c:Nat}(hc:c<SB): ∀{l:List (Nat×aH)},(∀e∈l,e.2.mU=true->SB<=e.1)->(∃e∈l,e.1=c)->lz N b ⟨λp=>match p with| []=>sO N b l|q::p=>(iY N b l0).at_ (q::p)⟩ c
 | [],_,h=>by obtain⟨e,h,_⟩:=h;simp at h
 |e::es,jZ,h=>by
  by_cases ec:c=e.1
  ·subst ec
   have uM:e.2.mU=false:=by
    cases hh:e.2.mU with
    |false=>rfl
    |true=>have:=jZ e (zdq ..) hh;omega
   have hl:=C5 (b:=b) (c:=e.1) (by omega)
   unfold lz;cases hg:b.get e.1 with
   |none=>trivial
   |some g=>cases g<;>simp[sO,hl,hg,xL,uM]
  ·have: ∃e'∈es,e'.1=c:=by
    obtain⟨e',h1,h2⟩:=h;rcases List.mem_cons.1 h1 with rfl|h1
    ·exact absurd h2.symm ec
    ·exact⟨e',h1,h2⟩
   have:=DR (N:=N) (b:=b) (l0:=l0) hc (λe he=>jZ e (zdp _ he)) this;unfold lz at this⊢;simp only[sO,if_neg ec];exact this
theorem qx {N:Names}{b:kq}{l:List (Nat×aH)}{c:Nat}(hc:c<SB)(jZ: ∀e∈l,e.2.mU=true->SB<=e.1)(h: ∃e∈l,e.1=c):lz N b (iY N b l) c:=by
 have:=DR (N:=N) (b:=b) (l0:=l) hc jZ h;have e:(⟨λp=>match p with| []=>sO N b l|q::p=>(iY N b l).at_ (q::p)⟩:Names)=iY N b l:=by
  unfold iY;congr 1
  funext p
  cases p<;>rfl
 rw[e] at this;exact this
theorem uD {b:Nat->Nat}{c:Nat}: ∀{l:List (Nat×aH)} {d:cP l} {h:Nat->Option fP},(∀e∈l,b e.1≠c)->mN b l d h c=h c
 | [],_,_,_=>rfl
 |(ce,pe)::es,d,h,lR=>by
  simp only[mN];rw[if_neg (λe'=>lR (ce,pe) (zdq ..) e'.symm)];exact uD λe' he'=>lR e' (zdp _ he')
theorem pN {b:Nat->Nat}{c:Nat}: ∀{l:List (Nat×aH)} {d:cP l} {h:Nat->Option fP},(∃e∈l,b e.1=c)->mN b l d h c≠none
 | [],_,_,h=>by obtain⟨e,h,_⟩:=h;simp at h
 |(ce,pe)::es,d,h,hm=>by
  simp only[mN];by_cases ec:c=b ce
  ·rw[if_pos ec];simp
  ·rw[if_neg ec]
   refine pN ?_;obtain⟨e',h1,h2⟩:=hm;rcases List.mem_cons.1 h1 with rfl|h1
   ·exact absurd h2.symm ec
   ·exact⟨e',h1,h2⟩
theorem m8 {bk:Nat->Nat}{j:Nat}{o:fP}: ∀{l:List (Nat×aH)} {d:cP l} {h:Nat->Option fP},mN bk l d h j=some o->
  (∃q∈l,bk q.1=j/\∃x:q.2.den,mN (λc=>c) l d (λ_=>none) q.1=some (q.2.mk (λc=>c) x)/\o=q.2.mk bk x)\/((∀q∈l,bk q.1≠j)/\h j=some o)
 | [],_,h,hj=> .inr ⟨λq hq=>by simp at hq,hj⟩
 |(ce,pe)::es,d,h,hj=>by
  simp only[mN] at hj;by_cases ec:j=bk ce
  ·rw[if_pos ec] at hj
   cases hj;exact .inl ⟨(ce,pe),zdq ..,ec.symm,d.1,by simp[mN],rfl⟩
  ·rw[if_neg ec] at hj
   rcases m8 hj with⟨q,hq,h1,x,h2,h3⟩|⟨h1,h2⟩
   ·refine .inl ⟨q,zdp _ hq,h1,x,?_,h3⟩
    simp only[mN];rw[if_neg (λe'=>ec (by rw[<-h1,e']))]
    exact h2
   ·exact .inr ⟨List.forall_mem_cons.2 ⟨λe'=>ec e'.symm,h1⟩,h2⟩
theorem nodup_append {a b:List Nat}(h:AM.nodup (a++b)=true):AM.nodup b=true/\∀x∈a,x∉b:=by
 induction a with
 |nil=>exact⟨h,λx hx=>by simp at hx⟩
 |cons x xs ih=>
  simp only[zdS,AM.nodup,zdl,zeC,zes,decide_eq_false_iff_not,zeA,not_or] at h;obtain⟨h1,h2⟩:=ih h.2;refine⟨h1,List.forall_mem_cons.2 ⟨h.1.2,h2⟩⟩
theorem yM {β:Type}{f:β->List Nat}: ∀{l:List β},AM.nodup (l.flatMap f)=true->∀{e e':β} {i:Nat},e∈l->e'∈l->i∈f e->i∈f e'->e=e'
 | [],_,e,_,_,he,_,_,_=>by simp at he
 |x::xs,h,e,e',i,he,he',hi,nA=>by
  rw[zd0] at h;obtain⟨h1,h2⟩:=nodup_append h;rcases List.mem_cons.1 he with q|q<;>rcases List.mem_cons.1 he' with q'|q'
  ·rw[q,q']
  ·exact absurd (List.mem_flatMap.2 ⟨e',q',nA⟩) (h2 _ (q▸hi))
  ·exact absurd (List.mem_flatMap.2 ⟨e,q,hi⟩) (h2 _ (q'▸nA))
  ·exact yM h1 q q' hi nA
theorem yj (b:Nat->Nat): ∀(p:aH) (x:p.den),iI (some (p.mk b x))=false
 | .var _,_=>rfl
 | .row _,_=>rfl
 | .store _,_=>rfl
theorem Pe {N:Names}{i:Nat}{ep:List (Nat×aH)}{b:Nat}: ¬pK N i (.store ep) ([]:List (cP ep)) b:=by
 simp only[pK,jU];rintro⟨k,d,h,_⟩
 simp at h
theorem H2.LK {s:St}{sp:jt}{b:kq}{ro:List Nat}{d:cP sp.heap}(M:H2 s sp b ro d){N:Names}{c:Nat}{o:fP}{bl:Nat}(hc:mN (λc=>c) sp.heap d (λ_=>none) c=some o)(ho:iQ (iY N b sp.heap) c o bl):
  ∃e∈sp.heap,e.1=c/\∃i∈DQ b c,∃o',s.h i=some o'/\iQ N i o' bl:=by
 have key:ox (iY N b sp.heap) c bl->∃e∈sp.heap,e.1=c/\∃i∈DQ b c,∃o',s.h i=some o'/\iQ N i o' bl:=by
  rintro⟨nm,a,h3,h4,rfl⟩
  obtain⟨e,he,rfl,h5⟩:=tw h3;obtain⟨i,hi,mD,a',h6,h7,h8⟩:=Pd h5 h4;refine⟨e,he,rfl,i,hi,?_⟩;obtain⟨g,hg,hT,_⟩:=M.bound e he;unfold DQ at hi;rw[hg] at hi;rcases hT i hi with⟨o',g1,_,g2⟩|⟨g1,_⟩
  ·exact⟨o',g1,h8▸iQ.of (g2 (xM h5)) h6 h7⟩
  ·rw[xM h5] at g1;cases g1
 cases o with
 |dead=>exact ho.elim
 |void=>exact ho.elim
 |var v=>exact key ho
 |row r t xs=>
  cases r with
  |true=>exact ho.elim
  |false=>exact key ho
 |store ep ys=>
  obtain⟨h1,h2⟩:=M.link c ep ys hc;rcases m8 hc with⟨q,hq,h3,x,h4,h5⟩|⟨_,h5⟩
  ·have h3:q.1=c:=h3
   have jZ:cY sp.heap (SB+(c-SB))=true:=by
    rw[show SB+(c-SB)=c by omega]
    exact fM.2 ⟨q,hq,h3,(M.st q hq).2 (by omega)⟩
   refine⟨q,hq,h3,c,by unfold DQ;rw[uB h1];simp[wP.ids],?_⟩
   rcases h2 with h2|⟨_,rfl⟩
   ·exact⟨_,h2,(pK.uy (vq jZ)).1 ho⟩
   ·exact absurd ho Pe
  ·cases h5
theorem H2.canon {s:St}{sp:jt}{b:kq}{ro:List Nat}{d:cP sp.heap}(M:H2 s sp b ro d){N:Names}{bl:Nat}(ho:yY (iY N b sp.heap) (mN (λc=>c) sp.heap d (λ_=>none)) bl): ∃i∈iM sp.heap b,∃o,s.h i=some o/\iQ N i o bl:=by
 obtain⟨c,o,h1,h2⟩:=ho;obtain⟨e,he,rfl,i,hi,h3⟩:=M.LK h1 h2;exact⟨i,Ba.2 ⟨e,he,hi⟩,h3⟩
theorem H2.cases {s:St}{sp:jt}{b:kq}{ro:List Nat}{d:cP sp.heap}(M:H2 s sp b ro d){N:Names}{D:Nat->Prop}{w:World}(S:jV N D w base s.h){i:Nat}(hi:i∈ro){nm:Nm}{a:Addr}(hn:N i=some nm)(hb:nm.base=some a):D a.block\/∃o,s.h i=some o/\iQ N i o a.block:=by
 obtain⟨_,o,h1,h2⟩:=M.ro i hi;rcases h2 with⟨v,rfl⟩|⟨r,t,xs,rfl⟩
 ·exact .inr ⟨_,h1,iQ.of rfl hn hb⟩
 ·cases r with
  |false=>exact .inr ⟨_,h1,iQ.of rfl hn hb⟩
  |true=>
   obtain⟨WQ,e1,_,_,_,_,e6⟩:=S.obj i _ h1;rw[hn] at e1;cases e1;rw[hb] at e6;obtain⟨_,_,e7,_⟩:=e6;simp only[if_true] at e7;exact .inl e7
theorem H2.zat {s:St}{sp:jt}{b:kq}{ro:List Nat}{d:cP sp.heap}(M:H2 s sp b ro d){N:Names}{D:Nat->Prop}{w:World}(S:jV N D w base s.h):NF s N (A9 N D ro) (iM sp.heap b):=by
 intro i hi o bl ho hr hd;have hnd:=(S.oX ho hr).1;rcases hd with hd|⟨j,hj,mD,a',OP,uX,Ld⟩
 ·exact hnd hd
 ·rcases M.cases S hj OP uX with h1|⟨o',h1,h2⟩
  ·exact hnd (Ld▸h1)
  ·have:=S.apart i j o o' bl ho h1 hr (Ld▸h2)
   subst this;exact(M.ro _ hj).1 hi
theorem Pf {N:Names}{D:Nat->Prop}{w:World}{h:Nat->Option fP}(S:jV N D w base h){i:Nat}{o:fP}{nm:Nm}{a:Addr}(ho:h i=some o)(hd:(∃v,o= .var v)\/∃r t xs,o= .row r t xs)(hn:N i=some nm)(hb:nm.base=some a):a.block<w.heap.size:=by
 have:=S.obj i o ho;rcases hd with⟨v,rfl⟩|⟨r,t,xs,rfl⟩
 ·obtain⟨mD,a',e1,e2,_,_,_,_,_,_,⟨c,ty,e3,_⟩,_⟩:=this
  rw[hn] at e1;cases e1;rw[hb] at e2;cases e2;exact(Array.getElem?_eq_some_iff.1 e3).1
 ·obtain⟨mD,e1,_,_,_,_,e6⟩:=this
  rw[hn] at e1;cases e1;rw[hb] at e6;obtain⟨_,⟨c,ty,fz,e3,_⟩,_⟩:=e6;exact(Array.getElem?_eq_some_iff.1 e3).1
theorem H2.nr {s:St}{sp:jt}{b:kq}{ro:List Nat}{d:cP sp.heap}(M:H2 s sp b ro d){N:Names}{D:Nat->Prop}{w:World}(S:jV N D w base s.h)(mZ: ∀c o,mN (λc=>c) sp.heap d (λ_=>none) c=some o->qu (iY N b sp.heap) (A9 N D ro) w base c o):jV (iY N b sp.heap) (A9 N D ro) w base (mN (λc=>c) sp.heap d (λ_=>none)):=by
 refine⟨mZ,?_,?_,?_,S.size,λg hg k=>?_⟩
 ·intro c c' o o' bl hc La ho mS
  obtain⟨e,he,rfl,q,hq,oq,hoq,hrq⟩:=M.LK hc ho;obtain⟨e',he',rfl,q',uo,oq',zce,zcf⟩:=M.LK La mS;have:=S.apart q q' oq oq' bl hoq zce hrq zcf;subst this;rw[yM (f:=λo:Nat×aH=>DQ b o.1) M.nodup he he' hq uo]
 ·rintro bl (hb|⟨q,hq,nm,a,hn,hb,rfl⟩)
  ·exact S.frozen bl hb
  ·obtain⟨_,o,h8,h9⟩:=M.ro q hq
   exact Pf S h8 h9 hn hb
 ·intro c nm hn
  obtain⟨e,he,hec,_⟩:=tw hn;exact pN ⟨e,he,hec⟩
 ·refine zf ?_ k
  cases e:cY sp.heap (SB+g) with
  |false=>rfl
  |true=>
   exfalso
   obtain⟨q,hq,h1,h2⟩:=fM.1 e;cases hm:mN (λc=>c) sp.heap d (λ_=>none) (SB+g) with
   |none=>exact pN ⟨q,hq,h1⟩ hm
   |some o=>
    rw[hm] at hg;rcases m8 hm with⟨q',_,_,x,_,h5⟩|⟨_,h5⟩
    ·subst h5
     rw[yj] at hg;cases hg
    ·cases h5
theorem pO {sp:jt}{s:St}{b:kq}{k:sp.den->List Nat->kq->Option α}{f:Option α}{r:α}(h:oN sp s b k f=some r)(hc:wa sp):
  f=some r\/∃d ro b',k d ro b'=some r/\b.le b'/\H2 s sp b' ro d.2/\∀N D w base,jV N D w base s.h->
   jV (iY N b' sp.heap) (A9 N D ro) w base (mN (λc=>c) sp.heap d.2 (λ_=>none))/\∀y c,cq N D w (s.t y) c->cq (iY N b' sp.heap) (A9 N D ro) w (yX (λc=>c) sp.jM d.1 y) c:=by
 unfold oN at h;rcases z5 _ _ _ _ _ h with h1|⟨x,i,b1,h1,h2,h3⟩
 ·exact .inl h1
 ·rcases z6 _ _ _ _ h1 with hf|⟨y,j,b',h4,h5,h6,h6s,h7⟩
  ·exact .inl hf
  right
  split at h4
  ·rename_i HL
   simp only[zdl,zdW,zeC,zes,decide_eq_false_iff_not] at HL;have M:H2 s sp b' (i++j) y:=⟨λe he=>by obtain⟨g,g1,g2,g3,_⟩:=h6 e he;exact⟨g,g1,g2,g3⟩,HL.1,λq hq=>(by
    obtain⟨g1,g2⟩:=HL.2 q hq;refine⟨g1,?_⟩;unfold isObj at g2;split at g2
    ·rename_i v e;exact⟨_,e, .inl ⟨v,rfl⟩⟩
    ·rename_i r t xs e;exact⟨_,e, .inr ⟨r,t,xs,rfl⟩⟩
    ·cases g2),h6s λe he=>(hc.st e he).1,hc.st⟩
   refine⟨(x,y),i++j,b',h4,kq.le_trans h2 h5,M,λN D w base S=>?_⟩;have NG: ∀c,(c∈AU sp.jM\/c∈AW sp.heap)->lz N b' (iY N b' sp.heap) c:=by
    intro c La;obtain⟨g1,g2⟩:=hc.cs c La;exact qx g1 (λe he=>(hc.st e he).1) g2
   have hks: ∀l:List Nat,(∀g∈l,cY sp.heap (SB+g)=true)->mi l N (iY N b' sp.heap):=λl hl g hg k c nm hn _=>by
    rw[vq (hl g hg)];exact hn
   have hF:lr N (A9 N D (i++j)) (i++j):=λq hq nm a hn hb=> .inr ⟨q,hq,nm,a,hn,hb,rfl⟩;have hD: ∀b,D b->A9 N D (i++j) b:=λb hb=> .inl hb;refine⟨M.nr S λc o ho=>h7 N D w base S _ _ (hks _ λg hg=>hc.ks g (.inr hg)) (λc hc=>NG c (.inr hc)) hD hF.right (M.zat S) (λe he jZ=>?_) c o ho rfl,λy c hv=>h3 N D w base S _ _ (hks _ λg hg=>hc.ks g (.inl hg)) (λc hc=>(NG c (.inl hc)).mono h5) hD hF.left y c hv⟩;have so:=(hc.st e he).1 jZ;refine⟨so,vq ?_⟩;rw[show SB+(e.1-SB)=e.1 by omega]
   exact fM.2 ⟨e,he,rfl,jZ⟩
  ·cases h4
end AM
namespace AM
open Go
variable {α:Type}{P:Program}{base:Nat}
structure H3 (O O' D D':Nat->Prop)(w w':World):Prop where
 frozen: ∀b,D b->D' b
 os:w'.os=w.os
 tape:w'.tape=w.tape
 output:w'.output=w.output
 size:w.heap.size<=w'.heap.size
 sI: ∀b,b<w.heap.size->¬O b->w'.heap[b]?=w.heap[b]?
 own: ∀b,b<w.heap.size->O' b->O b
 Jh: ∀b,D' b->D b\/O b\/w.heap.size<=b
theorem H3.refl (O D:Nat->Prop)(w:World):H3 O O D D w w:=⟨λ_ h=>h,rfl,rfl,rfl,zdz _,λ_ _ _=>rfl,λ_ _ h=>h,λ_ h=> .inl h⟩
theorem H3.trans {O O' O'' D D' WO:Nat->Prop}{w w' ON:World}(x:H3 O O' D D' w w')(y:H3 O' O'' D' WO w' ON):H3 O O'' D WO w ON where
 frozen b e:=y.frozen b (x.frozen b e)
 os:=y.os.trans x.os
 tape:=y.tape.trans x.tape
 output:=y.output.trans x.output
 size:=zdA x.size y.size
 sI b hb ho:=by rw[y.sI b (zdB hb x.size) (λo=>ho (x.own b hb o)),x.sI b hb ho]
 own b hb o:=x.own b hb (y.own b (zdB hb x.size) o)
 Jh b hb:=by
  rcases y.Jh b hb with h1|h1|h1
  ·exact x.Jh b h1
  ·rcases zdC b w.heap.size with h2|h2
   ·exact .inr (.inl (x.own b h2 h1))
   ·exact .inr (.inr h2)
  ·exact .inr (.inr (zdA x.size h1))
theorem Ext.b {N N':Names}{D D':Nat->Prop}{w w':World}{h h':Nat->Option fP}(x:Ext N D w h N' D' w' h'):H3 (yY N h) (yY N' h') D D' w w':=⟨x.frozen,x.os,x.tape,x.output,x.size,x.sI,x.own,x.Jh⟩
def yN:Ty->Bool
 | .cons a b=>yN a&&yN b
 | .arr _ t=>yN t
 | .deep _=>false
 |_=>true
theorem vr {N N':Names}{D D':Nat->Prop}{w:World}: ∀(t:Ty) (x:t.den) (g:Nat->Option Value),yN t=true->mi t.ks N N'->iq N D w t x g->iq N' D' w t x g
 | .int _,_,_,_,_,h=>by simp only[iq] at*;exact h
 | .bool,_,_,_,_,h=>by simp only[iq] at*;exact h
 | .str,_,_,_,_,h=>by simp only[iq] at*;exact h
 | .nil,_,_,_,_,_=>by simp only[iq]
 | .cons a b,p,g,hf,hK,h=>by
  simp only[yN,zdl] at hf;exact⟨vr a p.1 g hf.1 hK.left h.1,vr b p.2 _ hf.2 hK.right h.2⟩
 | .arr n t,xs,g,hf,hK,h=>⟨h.1,λi x hx=>vr t x _ (by simpa [yN] using hf) hK (h.2 i x hx)⟩
 | .deep t,xs,g,hf,hK,h=>by simp[yN] at hf
 | .ref g,n,c,_,hK,h=>by
  show xk N' g n 50 (c 0)
  have h:xk N g n 50 (c 0):=h;cases n with
  |zero=>exact h
  |succ k=>obtain⟨nm,a,h1,h2,h3⟩:=h;exact⟨nm,a,hK g (List.mem_singleton.2 rfl) _ _ _ h1 h2,h2,h3⟩
mutual
def cj.flat:cj->Bool
 | .hole t=>yN t
 | .uZ _=>false
 | .I8 _=>false
 | .agg ps=>cj.Jv ps
 | .wN _ ps=>cj.Jv ps
 |_=>true
def cj.Jv:List cj->Bool
 | []=>true
 |p::ps=>p.flat&&cj.Jv ps
end
mutual
def aH.flat:aH->Bool
 | .var p=>p.flat
 | .row t=>yN t
 | .store ep=>NH ep
def NH:List (Nat×aH)->Bool
 | []=>true
 |(_,p)::os=>p.flat&&NH os
end
def jt.flat (e:jt):Bool:=e.jM.all (λo=>o.2.flat)&&e.heap.all (λo=>o.2.flat)
mutual
theorem DS (b b':Nat->Nat): ∀(p:cj) (x:p.den),(p.mk b x).sh=(p.mk b' x).sh
 | .hole t,x=>by simp only[cj.mk]
 | .uZ t,x=>by simp only[cj.mk]
 | .const v,x=>by simp only[cj.mk]
 | .ptr c,x=>by simp only[cj.mk,AV.sh]
 | .own c,x=>by simp only[cj.mk,AV.sh]
 | .Fw c,x=>by simp only[cj.mk,AV.sh]
 | .agg ps,x=>by simp only[cj.mk,AV.sh,RI b b' ps x]
 | .kc c p,x=>by simp only[cj.mk,AV.sh]
 | .wN f ps,x=>by simp only[cj.mk,AV.sh]
 | .ue c n,x=>by simp only[cj.mk,AV.sh]
 | .skip,x=>by simp only[cj.mk]
 | .I8 p,x=>by simp only[cj.mk,AV.sh]
theorem RI (b b':Nat->Nat): ∀(ps:List cj) (x:cj.wO ps),AV.xc (cj.qL b ps x)=AV.xc (cj.qL b' ps x)
 | [],x=>by simp only[cj.qL]
 |p::ps,x=>by simp only[cj.qL,AV.xc,DS b b' p x.1,RI b b' ps x.2]
end
section
variable {Ne N':Names}{De D':Nat->Prop}{w:World}{bk:Nat->Nat}{lt:Bool}
mutual
theorem C6 (hT:(lt=true\/∀b,De b->D' b)): ∀(p:cj) (x:p.den) (g:Nat->Option Value),(∀c∈p.cs,∀nm,Ne c=some nm->N' (bk c)=some nm)->mi p.ks Ne N'->(lt=true->p.flat=true)->an Ne De w (p.mk (λc=>c) x) g->an N' D' w (p.mk bk x) g
 | .hole t,x,g,_,hK,hf,h=>by
  simp only[cj.mk] at h⊢;refine(kK t x g).2 ?_;have h:=(kK t x g).1 h;rcases hT with hT|hT
  ·exact vr t x g (by simpa [cj.flat] using hf hT) (by simpa only[cj.ks] using hK) h
  ·exact kr hT (λ_ _=>rfl) t x g (by simpa only[cj.ks] using hK) h
 | .uZ t,x,g,_,hK,hf,h=>by
  simp only[cj.mk,an] at h⊢;obtain⟨a,h1,h2,h3,h4⟩:=h;rcases hT with hT|hT
  ·have:=hf hT
   simp[cj.flat] at this
  ·exact⟨a,h1,h2,hT _ h3,(kK t x _).2 (kr hT (λ_ _=>rfl) t x _ (by simpa only[cj.ks] using hK) ((kK t x _).1 h4))⟩
 | .const v,x,g,_,_,_,h=>by simp only[cj.mk,an] at h⊢;exact h
 | .skip,x,g,_,_,_,h=>by simp only[cj.mk,an]
 | .I8 p,x,g,hN,hK,hf,h=>by
  simp only[cj.mk,an] at h⊢;obtain⟨a,h1,h2,h3,h4⟩:=h;rcases hT with hT|hT
  ·have:=hf hT
   simp[cj.flat] at this
  ·exact⟨a,h1,h2,hT _ h3,C6 (.inr hT) p x _ (by simpa only[cj.cs] using hN) (by simpa only[cj.ks] using hK) (λhl=>by have:=hf hl;simp[cj.flat] at this) h4⟩
 | .ptr c,x,g,hN,_,_,h=>by
  simp only[cj.mk,an] at h⊢;obtain⟨nm,a,o,h1,h2⟩:=h;exact⟨nm,a,o,hN c (by simp[cj.cs]) nm h1,h2⟩
 | .kc c p,x,g,hN,_,_,h=>by
  simp only[cj.mk,an] at h⊢;obtain⟨nm,a,o,h1,h2⟩:=h;exact⟨nm,a,o,hN c (by simp[cj.cs]) nm h1,h2⟩
 | .ue c n,x,g,hN,_,_,h=>by
  simp only[cj.mk,an] at h⊢;obtain⟨nm,a,h1,h2⟩:=h;exact⟨nm,a,hN c (by simp[cj.cs]) nm h1,h2⟩
 | .own c,x,g,hN,_,_,h=>by
  simp only[cj.mk,an] at h⊢;obtain⟨nm,h1,h2⟩:=h;exact⟨nm,hN c (by simp[cj.cs]) nm h1,h2⟩
 | .Fw c,x,g,hN,_,_,h=>by
  simp only[cj.mk,an] at h⊢;obtain⟨nm,h1,h2⟩:=h;exact⟨nm,hN c (by simp[cj.cs]) nm h1,h2⟩
 | .agg ps,x,g,hN,hK,hf,h=>by
  simp only[cj.mk,an] at h⊢;exact(DT hT ps x (by simpa [cj.cs] using hN) (by simpa [cj.ks] using hK) (by simpa [cj.flat] using hf)).1 g h
 | .wN f ps,x,g,hN,hK,hf,h=>by
  simp only[cj.mk,an] at h⊢;obtain⟨cs,h1,h2⟩:=h;exact⟨cs,h1,(DT hT ps x (by simpa [cj.cs] using hN) (by simpa [cj.ks] using hK) (by simpa [cj.flat] using hf)).2 _ h2⟩
theorem DT (hT:(lt=true\/∀b,De b->D' b)): ∀(ps:List cj) (x:cj.wO ps),(∀c∈cj.Uv ps,∀nm,Ne c=some nm->N' (bk c)=some nm)->mi (cj.Q5 ps) Ne N'->(lt=true->cj.Jv ps=true)->
  (∀g,ff Ne De w (cj.qL (λc=>c) ps x) g->ff N' D' w (cj.qL bk ps x) g)/\∀cs,bA Ne De w (cj.qL (λc=>c) ps x) cs->bA N' D' w (cj.qL bk ps x) cs
 | [],x,_,_,_=>⟨λg _=>by simp only[cj.qL,ff],λcs h=>by simpa only[cj.qL,bA] using h⟩
 |p::ps,x,hN,hK,hf=>by
  have Yh:=λe=>by have:=hf e;simp only[cj.Jv,zdl] at this;exact this
  have hK:mi (p.ks++cj.Q5 ps) Ne N':=by simpa only[cj.Q5] using hK
  have a1:=λg=>C6 hT p x.1 g (λc hc=>hN c (by simp[cj.Uv,hc])) hK.left (λe=>(Yh e).1)
  obtain⟨a2,a3⟩:=DT hT ps x.2 (λc hc=>hN c (by simp[cj.Uv,hc])) hK.right (λe=>(Yh e).2)
  have hsz:(p.mk bk x.1).size=(p.mk (λc=>c) x.1).size:=by rw[<-kO,DS bk (λc=>c),kO]
  refine⟨λg h=>?_,λcs h=>?_⟩
  ·simp only[cj.qL,ff] at h⊢
   refine⟨a1 g h.1,?_⟩;rw[hsz];exact a2 _ h.2
  ·simp only[cj.qL,bA] at h⊢
   obtain⟨c,tq,e1,e2,e3⟩:=h;exact⟨c,tq,e1,C4 (DS bk (λc=>c) p x.1) e2 a1,a3 _ e3⟩
end
end
theorem lV (h:Nat->Option fP): ∀(l:List Nat) (j:Nat),rP h l j=if j∈l then some .dead else h j
 | [],j=>by simp[rP]
 |i::l,j=>by
  simp only[rP,lV h l j,zdX];by_cases e:j=i
  ·simp[e]
  ·simp[e]
def RJ (o:Option fP):Option fP:=match o with|some (.row _ t xs)=>some (.row true t xs)|_=>some .dead
theorem ra (h:Nat->Option fP): ∀(l:List Nat) (j:Nat),tn h l j=if j∈l then RJ (h j) else h j
 | [],j=>by simp[tn]
 |i::l,j=>by
  simp only[tn,ra h l j,zdX];by_cases e:j=i
  ·subst e;simp only[true_or,if_true,RJ]
   split<;>simp_all
  ·simp[e]
end AM
namespace AM
open Go
variable {α:Type}{P:Program}{base:Nat}
theorem UI (b b':Nat->Nat)(p:cj)(x:p.den):(p.mk b x).size=(p.mk b' x).size:=by rw[<-kO,DS b b',kO]
theorem aH.zcg (b:Nat->Nat): ∀(p:aH) (x:p.den),(p.mk b x).own=true
 | .var _,_=>rfl
 | .row _,_=>rfl
 | .store _,_=>rfl
theorem sW.back {Ne N':Names}{De D':Nat->Prop}{w:World}{bk:Nat->Nat}{lt:Bool}{c j:Nat}{p:cj}{x:p.den}(hT:lt=true\/∀b,De b->D' b)(hD: ∀b,D' b->De b)(hc: ∀nm,Ne c=some nm->N' j=some nm)(hN: ∀c∈p.cs,∀nm,Ne c=some nm->N' (bk c)=some nm)(hK:mi p.ks Ne N')(hf:lt=true->p.flat=true)
  (h:sW Ne De w base c (p.mk (λc=>c) x)):sW N' D' w base j (p.mk bk x):=by
 obtain⟨nm,a,e1,e2,e3,e4,e5,e6,e7,e8,⟨cc,ty,e9,ye⟩,Nn⟩:=h;exact⟨nm,a,hc _ e1,e2,e3,by rw[e4];exact DS _ _ p x,e5,e6,e7,λhd=>e8 (hD _ hd),⟨cc,ty,e9,ye.trans (UI _ _ p x)⟩,C6 hT p x _ hN hK hf Nn⟩
theorem nE.back {Ne N':Names}{De D':Nat->Prop}{w:World}{lt:Bool}{c j:Nat}{t:Ty}{xs:List t.den}(hT:lt=true\/∀b,De b->D' b)(hD: ∀b,D' b->De b)(hc: ∀nm,Ne c=some nm->N' j=some nm)(hK:mi t.ks Ne N')(hf:lt=true->yN t=true)
  (h:nE Ne De w base c false t xs):nE N' D' w base j false t xs:=by
 obtain⟨nm,e1,e2,e3,e4,e5,e6⟩:=h;refine⟨nm,hc _ e1,e2,e3,e4,e5,?_⟩;cases hb:nm.base with
 |none=>rw[hb] at e6;exact e6
 |some a=>
  rw[hb] at e6;obtain⟨f1,⟨cc,ty,fz,g1,g2,g3⟩,f3,f4⟩:=e6;simp only[zdk,if_false] at f3⊢;refine⟨f1,⟨cc,ty,fz,g1,g2,λ_=>g3 rfl⟩,⟨f3.1,λhd=>f3.2 (hD _ hd)⟩,λi y hy=>?_⟩;rcases hT with hT|hT
  ·exact vr t y _ (hf hT) hK (f4 i y hy)
  ·exact kr hT (λ_ _=>rfl) t y _ hK (f4 i y hy)
mutual
theorem jd.back {De D':Nat->Prop}{w:World}{lt:Bool}(hT:lt=true\/∀b,De b->D' b)(hD: ∀b,D' b->De b): ∀{N:Names} {c:Nat} {p:aH} {d:p.den},(lt=true->p.flat=true)->jd De w base N c p d->jd D' w base N c p d
 |N,_, .var p,d,hf,h=>by
  simp only[jd] at*;exact sW.back (bk:=λc=>c) hT hD (λ_ h=>h) (λ_ _ _ h=>h) (λ_ _ _ _ _ h _=>h) (by simpa only[aH.flat] using hf) h
 |N,_, .row t,d,hf,h=>by
  simp only[jd] at*;exact nE.back hT hD (λ_ h=>h) (λ_ _ _ _ _ h _=>h) (by simpa only[aH.flat] using hf) h
 |N,c, .store ep,xs,hf,h=>by
  simp only[jd] at*;exact⟨h.1,λk d hk=>⟨kM.back hT hD (by simpa only[aH.flat] using hf) (h.2.1 k d hk).1,(h.2.1 k d hk).2⟩,h.2.2.1,h.2.2.2⟩
theorem kM.back {De D':Nat->Prop}{w:World}{lt:Bool}(hT:lt=true\/∀b,De b->D' b)(hD: ∀b,D' b->De b): ∀{N:Names} {l:List (Nat×aH)} {d:cP l},(lt=true->NH l=true)->kM De w base N l d->kM D' w base N l d
 |_,[],_,_,_=>by simp only[kM]
 |N,(c,p)::os,d,hf,h=>by
  have Yh:=λe=>by have:=hf e;simp only[NH,zdl] at this;exact this
  simp only[kM] at*;exact⟨jd.back hT hD (λe=>(Yh e).1) h.1,kM.back hT hD (λe=>(Yh e).2) h.2.1,h.2.2⟩
end
theorem RK {Ne N':Names}{De D':Nat->Prop}{w:World}{bk:Nat->Nat}{lt:Bool}{c j:Nat}(hT:lt=true\/∀b,De b->D' b)(hD: ∀b,D' b->De b): ∀(p:aH) (x:p.den),(p.mU=false->∀nm,Ne c=some nm->N' j=some nm)->(∀c∈p.cs,∀nm,Ne c=some nm->N' (bk c)=some nm)->mi p.ks Ne N'->(lt=true->p.flat=true)->
  (p.mU=true->c=j/\∀k,N'.sub (j-SB) k=Ne.sub (j-SB) k)->qu Ne De w base c (p.mk (λc=>c) x)->qu N' D' w base j (p.mk bk x)
 | .var p,x,hc,hN,hK,hf,_,h=>sW.back hT hD (hc rfl) hN hK (by simpa only[aH.flat] using hf) h
 | .row t,x,hc,hN,hK,hf,_,h=>nE.back hT hD (hc rfl) hK (by simpa only[aH.flat] using hf) h
 | .store ep,x,hc,hN,hK,hf,hs,h=>by
  obtain⟨rfl,h2⟩:=hs rfl;exact(jd.back hT hD hf (show jd De w base Ne c (.store ep) x from h)).uy h2
theorem Gr {N:Names}{D:Nat->Prop}{w:World}{id bl:Nat}{o:fP}(h:qu N D w base id o)(hr:o.rw=true): ∃nm,N id=some nm:=by
 cases o with
 |dead=>simp[fP.rw] at hr
 |void=>simp[fP.rw] at hr
 |store _ _=>simp[fP.rw] at hr
 |var v=>obtain⟨nm,a,e1,_⟩:=h;exact⟨nm,e1⟩
 |row ro t xs=>obtain⟨nm,e1,_⟩:=h;exact⟨nm,e1⟩
def UJ (pre e:jt):Bool:=e.closed&&e.heap.all λo=>decide (50<=o.1)||(pre.heap.any λq=>decide (q.1=o.1)&&q.2.isVar)
structure Pg (pre e:jt):Prop where
 closed:wa e
 var: ∀q∈e.heap,q.1<50->∃q'∈pre.heap,q'.1=q.1/\q'.2.isVar=true
theorem Gs {pre e:jt}(h:UJ pre e=true):Pg pre e:=by
 simp only[UJ,zdl,zdW] at h;refine⟨uC h.1,λq hq ug=>?_⟩;have:=h.2 q hq;have hn: ¬50<=q.1:=by omega
 simp only[hn,decide_false,zeD,List.any_eq_true,zdl,zdr] at this;exact this
theorem z7 {lt:Bool}{h:Nat->Option fP}{pre:jt}{b:kq}{ro:List Nat}{s:St}{d0:cP pre.heap}(M:H2 s pre b ro d0)(hs:s.h=h){j:Nat}{o:fP}(ho:tG lt h pre b ro j=some o)(hd:o≠ .dead):
  j∉iM pre.heap b/\((h j=some o/\(lt=true\/j∉ro))\/(lt=false/\j∈ro/\∃r t xs,h j=some (.row r t xs)/\o= .row true t xs)):=by
 unfold tG at ho;cases lt with
 |true=>
  simp only[lV] at ho;split at ho
  ·cases ho;exact absurd rfl hd
  ·rename_i hj;exact⟨hj, .inl ⟨ho, .inl rfl⟩⟩
 |false=>
  simp only[ra,lV] at ho;by_cases hj:j∈ro
  ·obtain⟨h1,o',h2,h3⟩:=M.ro j hj
   rw[hs] at h2;rw[if_pos hj,if_neg h1,h2] at ho;rcases h3 with⟨v,rfl⟩|⟨r,t,xs,rfl⟩
   ·simp only[RJ,zdj] at ho;exact absurd ho.symm hd
   ·simp only[RJ,zdj] at ho
    exact⟨h1, .inr ⟨rfl,hj,r,t,xs,h2,ho.symm⟩⟩
  ·rw[if_neg hj] at ho
   split at ho
   ·cases ho;exact absurd rfl hd
   ·rename_i BR;exact⟨BR, .inl ⟨ho, .inr hj⟩⟩
theorem Gt {lt:Bool}{h:Nat->Option fP}{pre:jt}{b:kq}{ro:List Nat}{j:Nat}(ho:tG lt h pre b ro j=none):h j=none:=by
 unfold tG at ho;cases lt with
 |true=>
  simp only[lV] at ho;split at ho
  ·cases ho
  ·exact ho
 |false=>
  simp only[ra,lV,RJ] at ho;split at ho
  ·split at ho<;>cases ho
  ·split at ho
   ·cases ho
   ·exact ho
theorem Ph {lt:Bool}{h:Nat->Option fP}{pre:jt}{b:kq}{ro:List Nat}{s:St}{d0:cP pre.heap}(M:H2 s pre b ro d0)(hs:s.h=h){j:Nat}(hj:h j=some .dead):tG lt h pre b ro j=some .dead:=by
 unfold tG;have Nw:j∉ro:=λhr=>by
  obtain⟨_,o,h1,h2⟩:=M.ro j hr;rw[hs,hj] at h1;cases h1;rcases h2 with⟨v,e⟩|⟨r,t,xs,e⟩<;>cases e
 cases lt with
 |true=>
  simp only[lV];split
  ·rfl
  ·exact hj
 |false=>
  simp only[ra,lV,if_neg Nw];split
  ·rfl
  ·exact hj
theorem NI {b:kq}{fresh c:Nat}(h:c<50):back b fresh c=match b.get c with|some (.at_ i)=>i|_=>0:=by unfold back;simp only[decide_eq_true h];rfl
theorem DU {b:kq}{fresh c:Nat}(h: ¬c<50)(h': ¬SB<=c):back b fresh c=fresh+(c-50):=by unfold back;simp only[decide_eq_false h,decide_eq_false h']
theorem Jw {c:Nat}(h:SB<=c): ¬c<50:=by unfold SB at h;omega
theorem qd {b:kq}{fresh c:Nat}(h:SB<=c):back b fresh c=c:=by unfold back;simp only[decide_eq_false (Jw h),decide_eq_true h]
open Classical in
theorem Bb {N:Names}{D:Nat->Prop}{w:World}{h:Nat->Option fP}{pre e:jt}{b:kq}{ro:List Nat}{s:St}{d0:cP pre.heap}(hs:s.h=h)(S:jV N D w base h)(M:H2 s pre b ro d0)(hex:Pg pre e){fresh:Nat}(gV:oO h fresh pre.heap e.heap=true){lt:Bool}(kR:lt=true->e.flat=true)
  {Ne:Names} {De:Nat->Prop} {w':World} {dh:cP e.heap} {O:Nat->Prop} (hO: ∀bl,O bl->∃i∈iM pre.heap b,∃o,h i=some o/\iQ N i o bl)
  (Se:jV Ne De w' base (mN (λc=>c) e.heap dh (λ_=>none))) (x:H3 O (yY Ne (mN (λc=>c) e.heap dh (λ_=>none))) (A9 N D ro) De w w') (zau: ∀q∈e.heap,q.1<50->Ne q.1=iY N b pre.heap q.1)
  (Yi: ∀g,cY e.heap (SB+g)=true->∀k c nm,(iY N b pre.heap).sub g k c=some nm->nm.row=false->Ne.sub g k c=some nm):
  ∃N' D',jV N' D' w' base (mN (back b fresh) e.heap dh (tG lt h pre b ro))/\Ext N D w h N' D' w' (mN (back b fresh) e.heap dh (tG lt h pre b ro))/\
   (∀(p:cj) (y:p.den) g,(∀c∈p.cs,c<SB/\∃q∈e.heap,q.1=c)->(∀g∈p.ks,cY e.heap (SB+g)=true)->(lt=true->p.flat=true)->an Ne De w' (p.mk (λc=>c) y) g->an N' D' w' (p.mk (back b fresh) y) g)/\
   (∀c,(c<SB/\∃q∈e.heap,q.1=c)->∀nm,Ne c=some nm->N' (back b fresh c)=some nm)/\(∀g,cY e.heap (SB+g)=false->∀k,N'.sub g k=N.sub g k)/\(∀b,D' b->De b)/\
   ∀i oi bl,mN (back b fresh) e.heap dh (tG lt h pre b ro) i=some oi->iQ N' i oi bl->(∃c o,mN (λc=>c) e.heap dh (λ_=>none) c=some o/\iQ Ne c o bl)\/(h i=some oi/\iQ N i oi bl/\i∉iM pre.heap b):=by
 have jZ: ∀q∈e.heap,(q.2.mU=true↔SB<=q.1):=hex.closed.st;have qS: ∀q∈e.heap,50<=q.1->q.1<SB->back b fresh q.1=fresh+(q.1-50)/\h (fresh+(q.1-50))=none:=by
  intro q hq ug kR;unfold oO at gV;rw[zdW] at gV;have:=gV q hq;have hn: ¬q.1<50:=by omega
  have OP: ¬SB<=q.1:=by omega
  simp only[hn,OP,decide_false,zeD,zdl,Option.isNone_iff_eq_none] at this;exact⟨DU hn OP,this.2⟩
 have zav: ∀q∈e.heap,SB<=q.1->cY pre.heap q.1=true\/iI (h q.1)=true:=by
  intro q hq so;unfold oO at gV;rw[zdW] at gV;have:=gV q hq;rw[decide_eq_false (Jw so),decide_eq_true so] at this;simp only[zeD,zeo,List.any_eq_true,zdr] at this;rcases this with⟨q',uo,h1⟩|h1
  ·exact .inl (fM.2 ⟨q',uo,h1,(M.st q' uo).2 (by omega)⟩)
  ·exact .inr h1
 have UK: ∀q∈e.heap,q.1<50->back b fresh q.1∈iM pre.heap b/\iY N b pre.heap q.1=N (back b fresh q.1)/\∃o,h (back b fresh q.1)=some o/\o.rw=true:=by
  intro q hq ug;obtain⟨q',uo,h1,h2⟩:=hex.var q hq ug;obtain⟨g,hg,hT,h3⟩:=M.bound q' uo;obtain⟨i,rfl⟩:=h3 h2;have kR:q.1<SB:=by unfold SB;omega
  rw[h1] at hg;have qH:b.get q.1=some (.at_ i):=by rw[<-C5 (by omega)];exact hg
  have hb:back b fresh q.1=i:=by rw[NI ug];simp[qH]
  rw[hb];refine⟨Ba.2 ⟨q',uo,by unfold DQ;rw[h1,hg];simp[wP.ids]⟩,?_,?_⟩
  ·exact(qx (N:=N) (b:=b) (l:=pre.heap) kR (λe he=>(M.st e he).1) ⟨q',uo,h1⟩).at_ qH
  ·have uM:q'.2.mU=false:=by cases hq2:q'.2<;>simp[hq2,aH.isVar] at h2<;>rfl
   rcases hT i (by simp[wP.ids]) with⟨o,g1,_,g2⟩|⟨g1,_⟩
   ·rw[hs] at g1;exact⟨o,g1,g2 uM⟩
   ·rw[uM] at g1;cases g1
 obtain⟨D',hD1,hD2,hD3,hD4⟩: ∃D':Nat->Prop,(∀b,D b->D' b)/\(∀b,D' b->De b)/\(lt=true\/∀b,De b->D' b)/\(lt=true->∀b,D' b->D b):=by
  cases lt with
  |true=>exact⟨D,λ_ h=>h,λb hb=>x.frozen b (.inl hb), .inl rfl,λ_ _ h=>h⟩
  |false=>exact⟨De,λb hb=>x.frozen b (.inl hb),λ_ h=>h, .inr λ_ h=>h,by intro e;cases e⟩
 have ta: ∀bl,O bl->yY N h bl:=by
  intro bl hb;obtain⟨i,hi,o,h1,h2⟩:=hO bl hb;exact⟨i,o,h1,h2⟩
 have vp: ∀j,h j=none->N j=none:=by
  intro j hj;cases e':N j with
  |none=>rfl
  |some nm=>exact absurd hj (S.named j nm e')
 let N':Names:=⟨λp=>match p with
  | []=>λj=>match N j with|some nm=>some nm|none=>if(∃q∈e.heap,50<=q.1/\q.1<SB/\fresh+(q.1-50)=j) then Ne (j-fresh+50) else none
  |(g,k)::p=>if cY e.heap (SB+g)=true then Ne.at_ ((g,k)::p) else N.at_ ((g,k)::p)⟩
 have H4: ∀g,cY e.heap (SB+g)=true->∀k,N'.sub g k=Ne.sub g k:=by
  intro g hg k;show(⟨_⟩:Names)=⟨_⟩
  congr 1
  funext p
  show(if cY e.heap (SB+g)=true then Ne.at_ ((g,k)::p) else N.at_ ((g,k)::p))=_
  rw[if_pos hg]
 have wb: ∀g,cY e.heap (SB+g)=false->∀k,N'.sub g k=N.sub g k:=by
  intro g hg k;show(⟨_⟩:Names)=⟨_⟩
  congr 1
  funext p
  show(if cY e.heap (SB+g)=true then Ne.at_ ((g,k)::p) else N.at_ ((g,k)::p))=_
  rw[if_neg (by rw[hg];simp)]
 have hN: ∀j nm,N j=some nm->N' j=some nm:=by
  intro j nm hj;show(match N j with|some nm=>some nm|none=>_)=some nm
  rw[hj]
 have Yj:N.le N':=by
  refine⟨hN,λg k c nm hn hr=>?_⟩;cases hg:cY e.heap (SB+g) with
  |false=>rw[wb g hg];exact hn
  |true=>
   rw[H4 g hg];obtain⟨q,hq,h1,h2⟩:=fM.1 hg;rcases zav q hq (by omega) with h3|h3
   ·rw[h1] at h3
    exact Yi g hg k c nm (by rw[vq h3];exact hn) hr
   ·rw[h1] at h3
    rw[S.iI g h3 k] at hn;cases hn
 have NJ: ∀j nm,N' j=some nm->N j=some nm\/(h j=none/\∃q∈e.heap,back b fresh q.1=j/\Ne q.1=some nm):=by
  intro j nm hj;replace hj:(match N j with|some nm=>some nm|none=>if(∃q∈e.heap,50<=q.1/\q.1<SB/\fresh+(q.1-50)=j) then Ne (j-fresh+50) else none)=some nm:=hj
  cases Uc:N j with
  |some mD=>rw[Uc] at hj;exact .inl hj
  |none=>
   rw[Uc] at hj;simp only at hj;split at hj
   ·rename_i hq
    obtain⟨q,hq,ug,kR,rfl⟩:=hq;obtain⟨h1,h2⟩:=qS q hq ug kR;refine .inr ⟨h2,q,hq,h1,?_⟩;rw[<-hj];congr 1;omega
   ·cases hj
 have hNe: ∀q∈e.heap,q.1<SB->∀nm,Ne q.1=some nm->N' (back b fresh q.1)=some nm:=by
  intro q hq kR nm hn;rcases zdC q.1 50 with ug|ug
  ·obtain⟨_,h2,_⟩:=UK q hq ug
   rw[zau q hq ug,h2] at hn;exact hN _ _ hn
  ·obtain⟨h1,h2⟩:=qS q hq ug kR
   show(match N (back b fresh q.1) with|some nm=>some nm|none=>_)=some nm
   rw[h1,vp _ h2];simp only;rw[if_pos ⟨q,hq,ug,kR,rfl⟩,<-hn];congr 1;omega
 have yy: ∀c,(c<SB/\∃q∈e.heap,q.1=c)->∀nm,Ne c=some nm->N' (back b fresh c)=some nm:=by
  rintro c ⟨kR,q,hq,rfl⟩;exact hNe q hq kR
 have hks: ∀l:List Nat,(∀g∈l,cY e.heap (SB+g)=true)->mi l Ne N':=λl hl g hg k c nm hn _=>by
  rw[H4 g (hl g hg)];exact hn
 have HJ: ∀bl,D bl->w'.heap[bl]?=w.heap[bl]?:=λbl hb=>x.sI bl (S.frozen bl hb) λho=>(S.tJ (ta bl ho)).1 hb;have W8: ∀q∈e.heap,∀(y:q.2.den),mN (λc=>c) e.heap dh (λ_=>none) q.1=some (q.2.mk (λc=>c) y)->∀bl,iQ N' (back b fresh q.1) (q.2.mk (back b fresh) y) bl->iQ Ne q.1 (q.2.mk (λc=>c) y) bl:=by
  rintro⟨c,p⟩ hq y hm bl ho
  have mZ:=Se.obj _ _ hm;have key:p.mU=false->(p.mk (λc=>c) y).rw=true->ox N' (back b fresh c) bl->ox Ne c bl:=by
   rintro uM hr ⟨nm,a,h1,h2,h3⟩
   obtain⟨mD,zaw⟩:=Gr (bl:=bl) mZ hr;have kR:c<SB:=by
    rcases zdC c SB with h|h
    ·exact h
    ·rw[(jZ _ hq).2 h] at uM;cases uM
   have:=hNe _ hq kR mD zaw;rw[h1] at this;cases this;exact⟨nm,a,zaw,h2,h3⟩
  cases p with
  |var p=>exact key rfl rfl ho
  |row t=>exact key rfl rfl ho
  |store ep=>
   have so:=(jZ _ hq).1 rfl;simp only at so;have hg:cY e.heap (SB+(c-SB))=true:=by
    rw[show SB+(c-SB)=c by omega]
    exact fM.2 ⟨_,hq,rfl,rfl⟩
   have ho:pK N' c (.store ep) y bl:=by
    have:=ho;rw[show back b fresh ((c,aH.store ep):Nat×aH).1=c from qd so] at this
    exact this
   exact(pK.uy (H4 _ hg)).1 ho
 have hold: ∀j o bl,h j=some o->iQ N j o bl->j∉iM pre.heap b->(lt=true\/j∉ro)->bl<w.heap.size/\¬O bl/\¬D' bl:=by
  intro j o bl hj hr hjr hjo;have hOw:yY N h bl:=⟨j,o,hj,hr⟩;have hnO: ¬O bl:=by
   intro ho;obtain⟨i,hi,o',mS,T9⟩:=hO _ ho;have:=S.apart i j o' o bl mS hj T9 hr;subst this;exact hjr hi
  refine⟨(S.oX hj hr).2.2,hnO,λhd=>?_⟩;have hnD:=(S.tJ hOw).1;rcases hjo with hjo|hjo
  ·exact hnD (hD4 hjo _ hd)
  ·rcases x.Jh _ (hD2 _ hd) with(h1|⟨i,hi,mD,a',h1,h2,h3⟩)|h1|h1
   ·exact hnD h1
   ·rcases M.cases (by rw[hs];exact S) hi h1 h2 with h4|⟨o',h4,h5⟩
    ·exact hnD (h3▸h4)
    ·rw[hs] at h4
     have:=S.apart i j _ o bl h4 hj (h3▸h5) hr;subst this;exact hjo hi
   ·exact hnO h1
   ·have:=(S.oX hj hr).2.2
    omega
 have zch: ∀g,cY e.heap (SB+g)=true->∃o,mN (back b fresh) e.heap dh (tG lt h pre b ro) (SB+g)=some o/\iI (some o)=false/\h (SB+g)≠some .dead:=by
  intro g hg;obtain⟨q,hq,h1,h2⟩:=fM.1 hg;have hb:back b fresh q.1=SB+g:=by rw[qd (by omega),h1]
  cases hm:mN (back b fresh) e.heap dh (tG lt h pre b ro) (SB+g) with
  |none=>exact absurd hm (pN ⟨q,hq,hb⟩)
  |some o=>
   refine⟨o,rfl,?_,?_⟩
   ·rcases m8 hm with⟨q',_,_,y,_,rfl⟩|⟨h3,_⟩
    ·exact yj _ _ _
    ·exact absurd hb (h3 q hq)
   ·intro hd
    rcases zav q hq (by omega) with h3|h3
    ·obtain⟨q',uo,h4,h5⟩:=fM.1 h3
     obtain⟨gg,hgg,hT,_⟩:=M.bound q' uo;rw[uB (by omega)] at hgg
     cases hgg;rcases hT q'.1 (by simp[wP.ids]) with⟨o',g1,g2,_⟩|⟨_,g1⟩
     ·rw[hs,h4,h1,hd] at g1;cases g1;cases g2
     ·rw[hs,h4,h1,hd] at g1;cases g1
    ·rw[h1,hd] at h3;cases h3
 have Nk: ∀g,h (SB+g)=some .dead->(∀q∈e.heap,back b fresh q.1≠SB+g)/\cY e.heap (SB+g)=false:=by
  intro g hd;have uM:cY e.heap (SB+g)=false:=by
   cases hg:cY e.heap (SB+g) with
   |false=>rfl
   |true=>obtain⟨_,_,_,h3⟩:=zch g hg;exact absurd hd h3
  refine⟨λq hq hb=>?_,uM⟩;rcases zdC q.1 50 with ug|ug
  ·obtain⟨_,_,o,h1,h2⟩:=UK q hq ug
   rw[hb,hd] at h1;cases h1;cases h2
  ·rcases zdC q.1 SB with kR|so
   ·obtain⟨h1,h2⟩:=qS q hq ug kR
    rw[<-h1,hb,hd] at h2;cases h2
   ·rw[qd so] at hb
    rw[fM.2 ⟨q,hq,hb,(jZ q hq).2 so⟩] at uM;cases uM
 have zax:Ext N D w h N' D' w' (mN (back b fresh) e.heap dh (tG lt h pre b ro)):=by
  refine⟨Yj,hD1,x.os,x.tape,x.output,x.size,λbl hb ho=>x.sI bl hb λh1=>ho (ta bl h1),?_,?_,?_,?_,λg hg=>?_⟩
  ·rintro bl zci ⟨j,o,hj,hr⟩
   rcases m8 hj with⟨q,hq,rfl,y,h1,rfl⟩|⟨hm,h1⟩
   ·exact ta _ (x.own _ zci ⟨q.1,_,h1,W8 q hq y h1 bl hr⟩)
   ·obtain⟨_,⟨h3,_⟩|⟨_,_,r,t,xs,_,rfl⟩⟩:=z7 M hs h1 (by rintro rfl;exact hr.elim)
    ·refine⟨j,o,h3,?_⟩
     have Uc:N' j=N j:=by
      cases e1:N' j with
      |some nm=>
       rcases NJ j nm e1 with h4|⟨h4,_⟩
       ·exact h4.symm
       ·rw[h3] at h4;cases h4
      |none=>
       cases e2:N j with
       |none=>rfl
       |some nm=>rw[hN j nm e2] at e1;cases e1
     by_cases W9: ∃ep xs,o= .store ep xs
     ·obtain⟨ep,xs,rfl⟩:=W9
      have e3:=S.tO h3;refine(iQ.names Uc (wb _ ?_)).1 hr;rw[e3];cases hg:cY e.heap j with
      |false=>rfl
      |true=>
       obtain⟨q,hq,h4,h5⟩:=fM.1 hg;exact absurd (by rw[qd ((jZ q hq).1 h5),h4]) (hm q hq)
     ·cases o with
      |dead=>exact hr.elim
      |void=>exact hr.elim
      |var v=>exact(ox.eq Uc).1 hr
      |row r t xs=>
       cases r with
       |true=>exact hr.elim
       |false=>exact(ox.eq Uc).1 hr
      |store ep xs=>exact absurd ⟨ep,xs,rfl⟩ W9
    ·exact hr.elim
  ·intro bl hb
   rcases x.Jh _ (hD2 _ hb) with(h1|⟨i,hi,mD,a',h1,h2,h3⟩)|h1|h1
   ·exact .inl h1
   ·rcases M.cases (by rw[hs];exact S) hi h1 h2 with h4|⟨o',h4,h5⟩
    ·exact .inl (h3▸h4)
    ·rw[hs] at h4
     exact .inr (.inl ⟨i,_,h4,h3▸h5⟩)
   ·exact .inr (.inl (ta _ h1))
   ·exact .inr (.inr h1)
  ·intro j nm hn
   rcases NJ j nm hn with h1|⟨h1,_⟩
   ·exact .inl h1
   ·exact .inr h1
  ·intro j hj
   have hm: ∀q∈e.heap,back b fresh q.1≠j:=λq hq e'=>pN (l:=e.heap) (d:=dh) (h:=tG lt h pre b ro) (b:=back b fresh) ⟨q,hq,e'⟩ hj;rw[uD hm] at hj;exact Gt hj
  ·obtain⟨h1,h2⟩:=Nk g hg
   refine⟨?_,wb g h2⟩;rw[uD h1];exact Ph M hs hg
 have yx: ∀i oi bl,mN (back b fresh) e.heap dh (tG lt h pre b ro) i=some oi->iQ N' i oi bl->
   (∃q∈e.heap,back b fresh q.1=i/\∃o,mN (λc=>c) e.heap dh (λ_=>none) q.1=some o/\iQ Ne q.1 o bl)\/
    (h i=some oi/\iQ N i oi bl/\bl<w.heap.size/\¬O bl/\i∉iM pre.heap b):=by
   intro i oi bl hi ri;rcases m8 hi with⟨q,hq,rfl,y,h1,rfl⟩|⟨hm,h1⟩
   ·exact .inl ⟨q,hq,rfl,_,h1,W8 q hq y h1 bl ri⟩
   ·obtain⟨h2,⟨h3,h4⟩|⟨_,_,r,t,xs,_,rfl⟩⟩:=z7 M hs h1 (by rintro rfl;exact ri.elim)
    ·have hn:iQ N i oi bl:=by
      have Uc:N' i=N i:=by
       cases e1:N' i with
       |some nm=>
        rcases NJ i nm e1 with h4|⟨h4,_⟩
        ·exact h4.symm
        ·rw[h3] at h4;cases h4
       |none=>
        cases e2:N i with
        |none=>rfl
        |some nm=>rw[hN i nm e2] at e1;cases e1
      by_cases W9: ∃ep xs,oi= .store ep xs
      ·obtain⟨ep,xs,rfl⟩:=W9
       have e3:=S.tO h3;refine(iQ.names Uc (wb _ ?_)).1 ri;rw[e3];cases hg:cY e.heap i with
       |false=>rfl
       |true=>
        obtain⟨q,hq,h4,h5⟩:=fM.1 hg;exact absurd (by rw[qd ((jZ q hq).1 h5),h4]) (hm q hq)
      ·cases oi with
       |dead=>exact ri.elim
       |void=>exact ri.elim
       |var v=>exact(ox.eq Uc).1 ri
       |row r t xs=>
        cases r with
        |true=>exact ri.elim
        |false=>exact(ox.eq Uc).1 ri
       |store ep xs=>exact absurd ⟨ep,xs,rfl⟩ W9
     obtain⟨g1,g2,_⟩:=hold i oi bl h3 hn h2 h4;exact .inr ⟨h3,hn,g1,g2,h2⟩
    ·exact ri.elim
 refine⟨N',D',⟨?_,?_,?_,?_,zdA S.size x.size,?_⟩,zax,?_,yy,wb,hD2,λi oi bl hi ri=>?_⟩
 ·intro j o hj
  rcases m8 hj with⟨q,hq,rfl,y,h1,rfl⟩|⟨hm,h1⟩
  ·refine RK hD3 hD2 q.2 y (λuM=>hNe q hq ?_) (λc hc=>yy c (hex.closed.cs c (.inr (List.mem_flatMap.2 ⟨q,hq,hc⟩)))) (hks _ λg hg=>hex.closed.ks g (.inr (List.mem_flatMap.2 ⟨q,hq,hg⟩))) (λe'=>?_) (λXa=>?_) (Se.obj _ _ h1)
   ·rcases zdC q.1 SB with h|h
    ·exact h
    ·rw[(jZ q hq).2 h] at uM;cases uM
   ·have:=kR e'
    simp only[jt.flat,zdl,zdW] at this;exact this.2 q hq
   ·have so:=(jZ q hq).1 Xa
    rw[qd so];refine⟨rfl,H4 _ ?_⟩;rw[show SB+(q.1-SB)=q.1 by omega]
    exact fM.2 ⟨q,hq,rfl,Xa⟩
  ·by_cases hd:o= .dead
   ·subst hd;trivial
   obtain⟨h2,⟨h3,h4⟩|⟨h4,h5,r,t,xs,h6,rfl⟩⟩:=z7 M hs h1 hd
   ·refine nN (S.obj j o h3) Yj hD1 HJ (λbl hr=>?_) (λep xs eo=>?_)
    ·obtain⟨g1,g2,g3⟩:=hold j o bl h3 hr h2 h4
     exact⟨x.sI _ g1 g2,λ_=>g3⟩
    ·subst eo
     have e3:=S.tO h3;refine wb _ ?_;rw[e3];cases hg:cY e.heap j with
     |false=>rfl
     |true=>
      obtain⟨q,hq,h4,h5⟩:=fM.1 hg;exact absurd (by rw[qd ((jZ q hq).1 h5),h4]) (hm q hq)
   ·obtain⟨nm,e1,e2,e3,e4,e5,e6⟩:=S.obj j _ h6
    refine⟨nm,hN _ _ e1,e2,e3,e4,e5,?_⟩;cases hb:nm.base with
    |none=>rw[hb] at e6;exact e6
    |some a=>
     rw[hb] at e6;obtain⟨f1,⟨cc,ty,fz,f2,f3,_⟩,f4,f5⟩:=e6;have hDa:D' a.block:=by
      rcases hD3 with h7|h7
      ·rw[h4] at h7;cases h7
      ·exact h7 _ (x.frozen _ (.inr ⟨j,h5,nm,a,e1,hb,rfl⟩))
     have vn:w'.heap[a.block]?=w.heap[a.block]?:=by
      refine x.sI _ (Array.getElem?_eq_some_iff.1 f2).1 λho=>?_;cases r with
      |true=>simp only[if_true] at f4;exact(S.tJ (ta _ ho)).1 f4
      |false=>
       obtain⟨i,hi,o',mS,T9⟩:=hO _ ho;have:=S.apart i j o' _ _ mS h6 T9 (iQ.of rfl e1 hb);subst this;exact h2 hi
     refine⟨f1,⟨cc,ty,fz,by rw[vn];exact f2,f3,by intro e';cases e'⟩,by simp only[if_true];exact hDa,λi y hy=>?_⟩
     refine iq.func (kv Yj hD1 HJ t y _ (f5 i y hy)) λm=>?_;simp only[aV,World.cell?,vn]
 ·intro i j oi oj bl hi hj ri rj
  rcases yx i oi bl hi ri with⟨q,hq,rfl,o,k2,k3⟩|⟨k1,k2,k3,k4,_⟩<;>rcases yx j oj bl hj rj with⟨q',uo,rfl,o',k2',k3'⟩|⟨k1',k2',k3',k4',_⟩
  ·rw[Se.apart q.1 q'.1 o o' bl k2 k2' k3 k3']
  ·exact absurd (x.own _ k3' ⟨q.1,o,k2,k3⟩) k4'
  ·exact absurd (x.own _ k3 ⟨q'.1,o',k2',k3'⟩) k4
  ·exact S.apart i j oi oj bl k1 k1' k2 k2'
 ·intro bl hb
  exact Se.frozen bl (hD2 bl hb)
 ·intro j nm hn
  rcases NJ j nm hn with h1|⟨_,q,hq,h2,_⟩
  ·intro h2
   exact S.named j nm h1 (zax.live j h2)
  ·exact pN ⟨q,hq,h2⟩
 ·intro g hg
  have Xb: ∀q∈e.heap,back b fresh q.1≠SB+g:=by
   intro q hq hb;cases hm:mN (back b fresh) e.heap dh (tG lt h pre b ro) (SB+g) with
   |none=>exact pN ⟨q,hq,hb⟩ hm
   |some o=>
    rw[hm] at hg;rcases m8 hm with⟨q',_,_,y,_,rfl⟩|⟨h3,_⟩
    ·rw[yj] at hg;cases hg
    ·exact h3 q hq hb
  have uM:cY e.heap (SB+g)=false:=by
   cases CC:cY e.heap (SB+g) with
   |false=>rfl
   |true=>
    obtain⟨q,hq,h1,h2⟩:=fM.1 CC;exact absurd (by rw[qd ((jZ q hq).1 h2),h1]) (Xb q hq)
  rw[uD Xb] at hg;have UH:iI (h (SB+g))=true:=by
   cases hr:tG lt h pre b ro (SB+g) with
   |none=>rw[Gt hr];rfl
   |some o=>
    rw[hr] at hg;obtain⟨_,⟨h3,_⟩|⟨_,_,r,t,xs,_,rfl⟩⟩:=z7 M hs hr (by rintro rfl;cases hg)
    ·rw[h3];exact hg
    ·cases hg
  exact λk=>(wb g uM k).trans (S.iI g UH k)
 ·intro p y g hp hk hf hg
  exact C6 hD3 p y g (λc hc=>yy c (hp c hc)) (hks _ hk) hf hg
 ·rcases yx i oi bl hi ri with⟨q,_,_,o,k2,k3⟩|⟨k1,k2,_,_,k5⟩
  ·exact .inl ⟨q.1,o,k2,k3⟩
  ·exact .inr ⟨k1,k2,k5⟩
end AM
namespace AM
open Go
variable {α:Type}{P:Program}{base:Nat}
section
variable {M:Names}{D:Nat->Prop}{w:World}
theorem RL {c:Nat}: ∀{p:aH} {x:p.den},jd D w base M c p x->qu M D w base c (p.mk (λc=>c) x)
 | .var p,x,h=>by simp only[jd] at h;exact h
 | .row t,x,h=>by simp only[jd] at h;exact h
 | .store ep,x,h=>h
theorem RM {c:Nat}: ∀{p:aH} {x:p.den},qu M D w base c (p.mk (λc=>c) x)->jd D w base M c p x
 | .var p,x,h=>by simp only[jd];exact h
 | .row t,x,h=>by simp only[jd];exact h
 | .store ep,x,h=>h
theorem DV {c b:Nat}: ∀{p:aH} {x:p.den},iQ M c (p.mk (λc=>c) x) b↔pK M c p x b
 | .var p,x=>by simp only[pK];exact Iff.rfl
 | .row t,x=>by simp only[pK];exact Iff.rfl
 | .store ep,x=>Iff.rfl
theorem kM.obj: ∀{l:List (Nat×aH)} {d:cP l},kM D w base M l d->∀c o,mN (λc=>c) l d (λ_=>none) c=some o->qu M D w base c o
 | [],_,_,c,o,h=>by simp[mN] at h
 |(ce,pe)::os,d,hp,c,o,h=>by
  simp only[kM] at hp;simp only[mN] at h;split at h
  ·rename_i e
   subst e;cases h;exact RL hp.1
  ·exact kM.obj hp.2.1 c o h
theorem pw.of: ∀{l:List (Nat×aH)} {d:cP l} {c b:Nat} {o:fP},mN (λc=>c) l d (λ_=>none) c=some o->iQ M c o b->pw M l d b
 | [],_,c,b,o,h,_=>by simp[mN] at h
 |(ce,pe)::os,d,c,b,o,h,ho=>by
  simp only[pw];simp only[mN] at h;split at h
  ·rename_i e
   subst e;cases h;exact .inl (DV.1 ho)
  ·exact .inr (pw.of h ho)
theorem pw.obj: ∀{l:List (Nat×aH)} {d:cP l} {b:Nat},AM.nodup (l.map (·.1))=true->pw M l d b->∃c o,mN (λc=>c) l d (λ_=>none) c=some o/\iQ M c o b
 | [],_,b,_,h=>by simp only[pw] at h
 |(ce,pe)::os,d,b,hn,h=>by
  simp only[pw] at h;simp only[zea,AM.nodup,zdl,zeC,zes,decide_eq_false_iff_not] at hn;rcases h with h|h
  ·exact⟨ce,pe.mk (λc=>c) d.1,by simp[mN],DV.2 h⟩
  ·obtain⟨c,o,h1,h2⟩:=pw.obj hn.2 h
   refine⟨c,o,?_,h2⟩;simp only[mN];rw[if_neg,h1];rintro rfl
   rcases m8 h1 with⟨q,hq,h3,_⟩|⟨_,h3⟩
   ·exact hn.1 (List.mem_map.2 ⟨q,hq,h3⟩)
   ·cases h3
theorem kM.apart: ∀{l:List (Nat×aH)} {d:cP l},kM D w base M l d->∀c c' o o' b,mN (λc=>c) l d (λ_=>none) c=some o->mN (λc=>c) l d (λ_=>none) c'=some o'->iQ M c o b->iQ M c' o' b->c=c'
 | [],_,_,c,c',o,o',b,h,_,_,_=>by simp[mN] at h
 |(ce,pe)::os,d,hp,c,c',o,o',b,h,h',ho,mS=>by
  simp only[kM] at hp;simp only[mN] at h h';split at h<;>split at h'
  ·rename_i e e';rw[e,e']
  ·rename_i e e'
   subst e;cases h;exact(hp.2.2 b (DV.1 ho) (pw.of h' mS)).elim
  ·rename_i e e'
   subst e';cases h';exact(hp.2.2 b (DV.1 mS) (pw.of h ho)).elim
  ·exact kM.apart hp.2.1 c c' o o' b h h' ho mS
theorem Jx {l:List (Nat×aH)}{d:cP l}(hp:kM D w base M l d)(hn:C1 M l)(hf: ∀b,D b->b<w.heap.size)(hs:base<=w.heap.size):jV M D w base (mN (λc=>c) l d (λ_=>none)):=by
 refine⟨hp.obj,hp.apart,hf,λc nm hc=>(by obtain⟨e,he,h1,_⟩:=hn.1 c nm hc;exact pN ⟨e,he,h1⟩),hs,λg hg=>hn.2 g λe he h1=>?_⟩
 cases hm:mN (λc=>c) l d (λ_=>none) (SB+g) with
 |none=>exact pN ⟨e,he,h1⟩ hm
 |some o=>
  rw[hm] at hg;rcases m8 hm with⟨q',_,_,x,_,rfl⟩|⟨_,h5⟩
  ·rw[yj] at hg;cases hg
  ·cases h5
theorem Jy: ∀{l:List (Nat×aH)} {d:cP l},AM.nodup (l.map (·.1))=true->(∀c o,mN (λc=>c) l d (λ_=>none) c=some o->qu M D w base c o)->(∀c c' o o' b,mN (λc=>c) l d (λ_=>none) c=some o->mN (λc=>c) l d (λ_=>none) c'=some o'->iQ M c o b->iQ M c' o' b->c=c')->kM D w base M l d
 | [],_,_,_,_=>by simp only[kM]
 |(ce,pe)::os,d,hn,h1,h2=>by
  simp only[zea,AM.nodup,zdl,zeC,zes,decide_eq_false_iff_not] at hn;have lR: ∀c o,mN (λc=>c) os d.2 (λ_=>none) c=some o->c≠ce/\mN (λc=>c) ((ce,pe)::os) d (λ_=>none) c=some o:=by
   intro c o h;have hc:c≠ce:=by
    rintro rfl
    rcases m8 h with⟨q,hq,h3,_⟩|⟨_,h3⟩
    ·exact hn.1 (List.mem_map.2 ⟨q,hq,h3⟩)
    ·cases h3
   refine⟨hc,?_⟩;simp only[mN];rw[if_neg hc,h]
  have O3:mN (λc=>c) ((ce,pe)::os) d (λ_=>none) ce=some (pe.mk (λc=>c) d.1):=by simp[mN]
  simp only[kM];refine⟨RM (h1 ce _ O3),Jy hn.2 (λc o h=>h1 c o (lR c o h).2) (λc c' o o' b h h'=>h2 c c' o o' b (lR c o h).2 (lR c' o' h').2),λb hb uX=>?_⟩;obtain⟨c,o,h3,h4⟩:=pw.obj hn.2 uX;obtain⟨h5,h6⟩:=lR c o h3;exact h5 (h2 c ce o _ b h6 O3 h4 (DV.2 hb))
theorem xN {l:List (Nat×aH)}{d:cP l}(hn:AM.nodup (l.map (·.1))=true)(UL: ∀c nm,M c=some nm->∃e∈l,e.1=c/\e.2.mU=false)(S:jV M D w base (mN (λc=>c) l d (λ_=>none))):kM D w base M l d/\C1 M l:=by
 refine⟨Jy hn S.obj S.apart,UL,λg hg=>S.iI g ?_⟩;rw[uD hg];rfl
end
section
variable {N N' N2:Names}{D D':Nat->Prop}{w w':World}{ks:List Nat}
theorem Gu (oA: ∀g∈ks,∀k,N.sub g k=Names.nil)(js: ∀g,g∉ks->∀k c nm,N'.sub g k c=some nm->nm.row=false->N2.sub g k c=some nm){tag n c:Nat}{v v':Option Value}(h:xk N tag n c v)(h':xk N' tag n c v'):xk N2 tag n c v':=by
 cases n with
 |zero=>exact h'
 |succ k=>
  obtain⟨nm,a,h1,_⟩:=h;obtain⟨mD,a',h2,h3,h4⟩:=h';refine⟨mD,a',js tag (λhm=>?_) _ _ _ h2 h3,h3,h4⟩;rw[oA tag hm] at h1;cases h1
theorem rM (oA: ∀g∈ks,∀k,N.sub g k=Names.nil)(js: ∀g,g∉ks->∀k c nm,N'.sub g k c=some nm->nm.row=false->N2.sub g k c=some nm): ∀(t:Ty) (x:t.den) (g g':Nat->Option Value),iq N D w t x g->iq N' D' w' t x g'->iq N2 D' w' t x g'
 | .int _,_,_,_,_,h=>by simp only[iq] at*;exact h
 | .bool,_,_,_,_,h=>by simp only[iq] at*;exact h
 | .str,_,_,_,_,h=>by simp only[iq] at*;exact h
 | .nil,_,_,_,_,_=>by simp only[iq]
 | .cons a b,p,g,g',h,h'=>⟨rM oA js a p.1 _ _ h.1 h'.1,rM oA js b p.2 _ _ h.2 h'.2⟩
 | .arr n t,xs,g,g',h,h'=>⟨h'.1,λi x hx=>rM oA js t x _ _ (h.2 i x hx) (h'.2 i x hx)⟩
 | .deep t,xs,g,g',h,h'=>by
  obtain⟨a,cap,h1,h2,h3,h4⟩:=h;obtain⟨a',sk,H5,RN,Rf,Yk⟩:=h';refine⟨a',sk,H5,RN,Rf,λad ha hx=>?_⟩;obtain⟨h5',h6',h7'⟩:=Yk ad ha hx;refine⟨h5',h6',λi x hi=>?_⟩;cases a with
  |none=>rw[h3 rfl] at h2;exact absurd (Nat.le_zero.1 h2) hx
  |some ad0=>exact rM oA js t x _ _ ((h4 ad0 rfl hx).2.2 i x hi) (h7' i x hi)
 | .ref g,n,c,c',h,h'=>Gu (n:=n) oA js h h'
theorem Pj {agg:Bool}{size:Nat}{R R' R2:(Nat->Option Value)->Prop}(h: ∀g g',R g->R' g'->R2 g'){v v':Value}(hv:jw agg size R v)(hv':jw agg size R' v'):jw agg size R2 v':=by
 cases agg with
 |true=>
  obtain⟨c,_,_,h3⟩:=hv;obtain⟨c',h1,h2,Rf⟩:=hv';exact⟨c',h1,h2,h _ _ h3 Rf⟩
 |false=>exact h _ _ hv hv'
mutual
theorem wc (oA: ∀g∈ks,∀k,N.sub g k=Names.nil)(jZ: ∀i nm,N' i=some nm->N2 i=some nm)(js: ∀g,g∉ks->∀k c nm,N'.sub g k c=some nm->nm.row=false->N2.sub g k c=some nm): ∀(v:AV) (g g':Nat->Option Value),an N D w v g->an N' D' w' v g'->an N2 D' w' v g'
 | .undef,_,_,_,_=>by simp only[an]
 | .val v,g,g',_,h=>by simp only[an] at*;exact h
 | .ptr id p,g,g',_,h=>by
  simp only[an] at*;obtain⟨nm,a,o,h1,h2⟩:=h;exact⟨nm,a,o,jZ _ _ h1,h2⟩
 | .tail id off,g,g',_,h=>by
  simp only[an] at*;obtain⟨nm,h1,h2⟩:=h;exact⟨nm,jZ _ _ h1,h2⟩
 | .slice id p off len,g,g',_,h=>by
  simp only[an] at*;obtain⟨nm,h1,h2⟩:=h;exact⟨nm,jZ _ _ h1,h2⟩
 | .dp t xs,g,g',h,h'=>by simp only[an] at*;exact rM oA js _ _ _ _ h h'
 | .tF v,g,g',h,h'=>by
  simp only[an] at*;obtain⟨_,_,_,_,h4⟩:=h;obtain⟨a,h1,h2,h3,Yk⟩:=h';exact⟨a,h1,h2,h3,wc oA jZ js v _ _ h4 Yk⟩
 | .agg fs,g,g',h,h'=>by simp only[an] at*;exact B6 oA jZ js fs g g' h h'
 | .arr n t xs,g,g',h,h'=>by simp only[an] at*;exact rM oA js _ _ _ _ h h'
 | .AN vs,g,g',h,h'=>by
  simp only[an] at*;obtain⟨cs,_,h2⟩:=h;obtain⟨tq,H5,RN⟩:=h';exact⟨tq,H5,th oA jZ js vs _ _ h2 RN⟩
 | .wN fn vs,g,g',h,h'=>by
  simp only[an] at*;obtain⟨cs,_,h2⟩:=h;obtain⟨tq,H5,RN⟩:=h';exact⟨tq,H5,th oA jZ js vs _ _ h2 RN⟩
 | .xb,g,g',_,h=>by simp only[an] at*;exact h
 | .QH id p f off,g,g',_,h=>by
  simp only[an] at*;obtain⟨nm,a,o,h1,h2⟩:=h;exact⟨nm,a,o,jZ _ _ h1,h2⟩
 | .Cz fn vs,g,g',h,h'=>by
  simp only[an] at*;obtain⟨cs,_,h2⟩:=h;obtain⟨tq,H5,RN⟩:=h';exact⟨tq,H5,th oA jZ js vs _ _ h2 RN⟩
 | .ue id n,g,g',_,h=>by
  simp only[an] at*;obtain⟨nm,a,h1,h2⟩:=h;exact⟨nm,a,jZ _ _ h1,h2⟩
 | .rf _ _ _,g,g',h,h'=>by simp only[an] at*;exact Gu oA js h h'
theorem B6 (oA: ∀g∈ks,∀k,N.sub g k=Names.nil)(jZ: ∀i nm,N' i=some nm->N2 i=some nm)(js: ∀g,g∉ks->∀k c nm,N'.sub g k c=some nm->nm.row=false->N2.sub g k c=some nm): ∀(l:List AV) (g g':Nat->Option Value),ff N D w l g->ff N' D' w' l g'->ff N2 D' w' l g'
 | [],_,_,_,_=>by simp only[ff]
 |x::xs,g,g',h,h'=>by
  simp only[ff] at*;exact⟨wc oA jZ js x _ _ h.1 h'.1,B6 oA jZ js xs _ _ h.2 h'.2⟩
theorem th (oA: ∀g∈ks,∀k,N.sub g k=Names.nil)(jZ: ∀i nm,N' i=some nm->N2 i=some nm)(js: ∀g,g∉ks->∀k c nm,N'.sub g k c=some nm->nm.row=false->N2.sub g k c=some nm): ∀(l:List AV) (cs tq:List Value),bA N D w l cs->bA N' D' w' l tq->bA N2 D' w' l tq
 | [],_,_,_,h=>by simp only[bA] at*;exact h
 |x::xs,cs,tq,h,h'=>by
  simp only[bA] at*;obtain⟨c,cs,rfl,h2,h3⟩:=h;obtain⟨c',tq,rfl,RN,Rf⟩:=h';exact⟨c',tq,rfl,Pj (λg g'=>wc oA jZ js x g g') h2 RN,th oA jZ js xs _ _ h3 Rf⟩
end
theorem nE.swap (oA: ∀g∈ks,∀k,N.sub g k=Names.nil)(jZ: ∀i nm,N' i=some nm->N2 i=some nm)(js: ∀g,g∉ks->∀k c nm,N'.sub g k c=some nm->nm.row=false->N2.sub g k c=some nm){i:Nat}{ro ro':Bool}{t:Ty}{xs:List t.den}(h:nE N D w base i ro t xs)(h':nE N' D' w' base i ro' t xs):nE N2 D' w' base i ro' t xs:=by
 obtain⟨nm,e1,e2,e3,e4,e5,e6⟩:=h;obtain⟨mD,f1,f2,f3,f4,f5,f6⟩:=h';refine⟨mD,jZ _ _ f1,f2,f3,f4,f5,?_⟩;cases uX:mD.base with
 |none=>rw[uX] at f6;exact f6
 |some a'=>
  rw[uX] at f6;obtain⟨g1,g2,g3,g4⟩:=f6;refine⟨g1,g2,g3,λj x hx=>?_⟩;cases hb:nm.base with
  |none=>
   rw[hb] at e6;have:=yh hx;have e6:nm.len=0:=e6;omega
  |some a=>
   rw[hb] at e6;exact rM oA js t x _ _ (e6.2.2.2 j x hx) (g4 j x hx)
theorem mk_le (jZ: ∀i nm,N' i=some nm->N2 i=some nm){bk:Nat->Nat}(p:cj)(x:p.den)(hK:mi p.ks N' N2): ∀g,an N' D w (p.mk bk x) g->an N2 D w (p.mk bk x) g:=by
 have key:(∀(p:cj) (x:p.den),mi p.ks N' N2->∀g,an N' D w (p.mk bk x) g->an N2 D w (p.mk bk x) g):=by
  intro p;refine cj.rec (motive_1:=λp=> ∀(x:p.den),mi p.ks N' N2->∀g,an N' D w (p.mk bk x) g->an N2 D w (p.mk bk x) g)
   (motive_2:=λps=> ∀(x:cj.wO ps),mi (cj.Q5 ps) N' N2->(∀g,ff N' D w (cj.qL bk ps x) g->ff N2 D w (cj.qL bk ps x) g)/\∀cs,bA N' D w (cj.qL bk ps x) cs->bA N2 D w (cj.qL bk ps x) cs) ?_ ?_ ?_ ?_ ?_ ?_ ?_ ?_ ?_ ?_ ?_ ?_ ?_ ?_ p
  ·intro t x hK g h
   simp only[cj.mk] at h⊢;exact(kK t x g).2 (kr (λ_ h=>h) (λ_ _=>rfl) t x g (by simpa only[cj.ks] using hK) ((kK t x g).1 h))
  ·intro v x hK g h;simp only[cj.mk,an] at h⊢;exact h
  ·intro c x hK g h
   simp only[cj.mk,an] at h⊢;obtain⟨nm,a,o,h1,h2⟩:=h;exact⟨nm,a,o,jZ _ _ h1,h2⟩
  ·intro c x hK g h
   simp only[cj.mk,an] at h⊢;obtain⟨nm,h1,h2⟩:=h;exact⟨nm,jZ _ _ h1,h2⟩
  ·intro c x hK g h
   simp only[cj.mk,an] at h⊢;obtain⟨nm,h1,h2⟩:=h;exact⟨nm,jZ _ _ h1,h2⟩
  ·intro ps ih x hK g h
   simp only[cj.mk,an] at h⊢;exact(ih x (by simpa only[cj.ks] using hK)).1 g h
  ·intro t x hK g h
   simp only[cj.mk,an] at h⊢;obtain⟨a,h1,h2,h3,h4⟩:=h;exact⟨a,h1,h2,h3,(kK t x _).2 (kr (λ_ h=>h) (λ_ _=>rfl) t x _ (by simpa only[cj.ks] using hK) ((kK t x _).1 h4))⟩
  ·intro c q x hK g h
   simp only[cj.mk,an] at h⊢;obtain⟨nm,a,o,h1,h2⟩:=h;exact⟨nm,a,o,jZ _ _ h1,h2⟩
  ·intro f ps ih x hK g h
   simp only[cj.mk,an] at h⊢;obtain⟨cs,h1,h2⟩:=h;exact⟨cs,h1,(ih x (by simpa only[cj.ks] using hK)).2 _ h2⟩
  ·intro c n x hK g h
   simp only[cj.mk,an] at h⊢;obtain⟨nm,a,h1,h2⟩:=h;exact⟨nm,a,jZ _ _ h1,h2⟩
  ·intro x hK g h;simp only[cj.mk,an]
  ·intro p ih x hK g h
   simp only[cj.mk,an] at h⊢;obtain⟨a,h1,h2,h3,h4⟩:=h;exact⟨a,h1,h2,h3,ih x (by simpa only[cj.ks] using hK) _ h4⟩
  ·intro x hK
   exact⟨λg _=>by simp only[cj.qL,ff],λcs h=>by simpa only[cj.qL,bA] using h⟩
  ·intro p ps qI Ud x hK
   have hK:mi (p.ks++cj.Q5 ps) N' N2:=by simpa only[cj.Q5] using hK
   have a1:=qI x.1 hK.left;obtain⟨a2,a3⟩:=Ud x.2 hK.right;refine⟨λg h=>?_,λcs h=>?_⟩
   ·simp only[cj.qL,ff] at h⊢
    exact⟨a1 g h.1,a2 _ h.2⟩
   ·simp only[cj.qL,bA] at h⊢
    obtain⟨c,tq,e1,e2,e3⟩:=h;exact⟨c,tq,e1,xm a1 e2,a3 _ e3⟩
 exact key p x hK
end
end AM
namespace AM
open Go
variable {α:Type}{P:Program}{base:Nat}
structure LL (ep:List (Nat×aH)):Prop where
 closed:wa ⟨[],ep⟩
 ids: ∀q∈ep,q.2.mU=false->50<=q.1/\q.1<90
 nodup:AM.nodup (ep.map (·.1))=true
theorem Gv {ep:List (Nat×aH)}(h:OK ep=true):LL ep:=by
 simp only[OK,zdl,zdW] at h;refine⟨uC h.1.1,λq hq hs=>?_,h.2⟩;have:=h.1.2 q hq;rw[hs] at this;simpa using this
theorem z8 (N:Names)(D:Nat->Prop):A9 N D []=D:=by
 funext b
 simp[A9]
theorem Gw {ep:List (Nat×aH)}(uf:LL ep){g:Nat}:g∈xi ep↔cY ep (SB+g)=true:=by
 unfold xi;rw[List.mem_filterMap,fM];constructor
 ·rintro⟨e,he,h⟩
  cases h2:e.2 with
  |var p=>rw[h2] at h;cases h
  |row t=>rw[h2] at h;cases h
  |store Fx=>
   rw[h2] at h;simp only[zdj] at h;have:=(uf.closed.st e he).1 (by rw[h2];rfl)
   exact⟨e,he,by omega,by rw[h2];rfl⟩
 ·rintro⟨e,he,h1,h2⟩
  refine⟨e,he,?_⟩;cases h3:e.2 with
  |var p=>rw[h3] at h2;cases h2
  |row t=>rw[h3] at h2;cases h2
  |store Fx=>simp only[zdj];omega
theorem Aa (g:Nat)(ep:List (Nat×aH)):iM [(SB+g,aH.store ep)] []=[SB+g]:=by
 unfold iM;simp only[zd0,List.flatMap_nil,zeE];rw[uB (zeF SB g)];rfl
theorem we (g:Nat):SB+g-SB=g:=by omega
theorem LM {N:Names}{D:Nat->Prop}{w:World}{st:St}{g n off:Nat}{ep:List (Nat×aH)}{xs:List (cP ep)}{d:cP ep}(S:jV N D w base st.h)(hs:st.h (SB+g)=some (.store ep xs))(hd:jU (β:=cP ep) xs n=some d)(uf:LL ep)(hf:oO st.h off [] ep=true):
  ∃N1 D1,jV N1 D1 w base (tI st g off ep d).h/\Ext N D w st.h N1 D1 w (tI st g off ep d).h/\(∀c,(c<SB/\∃q∈ep,q.1=c)->∀nm,N.sub g n c=some nm->N1 (back [] off c)=some nm)/\(∀g',cY ep (SB+g')=false->∀k,N1.sub g' k=N.sub g' k)/\(∀b,D1 b->D b)/\
   ∀i oi bl,(tI st g off ep d).h i=some oi->iQ N1 i oi bl->pw (N.sub g n) ep d bl\/(st.h i=some oi/\iQ N i oi bl/\i≠SB+g):=by
 have mZ:jd D w base N (SB+g) (.store ep) xs:=S.obj _ _ hs;simp only[jd,we] at mZ;obtain⟨p1,p2⟩:=mZ.2.1 n d hd;have hng:cY ep (SB+g)=false:=by
  cases h:cY ep (SB+g) with
  |false=>rfl
  |true=>
   obtain⟨q,hq,h1,h2⟩:=fM.1 h;unfold oO at hf;rw[zdW] at hf;have:=hf q hq;rw[h1,decide_eq_false (Jw (zeF SB g)),decide_eq_true (zeF SB g)] at this;simp[hs,iI] at this
 have M:H2 st ⟨[],[(SB+g, .store ep)]⟩ [] [] (xs,()):=by
  refine⟨λe he=>?_,by show AM.nodup (iM [(SB+g,aH.store ep)] [])=true;rw[Aa];simp[AM.nodup],λi hi=>by simp at hi,λc Fx ys hc=>?_,λe he=>?_⟩
  ·obtain rfl:=List.mem_singleton.1 he
   refine⟨.at_ (SB+g),uB (zeF SB g),λi hi=>?_,by intro h;cases h⟩
   simp only[wP.ids,zeB] at hi;subst hi;exact .inl ⟨_,hs,rfl,by intro h;cases h⟩
  ·simp only[mN] at hc
   split at hc
   ·rename_i e
    subst e;simp only[aH.mk,zdj] at hc;rw[<-hc];exact⟨zeF SB g, .inl hs⟩
   ·cases hc
  ·obtain rfl:=List.mem_singleton.1 he
   exact⟨λ_=>zeF SB g,λ_=>rfl⟩
 have hex:Pg ⟨[],[(SB+g, .store ep)]⟩ ⟨[],ep⟩:=⟨uf.closed,λq hq ug=>by
  exfalso
  cases jZ:q.2.mU with
  |true=>have:=(uf.closed.st q hq).1 jZ;exact Jw this ug
  |false=>have:=(uf.ids q hq jZ).1;omega⟩
 have xy:oO st.h off [(SB+g, .store ep)] ep=true:=by
  unfold oO at hf⊢;rw[zdW] at hf⊢;intro q hq;have h1:=hf q hq;simp only[zeo] at h1⊢;rcases h1 with h1|h1
  ·exact .inl h1
  ·right
   by_cases so:SB<=q.1
   ·simp only[decide_eq_true so] at h1⊢
    simp only[List.any_nil,zeD] at h1;simp[h1]
   ·simp only[decide_eq_false so] at h1⊢
    exact h1
 obtain⟨N1,D1,r1,r2,_,r4,r5,r7,r6⟩:=Bb (h:=st.h) (pre:=⟨[],[(SB+g, .store ep)]⟩) (e:=⟨[],ep⟩) (b:=[]) (ro:=[]) (s:=st) rfl S M hex xy (lt:=false) (by intro h;cases h) (Ne:=N.sub g n) (De:=D) (w':=w) (dh:=d) (O:=pw (N.sub g n) ep d)
  (λbl hb=>⟨SB+g,by show SB+g∈iM [(SB+g,aH.store ep)] [];rw[Aa];simp,_,hs,by
   show pK N (SB+g) (.store ep) xs bl
   simp only[pK,we];exact⟨n,d,hd,hb⟩⟩)
  (Jx p1 p2 S.frozen S.size)
  ⟨λb hb=>by rw[z8] at hb;exact hb,rfl,rfl,rfl,zdz _,λ_ _ _=>rfl,λb _ ho=>by obtain⟨c,o,h1,h2⟩:=ho;exact pw.of h1 h2,λb hb=> .inl (by rw[z8];exact hb)⟩
  (λq hq ug=>by
   obtain⟨_,uo,h1,h2⟩:=hex.var q hq ug;obtain rfl:=List.mem_singleton.1 uo;cases h2)
  (λg' CC k c nm hn _=>by
   have:cY [(SB+g,aH.store ep)] (SB+g')=false:=by
    cases h:cY [(SB+g,aH.store ep)] (SB+g') with
    |false=>rfl
    |true=>
     obtain⟨q,hq,h1,_⟩:=fM.1 h;obtain rfl:=List.mem_singleton.1 hq;have h1:SB+g=SB+g':=h1;rw[<-h1,hng] at CC;cases CC
   rw[zf this] at hn;cases hn)
 have vg:mN (back [] off) ep d (tG false st.h ⟨[],[(SB+g, .store ep)]⟩ [] [])=(tI st g off ep d).h:=by
  unfold tG tI;simp only[tn];rw[Aa]
 have vg:mN (back [] off) (jt.mk [] ep).heap d (tG false st.h ⟨[],[(SB+g, .store ep)]⟩ [] [])=(tI st g off ep d).h:=vg;rw[vg] at r1 r2 r6;refine⟨N1,D1,r1,r2,r4,r5,r7,λi oi bl h1 h2=>?_⟩;rcases r6 i oi bl h1 h2 with⟨c,o,h3,h4⟩|⟨h3,h4,h5⟩
 ·exact .inl (pw.of h3 h4)
 ·refine .inr ⟨h3,h4,λe=>h5 ?_⟩
  show i∈iM [(SB+g,aH.store ep)] []
  rw[Aa,e];simp
theorem Names.ext {N N':Names}(h: ∀p,N.at_ p=N'.at_ p):N=N':=by
 cases N;cases N';congr 1
 exact funext h
theorem H6 {N' N2:Names}{ks l:List Nat}(h:WJ ks l=true)(js: ∀g,g∉ks->∀k c nm,N'.sub g k c=some nm->nm.row=false->N2.sub g k c=some nm):mi l N' N2:=by
 intro g hg;unfold WJ at h;rw[zdW] at h;have:=h g hg;exact js g (by simpa using this)
theorem DW {h0 h':Nat->Option fP}{N N':Names}{D D':Nat->Prop}{w w':World}(S0:jV N D w base h0)(X:Ext N D w h0 N' D' w' h')(S':jV N' D' w' base h'){ep:List (Nat×aH)}(uf:LL ep){s':St}(Xa:s'.h=h'){b:kq}{d':cP ep}(M:H2 s' ⟨[],ep⟩ b [] d')(Sc:jV (iY N' b ep) D' w' base (mN (λc=>c) ep d' (λ_=>none)))
  {g n:Nat} {zs:List (cP ep)} (hz:jU (β:=cP ep) zs n=some d') (hg:cY ep (SB+g)=false)
  (hE: ∀k dk,k≠n->jU (β:=cP ep) zs k=some dk->(kM D' w' base (N'.sub g k) ep dk/\C1 (N'.sub g k) ep)/\∀bl,pw (N'.sub g k) ep dk bl->(∀j o,j≠SB+g->h' j=some o->¬iQ N' j o bl)/\(bl<w.heap.size->yY N h0 bl))
  (hEE: ∀k k' dk Ue bl,k≠n->k'≠n->jU (β:=cP ep) zs k=some dk->jU (β:=cP ep) zs k'=some Ue->pw (N'.sub g k) ep dk bl->pw (N'.sub g k') ep Ue bl->k=k')
  (hlen: ∀k,aO (β:=cP ep) zs<=k->N'.sub g k=Names.nil) (oA: ∀l,cY ep (SB+l)=true->∀k,N.sub l k=Names.nil)
  (UK: ∀c nm,N'.sub g n c=some nm->nm.row=false->iY N' b ep c=some nm) (Yl:h0 (SB+g)≠some .dead) (Pk:SB+g∉iM ep b)
  (Ym: ∀i o,h' i=some o->i∉iM ep b->i≠SB+g->cY ep i=false->o= .dead\/(∃(p:aH) (bk:Nat->Nat) (y:p.den),o=p.mk bk y/\p.mU=false/\WJ (xi ep) p.ks=true)\/∃o0,h0 i=some o0/\(o=o0\/∃r t xs,o0= .row r t xs/\o= .row true t xs)):
  ∃N2:Names,(∀i,N2 i=N' i)/\(∀g',g'∉xi ep->∀k c nm,N'.sub g' k c=some nm->nm.row=false->N2.sub g' k c=some nm)/\N2.sub g n=iY N' b ep/\jV N2 D' w' base (tH h' ep (iM ep b) g (.store ep zs))/\Ext N D w h0 N2 D' w' (tH h' ep (iM ep b) g (.store ep zs)):=by
 let N2:Names:=⟨λp=>match p with
  | []=>N'.at_ []
  |(g',k)::p=>if g'=g/\k=n then(iY N' b ep).at_ p else if cY ep (SB+g')=true then λ_=>none else N'.at_ ((g',k)::p)⟩
 have jZ: ∀i,N2 i=N' i:=λ_=>rfl;have hn:N2.sub g n=iY N' b ep:=by
  refine Names.ext λp=>?_;show(if g=g/\n=n then(iY N' b ep).at_ p else if cY ep (SB+g)=true then(λ_=>none) else N'.at_ ((g,n)::p))=_
  rw[if_pos ⟨rfl,rfl⟩]
 have hA: ∀g' k,¬(g'=g/\k=n)->cY ep (SB+g')=false->N2.sub g' k=N'.sub g' k:=by
  intro g' k h1 h2;show(⟨_⟩:Names)=⟨_⟩
  congr 1
  funext p
  show(if g'=g/\k=n then _ else if cY ep (SB+g')=true then _ else N'.at_ ((g',k)::p))=_
  rw[if_neg h1,if_neg (by rw[h2];simp)]
 have hB: ∀g',cY ep (SB+g')=true->∀k,N2.sub g' k=Names.nil:=by
  intro g' h1 k;have lR:g'≠g:=by rintro rfl;rw[hg] at h1;cases h1
  show(⟨_⟩:Names)=⟨_⟩
  congr 1
  funext p
  show(if g'=g/\k=n then(iY N' b ep).at_ p else if cY ep (SB+g')=true then(λ_=>none) else N'.at_ ((g',k)::p))=λ_=>none
  rw[if_neg (λh=>lR h.1),if_pos h1]
 have js: ∀g',g'∉xi ep->∀k c nm,N'.sub g' k c=some nm->nm.row=false->N2.sub g' k c=some nm:=by
  intro g' CC k c nm h1 h2;by_cases he:g'=g/\k=n
  ·obtain⟨rfl,rfl⟩:=he
   rw[hn];exact UK c nm h1 h2
  ·rw[hA g' k he]
   ·exact h1
   ·cases h:cY ep (SB+g') with
    |false=>rfl
    |true=>exact absurd ((Gw uf).2 h) CC
 have NK: ∀i nm,N' i=some nm->N2 i=some nm:=λi nm h=>by rw[jZ];exact h
 have NL: ∀l∈xi ep,∀k,N.sub l k=Names.nil:=λl hl=>oA l ((Gw uf).1 hl);have qS: ∀bl,pw (iY N' b ep) ep d' bl->∃i∈iM ep b,∃o,h' i=some o/\iQ N' i o bl:=by
  intro bl ho;obtain⟨c,o,h1,h2⟩:=pw.obj uf.nodup ho;obtain⟨i,h3,o',h4,h5⟩:=M.canon (sp:=⟨[],ep⟩) ⟨c,o,h1,h2⟩;exact⟨i,h3,o',by rw[<-Xa];exact h4,h5⟩
 have hzn:n<aO (β:=cP ep) zs:=(List.getElem?_eq_some_iff.1 hz).1;have key: ∀i oi bl,tH h' ep (iM ep b) g (.store ep zs) i=some oi->iQ N2 i oi bl->
   (i=SB+g/\((∃j∈iM ep b,∃o,h' j=some o/\iQ N' j o bl)\/∃k dk,k≠n/\jU (β:=cP ep) zs k=some dk/\pw (N'.sub g k) ep dk bl))\/(i≠SB+g/\i∉iM ep b/\h' i=some oi/\iQ N' i oi bl):=by
  intro i oi bl hi ho;unfold tH at hi;split at hi
  ·rename_i e
   subst e;cases hi;have ho:pK N2 (SB+g) (.store ep) zs bl:=ho;simp only[pK,we] at ho;obtain⟨k,dk,h1,h2⟩:=ho;left
   refine⟨rfl,?_⟩;by_cases hk:k=n
   ·subst hk
    rw[hz] at h1;cases h1;rw[hn] at h2;exact .inl (qS bl h2)
   ·rw[hA g k (λh=>hk h.2) hg] at h2
    exact .inr ⟨k,dk,hk,h1,h2⟩
  ·rename_i lR
   split at hi
   ·cases hi;exact ho.elim
   ·rename_i uM
    split at hi
    ·cases hi;exact ho.elim
    ·rename_i Fm
     refine .inr ⟨lR,by simpa using Fm,hi,?_⟩
     by_cases W9: ∃Fx xs,oi= .store Fx xs
     ·obtain⟨Fx,xs,rfl⟩:=W9
      have e3:=S'.tO hi;refine(iQ.names (jZ i) λk=>hA _ k (λh=>lR ?_) (by rw[e3];exact uM)).1 ho
      rw[<-e3,h.1]
     ·cases oi with
      |dead=>exact ho.elim
      |void=>exact ho.elim
      |var v=>exact ho
      |row r t xs=>cases r<;>exact ho
      |store Fx xs=>exact absurd ⟨Fx,xs,rfl⟩ W9
 refine⟨N2,jZ,js,hn,⟨λi o hi=>?_,λi j oi oj bl hi hj ri rj=>?_,S'.frozen,λi nm hi=>?_,S'.size,λg' CC k=>?_⟩,
  ⟨⟨λi nm hi=>X.names.st i nm hi,λg' k c nm h1 h2=>?_⟩,X.frozen,X.os,X.tape,X.output,X.size,X.sI,λbl kR ho=>?_,X.Jh,λi nm hi=>X.fresh i nm hi,λi hi=>?_,λg' CC=>?_⟩⟩
 ·unfold tH at hi
  split at hi
  ·rename_i e
   subst e;cases hi;simp only[qu,jd,we];refine⟨zeF SB g,λk dk hk=>?_,λk hk=>?_,λk k' dk Ue bl hk sZ ho mS=>?_⟩
   ·by_cases Uf:k=n
    ·subst Uf
     rw[hz] at hk;cases hk;rw[hn];exact xN uf.nodup (λc nm hc=>by obtain⟨e,he,h1,h2⟩:=tw hc;exact⟨e,he,h1,xM h2⟩) Sc
    ·rw[hA g k (λh=>Uf h.2) hg]
     exact(hE k dk Uf hk).1
   ·rw[hA g k (λh=>by omega) hg]
    exact hlen k hk
   ·by_cases Uf:k=n<;>by_cases Pl:k'=n
    ·rw[Uf,Pl]
    ·exfalso
     subst Uf;rw[hz] at hk;cases hk;rw[hn] at ho;rw[hA g k' (λh=>Pl h.2) hg] at mS;obtain⟨i,h1,o,h2,h3⟩:=qS bl ho;exact((hE k' Ue Pl sZ).2 bl mS).1 i o (λe=>Pk (e▸h1)) h2 h3
    ·exfalso
     subst Pl;rw[hz] at sZ;cases sZ;rw[hn] at mS;rw[hA g k (λh=>Uf h.2) hg] at ho;obtain⟨i,h1,o,h2,h3⟩:=qS bl mS;exact((hE k dk Uf hk).2 bl ho).1 i o (λe=>Pk (e▸h1)) h2 h3
    ·rw[hA g k (λh=>Uf h.2) hg] at ho
     rw[hA g k' (λh=>Pl h.2) hg] at mS;exact hEE k k' dk Ue bl Uf Pl hk sZ ho mS
  ·rename_i lR
   split at hi
   ·cases hi;trivial
   ·rename_i uM
    split at hi
    ·cases hi;trivial
    ·rename_i Fm
     have mZ:=S'.obj i o hi;rcases Ym i o hi (by simpa using Fm) lR uM with rfl|⟨p,bk,y,rfl,h1,h2⟩|⟨o0,h1,h2⟩
     ·trivial
     ·cases p with
      |var p=>
       obtain⟨nm,a,e1,e2,e3,e4,e5,e6,e7,e8,e9,ye⟩:=mZ;exact⟨nm,a,e1,e2,e3,e4,e5,e6,e7,e8,e9,mk_le NK p y (H6 h2 js) _ ye⟩
      |row t=>
       obtain⟨nm,e1,e2,e3,e4,e5,e6⟩:=mZ;refine⟨nm,e1,e2,e3,e4,e5,?_⟩;cases hb:nm.base with
       |none=>rw[hb] at e6;exact e6
       |some a=>
        rw[hb] at e6;obtain⟨f1,f2,f3,f4⟩:=e6;exact⟨f1,f2,f3,λj x hx=>kr (λ_ h=>h) (λ_ _=>rfl) t x _ (H6 h2 js) (f4 j x hx)⟩
      |store Fx=>cases h1
     ·have RO:=S0.obj i o0 h1
      rcases h2 with rfl|⟨r,t,xs,rfl,rfl⟩
      ·cases o with
       |dead=>trivial
       |void=>trivial
       |var v=>
        obtain⟨nm0,a0,_,_,_,_,_,_,_,_,_,XX⟩:=RO;obtain⟨nm,a,e1,e2,e3,e4,e5,e6,e7,e8,e9,ye⟩:=mZ;exact⟨nm,a,e1,e2,e3,e4,e5,e6,e7,e8,e9,wc NL NK js v _ _ XX ye⟩
       |row r t xs=>exact nE.swap NL NK js (show nE N D w base i r t xs from RO) mZ
       |store Fx xs=>
        have e3:=S'.tO hi;refine(show jd D' w' base N' i (.store Fx) xs from mZ).uy λk=>hA _ k (λh=>lR ?_) (by rw[e3];exact uM)
        rw[<-e3,h.1]
      ·exact nE.swap NL NK js (show nE N D w base i r t xs from RO) mZ
 ·rcases key i oi bl hi ri with⟨rfl,h1⟩|⟨h1,h2,h3,h4⟩<;>rcases key j oj bl hj rj with⟨rfl,H5⟩|⟨H5,RN,Rf,Yk⟩
  ·rfl
  ·exfalso
   rcases h1 with⟨q,hq,o,h5,h6⟩|⟨k,dk,h5,h6,h7⟩
   ·exact RN (S'.apart q j o oj bl h5 Rf h6 Yk▸hq)
   ·exact((hE k dk h5 h6).2 bl h7).1 j oj H5 Rf Yk
  ·exfalso
   rcases H5 with⟨q,hq,o,h5,h6⟩|⟨k,dk,h5,h6,h7⟩
   ·exact h2 (S'.apart q i o oi bl h5 h3 h6 h4▸hq)
   ·exact((hE k dk h5 h6).2 bl h7).1 i oi h1 h3 h4
  ·exact S'.apart i j oi oj bl h3 Rf h4 Yk
 ·have:=S'.named i nm hi
  unfold tH;split
  ·simp
  ·split
   ·simp
   ·split
    ·simp
    ·exact this
 ·unfold tH at CC
  split at CC
  ·cases CC
  ·rename_i lR
   split at CC
   ·rename_i hs;exact hB g' hs k
   ·rename_i uM
    split at CC
    ·cases CC
    ·rw[hA g' k (λh=>lR (by rw[h.1])) uM]
     exact S'.iI g' CC k
 ·have h3:=X.names.sub g' k c nm h1 h2
  by_cases hm:g'∈xi ep
  ·rw[NL g' hm] at h1;cases h1
  ·exact js g' hm k c nm h3 h2
 ·obtain⟨i,o,hi,hr⟩:=ho
  rcases key i o bl hi hr with⟨_,⟨q,hq,o',h5,h6⟩|⟨k,dk,h5,h6,h7⟩⟩|⟨_,_,h3,h4⟩
  ·exact X.own bl kR ⟨q,o',h5,h6⟩
  ·exact((hE k dk h5 h6).2 bl h7).2 kR
  ·exact X.own bl kR ⟨i,o,h3,h4⟩
 ·unfold tH at hi
  split at hi
  ·cases hi
  ·split at hi
   ·cases hi
   ·split at hi
    ·cases hi
    ·exact X.live i hi
 ·obtain⟨h1,h2⟩:=X.pF g' CC
  have lR:g'≠g:=by rintro rfl;exact Yl CC
  have uM:cY ep (SB+g')=false:=by
   cases h:cY ep (SB+g') with
   |false=>rfl
   |true=>
    exfalso
    obtain⟨q,hq,h3,h4⟩:=fM.1 h;obtain⟨t,ht,hT,_⟩:=M.bound q hq;rw[h3,uB (zeF SB g')] at ht;cases ht;rcases hT (SB+g') (by simp[wP.ids]) with⟨o',g1,g2,_⟩|⟨_,g1⟩
    ·rw[Xa,h1] at g1;cases g1;cases g2
    ·rw[Xa,h1] at g1;cases g1
  refine⟨?_,λk=>(hA g' k (λh=>lR h.1) uM).trans (h2 k)⟩;unfold tH;rw[if_neg (by omega),uM]
  simp only;split
  ·rfl
  ·exact h1
end AM
namespace AM
open Go
variable {α:Type}{P:Program}{base:Nat}
def wH:(es:List jt)->gK es->((e:jt)->Nat->e.den->Prop)->Prop
 | [],d,_=>nomatch d
 | [e],d,Q=>Q e 0 d
 |e::e'::es,d,Q=>match d with
  | .inl d=>Q e 0 d
  | .inr d=>wH (e'::es) d λe n d'=>Q e (n+1) d'
theorem xO: ∀(es:List jt) (x:gK es) (k:(e:jt)->Nat->e.den->Option α) (r:α),Hr es x k=some r->∃e n d',e∈es/\k e n d'=some r/\∀Q,wH es x Q->Q e n d'
 | [],x,_,_,_=>nomatch x
 | [e],x,k,r,h=>⟨e,0,x,zdq ..,h,λQ hQ=>hQ⟩
 |e::e'::es, .inl d,k,r,h=>⟨e,0,d,zdq ..,h,λQ hQ=>hQ⟩
 |e::e'::es, .inr d,k,r,h=>by
  obtain⟨e1,n,d',h1,h2,h3⟩:=xO (e'::es) d _ r h;exact⟨e1,n+1,d',zdp _ h1,h2,λQ hQ=>h3 (λe n d'=>Q e (n+1) d') hQ⟩
theorem tR: ∀(es:List jt) (x:gK es) {Q Q':(e:jt)->Nat->e.den->Prop},(∀e n d,e∈es->Q e n d->Q' e n d)->wH es x Q->wH es x Q'
 | [],x,_,_,_,_=>nomatch x
 | [e],x,_,_,h,hq=>h e 0 x (zdq ..) hq
 |e::e'::es, .inl d,_,_,h,hq=>h e 0 d (zdq ..) hq
 |e::e'::es, .inr d,Q,Q',h,hq=>tR (e'::es) d (Q:=λe n d'=>Q e (n+1) d') (Q':=λe n d'=>Q' e (n+1) d') (λe n d he=>h e (n+1) d (zdp _ he)) hq
def RP (s:St)(b:kq)(e:jt)(d:e.den):Prop:= ∃ro b',b.le b'/\H2 s e b' ro d.2/\∀N D w base,jV N D w base s.h->
 jV (iY N b' e.heap) (A9 N D ro) w base (mN (λc=>c) e.heap d.2 (λ_=>none))/\∀y c,cq N D w (s.t y) c->cq (iY N b' e.heap) (A9 N D ro) w (yX (λc=>c) e.jM d.1 y) c
theorem rb {sp:jt}{s:St}{b:kq}{k:sp.den->Option α}{f:Option α}{r:α}(h:oN sp s b (λd _ _=>k d) f=some r)(hc:wa sp):f=some r\/∃d,k d=some r/\RP s b sp d:=by
 rcases pO h hc with h1|⟨d,ro,b',h1,h2,h3,h4⟩
 ·exact .inl h1
 ·exact .inr ⟨d,h1,ro,b',h2,h3,h4⟩
theorem zg {s:St}{b:kq}: ∀(es:List jt) (k:gK es->Option α) (r:α),Ds s b es k=some r->(∀e∈es,wa e)->∃x,k x=some r/\wH es x λe _ d'=>RP s b e d'
 | [],k,r,h,_=>by simp[Ds] at h
 | [e],k,r,h,hc=>by
  unfold Ds at h;rcases rb h (hc e (zdq ..)) with h1|⟨d,h1,h2⟩
  ·cases h1
  ·exact⟨d,h1,h2⟩
 |e::e'::es,k,r,h,hc=>by
  unfold Ds at h;rcases rb (k:=λd=>k (.inl d)) h (hc e (zdq ..)) with h1|⟨d,h1,h2⟩
  ·obtain⟨x,h3,h4⟩:=zg (e'::es) _ r h1 λe he=>hc e (zdp _ he)
   exact⟨.inr x,h3,h4⟩
  ·exact⟨.inl d,h1,h2⟩
def VarId (pre:jt)(c:Nat):Prop:= ∃q∈pre.heap,q.1=c/\q.2.isVar=true
theorem yk {c:Nat}(ug:c<50): ∀(l:List (Nat×aH)),(∃q∈l,q.1=c/\q.2.isVar=true)->kq.get (l.filterMap λo=>match o.2 with| .var _=>(match decide (o.1<50) with|true=>some (o.1, .at_ o.1)|false=>none)|_=>none) c=some (.at_ c)
 | [],h=>by obtain⟨q,hq,_⟩:=h;simp at hq
 |(i, .row t)::l,h=>by
  have: ∃q∈l,q.1=c/\q.2.isVar=true:=by
   obtain⟨q,hq,h1,h2⟩:=h;rcases List.mem_cons.1 hq with rfl|hq
   ·simp[aH.isVar] at h2
   ·exact⟨q,hq,h1,h2⟩
  simp only[zeG];exact yk ug l this
 |(i, .store t)::l,h=>by
  have: ∃q∈l,q.1=c/\q.2.isVar=true:=by
   obtain⟨q,hq,h1,h2⟩:=h;rcases List.mem_cons.1 hq with rfl|hq
   ·simp[aH.isVar] at h2
   ·exact⟨q,hq,h1,h2⟩
  simp only[zeG];exact yk ug l this
 |(i, .var p)::l,h=>by
  by_cases e:i=c
  ·subst e
   simp only[zeG,decide_eq_true ug,kq.get];simp
  ·have: ∃q∈l,q.1=c/\q.2.isVar=true:=by
    obtain⟨q,hq,h1,h2⟩:=h;rcases List.mem_cons.1 hq with rfl|hq
    ·exact absurd h1 e
    ·exact⟨q,hq,h1,h2⟩
   have ih:=yk ug l this;simp only[zeG];cases hd:decide (i<50) with
   |true=>simp only[kq.get];rw[if_neg e];exact ih
   |false=>exact ih
theorem Ab {off c:Nat}: ∀(l:List (Nat×aH)),(∃q∈l,q.1=c/\q.2.isVar=true)->(Z5 off l).get c=some (.at_ (off+(c-50)))
 | [],h=>by obtain⟨q,hq,_⟩:=h;simp at hq
 |(i, .row t)::l,h=>by
  have: ∃q∈l,q.1=c/\q.2.isVar=true:=by
   obtain⟨q,hq,h1,h2⟩:=h;rcases List.mem_cons.1 hq with rfl|hq
   ·simp[aH.isVar] at h2
   ·exact⟨q,hq,h1,h2⟩
  have ih:=Ab (off:=off) l this;unfold Z5 at ih⊢;simp only[zeG];exact ih
 |(i, .store t)::l,h=>by
  have: ∃q∈l,q.1=c/\q.2.isVar=true:=by
   obtain⟨q,hq,h1,h2⟩:=h;rcases List.mem_cons.1 hq with rfl|hq
   ·simp[aH.isVar] at h2
   ·exact⟨q,hq,h1,h2⟩
  have ih:=Ab (off:=off) l this;unfold Z5 at ih⊢;simp only[zeG];exact ih
 |(i, .var p)::l,h=>by
  unfold Z5;simp only[zeG,kq.get];by_cases e:i=c
  ·rw[if_pos e,e]
  ·rw[if_neg e]
   have: ∃q∈l,q.1=c/\q.2.isVar=true:=by
    obtain⟨q,hq,h1,h2⟩:=h;rcases List.mem_cons.1 hq with rfl|hq
    ·exact absurd h1 e
    ·exact⟨q,hq,h1,h2⟩
   exact Ab (off:=off) l this
structure uN (base:Nat)(pre:jt)(N:Names)(D O:Nat->Prop)(w:World)(e:jt)(Ne:Names)(De:Nat->Prop)(w':World)(d:e.den):Prop where
 nr:jV Ne De w' base (mN (λc=>c) e.heap d.2 (λ_=>none))
 ext:H3 O (yY Ne (mN (λc=>c) e.heap d.2 (λ_=>none))) D De w w'
 sI: ∀c,c<50->VarId pre c->(∃q∈e.heap,q.1=c)->Ne c=N c
 NM: ∀g,cY pre.heap (SB+g)=true->cY e.heap (SB+g)=true->∀k c nm,N.sub g k c=some nm->nm.row=false->Ne.sub g k c=some nm
theorem Jz {N:Names}{D:Nat->Prop}{w:World}{pre:jt}{d:cP pre.heap}(S:jV N D w base (mN (λc=>c) pre.heap d (λ_=>none)))(jZ: ∀e∈pre.heap,(e.2.mU=true↔SB<=e.1)){c:Nat}(h:VarId pre c): ∃nm,N c=some nm:=by
 obtain⟨q,hq,h1,hv⟩:=h;have kR: ¬SB<=c:=λh=>by
  have:=(jZ q hq).2 (by omega)
  cases hq2:q.2<;>rw[hq2] at this hv<;>simp[aH.isVar,aH.mU] at this hv
 have:=pN (b:=λc=>c) (l:=pre.heap) (d:=d) (h:=λ_=>none) ⟨q,hq,h1⟩;cases e:mN (λc=>c) pre.heap d (λ_=>none) c with
 |none=>exact absurd e this
 |some o=>
  rcases m8 e with⟨q',uo,h3,y,_,h4⟩|⟨_,h2⟩
  ·have uM:q'.2.mU=false:=by
    cases hh:q'.2.mU with
    |false=>rfl
    |true=>have:=(jZ q' uo).1 hh;have h3:q'.1=c:=h3;omega
   have Fm:o.rw=true:=by
    subst h4;obtain⟨qc,qp⟩:=q';cases qp with
    |var p=>rfl
    |row t=>rfl
    |store ep=>cases uM
   exact Gr (bl:=0) (S.obj c _ e) Fm
  ·cases h2
theorem yl {pre e:jt}(jZ: ∀e∈pre.heap,(e.2.mU=true↔SB<=e.1)){N N':Names}{D D':Nat->Prop}{w w':World}{d:cP pre.heap}{s:St}{h':Nat->Option fP}{d':e.den}(S:jV N D w base (mN (λc=>c) pre.heap d (λ_=>none)))(S':jV N' D' w' base h')(x:Ext N D w (mN (λc=>c) pre.heap d (λ_=>none)) N' D' w' h')
  (hs:s.h=h') (t:RP s (BL pre) e d'): ∃Ne De,uN base pre N D (yY N (mN (λc=>c) pre.heap d (λ_=>none))) w e Ne De w' d'/\∀y c,cq N' D' w' (s.t y) c->cq Ne De w' (yX (λc=>c) e.jM d'.1 y) c:=by
 obtain⟨ro,b',hle,M,ht⟩:=t;obtain⟨h1,h2⟩:=ht N' D' w' base (by rw[hs];exact S')
 refine⟨_,_,⟨h1,⟨λb hb=> .inl (x.frozen b hb),x.os,x.tape,x.output,x.size,x.sI,?_,?_⟩,?_,?_⟩,h2⟩
 ·intro bl kR ho
  obtain⟨i,hi,o,g1,g2⟩:=M.canon ho;rw[hs] at g1;exact x.own bl kR ⟨i,o,g1,g2⟩
 ·rintro bl (hb|⟨i,zay,nm,a,g1,g2,g3⟩)
  ·exact x.Jh bl hb
  ·rcases M.cases (by rw[hs];exact S') zay g1 g2 with h4|⟨o',h4,h5⟩
   ·exact x.Jh bl (g3▸h4)
   ·rw[hs] at h4
    rcases zdC bl w'.heap.size with kR|so
    ·rcases zdC bl w.heap.size with kR|so
     ·exact .inr (.inl (x.own bl kR ⟨i,_,h4,g3▸h5⟩))
     ·exact .inr (.inr so)
    ·exact .inr (.inr (zdA x.size so))
 ·intro c ug hc he
  have hk:(BL pre).get c=some (.at_ c):=yk ug pre.heap hc;rw[(qx (N:=N') (b:=b') (by unfold SB;omega) (λe he=>(M.st e he).1) he).at_ (hle _ _ hk)]
  obtain⟨nm,UL⟩:=Jz S jZ hc;rw[UL,x.names c nm UL]
 ·intro g _ hg k c nm h3 h4
  rw[vq hg];exact x.names.sub g k c nm h3 h4
def ak.ok (sp:ak):Bool:=sp.pre.closed&&sp.iS.all λe=>UJ sp.pre e&& (!sp.zD||e.flat)
theorem ak.xP {sp:ak}(h:sp.ok=true):wa sp.pre:=by
 simp only[ak.ok,zdl] at h;exact uC h.1
theorem ak.Gx {sp:ak}(h:sp.ok=true){e:jt}(he:e∈sp.iS):Pg sp.pre e/\(sp.zD=true->e.flat=true):=by
 simp only[ak.ok,zdl,zdW] at h;have:=h.2 e he;refine⟨Gs this.1,λhl=>?_⟩;have h2:=this.2;rw[hl] at h2;simpa using h2
theorem UM {pre e:jt}{s:St}{b:kq}{ro:List Nat}{d:cP pre.heap}(h:Pg pre e)(M:H2 s pre b ro d)(fresh:Nat){q:Nat×aH}(hq:q∈e.heap)(ug:q.1<50):back b fresh q.1∈iM pre.heap b:=by
 obtain⟨q',uo,h1,h2⟩:=h.var q hq ug;obtain⟨g,hg,_,h3⟩:=M.bound q' uo;obtain⟨i,rfl⟩:=h3 h2;have kR: ¬SB<=q.1:=by unfold SB;omega
 rw[h1] at hg;have qH:b.get q.1=some (.at_ i):=by rw[<-C5 kR];exact hg
 have hb:back b fresh q.1=i:=by rw[NI ug];simp[qH]
 rw[hb];exact Ba.2 ⟨q',uo,by unfold DQ;rw[h1,hg];simp[wP.ids]⟩
theorem JA {N:Names}{b:kq}{pre e:jt}{Ne:Names}(h: ∀g,cY pre.heap (SB+g)=true->cY e.heap (SB+g)=true->∀k c nm,(iY N b pre.heap).sub g k c=some nm->nm.row=false->Ne.sub g k c=some nm):
  ∀g,cY e.heap (SB+g)=true->∀k c nm,(iY N b pre.heap).sub g k c=some nm->nm.row=false->Ne.sub g k c=some nm:=by
 intro g hg k c nm hn hr;cases hp:cY pre.heap (SB+g) with
 |true=>exact h g hp hg k c nm hn hr
 |false=>rw[zf hp] at hn;cases hn
structure Pm (N N':Names)(D D':Nat->Prop)(w:World)(u u':AV):Prop where
 sh:u'.sh=u.sh
 rel: ∀g,an N D w u g->an N' D' w u' g
theorem Pm.val {N N':Names}{D D':Nat->Prop}{w:World}{u u':AV}(h:Pm N N' D D' w u u'){v:Value}(hv:cq N D w u v):cq N' D' w u' v:=C4 h.sh hv h.rel
theorem DX {N N':Names}{D D':Nat->Prop}{w:World}{bk:Nat->Nat}{y:Nat}: ∀{l:List (Nat×cj)} {d:wD l},(∀o∈l,∀x:o.2.den,Pm N N' D D' w (o.2.mk (λc=>c) x) (o.2.mk bk x))->Pm N N' D D' w (yX (λc=>c) l d y) (yX bk l d y)
 | [],_,_=>⟨rfl,λg h=>h⟩
 |o::os,d,h=>by
  simp only[yX];by_cases e:y=o.1
  ·rw[if_pos e,if_pos e];exact h o (zdq ..) d.1
  ·rw[if_neg e,if_neg e];exact DX λo' mS=>h o' (zdp _ mS)
theorem Gy {N N':Names}{D D':Nat->Prop}{w:World}{β:Type}{f f':β->AV}: ∀{l:List β} {cs:List Value},(∀o∈l,Pm N N' D D' w (f o) (f' o))->bA N D w (l.map f) cs->bA N' D' w (l.map f') cs
 | [],cs,_,h=>by simpa only[List.map_nil,bA] using h
 |o::os,cs,h,hr=>by
  simp only[zea,bA] at hr⊢;obtain⟨c,tq,rfl,h1,h2⟩:=hr;exact⟨c,tq,rfl,(h o (zdq ..)).val h1,Gy (λo ho=>h o (zdp _ ho)) h2⟩
theorem RQ {N N':Names}{D D':Nat->Prop}{w:World}{β:Type}{f f':β->AV}: ∀{l:List β} {v:Value},(∀o∈l,Pm N N' D D' w (f o) (f' o))->cq N D w (qO (l.map f)) v->cq N' D' w (qO (l.map f')) v
 | [],v,_,h=>by
  simp only[List.map_nil,qO] at h⊢;obtain⟨cs,h1,h2⟩:=lJ.1 h;exact lJ.2 ⟨cs,h1,by simpa only[bA] using h2⟩
 | [o],v,h,hv=>(h o (zdq ..)).val hv
 |o::o'::os,v,h,hv=>by
  simp only[zea,qO] at hv⊢;obtain⟨cs,h1,h2⟩:=lJ.1 hv;exact lJ.2 ⟨cs,h1,Gy (l:=o::o'::os) h h2⟩
def re (P:Program)(base:Nat)(f:FuncId)(sp:ak)(F:sp.pre.den->Option (gK sp.iS)):Prop:=
 (∃fn,P.funcs[f]?=some fn/\fn.body.isNone=false/\(fn.name== "runtime.NumGoroutine")=false)/\
 ∀d r,F d=some r->∀N D w (lu:List Value),jV N D w base (mN (λc=>c) sp.pre.heap d.2 (λ_=>none))->lu.length=sp.pre.jM.length->(∀y,cq N D w (yX (λc=>c) sp.pre.jM d.1 y) (lu.getD y Go.undef))->
  Calls P f lu.toArray w λe w'=>match e with
   | .returned v=>wH sp.iS r λe _ d'=> ∃Ne De,uN base sp.pre N D (yY N (mN (λc=>c) sp.pre.heap d.2 (λ_=>none))) w e Ne De w' d'/\cq Ne De w' (qO (e.jM.map λo=>yX (λc=>c) e.jM d'.1 o.1)) v
   |_=>False
theorem rh {N:Names}{D:Nat->Prop}{w:World}: ∀{l:List AV} {cs:List Value},bA N D w l cs->cs.length=l.length
 | [],cs,h=>by simp only[bA] at h;simp[h]
 |x::xs,cs,h=>by
  simp only[bA] at h;obtain⟨c,tq,rfl,_,h2⟩:=h;simp[rh h2]
structure Shaped (st:St)(e:jt)(ids:List Nat)(av:AV)(eY:St):Prop where
 res: ∃(bk:Nat->Nat) (d:wD e.jM),av=qO (e.jM.map λo=>yX bk e.jM d o.1)
 heap: ∀i o,eY.h i=some o->(∃q∈e.heap.zip ids,q.2=i/\∃(bk:Nat->Nat) (y:q.1.2.den),o=q.1.2.mk bk y)\/o= .dead\/∃o0,st.h i=some o0/\(o=o0\/∃r t xs,o0= .row r t xs/\o= .row true t xs)
theorem zip_map {β:Type}{f:β->Nat}: ∀{l:List β} {q:β},q∈l->(q,f q)∈l.zip (l.map f)
 | [],_,h=>by simp at h
 |x::xs,q,h=>by
  rcases List.mem_cons.1 h with rfl|h
  ·simp
  ·simp only[zea,List.zip_cons_cons,zdX]
   exact .inr (zip_map h)
theorem xQ {sp:ak}{F:sp.pre.den->Option (gK sp.iS)}{f:FuncId}{args:List AV}{st:St}{W:List Nat}{fresh:Nat}{k:jt->List Nat->AV->St->Option α}{fail:Option α}{r:α}(h:Dt sp F args st W fresh k fail=some r)(mc:sp.ok=true)(hF:re P base f sp F)(wQ:fresh%100=0):
  fail=some r\/∃e ids av eY,k e ids av eY=some r/\xH P base W f args st fresh av eY/\Shaped st e ids av eY:=by
 unfold Dt at h;split at h
 ·cases h
 ·rename_i hlen
  simp only[zdr] at hlen;rcases pO h (ak.xP mc) with h1|⟨d,ro,b,h1,_,M,ht⟩
  ·exact .inl h1
  right
  split at h1
  ·cases h1
  ·rename_i x hx
   split at h1
   ·cases h1
   ·rename_i Yf
    obtain⟨e,n,d',he,h2,h3⟩:=xO _ _ _ _ h1;split at h2
    ·cases h2
    ·rename_i gV
     rw[zdl] at gV;obtain⟨gV,jZ⟩:=gV;obtain⟨hex,kR⟩:=ak.Gx mc he;rw[zdW] at Yf;refine⟨e,_,_,_,h2,⟨hF.1,rfl,rfl,rfl,λid pF hdiv=>?_,λN D w S lu nu=>?_⟩,⟨back b fresh,d'.1,rfl⟩,λi o hi=>?_⟩
     ·have KL:id∉iM sp.pre.heap b:=λh'=>pF (by have:=Yf id (List.mem_append.2 (.inl h'));simpa using this)
      have zaz:sp.zD=true\/id∉ro:=by
       cases hl:sp.zD with
       |true=>exact .inl rfl
       |false=>exact .inr λh'=>pF (by have:=Yf id (List.mem_append.2 (.inr (by rw[hl];exact h')));simpa using this)
      show mN (back b fresh) e.heap d'.2 (tG sp.zD st.h sp.pre b ro) id=st.h id
      rw[uD]
      ·unfold tG
       cases hl:sp.zD with
       |true=>simp only[lV,if_neg KL]
       |false=>
        rw[hl] at zaz;have:id∉ro:=by simpa using zaz
        simp only[ra,lV,if_neg KL,if_neg this]
      ·intro q hq e'
       rcases zdC q.1 50 with ug|ug
       ·exact KL (e'▸UM hex M fresh hq ug)
       ·unfold oO at gV
        rw[zdW] at gV;have:=gV q hq;have hn: ¬q.1<50:=by omega
        by_cases so:SB<=q.1
        ·rw[qd so] at e'
         rw[zdW] at jZ;have:=jZ q hq;simp only[decide_eq_true so,zdg,zeD] at this;exact pF (by rw[<-e'];simpa using this)
        ·simp only[hn,so,decide_false,zeD,zdl,zdr] at this
         rw[DU hn so] at e';omega
     ·obtain⟨S1,T1⟩:=ht N D w base S
      have hl:=rh nu;refine(hF.2 d x hx _ _ w lu S1 (by omega) λy=>T1 y _ ?_).mono λen w' Pn=>?_
      ·show cq N D w ((args[y]?).getD .undef) (lu.getD y Go.undef)
       cases ha:args[y]? with
       |none=>simp only[Option.getD_none];exact oY
       |some u=>
        obtain⟨c,hc,hv⟩:=sa _ _ _ _ nu ha;rw[zdt,hc];exact hv
      ·cases en with
       |panicked c=>exact Pn.elim
       |outgrown=>exact Pn.elim
       |returned v=>
        obtain⟨Ne,De,post,hv⟩:=h3 _ Pn;obtain⟨N',D',S',X',tr,_⟩:=Bb (s:={t:=λi=>(args[i]?).getD .undef,h:=st.h,ep:=0,nt:=0}) rfl S M hex gV kR (λbl hb=>M.canon hb) post.nr post.ext (λq hq ug=>post.sI q.1 ug (hex.var q hq ug) ⟨q,hq,rfl⟩) (JA post.NM);refine⟨N',D',X',S',RQ (λo ho=>DX λo' mS y=>⟨DS _ _ _ _,λg hg=>?_⟩) hv⟩;refine tr o'.2 y g (λc hc=>hex.closed.cs c (.inl (List.mem_flatMap.2 ⟨o',mS,hc⟩))) (λg hg=>hex.closed.ks g (.inl (List.mem_flatMap.2 ⟨o',mS,hg⟩))) (λe'=>?_) hg;have:=kR e';simp only[jt.flat,zdl,zdW] at this;exact this.1 o' mS
     ·rcases m8 hi with⟨q,hq,h4,y,_,h5⟩|⟨_,h4⟩
      ·exact .inl ⟨(q,back b fresh q.1),zip_map (f:=λo:Nat×aH=>back b fresh o.1) hq,h4,_,y,h5⟩
      ·by_cases hd:o= .dead
       ·exact .inr (.inl hd)
       obtain⟨_,⟨h6,_⟩|⟨_,_,r,t,xs,h6,h7⟩⟩:=z7 M rfl h4 hd
       ·exact .inr (.inr ⟨o,h6, .inl rfl⟩)
       ·exact .inr (.inr ⟨_,h6, .inr ⟨r,t,xs,rfl,h7⟩⟩)
end AM
namespace AM
open Go
variable {α:Type}{P:Program}{base:Nat}
theorem B7: ∀{args:List AV} {ps:List (Nat×cj)} {j0 j g n c:Nat},xj args ps j0=some (j,g,n,c)->j0<=j/\args[j-j0]?=some (.rf g n c)
 | [],ps,j0,j,g,n,c,h=>by cases ps<;>simp[xj] at h
 |v::vs,[],j0,j,g,n,c,h=>by cases v<;>simp[xj] at h
 |v::vs,(q,p)::ps,j0,j,g,n,c,h=>by
  have tail:xj vs ps (j0+1)=some (j,g,n,c)->j0<=j/\(v::vs)[j-j0]?=some (.rf g n c):=by
   intro h1;obtain⟨h2,h3⟩:=B7 h1;refine⟨by omega,?_⟩
   rw[show j-j0=(j-(j0+1))+1 by omega]
   simpa using h3
  cases v<;>cases p<;>simp only[xj] at h<;>first
   |exact tail h
   |(simp only[zdj,Prod.mk.injEq] at h;obtain⟨rfl,rfl,rfl,rfl⟩:=h;exact⟨zdz _,by simp⟩)
theorem B8 {N:Names}{D:Nat->Prop}{w:World}: ∀{vs:List AV} {cs:List Value} {i:Nat} {u:AV} {c:Value},bA N D w vs cs->cs[i]?=some c->cq N D w u c->bA N D w (vs.set i u) cs
 | [],cs,i,u,c,h,_,_=>by simpa using h
 |v::vs,cs,0,u,c,h,hc,hu=>by
  simp only[bA,List.set_cons_zero] at h⊢;obtain⟨c',tq,rfl,h1,h2⟩:=h;simp at hc;subst hc;exact⟨_,_,rfl,hu,h2⟩
 |v::vs,cs,i+1,u,c,h,hc,hu=>by
  simp only[bA,List.set_cons_succ] at h⊢;obtain⟨c',tq,rfl,h1,h2⟩:=h;exact⟨_,_,rfl,h1,B8 h2 (by simpa using hc) hu⟩
theorem RR (t:Ty)(x:t.den)(us:List AV):enc t x≠ .AN us:=by
 cases t<;>simp only[enc]<;>try (intro h;cases h;done)
 split<;>(intro h;cases h)
theorem RS (bk:Nat->Nat)(p:cj)(x:p.den)(us:List AV):p.mk bk x≠ .AN us:=by
 cases p<;>simp only[cj.mk]<;>first|exact RR _ _ _|(intro h;cases h)
theorem DY (bk:Nat->Nat)(y:Nat)(us:List AV): ∀(l:List (Nat×cj)) (d:wD l),yX bk l d y≠ .AN us
 | [],_=>by simp only[yX];intro h;cases h
 |o::os,d=>by
  simp only[yX];split
  ·exact RS _ _ _ _
  ·exact DY bk y us os d.2
theorem Po (f:AV->AV){vs:List AV}(h: ∀v∈vs,∀us,v≠ .AN us):WK f (qO vs)=qO (vs.map f):=by
 match vs,h with
 | [],_=>rfl
 | [v],h=>
  have:=h v (by simp)
  simp only[qO,zea,List.map_nil];cases v<;>first|rfl|exact absurd rfl (this _)
 |a::b::l,_=>rfl
theorem RT {vs:List AV}(h: ∀v∈vs,∀us,v≠ .AN us):XN (qO vs)=vs:=by
 match vs,h with
 | [],_=>rfl
 | [v],h=>
  have:=h v (by simp)
  simp only[qO];cases v<;>first|rfl|exact absurd rfl (this _)
 |a::b::l,_=>rfl
theorem JB {N N':Names}{D D':Nat->Prop}{w:World}: ∀{vs us:List AV} {v:Value},vs.length=us.length->(∀(i:Nat) a b,vs[i]?=some a->us[i]?=some b->∀c,cq N D w a c->cq N' D' w b c)->cq N D w (qO vs) v->cq N' D' w (qO us) v:=by
 intro vs us v hl h hv;have each: ∀(vs us:List AV) (cs:List Value),vs.length=us.length->(∀(i:Nat) a b,vs[i]?=some a->us[i]?=some b->∀c,cq N D w a c->cq N' D' w b c)->bA N D w vs cs->bA N' D' w us cs:=by
  intro vs;induction vs with
  |nil=>
   intro us cs hl _ hr;cases us with
   |nil=>simpa only[bA] using hr
   |cons _ _=>simp at hl
  |cons a vs ih=>
   intro us cs hl h hr;cases us with
   |nil=>simp at hl
   |cons b us=>
    simp only[bA] at hr⊢;obtain⟨c,tq,rfl,h1,h2⟩:=hr;exact⟨c,tq,rfl,h 0 a b rfl rfl c h1,ih us tq (by simpa using hl) (λi a b ha hb=>h (i+1) a b (by simpa using ha) (by simpa using hb)) h2⟩
 match vs,us,hl with
 | [],[],_=>
  simp only[qO] at hv⊢;obtain⟨cs,h1,h2⟩:=lJ.1 hv;exact lJ.2 ⟨cs,h1,each [] [] _ rfl (by simp) h2⟩
 | [a],[b],_=>exact h 0 a b rfl rfl v hv
 |a::a'::vs,b::b'::us,hl=>
  simp only[qO] at hv⊢;obtain⟨cs,h1,h2⟩:=lJ.1 hv;exact lJ.2 ⟨cs,h1,each _ _ _ hl h h2⟩
 | [],_::_,h=>simp at h
 |_::_,[],h=>simp at h
 | [_],_::_::_,h=>simp at h
 |_::_::_,[_],h=>simp at h
theorem H7 {N' N2:Names}{D:Nat->Prop}{w:World}{ks:List Nat}{bk:Nat->Nat}(jZ: ∀i nm,N' i=some nm->N2 i=some nm)(js: ∀g,g∉ks->∀k c nm,N'.sub g k c=some nm->nm.row=false->N2.sub g k c=some nm){y:Nat}: ∀(l:List (Nat×cj)) (d:wD l),(∀o∈l,WJ ks o.2.ks=true)->∀c,cq N' D w (yX bk l d y) c->cq N2 D w (yX bk l d y) c
 | [],_,_,c,_=>by simp only[yX];exact oY
 |o::os,d,h,c,hv=>by
  simp only[yX] at hv⊢;split
  ·rename_i e
   rw[if_pos e] at hv;exact xm (λg hg=>mk_le jZ o.2 d.1 (H6 (h o (zdq ..)) js) g hg) hv
  ·rename_i e
   rw[if_neg e] at hv;exact H7 jZ js os d.2 (λo ho=>h o (zdp _ ho)) c hv
theorem zh {ep:List (Nat×aH)}{c:Nat}(h:Gb ep c=true): ∃q∈ep,q.1=c/\q.2.isVar=true:=by
 unfold Gb at h;rw[List.any_eq_true] at h;obtain⟨q,hq,h⟩:=h;rw[zdl] at h;refine⟨q,hq,by simpa using h.1,?_⟩
 have h2:=h.2;unfold aH.isVar;exact h2
theorem vu {p:aH}(h:p.isVar=true):p.mU=false:=by cases p<;>simp[aH.isVar] at h;rfl
theorem LL.Bc {ep:List (Nat×aH)}(uf:LL ep){q:Nat×aH}(hq:q∈ep)(h:q.2.mU=false):50<=q.1/\q.1<SB:=by
 have:=uf.ids q hq h;exact⟨this.1,by unfold SB;omega⟩
theorem JC {off c:Nat}(h:50<=c)(h':c<SB):back [] off c=off+(c-50):=DU (by omega) (by omega)
theorem JD {st wG:St}{e:jt}{ids:List Nat}{av:AV}(yw:Shaped st e ids av wG){ep:List (Nat×aH)}{rw:List Nat}(Ac:AT e ids rw (xi ep)=true){i:Nat}{o:fP}(hi:wG.h i=some o)(Fm:i∉rw):
  o= .dead\/(∃(p:aH) (bk:Nat->Nat) (y:p.den),o=p.mk bk y/\p.mU=false/\WJ (xi ep) p.ks=true)\/∃o0,st.h i=some o0/\(o=o0\/∃r t xs,o0= .row r t xs/\o= .row true t xs):=by
 rcases yw.heap i o hi with⟨q,hq,h1,bk,y,rfl⟩|h1|h1
 ·right;left
  unfold AT at Ac;rw[zdl,zdW,zdW] at Ac;have:=Ac.2 q hq;rw[zeo,zdl] at this;rcases this with h2|⟨h2,h3⟩
  ·rw[h1] at h2
   exact absurd (by simpa using h2) Fm
  ·refine⟨q.1.2,bk,y,rfl,?_,h2⟩
   cases hp:q.1.2 with
   |var p=>rfl
   |row t=>rfl
   |store Fx=>rw[hp] at h3;cases h3
 ·exact .inl h1
 ·exact .inr (.inr h1)
theorem DZ {e:jt}{ids rw ks:List Nat}(h:AT e ids rw ks=true): ∀o∈e.jM,WJ ks o.2.ks=true:=by
 unfold AT at h;rw[zdl,zdW] at h;exact h.1
theorem JE {W:List Nat}{fresh:Nat}{l:List Nat}(h:inW W fresh l=true){i:Nat}(hi:i∈l):i∈W\/i/100=fresh/100:=by
 unfold inW at h;rw[zdW] at h;simpa using h i hi
theorem RU {N' N2:Names}{D':Nat->Prop}{w':World}{g n off:Nat}{ep:List (Nat×aH)}{b:kq}(uf:LL ep)(jZ: ∀i,N2 i=N' i)(hn:N2.sub g n=iY N' b ep)(hle:kq.le (Z5 off ep) b)(mE: ∀i,(∃q∈ep,q.2.isVar=true/\i=off+(q.1-50))->∀nm,N' i=some nm->nm.row=false){u:AV}{v:Value}(hu:cq N' D' w' u v)(hu2:cq N2 D' w' u v):cq N2 D' w' (K3 g (n+1) off ep u) v:=by
 unfold K3;split
 ·rename_i i
  split
  ·rename_i hc
   rw[zdl] at hc;obtain⟨q,hq,h1,h2⟩:=zh hc.2;have kR:=uf.Bc hq (vu h2);have nv:off<=i:=by simpa using hc.1
   have hi:i=off+(q.1-50):=by omega
   obtain⟨nm,a,o,e1,e2,e3,e4⟩:=jr.1 hu;have hr:=mE i ⟨q,hq,h2,hi⟩ nm e1;have ho:o=0:=by
    have:nm.off []=some 0:=by simp[Nm.off,hr,fH]
    rw[this] at e3;cases e3;rfl
   subst ho;have UN:iY N' b ep (i-off+50)=some nm:=by
    rw[<-h1,(qx (N:=N') (b:=b) kR.2 (λe he=>(uf.closed.st e he).1) ⟨q,hq,rfl⟩).at_ (hle _ _ (Ab ep ⟨q,hq,rfl,h2⟩)),<-hi];exact e1
   unfold cq;simp only[AV.isAgg,jw,an,xk];exact⟨nm,a,by rw[hn];exact UN,hr,e2,by rw[e4]⟩
  ·exact hu2
 ·exact hu2
theorem D0 {M:Names}{D:Nat->Prop}{w:World}: ∀{l:List (Nat×aH)} {d:cP l},kM D w base M l d->∀{q:Nat×aH},q∈l->q.2.isVar=true->∃v,sW M D w base q.1 v
 | [],_,_,q,hq,_=>by simp at hq
 |(c,p)::os,d,h,q,hq,hv=>by
  simp only[kM] at h;rcases List.mem_cons.1 hq with rfl|hq
  ·cases p with
   |var p=>have h1:=h.1;simp only[jd] at h1;exact⟨_,h1⟩
   |row t=>cases hv
   |store e=>cases hv
  ·exact D0 h.2.1 hq hv
theorem JF {M:Names}{D:Nat->Prop}{w:World}: ∀{l:List (Nat×aH)} {d:cP l},kM D w base M l d->∀{c:Nat} {t:Ty},(c,aH.row t)∈l->AM.nodup (l.map (·.1))=true->∃nm,M c=some nm/\nm.row=true/\True
 | [],_,_,q,_,hq,_=>by simp at hq
 |(c,p)::os,d,h,c',t,hq,hn=>by
  simp only[kM] at h;simp only[zea,AM.nodup,zdl] at hn;rcases List.mem_cons.1 hq with e|hq
  ·cases e
   have h1:=h.1;simp only[jd] at h1;obtain⟨nm,e1,e2,_⟩:=h1;exact⟨nm,e1,e2,trivial⟩
  ·exact JF h.2.1 hq hn.2
theorem UO {ep:List (Nat×aH)}{xs:List (cP ep)}{n k:Nat}{d:cP ep}(h:k≠n):jU (β:=cP ep) (Jf xs n d) k=jU (β:=cP ep) xs k:=zdR (Ne.symm h)
theorem UP {ep:List (Nat×aH)}{xs:List (cP ep)}{n:Nat}{d:cP ep}(h:n<xs.length):jU (β:=cP ep) (Jf xs n d) n=some d:=by simp[Jf,jU,h]
theorem RV {ep:List (Nat×aH)}{xs:List (cP ep)}{n:Nat}{d:cP ep}:aO (β:=cP ep) (Jf xs n d)=aO (β:=cP ep) xs:=by simp[Jf,aO]
theorem LN {sp:ak}{F:sp.pre.den->Option (gK sp.iS)}{f:FuncId}{args:List AV}{st:St}{W:List Nat}{fresh:Nat}{k:AV->St->Option α}{fail:Option α}{r:α}(mc:sp.ok=true)(hF:re P base f sp F)(wQ:fresh%100=0){j g n c:Nat}{ep:List (Nat×aH)}{xs:List (cP ep)}{d:cP ep}
  (RW:args[j]?=some (.rf g (n+1) c)) (hs:st.h (SB+g)=some (.store ep xs)) (hd:jU (β:=cP ep) xs n=some d) (uf:OK ep=true) (hf:oO st.h (fresh+60) [] ep=true) (hWg:W.contains (SB+g)=true) (hWe:ep.all (λo=>W.contains (back [] (fresh+60) o.1))=true) (hc:Gb ep c=true)
  (h:Dt sp F (args.set j (.ptr (back [] (fresh+60) c) [])) (tI st g (fresh+60) ep d) W fresh (λe ids av eY=>XO W fresh g n (fresh+60) ep xs e ids av eY k) fail=some r):
  fail=some r\/∃av eY,k av eY=some r/\xH P base W f args st fresh av eY:=by
 rcases xQ h mc hF wQ with h1|⟨e,ids,av,wG,h1,ry,yw⟩
 ·exact .inl h1
 right
 have uf:=Gv uf;unfold XO at h1;rcases pO h1 uf.closed with h2|⟨dd,ro,b,h2,hle,M,Yn⟩
 ·cases h2
 split at h2
 ·cases h2
 rename_i JG;simp only[zdl,zeC,zes,decide_eq_false_iff_not,zdO] at JG;obtain⟨⟨⟨⟨Nw,Ac⟩,Pk⟩,Xc⟩,Yo⟩:=JG;subst Nw;rw[zdW] at hWe Xc;have I0: ∀q∈ep,SB<=q.1->iI (st.h q.1)=true:=by
  intro q hq so;unfold oO at hf;rw[zdW] at hf;have:=hf q hq;rw[decide_eq_false (Jw so),decide_eq_true so] at this;simpa using this
 have hfn: ∀q∈ep,q.1<SB->50<=q.1->st.h (fresh+60+(q.1-50))=none:=by
  intro q hq kR ug;unfold oO at hf;rw[zdW] at hf;have:=hf q hq;rw[decide_eq_false (show¬q.1<50 by omega),decide_eq_false (show¬SB<=q.1 by omega)] at this
  simp only[zeD,zdl,Option.isNone_iff_eq_none] at this;exact this.2
 have Pp:cY ep (SB+g)=false:=by
  cases h:cY ep (SB+g) with
  |false=>rfl
  |true=>
   obtain⟨q,hq,h1,_⟩:=fM.1 h;have:=I0 q hq (by omega)
   rw[h1,hs] at this;cases this
 have UQ: ∀q∈ep,back [] (fresh+60) q.1≠SB+g:=by
  intro q hq hb;cases jZ:q.2.mU with
  |true=>
   have so:=(uf.closed.st q hq).1 jZ;rw[qd so] at hb;rw[fM.2 ⟨q,hq,hb,jZ⟩] at Pp;cases Pp
  |false=>
   obtain⟨g1,g2⟩:=uf.Bc hq jZ;rw[JC g1 g2] at hb;have:=hfn q hq g2 g1;rw[hb,hs] at this;cases this
 have Nk:(tI st g (fresh+60) ep d).h (SB+g)=some .dead:=by
  show mN (back [] (fresh+60)) ep d (rP st.h [SB+g]) (SB+g)=_
  rw[uD UQ,lV];simp
 refine⟨_,_,h2,ry.1,ry.2.1,ry.2.2.1,ry.2.2.2.1,λid pF hdiv=>?_,λN D w S lu nu=>?_⟩
 ·have uM:cY ep id=false:=by
   cases h:cY ep id with
   |false=>rfl
   |true=>
    obtain⟨q,hq,h1,h2⟩:=fM.1 h;have:=hWe q hq;rw[qd ((uf.closed.st q hq).1 h2),h1] at this;exact absurd (by simpa using this) pF
  have hng:id≠SB+g:=by
   rintro rfl
   exact pF (by simpa using hWg)
  have KL:(iM ep b).contains id=false:=by
   cases h:(iM ep b).contains id with
   |false=>rfl
   |true=>
    rcases JE Yo (show id∈iM ep b by simpa using h) with h1|h1
    ·exact absurd h1 pF
    ·exact absurd h1 hdiv
  show tH wG.h ep (iM ep b) g _ id=st.h id
  unfold tH;rw[if_neg hng,uM,KL];simp only[zdk,if_false];rw[ry.2.2.2.2.1 id pF hdiv];show mN (back [] (fresh+60)) ep d (rP st.h [SB+g]) id=st.h id
  rw[uD (λq hq e=>pF (by have:=hWe q hq;rw[e] at this;simpa using this)),lV]
  simp[hng]
 ·obtain⟨N1,D1,S1,X1,r4,r5,r7,r6⟩:=LM S hs hd uf hf
  obtain⟨cv,hcj,hvj⟩:=sa _ _ _ _ nu RW;unfold cq at hvj;simp only[AV.isAgg,jw,an,xk] at hvj;obtain⟨nm,a,e1,e2,e3,e4⟩:=hvj;simp only[zdj] at e4;obtain⟨qc,hqc,zcj,zck⟩:=zh hc;have zc5:=uf.Bc hqc (vu zck);have hargs1:bA N1 D1 w (args.set j (.ptr (back [] (fresh+60) c) [])) lu:=
   B8 (pv X1.names X1.frozen (X1.Ji S) _ _ nu) hcj (jr.2 ⟨nm,a,0,r4 c ⟨by omega,qc,hqc,zcj⟩ nm e1,e3,by simp[Nm.off,e2,fH],e4⟩)
  refine(ry.2.2.2.2.2 N1 D1 w S1 lu hargs1).mono λen w' Pn=>?_;cases en with
  |panicked c=>exact Pn.elim
  |outgrown=>exact Pn.elim
  |returned v=>
   obtain⟨N',D',X2,S',hv⟩:=Pn;have X:=X1.trans X2;obtain⟨Sc,_⟩:=Yn N' D' w' base S';rw[z8] at Sc;have UR: ∀k,N'.sub g k=N.sub g k:=λk=>((X2.pF g Nk).2 k).trans (r5 g Pp k);have mZ:jd D w base N (SB+g) (.store ep) xs:=S.obj _ _ hs;simp only[jd,we] at mZ;have RX:=xN (l:=ep) (d:=dd.2) uf.nodup (λc nm hc=>by obtain⟨e,he,h1,h2⟩:=tw hc;exact⟨e,he,h1,xM h2⟩) Sc
   have hxn:n<xs.length:=(List.getElem?_eq_some_iff.1 hd).1;have hzk: ∀k dk,k≠n->jU (β:=cP ep) (Jf xs n dd.2) k=some dk->jU (β:=cP ep) xs k=some dk:=λk dk hk h=>(UO hk).symm.trans h;have RY: ∀k dk,k≠n->jU (β:=cP ep) xs k=some dk->∀bl,pw (N.sub g k) ep dk bl->¬yY N1 (tI st g (fresh+60) ep d).h bl/\yY N st.h bl/\Gd D w base bl:=by
    intro k dk hk hx bl ho;have hO:iQ N (SB+g) (.store ep xs) bl:=by
     show pK N (SB+g) (.store ep) xs bl
     simp only[pK,we];exact⟨k,dk,hx,ho⟩
    refine⟨?_,⟨SB+g,_,hs,hO⟩,S.oX hs hO⟩;rintro⟨i,oi,h1,h2⟩
    rcases r6 i oi bl h1 h2 with h3|⟨h3,h4,h5⟩
    ·exact hk (mZ.2.2.2 k n dk d bl hx hd ho h3)
    ·exact h5 (S.apart i (SB+g) oi _ bl h3 hs h4 hO)
   have Xd: ∀q∈ep,q.2.isVar=true->iY N' b ep q.1=N' (fresh+60+(q.1-50)):=λq hq hv=>
    (qx (N:=N') (b:=b) (uf.Bc hq (vu hv)).2 (λe he=>(uf.closed.st e he).1) ⟨q,hq,rfl⟩).at_ (hle _ _ (Ab ep ⟨q,hq,rfl,hv⟩))
   obtain⟨N2,t1,t2,t3,t4,t5⟩:=DW S X S' uf (s':=wG) rfl M Sc (g:=g) (n:=n) (zs:=Jf xs n dd.2) (UP hxn) Pp
    (λk dk hk hz=>by
     have hx:=hzk k dk hk hz;rw[UR];obtain⟨p1,p2⟩:=mZ.2.1 k dk hx;refine⟨⟨kM.congr X.frozen (X.Ji S) p1 λbl ho=>?_,p2⟩,λbl ho=>⟨λj' o hj mS ta=>?_,λ_=>(RY k dk hk hx bl ho).2.1⟩⟩
     ·obtain⟨q1,_,q3⟩:=RY k dk hk hx bl ho
      refine⟨X2.sI bl q3.2.2 q1,λhnd K8=>?_⟩;rcases X2.Jh bl K8 with h3|h3|h3
      ·exact hnd (r7 bl h3)
      ·exact q1 h3
      ·have:=q3.2.2;omega
     ·obtain⟨q1,_,q3⟩:=RY k dk hk hx bl ho
      exact q1 (X2.own bl q3.2.2 ⟨j',o,mS,ta⟩))
    (λk k' dk Ue bl hk sZ hz Ub ho mS=>by
     rw[UR] at ho mS;exact mZ.2.2.2 k k' dk Ue bl (hzk k dk hk hz) (hzk k' Ue sZ Ub) ho mS)
    (λk hk=>by
     rw[UR];exact mZ.2.2.1 k (RV▸hk))
    (λl hl k=>by
     obtain⟨q,hq,h3,_⟩:=fM.1 hl;refine S.iI l ?_ k;rw[<-h3];exact I0 q hq (by omega))
    (λc nm hc hr=>by
     rw[UR] at hc;obtain⟨q,hq,h3,h4⟩:=(mZ.2.1 n d hd).2.1 c nm hc;have hv:q.2.isVar=true:=by
      obtain⟨q1,qp⟩:=q;cases qp with
      |var p=>rfl
      |store e=>cases h4
      |row t=>
       exfalso
       have:=JF (mZ.2.1 n d hd).1 hq uf.nodup;obtain⟨mD,f1,f2,_⟩:=this;have h3:q1=c:=h3;rw[h3,hc] at f1;cases f1;rw[hr] at f2;cases f2
     rw[<-h3,Xd q hq hv];have kR:=uf.Bc hq (vu hv);have:=X2.names _ _ (r4 c ⟨by omega,q,hq,h3⟩ nm hc)
     rw[<-h3,JC kR.1 kR.2] at this;exact this)
    (by rw[hs];intro h;cases h) Pk
    (λi o hi Fm lR uM=>by
     rcases JD yw Ac hi Fm with h3|h3|⟨o0,h3,h4⟩
     ·exact .inl h3
     ·exact .inr (.inl h3)
     ·have h3:mN (back [] (fresh+60)) ep d (rP st.h [SB+g]) i=some o0:=h3
      rcases m8 h3 with⟨q,hq,h5,y,_,_⟩|⟨_,h5⟩
      ·left
       have:=Xc q hq;rw[h5] at this;simp only[zeo] at this;rcases this with(h6|h6)|h6
       ·rw[qd ((uf.closed.st q hq).1 h6)] at h5
        rw[fM.2 ⟨q,hq,h5,h6⟩] at uM;cases uM
       ·exact absurd (by simpa using h6) Fm
       ·rw[hi] at h6
        cases o<;>simp[Q6] at h6
        rfl
      ·rw[lV] at h5
       split at h5
       ·rename_i h6;exact absurd (by simpa using h6) lR
       ·exact .inr (.inr ⟨o0,h5,h4⟩))
   refine⟨N2,D',t5,t4,?_⟩;obtain⟨bk,ds,hav⟩:=yw.res;subst hav;rw[Po _ (λv hv us=>by
    obtain⟨o,_,rfl⟩:=List.mem_map.1 hv;exact DY _ _ _ _ _)]
   refine JB (by simp) (λi a b' ha hb c' hvc=>?_) hv
   rw[zej,ha] at hb;simp only[zds,zdj] at hb;subst hb;rw[zej] at ha;cases ho:e.jM[i]? with
   |none=>rw[ho] at ha;cases ha
   |some o=>
    rw[ho] at ha;simp only[zds,zdj] at ha;subst ha;refine RU uf t1 t3 hle (λi' ⟨q,hq,hqv,nA⟩ nm UL=>?_) hvc (H7 (λi nm h=>by rw[t1];exact h) t2 e.jM ds (DZ Ac) c' hvc)
    obtain⟨v',mD,a',f1,f2,f3,_⟩:=D0 RX.1 hq hqv;rw[Xd q hq hqv,<-nA,UL] at f1;cases f1;exact f3
theorem H8 {ep:List (Nat×aH)}{o:Option fP}{k:List (cP ep)->Option α}{r:α}(h:storeAt ep o k=some r): ∃xs,k xs=some r/\(o=some (.store ep xs)\/iI o=true/\xs=[]):=by
 unfold storeAt at h;split at h
 ·split at h
  ·rename_i Fx xs ys hc
   obtain⟨rfl,rfl⟩:=DP hc;exact⟨_,h, .inl rfl⟩
  ·cases h
 ·exact⟨_,h, .inr ⟨rfl,rfl⟩⟩
 ·exact⟨_,h, .inr ⟨rfl,rfl⟩⟩
 ·cases h
theorem RZ {ep:List (Nat×aH)}{xs:List (cP ep)}{d:cP ep}:jU (β:=cP ep) (BK xs d) (K4 xs)=some d:=by simp[BK,jU,K4]
theorem D5 {ep:List (Nat×aH)}{xs:List (cP ep)}{d dk:cP ep}{k:Nat}(hk:k≠K4 xs)(h:jU (β:=cP ep) (BK xs d) k=some dk):jU (β:=cP ep) xs k=some dk:=by
 simp only[BK,jU,K4] at*;have kR:=(List.getElem?_eq_some_iff.1 h).1;simp at kR;rw[zd3 (by omega)] at h
 exact h
theorem Pq {sp:ak}{F:sp.pre.den->Option (gK sp.iS)}{f:FuncId}{args:List AV}{st:St}{W:List Nat}{fresh:Nat}{k:AV->St->Option α}{fail:Option α}{r:α}(mc:sp.ok=true)(hF:re P base f sp F)(wQ:fresh%100=0){i g:Nat}{ep:List (Nat×aH)}
  (hWg:W.contains (SB+g)=true) (hWe:ep.all (λo=>W.contains o.1)=true) (uf:OK ep=true) (UH:ep.all (λo=>!o.2.mU||iI (st.h o.1))=true)
  (h:Dt sp F args st W fresh (λe ids av eY=>XP W fresh i g ep e ids av eY k) fail=some r):
  fail=some r\/∃av eY,k av eY=some r/\xH P base W f args st fresh av eY:=by
 rcases xQ h mc hF wQ with h1|⟨e,ids,av,wG,h1,ry,yw⟩
 ·exact .inl h1
 right
 have uf:=Gv uf;unfold XP at h1;split at h1
 ·rename_i j hj
  obtain⟨xs,h1,Lq⟩:=H8 h1;rcases pO h1 uf.closed with h2|⟨dd,ro,b,h2,hle,M,Yn⟩
  ·cases h2
  split at h2
  ·cases h2
  rename_i JG;simp only[zdl,zeC,zes,decide_eq_false_iff_not,zdO] at JG;obtain⟨⟨⟨⟨⟨Nw,Ac⟩,Pk⟩,zcl⟩,Pp⟩,Yo⟩:=JG;subst Nw;rw[zdW] at hWe UH;refine⟨_,_,h2,ry.1,ry.2.1,ry.2.2.1,ry.2.2.2.1,λid pF hdiv=>?_,λN D w S lu nu=>?_⟩
  ·have uM:cY ep id=false:=by
    cases h:cY ep id with
    |false=>rfl
    |true=>
     obtain⟨q,hq,h1,h2⟩:=fM.1 h;have:=hWe q hq;rw[h1] at this;exact absurd (by simpa using this) pF
   have hng:id≠SB+g:=by
    rintro rfl
    exact pF (by simpa using hWg)
   have KL:(iM ep b).contains id=false:=by
    cases h:(iM ep b).contains id with
    |false=>rfl
    |true=>
     rcases JE Yo (show id∈iM ep b by simpa using h) with h1|h1
     ·exact absurd h1 pF
     ·exact absurd h1 hdiv
   show tH wG.h ep (iM ep b) g _ id=st.h id
   unfold tH;rw[if_neg hng,uM,KL];simp only[zdk,if_false];exact ry.2.2.2.2.1 id pF hdiv
  ·refine(ry.2.2.2.2.2 N D w S lu nu).mono λen w' Pn=>?_
   cases en with
   |panicked c=>exact Pn.elim
   |outgrown=>exact Pn.elim
   |returned v=>
    obtain⟨N',D',X,S',hv⟩:=Pn;obtain⟨Sc,_⟩:=Yn N' D' w' base S';rw[z8] at Sc;have RX:=xN (l:=ep) (d:=dd.2) uf.nodup (λc nm hc=>by obtain⟨e,he,h1,h2⟩:=tw hc;exact⟨e,he,h1,xM h2⟩) Sc
    have mZ:jd D' w' base N' (SB+g) (.store ep) xs:=by
     rcases Lq with h3|⟨h3,rfl⟩
     ·exact S'.obj _ _ h3
     ·simp only[jd,we]
      exact⟨zeF SB g,λk d hk=>by simp[jU] at hk,λk _=>S'.iI g h3 k,λk k' d d' b hk=>by simp[jU] at hk⟩
    simp only[jd,we] at mZ;have ta: ∀k dk bl,jU (β:=cP ep) xs k=some dk->pw (N'.sub g k) ep dk bl->wG.h (SB+g)=some (.store ep xs)/\iQ N' (SB+g) (.store ep xs) bl:=by
     intro k dk bl hx ho;rcases Lq with h3|⟨h3,rfl⟩
     ·refine⟨h3,?_⟩
      show pK N' (SB+g) (.store ep) xs bl
      simp only[pK,we];exact⟨k,dk,hx,ho⟩
     ·simp[jU] at hx
    obtain⟨q50,Yp,ug,Xe⟩:=zh zcl;have UN:iY N' b ep 50=N' j:=by
     have:=(qx (N:=N') (b:=b) (uf.Bc Yp (vu Xe)).2 (λe he=>(uf.closed.st e he).1) ⟨q50,Yp,rfl⟩);rw[ug] at this;exact this.at_ (hle 50 (.at_ j) (by simp[kq.get]))
    obtain⟨N2,t1,t2,t3,t4,t5⟩:=DW S X S' uf (s':=wG) rfl M Sc (g:=g) (n:=K4 xs) (zs:=BK xs dd.2) RZ Pp
     (λk dk hk hz=>by
      have hx:=D5 hk hz;refine⟨mZ.2.1 k dk hx,λbl ho=>?_⟩;obtain⟨h3,h4⟩:=ta k dk bl hx ho;exact⟨λj' o BR mS zaA=>BR (S'.apart j' (SB+g) o _ bl mS h3 zaA h4),λkR=>X.own bl kR ⟨SB+g,_,h3,h4⟩⟩)
     (λk k' dk Ue bl hk sZ hz Ub ho mS=>mZ.2.2.2 k k' dk Ue bl (D5 hk hz) (D5 sZ Ub) ho mS)
     (λk hk=>mZ.2.2.1 k (by
      have:(BK xs dd.2).length<=k:=hk;simp only[BK,zdm] at this;simp only[aO];omega))
     (λl hl k=>by
      obtain⟨q,hq,h3,h4⟩:=fM.1 hl;refine S.iI l ?_ k;have:=UH q hq;rw[h4,h3] at this;simpa using this)
     (λc nm hc hr=>by
      rw[mZ.2.2.1 (K4 xs) (zdz _)] at hc;cases hc)
     (λhd=>by
      have:=(X.pF g hd).1;rcases Lq with h3|⟨h3,_⟩
      ·rw[this] at h3;cases h3
      ·rw[this] at h3;cases h3)
     Pk (λi' o hi Fm _ _=>JD yw Ac hi Fm)
    refine⟨N2,D',t5,t4,?_⟩;obtain⟨bk,ds,hav⟩:=yw.res;subst hav;have RE: ∀v∈e.jM.map (λo=>yX bk e.jM ds o.1),∀us,v≠ .AN us:=λv hv us=>by
     obtain⟨o,_,rfl⟩:=List.mem_map.1 hv;exact DY _ _ _ _ _
    unfold WL;rw[RT RE] at hj⊢;refine JB (by simp) (λi' a b' ha hb c' hvc=>?_) hv
    by_cases T5:i'=i
    ·subst T5
     rw[hj] at ha;cases ha;have kR:i'<(e.jM.map (λo=>yX bk e.jM ds o.1)).length:=(List.getElem?_eq_some_iff.1 hj).1;rw[List.getElem?_set_self kR] at hb;cases hb;obtain⟨nm,a,o,e1,e2,e3,e4⟩:=jr.1 hvc;obtain⟨v',mD,a',f1,f2,f3,_⟩:=D0 RX.1 Yp Xe;rw[ug,UN,e1] at f1;cases f1;have ho:o=0:=by
      have:nm.off []=some 0:=by simp[Nm.off,f3,fH]
      rw[this] at e3;cases e3;rfl
     subst ho;unfold cq;simp only[AV.isAgg,jw,an,xk];exact⟨nm,a,by rw[t3,UN];exact e1,f3,e2,by rw[e4]⟩
    ·rw[zdR (Ne.symm T5)] at hb
     rw[ha] at hb;cases hb;rw[zej] at ha;cases ho:e.jM[i']? with
     |none=>rw[ho] at ha;cases ha
     |some o=>
      rw[ho] at ha;simp only[zds,zdj] at ha;subst ha;exact H7 (λi nm h=>by rw[t1];exact h) t2 e.jM ds (DZ Ac) c' hvc
 ·exact⟨_,_,h1,ry⟩
 ·cases h1
def Ad (P:Program)(base:Nat)(f:FuncId)(oL:ow):Prop:=oL.sp.ok=true/\re P base f oL.sp oL.f
theorem JH {oL:ow}{f:FuncId}{args:List AV}{st:St}{W:List Nat}{fresh:Nat}{k:AV->St->Option α}{fail:Option α}{r:α}(hc:Ad P base f oL)(wQ:fresh%100=0)(h:Q8 oL args st W fresh k fail=some r):
  fail=some r\/∃av eY,k av eY=some r/\xH P base W f args st fresh av eY:=by
 unfold Q8 at h;split at h
 ·split at h
  ·rcases xQ h hc.1 hc.2 wQ with h1|⟨e,ids,av,wG,h1,ry,_⟩
   ·exact .inl h1
   ·exact .inr ⟨av,wG,h1,ry⟩
  ·split at h
   ·rename_i hw
    simp only[zdl] at hw;exact Pq hc.1 hc.2 wQ hw.1.1.1 hw.1.1.2 hw.1.2 hw.2 h
   ·cases h
 ·rename_i j g n c RW
  split at h
  ·rename_i ep xs hs
   split at h
   ·cases h
   ·rename_i n'
    split at h
    ·cases h
    ·rename_i d hd
     split at h
     ·cases h
     ·rename_i hw
      simp only[zdl] at hw;have:=(B7 RW).2;rw[Nat.sub_zero] at this;exact LN hc.1 hc.2 wQ this hs hd hw.1.1.1.1 hw.1.1.1.2 hw.1.1.2 hw.1.2 hw.2 h
  ·cases h
theorem wg {f:FuncId}{args:List AV}{st:St}{W:List Nat}{fresh:Nat}{k:AV->St->Option α}{r:α}(wQ:fresh%100=0): ∀(cs:List ow),(∀c∈cs,Ad P base f c)->AX args st W fresh k cs=some r->∃av eY,k av eY=some r/\xH P base W f args st fresh av eY
 | [],_,h=>by simp[AX] at h
 |c::cs,hc,h=>by
  unfold AX at h;rcases JH (hc c (zdq ..)) wQ h with h1|h1
  ·exact wg wQ cs (λc' La=>hc c' (zdp _ La)) h1
  ·exact h1
end AM
namespace AM
open Go
variable {α:Type}{P:Program}{base:Nat}
noncomputable def D6 (P:Program)(tmps:Array Value):ResultVar->Sem Value
 | .tmp t=>pure (tmps.getD t Go.undef)
 | .cell a t=>do loadVar t (<-asAddr (tmps.getD a Go.undef))
def LP:List Value->Value
 | [v]=>v
 |vs=> .tuple vs.toArray
theorem LQ (fn:Func)(tmps:Array Value)(w:World){vs:List Value}(h:(fn.results.toList.mapM (D6 P tmps)).run P w= .ok vs w):(results fn tmps).run P w= .ok (LP vs) w:=by
 have e:results fn tmps=(do let vs<-fn.results.mapM (D6 P tmps);pure (if h:vs.size=1 then vs[0] else .tuple vs)):=rfl
 rw[e,<-Array.toArray_toList (xs:=fn.results),List.mapM_toArray];simp only[zdE,Sem.run_map,h,zdF,zdG];match vs with
 | []=>rfl
 | [v]=>rfl
 |a::b::l=>simp[LP]
theorem sP {st:St}: ∀(l:List ResultVar) (k:List AV->Option α) (r:α),tp P st l k=some r->
  ∃vs,k vs=some r/\vs.length=l.length/\∀N D w a,kt N D w base st a->∃cs,(l.mapM (D6 P a.tmps)).run P w= .ok cs w/\bA N D w vs cs
 | [],k,r,h=>⟨[],h,rfl,λN D w a s=>⟨[],by simp,by simp only[bA]⟩⟩
 | .tmp t::l,k,r,h=>by
  unfold tp at h;obtain⟨vs,h1,h2,h3⟩:=sP l _ r h;refine⟨_,h1,by simp[h2],λN D w a s=>?_⟩
  obtain⟨cs,g1,g2⟩:=h3 N D w a s;refine⟨a.tmps.getD t Go.undef::cs,?_,?_⟩
  ·simp only[List.mapM_cons,D6,zdE,zdG,zdF,g1]
  ·simp only[bA]
   exact⟨_,_,rfl,s.tmps t,g2⟩
 | .cell x t::l,k,r,h=>by
  unfold tp at h;split at h
  ·rename_i i p hx
   obtain⟨u,h0,_,qH⟩:=px h;split at h0
   ·rename_i lf
    obtain⟨vs,h1,h2,h3⟩:=sP l _ r h0;refine⟨_,h1,by simp[h2],λN D w a s=>?_⟩
    obtain⟨cs,g1,g2⟩:=h3 N D w a s;have hv:=s.tmps x;rw[hx] at hv;obtain⟨nm,ad,o,e1,e2,e3,e4⟩:=jr.1 hv;obtain⟨f1,f2,_⟩:=qH N D w base s.nr nm ad o e1 e2 e3;obtain⟨c,q1,q2⟩:=Dy (P:=P) (N:=N) (D:=D) (w:=w) (ad:=Addr.at_ ad o) (v:=u) rfl lf (mu f2 λj=>by simp[aV,Addr.at_,zdy])
    simp only[Instr.loadAt,Instr.sureAddr,zdE,zdG,zdF] at q1;refine⟨c::cs,?_,?_⟩
    ·simp only[List.mapM_cons,D6,zdE,e4,asAddr,zdG,zdF,q1,g1]
    ·simp only[bA]
     exact⟨_,_,rfl,q2,g2⟩
   ·cases h0
  ·cases h
theorem LR {N:Names}{D:Nat->Prop}{w:World}{l:List (Nat×cj)}{f:Nat->AV}{cs:List Value}(hl:l.map (·.1)=List.range cs.length)(h: ∀y,cq N D w (f y) (cs.getD y Go.undef)):bA N D w (l.map λo=>f o.1) cs:=by
 have e:(l.map λo=>f o.1)=(List.range cs.length).map f:=by rw[<-hl,List.map_map];rfl
 rw[e];clear e hl;have key: ∀(cs:List Value) (g:Nat->AV),(∀y,cq N D w (g y) (cs.getD y Go.undef))->bA N D w ((List.range cs.length).map g) cs:=by
  intro cs;induction cs with
  |nil=>intro g _;simp only[zdo,List.range_zero,List.map_nil,bA]
  |cons c cs ih=>
   intro g hg;simp only[zdn,List.range_succ_eq_map,zea,List.map_map,bA];exact⟨c,cs,rfl,(by have:=hg 0;exact this),ih (g∘Nat.succ) λy=>by simpa using hg (y+1)⟩
 exact key cs f h
theorem Pr {N:Names}{D:Nat->Prop}{w:World}{l:List (Nat×cj)}{f:Nat->AV}{cs:List Value}(hl:l.map (·.1)=List.range cs.length)(h: ∀y,cq N D w (f y) (cs.getD y Go.undef)):cq N D w (qO (l.map λo=>f o.1)) (LP cs):=by
 have he:=LR hl h;have hlen:=rh he;match l,cs,he,hlen with
 | [],[],he,_=>exact lJ.2 ⟨_,rfl,he⟩
 | [o],[v],he,_=>
  simp only[zea,List.map_nil,bA] at he;obtain⟨c,tq,e,h1,_⟩:=he;cases e;exact h1
 |o::o'::os,c::c'::cs,he,_=>exact lJ.2 ⟨_,rfl,he⟩
 | [],_::_,_,h=>simp at h
 |_::_,[],_,h=>simp at h
 | [_],_::_::_,_,h=>simp at h
 |_::_::_,[_],_,h=>simp at h
structure JI (P:Program)(f:FuncId)(fn:Func)(sp:ak):Prop where
 here:P.funcs[f]?=some fn
 name:(fn.name== "runtime.NumGoroutine")=false
 ok:sp.ok=true
 nt:sp.pre.jM.length<=fn.ntmps
 res: ∀e∈sp.iS,e.jM.map (·.1)=List.range fn.results.size
 body: ∃c,fn.body=some c/\m7 fn c/\pz c
theorem R0 {f:FuncId}{fn:Func}{sp:ak}{F:sp.pre.den->Option (gK sp.iS)}{env:Env (gK sp.iS)}(hi:JI P f fn sp)(hm:P.follows .mixedOrders=true)(he:sr P base env)(hl:xJ P base fn env)(hF: ∀d,pY P sp env fn d=F d):re P base f sp F:=by
 obtain⟨c,hb,LS,LU⟩:=hi.body;refine⟨⟨fn,hi.here,by simp[hb],hi.name⟩,λd r hr N D w lu S hlen nu=>?_⟩
 have hex:exec P env 100000 [.code c] (sp.pre.st fn.ntmps d) (Q9 P sp fn)=some r:=by
  rw[<-hr,<-hF];simp[pY,hb]
 have hg:Good fn [.code c]:=⟨by simpa [Item.ok] using LS,by simpa [Item.Yg] using LU,by simp,by intro _ _ _ _ _ e;cases e⟩
 refine calls_of_wp hi.here hb ?_;have s:kt N D w base (sp.pre.st fn.ntmps d) {tmps:=lu.toArray++Array.replicate (fn.ntmps-lu.toArray.size) Go.undef,defers:=[]}:=by
  refine⟨S,λy=>?_,?_,rfl⟩
  ·have e:(lu.toArray++Array.replicate (fn.ntmps-lu.toArray.size) Go.undef).getD y Go.undef=lu.getD y Go.undef:=by
    rw[zew,zdt,Array.getElem?_append];split
    ·simp
    ·rename_i hy
     rw[Array.getElem?_replicate,List.getElem?_eq_none (by simpa using hy)]
     split<;>rfl
   rw[e];exact nu y
  ·have:=hi.nt
   simp only[Array.size_append,List.size_toArray,Array.size_replicate,jt.st];omega
 refine DO he hl hm _ _ _ _ _ hex hg N D w _ (bodyPost P fn _) s λout eY hK N' D' w' a' s' x'=>?_;have Xf:Q9 P sp fn .norm eY=some r->a'.defers=[]/\∃v,(results fn a'.tmps).run P w'= .ok v w'/\wH sp.iS r λe _ d'=> ∃Ne De,uN base sp.pre N D (yY N (mN (λc=>c) sp.pre.heap d.2 (λ_=>none))) w e Ne De w' d'/\cq Ne De w' (qO (e.jM.map λo=>yX (λc=>c) e.jM d'.1 o.1)) v:=by
  intro hK;unfold Q9 at hK;simp only at hK;obtain⟨vs,h1,h2,h3⟩:=sP (base:=base) _ _ _ hK;obtain⟨cs,g1,g2⟩:=h3 N' D' w' a' s';obtain⟨x,hx,JJ⟩:=zg _ _ _ h1 λe he=>(ak.Gx hi.ok he).1.closed;cases hx;refine⟨s'.defers,_,LQ fn a'.tmps w' g1,tR _ _ (λe n d' tf ht=>?_) JJ⟩;obtain⟨Ne,De,post,D7⟩:=yl (ak.xP hi.ok).st (d:=d.2) (s:={eY with t:=λi=>(vs[i]?).getD .undef}) S s'.nr x' rfl ht;refine⟨Ne,De,post,?_⟩;have JK:=rh g2;refine Pr (f:=λy=>yX (λc=>c) e.jM d'.1 y) (by rw[hi.res e tf,JK,h2];simp) λy=>D7 y _ ?_
  show cq N' D' w' ((vs[y]?).getD .undef) (cs.getD y Go.undef)
  cases ha:vs[y]? with
  |none=>simp only[Option.getD_none];exact oY
  |some u=>
   obtain⟨c',La,hv⟩:=sa _ _ _ _ g2 ha;rw[zdt,La];exact hv
 cases out with
 |norm=>exact Xf hK
 |ret=>exact Xf hK
 |exit id=>simp[Q9] at hK
end AM
namespace AM
open Go
variable {α:Type}{P:Program}{base:Nat}
theorem JL {a b:Out}(h:Ng a b=true):a=b:=by
 cases a<;>cases b<;>simp[Ng] at h<;>first|rfl|(subst h;rfl)
theorem Ae {s:St}{b:kq}{o:Out}: ∀(es:List jt) (outs:List Out) (k:gK es->Option α) (r:α),qQ s b o es outs k=some r->(∀e∈es,wa e)->∃x,k x=some r/\wH es x λe n d'=>RP s b e d'/\(outs[n]?).getD .norm=o
 | [],outs,k,r,h,_=>by simp[qQ] at h
 | [e],[],k,r,h,hc=>by simp[qQ] at h
 | [e],o'::outs,k,r,h,hc=>by
  unfold qQ at h;simp only at h;split at h
  ·rename_i ho
   rcases rb h (hc e (zdq ..)) with h1|⟨d,h1,h2⟩
   ·cases h1
   ·exact⟨d,h1,h2,by simp[JL ho]⟩
  ·cases h
 |e::e'::es,[],k,r,h,hc=>by simp[qQ] at h
 |e::e'::es,o'::outs,k,r,h,hc=>by
  unfold qQ at h;simp only at h;have Xg:qQ s b o (e'::es) outs (λd=>k (.inr d))=some r->∃x,k x=some r/\wH (e::e'::es) x λe n d'=>RP s b e d'/\((o'::outs)[n]?).getD .norm=o:=by
   intro h1;obtain⟨x,h3,h4⟩:=Ae (e'::es) outs _ r h1 λe he=>hc e (zdp _ he);exact⟨.inr x,h3,by simpa [wH] using h4⟩
  split at h
  ·rename_i ho
   rcases rb (k:=λd=>k (.inl d)) h (hc e (zdq ..)) with h1|⟨d,h1,h2⟩
   ·exact Xg h1
   ·exact⟨.inl d,h1,h2,by simp[JL ho]⟩
  ·exact Xg h
def Gz (base:Nat)(sp:bD)(N:Names)(D O:Nat->Prop)(w:World)(x:gK sp.iS)(e:Exit)(a':Act)(w':World):Prop:=
 e≠ .normal/\wH sp.iS x λe' n d'=>e=zX ((sp.outs[n]?).getD .norm)/\∃Ne De,uN base sp.pre N D O w e' Ne De w' d'/\kt Ne De w' base (e'.st sp.nt d') a'
def D8 (base:Nat)(sp:bD)(N:Names)(D O:Nat->Prop)(w:World):sp.pre.den⊕gK sp.iS->Exit->Act->World->Prop
 | .inl d',e,a',w'=>e= .normal/\∃Ne De,uN base sp.pre N D O w sp.pre Ne De w' d'/\kt Ne De w' base (sp.pre.st sp.nt d') a'
 | .inr x,e,a',w'=>Gz base sp N D O w x e a' w'
def mO (P:Program)(base:Nat)(fn:Func)(id:Nat)(sp:bD)(F:sp.pre.den->Option (sp.pre.den⊕gK sp.iS)):Prop:=
 ∀d r,F d=some r->∀N D w a,kt N D w base (sp.pre.st sp.nt d) a->(qP id fn).wp P (D8 base sp N D (yY N (mN (λc=>c) sp.pre.heap d.2 (λ_=>none))) w r) a w
def bD.ok (sp:bD):Bool:=sp.pre.closed&&sp.iS.all λe=>UJ sp.pre e
theorem bD.Gx {sp:bD}(h:sp.ok=true){e:jt}(he:e∈sp.iS):Pg sp.pre e:=by
 simp only[bD.ok,zdl,zdW] at h;exact Gs (h.2 e he)
theorem bD.xP {sp:bD}(h:sp.ok=true):wa sp.pre:=by
 simp only[bD.ok,zdl] at h;exact uC h.1
theorem JM {fn:Func}{id:Nat}{sp:bD}{F:sp.pre.den->Option (sp.pre.den⊕gK sp.iS)}{env:Env (sp.pre.den⊕gK sp.iS)}(mc:sp.ok=true)(LS:m7 fn (qP id fn))(LU:pz (qP id fn))(hm:P.follows .mixedOrders=true)(he:sr P base env)(hl:xJ P base fn env)
  (hF: ∀d,rZ P sp env fn id d=F d):mO P base fn id sp F:=by
 intro d r hr N D w a s;have hex:exec P env 100000 [.code (qP id fn)] (sp.pre.st sp.nt d) (Ra sp)=some r:=by
  rw[<-hr,<-hF];rfl
 have hg:Good fn [.code (qP id fn)]:=⟨by simpa [Item.ok] using LS,by simpa [Item.Yg] using LU,by simp,by intro _ _ _ _ _ e;cases e⟩
 refine DO he hl hm _ _ _ _ _ hex hg N D w _ (D8 base sp N D (yY N (mN (λc=>c) sp.pre.heap d.2 (λ_=>none))) w r) s λout eY hK N' D' w' a' s' x'=>?_;unfold Ra at hK;split at hK
 ·cases hK
 ·rename_i RE
  simp only[zdr] at RE;have zaB: ∀o,o≠ .norm->qQ eY (BL sp.pre) o sp.iS sp.outs (λd=>some (.inr d))=some r->D8 base sp N D (yY N (mN (λc=>c) sp.pre.heap d.2 (λ_=>none))) w r (zX o) a' w':=by
   intro o ho h1;obtain⟨x,hx,JJ⟩:=Ae _ _ _ _ h1 λe he=>(bD.Gx mc he).closed;cases hx;refine⟨by cases o<;>simp[zX] at ho⊢,tR _ _ (λe n d' tf ht=>?_) JJ⟩
   obtain⟨ht,js⟩:=ht;obtain⟨Ne,De,post,D7⟩:=yl (bD.xP mc).st (d:=d.2) s.nr s'.nr x' rfl ht;exact⟨by rw[js],Ne,De,post,post.nr,λy=>D7 y _ (s'.tmps y),by rw[s'.nt,RE];rfl,s'.defers⟩
  cases out with
  |ret=>exact zaB .ret (by intro e;cases e) hK
  |exit id=>exact zaB (.exit id) (by intro e;cases e) hK
  |norm=>
   rcases rb (k:=λd=>some (Sum.inl d)) (show oN sp.pre eY (BL sp.pre) (λd _ _=>some (Sum.inl d)) none=some r from hK) (bD.xP mc) with h1|⟨d',h1,ht⟩
   ·cases h1
   ·cases h1
    obtain⟨Ne,De,post,D7⟩:=yl (bD.xP mc).st (d:=d.2) s.nr s'.nr x' rfl ht;exact⟨rfl,Ne,De,post,post.nr,λy=>D7 y _ (s'.tmps y),by rw[s'.nt,RE];rfl,s'.defers⟩
theorem B9 {c:Code}{Q Q':Exit->Act->World->Prop}(h: ∀e a w,Q e a w->Q' e a w): ∀(n:Nat) (a:Act) (w:World),Code.rounds P c Q n a w->Code.rounds P c Q' n a w
 |0,_,_,h'=>h'.elim
 |n+1,a,w,h'=>by
  refine wp_mono h' λe a' w' hq=>?_;cases e with
  |normal=>exact B9 h n a' w' hq
  |exit id=>exact h _ _ _ hq
  |goto l=>exact h _ _ _ hq
  |ret=>exact h _ _ _ hq
  |panic ch=>exact h _ _ _ hq
  |outgrown=>exact h _ _ _ hq
theorem uN.trans {pre e:jt}{N N1 Ne:Names}{D D1 De O O1:Nat->Prop}{w w1 w':World}{d1:pre.den}{d:e.den}(hO:O1=yY N1 (mN (λc=>c) pre.heap d1.2 (λ_=>none)))(h1:uN base pre N D O w pre N1 D1 w1 d1)(h2:uN base pre N1 D1 O1 w1 e Ne De w' d):uN base pre N D O w e Ne De w' d:=by
 subst hO;refine⟨h2.nr,h1.ext.trans h2.ext,λc ug hc he=>?_,λg hg he k c nm h3 h4=>h2.NM g hg he k c nm (h1.NM g hg hg k c nm h3 h4) h4⟩;rw[h2.sI c ug hc he];obtain⟨q,hq,h3,_⟩:=id hc;exact h1.sI c ug hc ⟨q,hq,h3⟩
theorem Gz.trans {sp:bD}{N N1:Names}{D D1 O O1:Nat->Prop}{w w1:World}{d1:sp.pre.den}(hO:O1=yY N1 (mN (λc=>c) sp.pre.heap d1.2 (λ_=>none)))(h1:uN base sp.pre N D O w sp.pre N1 D1 w1 d1){x:gK sp.iS}{e:Exit}{a':Act}{w':World}(h2:Gz base sp N1 D1 O1 w1 x e a' w'):Gz base sp N D O w x e a' w':=by
 refine⟨h2.1,tR _ _ (λe' n d' _ hq=>?_) h2.2⟩;obtain⟨g1,Ne,De,g2,g3⟩:=hq;exact⟨g1,Ne,De,h1.trans hO g2,g3⟩
theorem D9 {fn:Func}{id:Nat}{sp:bD}{F:sp.pre.den->Option (sp.pre.den⊕gK sp.iS)}(hR:mO P base fn id sp F): ∀(n:Nat) (d:sp.pre.den) (x:gK sp.iS),iter F n d=some x->∀N D w a,kt N D w base (sp.pre.st sp.nt d) a->
  Code.rounds P (qP id fn) (Gz base sp N D (yY N (mN (λc=>c) sp.pre.heap d.2 (λ_=>none))) w x) n a w
 |0,d,x,h,_,_,_,_,_=>by simp[iter] at h
 |n+1,d,x,h,N,D,w,a,s=>by
  simp only[iter] at h;split at h
  ·cases h
  ·rename_i y hy
   cases h;refine wp_mono (hR d _ hy N D w a s) λe a' w' hq=>?_;have lR:=hq.1;cases e with
   |normal=>exact absurd rfl lR
   |exit id=>exact hq
   |goto l=>exact hq
   |ret=>exact hq
   |panic ch=>exact hq
   |outgrown=>exact hq
  ·rename_i d1 hd
   refine wp_mono (hR d _ hd N D w a s) λe a' w' hq=>?_;obtain⟨rfl,N1,D1,post,s1⟩:=hq;exact B9 (λe a2 w2 h2=>Gz.trans rfl post h2) n a' w' (D9 hR n d1 x h N1 D1 w' a' s1)
theorem H9 {fn:Func}{id:Nat}{sp:bD}{F:sp.pre.den->Option (sp.pre.den⊕gK sp.iS)}(mc:sp.ok=true)(hR:mO P base fn id sp F){st:St}{k:Out->St->Option α}{fail:Option α}{r:α}(h:K5 sp F st k fail=some r):
  fail=some r\/∃out eY,k out eY=some r/\Ry P base fn id st out eY:=by
 unfold K5 at h;split at h
 ·cases h
 ·rename_i RE
  simp only[zdr] at RE;rcases pO h (bD.xP mc) with h1|⟨d,ro,b,h1,_,M,ht⟩
  ·exact .inl h1
  ·right
   split at h1
   ·cases h1
   ·rename_i x hx
    obtain⟨e,n,d',he,h2,h3⟩:=xO _ _ _ _ h1;split at h2
    ·cases h2
    ·rename_i gV
     have hex:=bD.Gx mc he;refine⟨_,_,h2,λN D w a s=>?_⟩;obtain⟨m,hm⟩:=oW.1 hx;obtain⟨S1,T1⟩:=ht N D w base s.nr;have s1:kt (iY N b sp.pre.heap) (A9 N D ro) w base (sp.pre.st sp.nt d) a:=⟨S1,λy=>T1 y _ (s.tmps y),by rw[s.nt,RE];rfl,s.defers⟩
     refine wp_mono (wp_loop_rounds m (D9 hR m d x hm _ _ w a s1)) λen a' w' Pn=>?_;obtain⟨js,Ne,De,post,se⟩:=h3 _ Pn.2;obtain⟨N',D',S',X',tr,_⟩:=Bb (s:=st) rfl s.nr M hex gV (lt:=false) (by intro e';cases e') (λbl hb=>M.canon hb) post.nr post.ext (λq hq ug=>post.sI q.1 ug (hex.var q hq ug) ⟨q,hq,rfl⟩) (JA post.NM)
     refine⟨js,N',D',⟨S',λy=>?_,by rw[se.nt];exact RE.symm,se.defers⟩,X'⟩
     exact(DX λo' mS z=>⟨DS _ _ _ _,λg hg=>tr o'.2 z g (λc hc=>hex.closed.cs c (.inl (List.mem_flatMap.2 ⟨o',mS,hc⟩))) (λg hg=>hex.closed.ks g (.inl (List.mem_flatMap.2 ⟨o',mS,hg⟩))) (by intro e';cases e') hg⟩).val (se.tmps y)
def oP (P:Program)(base:Nat)(calls:List (Nat×List ow)):Prop:= ∀p∈calls,∀c∈p.2,Ad P base p.1 c
def nF (P:Program)(base:Nat)(fn:Func)(loops:List (Nat×List ui)):Prop:= ∀p∈loops,∀l∈p.2,l.sp.ok=true/\mO P base fn p.1 l.sp l.f
theorem vw {β:Type}{n:Nat}{x:β}: ∀{l:List (Nat×β)},uw n l=some x->(n,x)∈l
 | [],h=>by simp[uw] at h
 |p::l,h=>by
  simp only[uw] at h;split at h
  ·rename_i e
   cases h;subst e;exact zdq ..
  ·exact zdp _ (vw h)
theorem Bd {calls:List (Nat×List ow)}{loops:List (Nat×List ui)}(h:oP P base calls):sr P base (ru (α:=α) calls loops):=by
 intro f args st fresh k r wQ hc;simp only[ru] at hc⊢;cases hf:uw f calls with
 |none=>rw[hf] at hc;cases hc
 |some c=>
  rw[hf] at hc;exact wg wQ c (h _ (vw hf)) hc
theorem Be {fn:Func}{calls:List (Nat×List ow)}{loops:List (Nat×List ui)}(h:nF P base fn loops):xJ P base fn (ru (α:=α) calls loops):=by
 intro id st k r hc;simp only[ru] at hc;cases hf:uw id loops with
 |none=>rw[hf] at hc;cases hc
 |some ls=>
  rw[hf] at hc;have hls:=h _ (vw hf);simp only at hls hc;clear hf h;induction ls with
  |nil=>simp[CZ] at hc
  |cons l ls ih=>
   unfold CZ at hc;obtain⟨g1,g2⟩:=hls l (zdq ..);rcases H9 g1 g2 hc with h1|h1
   ·exact ih h1 λl hl=>hls l (zdp _ hl)
   ·exact h1
end AM
namespace AM
open Go
variable {α:Type}{P:Program}{base:Nat}
def oQ:Code->List Nat
 | .seq a b=>oQ a++oQ b
 | .cond _ a b=>oQ a++oQ b
 | .block _ c=>oQ c
 | .scope c=>oQ c
 | .loop c=>(mh c).toList++oQ c
 |_=> []
def pI:Code->Bool
 | .seq a b=>pI a&&pI b
 | .cond _ a b=>pI a&&pI b
 | .block _ c=>pI c
 | .scope c=>pI c
 | .loop c=>pI c
 | .region _ ops draw=>!draw||sL ops
 |_=>true
theorem sw: ∀(c:Code),pI c=true->pz c
 | .seq a b,h=>by simp only[pI,zdl] at h;exact⟨sw a h.1,sw b h.2⟩
 | .cond _ a b,h=>by simp only[pI,zdl] at h;exact⟨sw a h.1,sw b h.2⟩
 | .block _ c,h=>sw c h
 | .scope c,h=>sw c h
 | .region _ ops draw,h=>by
  intro hd;subst hd;simpa [pI] using h
 | .loop _,_=>trivial
 | .skip,_=>trivial
 | .exit _,_=>trivial
 | .ret,_=>trivial
 | .label _,_=>trivial
 | .goto _,_=>trivial
 | .rangeFunc _ _ _ _,_=>trivial
 | .refuse _,_=>trivial
theorem ke {id:Nat}: ∀(c:Code) {c':Code},df id c=some c'->id∈oQ c
 | .seq a b,c',h=>by
  simp only[df] at h;split at h
  ·exact zdu _ (ke a ‹_›)
  ·exact zdv _ (ke b h)
 | .cond _ a b,c',h=>by
  simp only[df] at h;split at h
  ·exact zdu _ (ke a ‹_›)
  ·exact zdv _ (ke b h)
 | .block _ c,_,h=>by simp only[df] at h;exact ke c h
 | .scope c,_,h=>by simp only[df] at h;exact ke c h
 | .loop c,_,h=>by
  simp only[df] at h;split at h
  ·rename_i e;exact zdu _ (by rw[e];simp)
  ·exact zdv _ (ke c h)
 | .region _ _ _,_,h=>by simp[df] at h
 | .skip,_,h=>by simp[df] at h
 | .exit _,_,h=>by simp[df] at h
 | .ret,_,h=>by simp[df] at h
 | .label _,_,h=>by simp[df] at h
 | .goto _,_,h=>by simp[df] at h
 | .rangeFunc _ _ _ _,_,h=>by simp[df] at h
 | .refuse _,_,h=>by simp[df] at h
theorem Ea {a b:List Nat}(h:AM.nodup (a++b)=true):AM.nodup a=true:=by
 induction a with
 |nil=>rfl
 |cons x xs ih=>
  simp only[zdS,AM.nodup,zdl,zeC,zes,decide_eq_false_iff_not,zeA,not_or] at h⊢;exact⟨h.1.1,ih h.2⟩
theorem qy {fn:Func}: ∀(c:Code),(∀id c',df id c=some c'->qP id fn=c')->AM.nodup (oQ c)=true->m7 fn c
 | .seq a b,H,h=>by
  simp only[oQ] at h;obtain⟨h1,h2⟩:=nodup_append h;refine⟨qy a (λid c' e=>H id c' (by simp only[df,e])) (Ea h),qy b (λid c' e=>H id c' ?_) h1⟩
  have hn:df id a=none:=by
   cases ha:df id a with
   |none=>rfl
   |some x=>exact absurd (ke b e) (h2 id (ke a ha))
  simp only[df,hn,e]
 | .cond o a b,H,h=>by
  simp only[oQ] at h;obtain⟨h1,h2⟩:=nodup_append h;refine⟨qy a (λid c' e=>H id c' (by simp only[df,e])) (Ea h),qy b (λid c' e=>H id c' ?_) h1⟩
  have hn:df id a=none:=by
   cases ha:df id a with
   |none=>rfl
   |some x=>exact absurd (ke b e) (h2 id (ke a ha))
  simp only[df,hn,e]
 | .block i c,H,h=>qy c (λid c' e=>H id c' (by simpa only[df] using e)) h
 | .scope c,H,h=>qy c (λid c' e=>H id c' (by simpa only[df] using e)) h
 | .loop c,H,h=>by
  simp only[oQ] at h;obtain⟨h1,h2⟩:=nodup_append h;refine⟨λid e=>H id c (by simp only[df,e,if_true]),qy c (λid c' e=>H id c' ?_) h1⟩
  have lR: ¬mh c=some id:=λe'=>h2 id (by rw[e'];simp) (ke c e)
  simp only[df,if_neg lR,e]
 | .region _ _ _,_,_=>trivial
 | .skip,_,_=>trivial
 | .exit _,_,_=>trivial
 | .ret,_,_=>trivial
 | .label _,_,_=>trivial
 | .goto _,_,_=>trivial
 | .rangeFunc _ _ _ _,_,_=>trivial
 | .refuse _,_,_=>trivial
theorem JN {fn:Func}{c:Code}(hb:fn.body=some c)(h:AM.nodup (oQ c)=true):m7 fn c:=
 qy c (λid c' e=>by simp only[qP,hb,e,zex]) h
theorem uE {fn:Func}{id:Nat}: ∀(c:Code) {c':Code},df id c=some c'->m7 fn c->pI c=true->m7 fn c'/\pI c'=true
 | .seq a b,c',h,hl,hd=>by
  simp only[pI,zdl] at hd;simp only[df] at h;split at h
  ·rename_i x e
   cases h;exact uE a e hl.1 hd.1
  ·exact uE b h hl.2 hd.2
 | .cond _ a b,c',h,hl,hd=>by
  simp only[pI,zdl] at hd;simp only[df] at h;split at h
  ·rename_i x e
   cases h;exact uE a e hl.1 hd.1
  ·exact uE b h hl.2 hd.2
 | .block _ c,_,h,hl,hd=>by simp only[df] at h;exact uE c h hl hd
 | .scope c,_,h,hl,hd=>by simp only[df] at h;exact uE c h hl hd
 | .loop c,_,h,hl,hd=>by
  simp only[df] at h;split at h
  ·cases h;exact⟨hl.2,hd⟩
  ·exact uE c h hl.2 hd
 | .region _ _ _,_,h,_,_=>by simp[df] at h
 | .skip,_,h,_,_=>by simp[df] at h
 | .exit _,_,h,_,_=>by simp[df] at h
 | .ret,_,h,_,_=>by simp[df] at h
 | .label _,_,h,_,_=>by simp[df] at h
 | .goto _,_,h,_,_=>by simp[df] at h
 | .rangeFunc _ _ _ _,_,h,_,_=>by simp[df] at h
 | .refuse _,_,h,_,_=>by simp[df] at h
def xR (fn:Func):Bool:=match fn.body with|some c=>AM.nodup (oQ c)&&pI c|none=>false
theorem LV {fn:Func}(h:xR fn=true): ∃c,fn.body=some c/\m7 fn c/\pz c:=by
 unfold xR at h;split at h
 ·rename_i c hc
  simp only[zdl] at h;exact⟨c,hc,JN hc h.1,sw c h.2⟩
 ·cases h
theorem ym {fn:Func}(h:xR fn=true)(id:Nat):m7 fn (qP id fn)/\pz (qP id fn):=by
 unfold xR at h;split at h
 ·rename_i c hc
  simp only[zdl] at h;unfold qP;rw[hc];simp only;cases hf:df id c with
  |none=>exact⟨trivial,trivial⟩
  |some c'=>
   obtain⟨h1,h2⟩:=uE c hf (JN hc h.1) h.2;exact⟨h1,sw _ h2⟩
 ·cases h
def Bf:List Nat->List Nat->Bool
 | [],[]=>true
 |a::l,b::m=>decide (a=b)&&Bf l m
 |_,_=>false
theorem GA: ∀{l m:List Nat},Bf l m=true->l=m
 | [],[],_=>rfl
 |a::l,b::m,h=>by
  simp only[Bf,zdl,zdr] at h;rw[h.1,GA h.2]
 | [],_::_,h=>by simp[Bf] at h
 |_::_,[],h=>by simp[Bf] at h
def R1 (fn:Func)(sp:ak):Bool:=sp.ok&&decide (sp.pre.jM.length<=fn.ntmps)&& (sp.iS.all λe=>Bf (e.jM.map (·.1)) (List.range fn.results.size))&&xR fn
theorem JI.of {f:FuncId}{fn:Func}{sp:ak}(h1:P.funcs[f]?=some fn)(h2:(fn.name== "runtime.NumGoroutine")=false)(h3:R1 fn sp=true):JI P f fn sp:=by
 simp only[R1,zdl,zdr,zdW] at h3;exact⟨h1,h2,h3.1.1.1,h3.1.1.2,λe he=>GA (h3.1.2 e he),LV h3.2⟩
theorem Af {f:FuncId}{fn:Func}{sp:ak}{F:sp.pre.den->Option (gK sp.iS)}{calls:List (Nat×List ow)}{loops:List (Nat×List ui)}(h1:P.funcs[f]?=some fn)(h2:(fn.name== "runtime.NumGoroutine")=false)(h3:R1 fn sp=true)
  (hm:P.follows .mixedOrders=true) (hc:oP P base calls) (hl:nF P base fn loops) (hF: ∀d,pY P sp (ru calls loops) fn d=F d):re P base f sp F:=
 R0 (JI.of h1 h2 h3) hm (Bd hc) (Be hl) hF
theorem Ag {fn:Func}{id:Nat}{sp:bD}{F:sp.pre.den->Option (sp.pre.den⊕gK sp.iS)}{calls:List (Nat×List ow)}{loops:List (Nat×List ui)}(mc:sp.ok=true)(hb:xR fn=true)
  (hm:P.follows .mixedOrders=true) (hc:oP P base calls) (hl:nF P base fn loops) (hF: ∀d,rZ P sp (ru calls loops) fn id d=F d):mO P base fn id sp F:=
 JM mc (ym hb id).1 (ym hb id).2 hm (Bd hc) (Be hl) hF
theorem aa:oP P base []:=λp hp=>by simp at hp
theorem cZ {i:Nat}{cs:List ow}{l:List (Nat×List ow)}(h1: ∀c∈cs,Ad P base i c)(h:oP P base l):oP P base ((i,cs)::l):=List.forall_mem_cons.2 ⟨h1,h⟩
theorem lD {i:Nat}{c:ow}{cs:List ow}(h1:c.sp.ok=true)(h2:re P base i c.sp c.f)(h: ∀y∈cs,Ad P base i y): ∀y∈c::cs,Ad P base i y:=List.forall_mem_cons.2 ⟨⟨h1,h2⟩,h⟩
theorem nV {i:Nat}: ∀y∈([]:List ow),Ad P base i y:=λp hp=>by simp at hp
theorem ae {fn:Func}:nF P base fn []:=λp hp=>by simp at hp
theorem lW {fn:Func}{i:Nat}{ls:List ui}{l:List (Nat×List ui)}(h1: ∀x∈ls,x.sp.ok=true/\mO P base fn i x.sp x.f)(h:nF P base fn l):nF P base fn ((i,ls)::l):=List.forall_mem_cons.2 ⟨h1,h⟩
theorem zaC {fn:Func}{i:Nat}{x:ui}{ls:List ui}(h1:x.sp.ok=true)(h2:mO P base fn i x.sp x.f)(h: ∀y∈ls,y.sp.ok=true/\mO P base fn i y.sp y.f): ∀y∈x::ls,y.sp.ok=true/\mO P base fn i y.sp y.f:=List.forall_mem_cons.2 ⟨⟨h1,h2⟩,h⟩
theorem CD {fn:Func}{i:Nat}: ∀y∈([]:List ui),y.sp.ok=true/\mO P base fn i y.sp y.f:=λp hp=>by simp at hp
end AM
namespace AM
open Go
variable {α:Type}{P:Program}{base:Nat}
inductive Prim where
 |load (k:IntKind) (p:List Step)
 |add (k:IntKind) (p:List Step)
 |swap (k:IntKind) (p:List Step)
 |once (pd pm:List Step)
def Ah (st:St)(i:Nat)(q p:List Step)(off:Nat)(kd:IntKind)(k:Int->Option α):Option α:=
 st.get i q λu=>match decide (fH p u.sh=some off) with
  |true=>st.get i (q++p) λv=>(match v with
   | .val (.int k' x)=>(match decide (k'=kd) with|true=>k x|false=>none)
   |_=>none)
  |false=>none
def C7:AV->Option (FuncId×List AV)
 | .wN (.func g) cs=>some (g,cs)
 | .Cz (.func g) cs=>some (g,cs)
 |_=>none
noncomputable def Bg (calls:List (Nat×List ow))(pr:Prim)(args:List AV)(st:St)(fresh:Nat)(K:AV->St->Option α):Option α:=match pr,args with
 | .load kd p,[.ptr i q]=>Ah st i q p 0 kd λx=>K (.val (.int kd x)) st
 | .add kd p,[.ptr i q, .val (.int k' y)]=>(match decide (k'=kd) with
  |true=>Ah st i q p 0 kd λx=>st.store i (q++p) (.val (.int kd (wr kd (x+y)))) λeY=>K (.val (.int kd (wr kd (x+y)))) eY
  |false=>none)
 | .swap kd p,[.ptr i q, .val (.int k' y)]=>(match decide (k'=kd) with
  |true=>Ah st i q p 0 kd λx=>st.store i (q++p) (.val (.int kd y)) λeY=>K (.val (.int kd x)) eY
  |false=>none)
 | .once pd pm,[.ptr i q,cv]=>(match C7 cv with
  |none=>none
  |some (g,cs)=>Ah st i q pd 0 .u32 λd=>(match af (d=0) with
  |false=>K (.AN []) st
  |true=>Ah st i q pm 1 .i32 λm=>(match af (m=0) with
   |false=>none
   |true=>match st.store i (q++pm) (.val (.int .i32 1)) some,uw g calls with
    |some wG,some c=>AX cs wG (OL cs wG fresh c).2 fresh (λav HV=>(match av with
     | .AN []=>Ah HV i q pd 0 .u32 λ_=>Ah HV i q pm 1 .i32 λm2=>(match af (m2=1) with
      |true=>HV.store i (q++pd) (.val (.int .u32 1)) λst3=>st3.store i (q++pm) (.val (.int .i32 0)) λst4=>K (.AN []) st4
      |false=>none)
     |_=>none)) c
    |_,_=>none)))
 |_,_=>none
noncomputable def Eb (calls:List (Nat×List ow))(pr:Prim)(args:List AV)(st:St)(fresh:Nat):List Nat×List Nat:=match pr,args with
 | .load _ _,[.ptr i _]=>([i],[])
 | .add _ _,[.ptr i _,_]=>([],[i])
 | .swap _ _,[.ptr i _,_]=>([],[i])
 | .once _ pm,[.ptr i q,cv]=>(match C7 cv with
  |none=>([],[i])
  |some (g,cs)=>(match st.store i (q++pm) (.val (.int .i32 1)) some,uw g calls with
   |some wG,some c=>((OL cs wG fresh c).1,i::(OL cs wG fresh c).2)
   |_,_=>([],[i])))
 |_,_=>([],[])
noncomputable def wi (s6:List (Nat×Prim))(calls:List (Nat×List ow))(loops:List (Nat×List ui)):Env α where
 call f args st fresh k:=match uw f s6 with
  |some pr=>Bg calls pr args st fresh k
  |none=>(ru calls loops).call f args st fresh k
 loop id st k:=(ru calls loops).loop id st k
 fp f args st fresh:=match uw f s6 with
  |some pr=>Eb calls pr args st fresh
  |none=>(ru (α:=α) calls loops).fp f args st fresh
def NN (P:Program)(f:FuncId):Prop:= ∃fn,P.funcs[f]?=some fn/\fn.body.isNone=false/\(fn.name== "runtime.NumGoroutine")=false
def Xh (P:Program)(f:FuncId)(k:IntKind):Prop:=NN P f/\∀(b o:Nat) (x:Int) (w:World),w.cell? ⟨b,o,none⟩=some (.int k x)->Calls P f #[.pointer (some ⟨b,o,none⟩)] w λe w'=>e= .returned (.int k x)/\w'=w
def zaD (P:Program)(f:FuncId)(k:IntKind):Prop:=NN P f/\∀(b o:Nat) (x y:Int) (w:World),w.cell? ⟨b,o,none⟩=some (.int k x)->w.frozen? ⟨b,o,none⟩=false->
 Calls P f #[.pointer (some ⟨b,o,none⟩), .int k y] w λe w'=>e= .returned (.int k (k.wrap (x+y)))/\w'=w.setCell ⟨b,o,none⟩ (.int k (k.wrap (x+y)))
def zaE (P:Program)(f:FuncId)(k:IntKind):Prop:=NN P f/\∀(b o:Nat) (x y:Int) (w:World),w.cell? ⟨b,o,none⟩=some (.int k x)->w.frozen? ⟨b,o,none⟩=false->
 Calls P f #[.pointer (some ⟨b,o,none⟩), .int k y] w λe w'=>e= .returned (.int k x)/\w'=w.setCell ⟨b,o,none⟩ (.int k y)
def Xi (P:Program)(f:FuncId):Prop:=NN P f/\
 (∀(a:Addr) (d:Int),¬d=0->∀(fv:Value) (w:World),w.cell? a=some (.int .u32 d)->Calls P f #[.pointer (some a),fv] w λe w'=>e= .returned (.tuple #[])/\w'=w)/\
 (∀(b off:Nat) (g:FuncId) (first sx:Array Value) (Ec:World->Prop) (w:World),(∀w:World,(callFunc g (first++sx)).run P w= .ok (.enter g (first++sx)) w)->
  w.cell? ⟨b,off,none⟩=some (.int .u32 0)->w.cell? ⟨b,off+1,none⟩=some (.int .i32 0)->w.frozen? ⟨b,off+1,none⟩=false->
  (Calls P g (first++sx) (w.setCell ⟨b,off+1,none⟩ (.int .i32 1)) λe w'=>e= .returned (.tuple #[])/\Ec w'/\(∃x,w'.cell? ⟨b,off,none⟩=some x)/\w'.frozen? ⟨b,off,none⟩=false/\w'.cell? ⟨b,off+1,none⟩=some (.int .i32 1)/\w'.frozen? ⟨b,off+1,none⟩=false)->
  Calls P f #[.pointer (some ⟨b,off,none⟩), .func (.func g) first sx] w λe w'=>e= .returned (.tuple #[])/\∃w1,Ec w1/\w'=(w1.drew.setCell ⟨b,off,none⟩ (.int .u32 1)).setCell ⟨b,off+1,none⟩ (.int .i32 0))
theorem yn: ∀(q p:List Step) (sh t:Sh) (o o':Nat),fH q sh=some o->zz q sh=some t->fH p t=some o'->fH (q++p) sh=some (o+o')
 | [],p,sh,t,o,o',h1,h2,h3=>by
  simp only[fH,zdj] at h1;simp only[zz,zdj] at h2;subst h1;subst h2;rw[zed,h3,zd2]
 | .im n::q,p, .agg l,t,o,o',h1,h2,h3=>by
  simp only[zdS,fH,zz] at h1 h2⊢;cases hl:l[n]? with
  |none=>simp[hl] at h1
  |some s=>
   simp only[hl] at h1 h2⊢;cases hq:fH q s with
   |none=>simp[hq] at h1
   |some o1=>
    simp only[hq,zds,zdj] at h1;rw[yn q p s t o1 o' hq h2 h3];simp only[zds,zdj];omega
 | .idx i::q,p, .arr n e,t,o,o',h1,h2,h3=>by
  simp only[zdS,fH,zz] at h1 h2⊢;split at h1
  ·rename_i hi
   rw[if_pos hi];cases hq:fH q e with
   |none=>simp[hq] at h1
   |some o1=>
    simp only[hq,zds,zdj] at h1;rw[yn q p e t o1 o' hq h2 h3];simp only[zds,zdj];omega
  ·cases h1
 | .im n::q,p, .one,t,o,o',h1,h2,h3=>by simp[fH] at h1
 | .im n::q,p, .arr _ _,t,o,o',h1,h2,h3=>by simp[fH] at h1
 | .idx i::q,p, .one,t,o,o',h1,h2,h3=>by simp[fH] at h1
 | .idx i::q,p, .agg _,t,o,o',h1,h2,h3=>by simp[fH] at h1
theorem US {N:Names}{D:Nat->Prop}{w:World}{s:St}(S:jV N D w base s.h){i:Nat}{q p:List Step}{t:Sh}{nm:Nm}{o o':Nat}(hn:N i=some nm)(hs:s.shape i q=some t)(ho:nm.off q=some o)(hp:fH p t=some o'):nm.off (q++p)=some (o+o'):=by
 unfold St.shape at hs;split at hs
 ·rename_i v hv
  obtain⟨mD,a,e1,_,e3,e4,_⟩:=S.obj i _ hv;rw[hn] at e1;cases e1;have key: ∀x:List Step,nm.off x=fH x nm.sh:=λx=>by unfold Nm.off;split<;>simp[e3]
  rw[key] at ho⊢;rw[e4] at ho⊢;exact yn q p _ t o o' ho hs hp
 ·rename_i ro ty xs hv
  obtain⟨mD,e1,e2,e3,_⟩:=S.obj i _ hv;rw[hn] at e1;cases e1;split at hs
  ·rename_i j q'
   simp only[zdS,Nm.off,e2,if_true] at ho⊢;split at ho
   ·rename_i hj
    rw[if_pos hj];cases hq:fH q' nm.sh with
    |none=>simp[hq] at ho
    |some o1=>
     simp only[hq,zds,zdj] at ho;rw[yn q' p nm.sh t o1 o' hq (by rw[e3];exact hs) hp]
     simp only[zds,zdj];omega
   ·cases ho
  ·cases hs
 ·cases hs
theorem pf {st:St}{i:Nat}{q p:List Step}{off:Nat}{kd:IntKind}{k:Int->Option α}{r:α}(h:Ah st i q p off kd k=some r):
  ∃x,k x=some r/\∀N D w,jV N D w base st.h->∀nm a o,N i=some nm->nm.base=some a->nm.off q=some o->a.spot=none/\nm.off (q++p)=some (o+off)/\w.cell? ⟨a.block,a.off+o+off,none⟩=some (.int kd x):=by
 unfold Ah at h;obtain⟨u,h1,h2,_⟩:=px h;split at h1
 ·rename_i nv
  simp only[zdr] at nv;obtain⟨v,h4,h5,h6⟩:=px h1;split at h4
  ·rename_i k' x
   split at h4
   ·rename_i hk
    simp only[zdr] at hk;subst hk;refine⟨x,h4,λN D w S nm a o hn hb ho=>?_⟩;have ho2:=US S hn h2 ho nv;obtain⟨g1,g2,_⟩:=h6 N D w base S nm a _ hn hb ho2;refine⟨g1,ho2,?_⟩;simp only[an,aV] at g2;rw[show a.off+(o+off+0)=a.off+o+off by omega] at g2
    exact g2
   ·cases h4
  ·cases h4
 ·cases h1
theorem Ai {N:Names}{D:Nat->Prop}{w:World}(k:IntKind)(x:Int):cq N D w (.val (.int k x)) (.int k x):=ee.2 rfl
theorem Ps (k:IntKind)(x:Int):(AV.val (.int k x)).size=1:=rfl
theorem Aj {s:St}{i:Nat}{p:List Step}{kd:IntKind}{x:Int}{k:St->Option α}{r:α}(h:s.store i p (.val (.int kd x)) k=some r):
  ∃s',k s'=some r/\s'.t=s.t/\s'.nt=s.nt/\s'.ep=s.ep/\(∀j,j≠i->s'.h j=s.h j)/\∀N D w,jV N D w base s.h->∀nm a o,N i=some nm->nm.base=some a->nm.off p=some o->
   w.frozen? ⟨a.block,a.off+o,none⟩=false/\(∃y,w.cell? ⟨a.block,a.off+o,none⟩=some y)/\∃D',jV N D' (w.setCell ⟨a.block,a.off+o,none⟩ (.int kd x)) base s'.h/\Ext N D w s.h N D' (w.setCell ⟨a.block,a.off+o,none⟩ (.int kd x)) s'.h:=by
 obtain⟨s',h1,h2,h3,h4,h5,h6⟩:=xv h rfl;refine⟨s',h1,h2,h3,h4,λj hj=>h5 j hj (by simp[AV.ids]),λN D w S nm a o hn hb ho=>?_⟩
 obtain⟨g1,⟨cs,ty,fz,g2,g3,g4⟩,D',g5,g6⟩:=h6 N D w base S nm a o (.int kd x) hn hb ho (Ai kd x);rw[Ps] at g4;have hc:=iX g2 (o:=a.off+o) (by omega)
 refine⟨vU g2 g3 (by omega),Option.isSome_iff_exists.1 hc,D',?_⟩
 exact⟨g5,g6⟩
theorem Ak {N:Names}{D:Nat->Prop}{w:World}{i:Nat}{q:List Step}{l:List AV}{lu:List Value}(h:bA N D w (.ptr i q::l) lu): ∃nm a o rest,N i=some nm/\nm.base=some a/\nm.off q=some o/\lu= .pointer (some ⟨a.block,a.off+o,none⟩)::rest/\bA N D w l rest:=by
 simp only[bA] at h;obtain⟨c,cs,rfl,h1,h2⟩:=h;obtain⟨nm,a,o,g1,g2,g3,g4⟩:=jr.1 h1;exact⟨nm,a,o,cs,g1,g2,g3,by rw[g4];rfl,h2⟩
def Bh (P:Program)(base:Nat)(calls:List (Nat×List ow))(f:FuncId)(pr:Prim):Prop:= ∀(α:Type) (args:List AV) (st:St) (fresh:Nat) (k:AV->St->Option α) (r:α),fresh%100=0->Bg calls pr args st fresh k=some r->
 ∃av eY,k av eY=some r/\xH P base (Eb calls pr args st fresh).2 f args st fresh av eY
theorem Pt {calls:List (Nat×List ow)}{f:FuncId}{kd:IntKind}{p:List Step}(hw:Xh P f kd):Bh P base calls f (.load kd p):=by
 intro α args st fresh k r _ h;unfold Bg at h;split at h<;>first|(rename_i heq;cases heq)|skip
 all_goals first|cases h|skip
 rename_i i q;obtain⟨x,h1,h2⟩:=pf (base:=base) h;refine⟨_,_,h1,hw.1,rfl,rfl,rfl,λ_ _ _=>rfl,λN D w S lu hc=>?_⟩;obtain⟨nm,a,o,rest,g1,g2,g3,rfl,g5⟩:=Ak hc;simp only[bA] at g5;subst g5;obtain⟨_,_,yO⟩:=h2 N D w S nm a o g1 g2 g3;refine(hw.2 _ _ _ _ yO).mono λe w' he=>?_;obtain⟨rfl,rfl⟩:=he;exact⟨N,D,Ext.refl _ _ _ _,S,Ai _ _⟩
theorem NO {N:Names}{D:Nat->Prop}{w:World}{k:IntKind}{y:Int}{rest:List Value}(h:bA N D w [.val (.int k y)] rest):rest=[.int k y]:=by
 simp only[bA] at h;obtain⟨c,cs,rfl,h1,rfl⟩:=h;rw[ee.1 h1]
theorem R3 {calls:List (Nat×List ow)}{f:FuncId}{kd:IntKind}{p:List Step}(hw:zaD P f kd):Bh P base calls f (.add kd p):=by
 intro α args st fresh k r _ h;unfold Bg at h;split at h<;>first|(rename_i heq;cases heq)|skip
 all_goals first|cases h|skip
 rename_i i q k' y;split at h
 ·rename_i hk
  simp only[zdr] at hk;subst hk;obtain⟨x,h1,h2⟩:=pf (base:=base) h;obtain⟨eY,h3,h4,h5,h6,h7,h8⟩:=Aj (base:=base) h1;refine⟨_,_,h3,hw.1,h4,h5,h6,λj hj _=>h7 j (λe=>hj (by subst e;simp[Eb])),λN D w S lu hc=>?_⟩
  obtain⟨nm,a,o,rest,g1,g2,g3,rfl,g5⟩:=Ak hc;rw[NO g5];obtain⟨_,nv,yO⟩:=h2 N D w S nm a o g1 g2 g3;rw[zec] at nv yO;obtain⟨z1,_,D',z2,z3⟩:=h8 N D w S nm a o g1 g2 nv;refine(hw.2 _ _ _ _ _ yO z1).mono λe w' he=>?_;obtain⟨rfl,rfl⟩:=he;rw[<-pE];exact⟨N,D',z3,z2,Ai _ _⟩
 ·cases h
theorem zac {calls:List (Nat×List ow)}{f:FuncId}{kd:IntKind}{p:List Step}(hw:zaE P f kd):Bh P base calls f (.swap kd p):=by
 intro α args st fresh k r _ h;unfold Bg at h;split at h<;>first|(rename_i heq;cases heq)|skip
 all_goals first|cases h|skip
 rename_i i q k' y;split at h
 ·rename_i hk
  simp only[zdr] at hk;subst hk;obtain⟨x,h1,h2⟩:=pf (base:=base) h;obtain⟨eY,h3,h4,h5,h6,h7,h8⟩:=Aj (base:=base) h1;refine⟨_,_,h3,hw.1,h4,h5,h6,λj hj _=>h7 j (λe=>hj (by subst e;simp[Eb])),λN D w S lu hc=>?_⟩
  obtain⟨nm,a,o,rest,g1,g2,g3,rfl,g5⟩:=Ak hc;rw[NO g5];obtain⟨_,nv,yO⟩:=h2 N D w S nm a o g1 g2 g3;rw[zec] at nv yO;obtain⟨z1,_,D',z2,z3⟩:=h8 N D w S nm a o g1 g2 nv;refine(hw.2 _ _ _ _ _ yO z1).mono λe w' he=>?_;obtain⟨rfl,rfl⟩:=he;exact⟨N,D',z3,z2,Ai _ _⟩
 ·cases h
end AM
namespace AM
open Go
variable {α:Type}{P:Program}{base:Nat}
theorem jV.drew {N:Names}{D:Nat->Prop}{w:World}{h:Nat->Option fP}(S:jV N D w base h):jV N D w.drew base h/\Ext N D w h N D w.drew h:=
 ⟨⟨λi o hi=>nN (S.obj i o hi) (Names.le_refl _) (λ_ h=>h) (λ_ _=>rfl) (λ_ _=>⟨rfl,λh=>h⟩) (λ_ _ _ _=>rfl),S.apart,S.frozen,S.named,S.size,S.iI⟩,
  Names.le_refl _,λ_ h=>h,rfl,rfl,rfl,zdz _,λ_ _ _=>rfl,λ_ _ h=>h,λ_ h=> .inl h,λ_ _ h=> .inl h,λ_ h=>h,λ_ h=>⟨h,λ_=>rfl⟩⟩
theorem JO {N:Names}{D:Nat->Prop}{w:World}{cv:AV}{g:FuncId}{cs:List AV}{c:Value}(h:C7 cv=some (g,cs))(hv:cq N D w cv c): ∃first sx:Array Value,c= .func (.func g) first sx/\bA N D w cs (first++sx).toList:=by
 unfold C7 at h;split at h
 ·cases h
  unfold cq at hv;simp only[AV.isAgg,jw,an] at hv;obtain⟨cc,q1,q2⟩:=hv;simp only[zdj] at q1;exact⟨#[],cc,q1,by simpa using q2⟩
 ·cases h
  unfold cq at hv;simp only[AV.isAgg,jw,an] at hv;obtain⟨cc,q1,q2⟩:=hv;simp only[zdj] at q1;exact⟨cc,#[],q1,by simpa using q2⟩
 ·cases h
theorem GB {calls:List (Nat×List ow)}{f:FuncId}{pd pm:List Step}(hw:Xi P f)(yy:oP P base calls):Bh P base calls f (.once pd pm):=by
 intro α args st fresh k r wQ h;unfold Bg at h;split at h<;>first|(rename_i heq;cases heq)|skip
 all_goals first|cases h|skip
 rename_i i q cv;split at h
 ·cases h
 rename_i g cs hcv;obtain⟨d,h1,h2⟩:=pf (base:=base) h;split at h1
 ·rename_i hd
  have hd0: ¬d=0:=λe=>by rw[kN.2 e] at hd;cases hd
  refine⟨_,_,h1,hw.1,rfl,rfl,rfl,λ_ _ _=>rfl,λN D w S lu hc=>?_⟩;obtain⟨nm,a,o,rest,g1,g2,g3,rfl,g5⟩:=Ak hc;obtain⟨c1,Yq,rfl,_,hr⟩: ∃c1 Yq,rest=c1::Yq/\cq N D w cv c1/\bA N D w [] Yq:=by unfold bA at g5;exact g5
  simp only[bA] at hr;subst hr;obtain⟨_,_,yO⟩:=h2 N D w S nm a o g1 g2 g3;rw[zec] at yO;refine(hw.2.1 _ d hd0 c1 w yO).mono λe w' he=>?_;obtain⟨rfl,rfl⟩:=he;exact⟨N,D,Ext.refl _ _ _ _,S,lJ.2 ⟨#[],rfl,by simp only[bA]⟩⟩
 ·rename_i hd
  have hd0:=kN.1 hd;subst hd0;obtain⟨m,h3,h4⟩:=pf (base:=base) h1;split at h3
  ·cases h3
  rename_i hm;have hm0:=kN.1 hm;subst hm0;split at h3
  ·rename_i wG c zaF hc
   obtain⟨s',e1,t1,t2,t3,t4,t5⟩:=Aj (base:=base) zaF;cases e1;obtain⟨av,HV,h5,ry⟩:=wg wQ c (yy _ (vw hc)) h3;obtain⟨⟨fn,f1,f2,f3⟩,c1,c2,c3,c4,c5⟩:=ry;split at h5
   ·obtain⟨d2,h6,h7⟩:=pf (base:=base) h5
    obtain⟨m2,h8,h9⟩:=pf (base:=base) h6;split at h8
    ·rename_i WY
     have zcm:=kN.1 WY;subst zcm;obtain⟨st3,Ge,u1,u2,u3,u4,u5⟩:=Aj (base:=base) h8;obtain⟨st4,Nj,v1,v2,v3,v4,v5⟩:=Aj (base:=base) Ge;refine⟨_,_,Nj,hw.1,by rw[v1,u1,c1,t1],by rw[v2,u2,c2,t2],by rw[v3,u3,c3,t3],λj hj XT=>?_,λN D w S lu hcr=>?_⟩
     ·simp only[Eb,hcv,zaF,hc,zdX,not_or] at hj
      rw[v4 j hj.1,u4 j hj.1,c4 j hj.2 XT,t4 j hj.1]
     ·obtain⟨nm,a,o,rest,g1,g2,g3,rfl,g5⟩:=Ak hcr
      obtain⟨cl,Yq,rfl,JK,hr⟩: ∃c1 Yq,rest=c1::Yq/\cq N D w cv c1/\bA N D w [] Yq:=by unfold bA at g5;exact g5
      simp only[bA] at hr;subst hr;obtain⟨first,sx,rfl,q2⟩:=JO hcv JK;obtain⟨_,zaG,RF⟩:=h2 N D w S nm a o g1 g2 g3;obtain⟨_,zaH,hcm⟩:=h4 N D w S nm a o g1 g2 g3;rw[zec] at zaG RF;obtain⟨z1,_,D1,S1,X1⟩:=t5 N D w S nm a (o+1) g1 g2 zaH;rw[<-zdy] at z1 S1 X1;have hg: ∀w:World,(callFunc g (first++sx)).run P w= .ok (.enter g (first++sx)) w:=by
       intro w;simp only[callFunc,zdE,run_program,zdF,f1,f3,f2,zdk,if_false,zdG]
      have hq2:bA N D1 (w.setCell ⟨a.block,a.off+o+1,none⟩ (.int .i32 1)) cs (first++sx).toList:=pv X1.names X1.frozen (X1.Ji S) _ _ q2;have yf:=c5 N D1 _ S1 (first++sx).toList hq2;refine(hw.2.2 a.block (a.off+o) g first sx (λw1=> ∃N' D',Ext N D w st.h N' D' w1 HV.h/\jV N' D' w1 base HV.h) w hg RF hcm z1 (yf.mono λe w1 he=>?_)).mono λe w' he=>?_
      ·cases e with
       |returned v=>
        obtain⟨N',D',x2,s2,hv⟩:=he;obtain⟨l,rfl,hl⟩:=lJ.1 hv;simp only[bA] at hl;obtain rfl:l= #[]:=by apply Array.ext';simpa using hl
        have UT:=x2.names i nm g1;obtain⟨_,Ed,zaI⟩:=h7 N' D' w1 s2 nm a o UT g2 g3;obtain⟨_,LW,zcn⟩:=h9 N' D' w1 s2 nm a o UT g2 g3;rw[zec] at Ed zaI;obtain⟨y1,_,D3,S3,X3⟩:=u5 N' D' w1 s2 nm a o UT g2 Ed;refine⟨rfl,⟨N',D',X1.trans x2,s2⟩,⟨_,zaI⟩,y1,zcn,?_⟩;obtain⟨y2,_,_⟩:=v5 N' D3 _ S3 nm a (o+1) UT g2 LW;rw[<-zdy] at y2;rw[World.frozen?_setCell] at y2;exact y2
       |panicked c=>exact he.elim
       |outgrown=>exact he.elim
      ·obtain⟨rfl,w1,⟨N',D',x2,s2⟩,rfl⟩:=he
       have UT:=x2.names i nm g1;obtain⟨_,Ed,_⟩:=h7 N' D' w1 s2 nm a o UT g2 g3;obtain⟨_,LW,_⟩:=h9 N' D' w1 s2 nm a o UT g2 g3;rw[zec] at Ed;obtain⟨s3,x3⟩:=s2.drew;obtain⟨_,_,D3,S3,X3⟩:=u5 N' D' _ s3 nm a o UT g2 Ed;obtain⟨_,_,D4,S4,X4⟩:=v5 N' D3 _ S3 nm a (o+1) UT g2 LW;rw[<-zdy] at S4 X4;exact⟨N',D4,((x2.trans x3).trans X3).trans X4,S4,lJ.2 ⟨#[],rfl,by simp only[bA]⟩⟩
    ·cases h8
   ·cases h5
  ·cases h3
def yo (P:Program)(base:Nat)(calls:List (Nat×List ow))(s6:List (Nat×Prim)):Prop:= ∀p∈s6,Bh P base calls p.1 p.2
theorem Ee {s6:List (Nat×Prim)}{calls:List (Nat×List ow)}{loops:List (Nat×List ui)}(hp:yo P base calls s6)(h:oP P base calls):sr P base (wi (α:=α) s6 calls loops):=by
 intro f args st fresh k r wQ hc;simp only[wi] at hc⊢;cases hf:uw f s6 with
 |none=>rw[hf] at hc;exact Bd h f args st fresh k r wQ hc
 |some pr=>rw[hf] at hc;exact hp _ (vw hf) α args st fresh k r wQ hc
theorem Ef {fn:Func}{s6:List (Nat×Prim)}{calls:List (Nat×List ow)}{loops:List (Nat×List ui)}(h:nF P base fn loops):xJ P base fn (wi (α:=α) s6 calls loops):=λid st k r hc=>Be (calls:=calls) h id st k r hc
theorem Eg {f:FuncId}{fn:Func}{sp:ak}{F:sp.pre.den->Option (gK sp.iS)}{s6:List (Nat×Prim)}{calls:List (Nat×List ow)}{loops:List (Nat×List ui)}(h1:P.funcs[f]?=some fn)(h2:(fn.name== "runtime.NumGoroutine")=false)(h3:R1 fn sp=true)
  (hm:P.follows .mixedOrders=true) (hp:yo P base calls s6) (hc:oP P base calls) (hl:nF P base fn loops) (hF: ∀d,pY P sp (wi s6 calls loops) fn d=F d):re P base f sp F:=
 R0 (JI.of h1 h2 h3) hm (Ee hp hc) (Ef hl) hF
theorem Pu {fn:Func}{id:Nat}{sp:bD}{F:sp.pre.den->Option (sp.pre.den⊕gK sp.iS)}{s6:List (Nat×Prim)}{calls:List (Nat×List ow)}{loops:List (Nat×List ui)}(mc:sp.ok=true)(hb:xR fn=true)
  (hm:P.follows .mixedOrders=true) (hp:yo P base calls s6) (hc:oP P base calls) (hl:nF P base fn loops) (hF: ∀d,rZ P sp (wi s6 calls loops) fn id d=F d):mO P base fn id sp F:=
 JM mc (ym hb id).1 (ym hb id).2 hm (Ee hp hc) (Ef hl) hF
theorem yp {calls:List (Nat×List ow)}:yo P base calls []:=λp hp=>by simp at hp
theorem wj {calls:List (Nat×List ow)}{p:Nat×Prim}{l:List (Nat×Prim)}(h1:Bh P base calls p.1 p.2)(h:yo P base calls l):yo P base calls (p::l):=List.forall_mem_cons.2 ⟨h1,h⟩
end AM
