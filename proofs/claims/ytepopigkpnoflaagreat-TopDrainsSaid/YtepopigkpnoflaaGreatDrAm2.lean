/- An abstract machine over programs of the model, and its soundness: what it tells of a function, the model's machine does, continued. Conditions: none. -/
import Derived.Laws.Tables
import Derived.Great.BuildSlice
import Derived.Laws.StructEq
import Derived.ChangeKeysEq
import Derived.Orders
import Derived.LoopN
import Derived.Test.YtepopigkpnoflaaGreatDrAm1
set_option linter.unusedVariables false
set_option linter.unusedSimpArgs false
namespace AM
open Go
variable {α:Type}{P:Program}{base:Nat}
theorem Rp {dst ty pos after guard}{x:Operand}{args:Array Operand}{tys:Array TypeId}{t:TypeId}{A6:List TypeId}{st:St}{k:AV->St->Option α}{r:α}(ha:args.toList=[x])(ht:tys.toList=t::A6)
  (h:(match st.ev x with| .val (.slice none 0 0)=>(match m9 P t with|true=>k (.val (.int .i64 0)) st|false=>none)|_=>none)=some r):nU P base ⟨dst, .call ⟨.builtin .cap,args,tys⟩,ty,pos,after,guard⟩ st k r:=by
 have nz:args= #[x]:=by cases args;simp at ha;subst ha;rfl
 have zR:tys[0]?=some t:=by cases tys;simp at ht;subst ht;simp
 subst nz;split at h
 ·rename_i e1
  split at h
  ·rename_i hs
   obtain⟨e,hu⟩:=sb hs;refine⟨_,_,h,lx.pure λN D w a s=>⟨.int .i64 0,?_,ek.2 rfl⟩⟩;simp[execOp,resolve,invoke,builtin,Builtin.cap_,zR,s.sS e1,run_underlying hu,goInt]
  ·cases h
 ·cases h
theorem Rq {dst ty pos after guard}{x y:Operand}{args:Array Operand}{tys:Array TypeId}{st:St}{k:AV->St->Option α}{r:α}(ha:args.toList=[x,y])
  (h:(match st.ev x,st.ev y with| .val (.int ka a), .val (.int kb b)=>(if ka=kb then k (.val (.int ka (qM a b))) st else none)|_,_=>none)=some r):nU P base ⟨dst, .call ⟨.builtin .min,args,tys⟩,ty,pos,after,guard⟩ st k r:=by
 have nz:args= #[x,y]:=by cases args;simp at ha;subst ha;rfl
 subst nz;split at h
 ·rename_i ka a kb b e1 e2
  split at h
  ·rename_i hk
   subst hk;refine⟨_,_,h,lx.pure λN D w act s=>⟨.int ka (qM a b),?_,ek.2 rfl⟩⟩;by_cases hc:b<a<;>simp[execOp,resolve,invoke,builtin,Builtin.min_,Builtin.min2,s.sS e1,s.sS e2,qM,ke,hc]
  ·cases h
 ·cases h
theorem Rr {dst ty pos after guard}{x y:Operand}{args:Array Operand}{tys:Array TypeId}{st:St}{k:AV->St->Option α}{r:α}(ha:args.toList=[x,y])
  (h:(match st.ev x,st.ev y with| .val (.int ka a), .val (.int kb b)=>(if ka=kb then k (.val (.int ka (imax a b))) st else none)|_,_=>none)=some r):nU P base ⟨dst, .call ⟨.builtin .max,args,tys⟩,ty,pos,after,guard⟩ st k r:=by
 have nz:args= #[x,y]:=by cases args;simp at ha;subst ha;rfl
 subst nz;split at h
 ·rename_i ka a kb b e1 e2
  split at h
  ·rename_i hk
   subst hk;refine⟨_,_,h,lx.pure λN D w act s=>⟨.int ka (imax a b),?_,ek.2 rfl⟩⟩;by_cases hc:b>a<;>simp[execOp,resolve,invoke,builtin,Builtin.max_,Builtin.max2,s.sS e1,s.sS e2,imax,ke,hc]
  ·cases h
 ·cases h
theorem DJ: ∀(l:List Int) (r:ByteArray),l.foldl (λr n=>r.push (UInt8.ofNat n.toNat)) r=⟨r.data++(l.map λn=>n.toNat.toUInt8).toArray⟩
 | [],r=>by simp
 |n::l,r=>by
  simp only[zeW];rw[DJ l];simp[ByteArray.push]
theorem Rs (b:ByteArray):(b.data.toList.map λc=>((c.toNat:Nat):Int)).length=b.size:=by simp
theorem Fz (b:ByteArray)(c:Nat)(h:b.size<=c):(bytesRow b c).size=c:=by
 have e:b.data.size=b.size:=rfl;simp[bytesRow,e];omega
theorem Lr (w:World)(ba:Addr)(xs:List Int)(cap:Nat)(h:xs.length≠0->ba.spot=none/\∀j y,xs[j]?=some y->w.cell? ⟨ba.block,ba.off+j,none⟩=some (.int .u8 y)):
  (Conv.bytesToString (.slice (some ba) xs.length cap)).run P w= .ok (.string (uF xs)) w:=by
 have tX:(loadCells ba xs.length).run P w= .ok (xs.map (Value.int .u8)).toArray w:=by
  have:=run_loadCells_list (P:=P) w ba (xs.map (Value.int .u8)) λj v hv=>by
   rw[zeT,zeJ] at hv;obtain⟨y,hy,rfl⟩:=hv;have lV:xs.length≠0:=by
    have:=(List.getElem?_eq_some_iff.1 hy).1;omega
   obtain⟨f1,f2⟩:=h lV;have:=f2 j y hy;obtain⟨bb,oo,sp⟩:=ba;simp only at f1;subst f1;rw[ow];exact this
  rwa [zeX] at this
 rw[run_bytesToString w ba _ cap _ tX,DJ];simp[uF]
theorem Ls {w:World}{b:Nat}{c:Array Value}{ty:TypeId}{fz:Nat×Nat}(h:w.heap[b]?=some (.cells c ty fz)):
  (w.freeze ⟨b,c.size,none⟩ 1).heap[b]?=some (.cells c ty (if fz.1==fz.2 then(c.size,c.size+1) else(min fz.1 c.size,max fz.2 (c.size+1))))/\∀b',b'≠b->(w.freeze ⟨b,c.size,none⟩ 1).heap[b']?=w.heap[b']?:=by
 constructor
 ·simp[World.freeze,zet,h]
 ·intro b' hb
  simp[World.freeze,zet];intro e;exact absurd e.symm hb
theorem Hz {dst ty pos after guard}{src dt:TypeId}{x:Operand}{st:St}{id:Nat}(pJ:id=name st.ep (dst.getD 999) 0){k:AV->St->Option α}{r:α}(h:AS P st id src dt (st.ev x) k=some r):nU P base ⟨dst, .convert src dt x,ty,pos,after,guard⟩ st k r:=by
 unfold AS at h;split at h
 ·rename_i ki n e1
  split at h
  ·rename_i ks kd h1 h2
   refine⟨_,_,h,lx.pure λN D w a s=>⟨_,?_,ek.2 rfl⟩⟩;simp[execOp,s.sS e1,Go.convert,run_underlying h1,run_underlying h2,Conv.intToInt,pI]
  ·cases h
 ·rename_i b e1
  split at h
  ·rename_i h1 h2
   refine⟨_,_,h,lx.pure λN D w a s=>⟨_,?_,ek.2 rfl⟩⟩;simp[execOp,s.sS e1,Go.convert,run_underlying h1,run_underlying h2]
  ·rename_i e h1 h2
   split at h
   ·rename_i h3
    obtain⟨h4,h5⟩:=zV h;refine⟨_,_,h5,rfl,rfl,rfl,λj _ hj=>by
     have:j≠id:=λe=>by subst e;subst pJ;simp[qz,makes,rh] at hj
     simp[St.set,this],λN D w a s=>?_⟩
    have jL:=run_bytes_of_string (P:=P) w src dt e b h1 h2 h3;have sB:=grownCap_ge w b.size 0 e;have hl:aQ (β:=(Ty.int .u8).den) (b.data.toList.map λc=>((c.toNat:Nat):Int))=b.size:=by
     exact Rs b
    obtain⟨N',n1,n2,n3⟩:=s.nw.Hv (t:= .int .u8) (xs:=(b.data.toList.map λc=>((c.toNat:Nat):Int))) h4 w.drew (bytesRow b (grownCap w b.size 0 e)) e ((bytesRow b (grownCap w b.size 0 e)).size,(bytesRow b (grownCap w b.size 0 e)).size+1) (grownCap w b.size 0 e) rfl rfl rfl rfl (by rw[hl];exact sB)
     (by rw[Fz _ _ sB];simp[Ty.size]) (.inr ⟨zd9 _,rfl⟩) ((Gb b).congr λj hj=>by
      rw[hl] at hj;simp only[Ty.size,zeV] at hj;have BU:j<b.data.size:=hj;rw[bytesRow_at b _ j BU];simp only[zeT,Array.getElem?_toList,zev BU,zd2])
    rw[hl] at n3;refine⟨N',D,_,_, .inl ?_,by rw[St.tf];exact n2,by rw[St.tf];exact n1,n3⟩
    simp only[execOp,s.sS e1,zee,jL,zef,zeg]
   ·cases h
  ·cases h
 ·split at h
  ·rename_i e h1 h2
   split at h
   ·rename_i h3
    obtain⟨xs,ids,h4,h5⟩:=uM h;refine⟨_,_,h4,lx.pure λN D w a s=>⟨_,?_,ek.2 rfl⟩⟩;obtain⟨ba,cap,g1,g2,g3,g4⟩:=h5 N D w base s.nw _ (s.Fm x);simp only[execOp,g1,zee,run_convert_bytes_string w src dt e ba _ cap h1 h3 h2];cases ba with
    |none=>
     have:=g3 rfl;have Ll:xs=[]:=zem (by simp only[aQ] at g2;omega)
     subst Ll;simp[Conv.bytesToString,uF];rfl
    |some ba=>
     have hb:=Lr (P:=P) w ba xs cap λlV=>⟨(g4 ba rfl lV).1,λj y hy=>by
      have h9:aZ w ba (j*1+0)=some (.int .u8 y):=(g4 ba rfl lV).2 j y hy;simpa [aZ] using h9⟩
     exact(congrArg (λq:Result Value=>q.andThen λa w'=>(pure (Next.value a):Sem Next).run P w') hb)
   ·cases h
  ·rename_i e0 e h1 h2
   split at h
   ·rename_i j off h3 Lt hv
    simp only[zd1] at Lt;subst Lt;split at h
    ·rename_i xs ho
     split at h
     ·rename_i kW
      simp only[zd1] at kW;refine⟨_,_,h,rfl,rfl,rfl,λ_ _ _=>rfl,λN D w a s=>?_⟩;have hr:=s.uz hv;have KJ:=hr;unfold cw at hr;simp only[AV.isAgg,jz,aq] at hr;obtain⟨nm,n1,n2,n3,n4,n5⟩:=hr;obtain⟨mG,o1,o2,o3,o4,o5,o6⟩:=s.nw.obj j _ ho;rw[n1] at o1;cases o1;cases hb:nm.base with
      |none=>
       rw[hb] at n5;have:=n5.1;simp only[aQ] at o4;omega
      |some ad=>
       rw[hb] at n5 o6;obtain⟨v,rm,g1,g2,a2,cap,g3,g4,g5,g6⟩:=n5;simp only[aQ] at o4;have ha2:a2=Addr.at_ ad (off*nm.sh.size):=by
        rcases g6 with g6|g6
        ·exact g6
        ·omega
       subst ha2;simp only[zdT] at g1;obtain⟨p1,⟨c,ty,fz,p2,p3,p4⟩,p5,p6⟩:=o6;obtain⟨z1,z2⟩:=Ls p2;have jL:(Go.convert src src (a.eval x)).run P w= .ok (a.eval x) (w.freeze ⟨ad.block,c.size,none⟩ 1):=by
        have yz:w.shape? ad.block=some (ty,c.size):=by unfold World.shape?;rw[p2]
        rw[g1,g3];rw[h1] at h2;cases h2;simp[Go.convert,run_underlying h1,run_underlying h3,markStringish,yz,Addr.at_]
       have zb4:kq st.h j (.row false (.int .u8) xs)=st.h:=by
        funext i
        simp only[kq];split
        ·rename_i e;subst e;exact ho.symm
        ·rfl
       have tX: ∀jj,aZ (w.freeze ⟨ad.block,c.size,none⟩ 1) ad jj=aZ w ad jj:=λjj=>by
        simp only[aZ,World.cell?,z1,p2]
       obtain⟨W1,W2⟩:=s.nw.write (w':=w.freeze ⟨ad.block,c.size,none⟩ 1) (o':= .row false (.int .u8) xs) ho rfl n1 hb (by simp[World.freeze]) (by simp[World.freeze]) (by simp[World.freeze]) (by simp[World.freeze]) z2 (by
        refine⟨nm,n1,n2,o3,o4,o5,?_⟩;rw[hb];refine⟨p1,⟨c,ty,_,z1,p3,λNy=>?_⟩,p5,λi y hy=>?_⟩
        ·right
         refine⟨?_,rfl⟩;rcases(p4 Ny).imp_right And.left with e|e
         ·rw[e];simp
         ·obtain⟨lo,hi⟩:=fz
          simp only at e⊢;split
          ·exact zd9 _
          ·simp only;omega
        ·have hD: ∀b,D b->(w.freeze ⟨ad.block,c.size,none⟩ 1).heap[b]?=w.heap[b]?:=λb vl=>z2 b λe=>by
          subst e;simp at p5;exact p5.2 vl
         have h9:=kC (Names.le_refl _) (λ_ h=>h) hD (.int .u8) y _ (p6 i y hy);have e:(λjj=>aZ (w.freeze ⟨ad.block,c.size,none⟩ 1) ad (i*(Ty.int .u8).size+jj))=λjj=>aZ w ad (i*(Ty.int .u8).size+jj):=by funext jj;exact tX _
         rw[e];exact h9)
       rw[zb4] at W1 W2;refine⟨N,D,_,a.eval x, .inl ?_,W2,W1,?_⟩
       ·simp only[execOp,zee,jL,zef,zeg]
       ·exact W2.val s.nw (by rw[<-hv];exact s.Fm x)
     ·cases h
    ·cases h
   ·cases h
  ·cases h
end AM
namespace AM
open Go
def part (h:Nat->Option fO)(F:Nat->Bool):Nat->Option fO:=λid=>if F id then h id else some .dead
def join (h h':Nat->Option fO)(W:Nat->Bool):Nat->Option fO:=λid=>if W id then h' id else h id
section
variable {N N':Names}{D D':Nat->Prop}{w w':World}{base:Nat}{h h':Nat->Option fO}{F W:Nat->Bool}
theorem zW {id b:Nat}{o:fO}(e:AM.part h F id=some o)(hr:iR N id o b):F id=true/\h id=some o:=by
 unfold AM.part at e;split at e
 ·exact⟨‹_›,e⟩
 ·cases e;exact hr.elim
theorem DK {b:Nat}(ho:yX N (AM.part h F) b):yX N h b:=by
 obtain⟨id,o,h1,h2⟩:=ho;exact⟨id,o,(zW h1 h2).2,h2⟩
theorem jX.part (S:jX N D w base h)(F:Nat->Bool):jX N D w base (AM.part h F):=by
 refine⟨λid o e=>?_,λi j oi oj b hi hj ri rj=>S.apart i j oi oj b (zW hi ri).2 (zW hj rj).2 ri rj,S.frozen,λid nm hn=>?_,S.size,λg hg=>?_⟩
 ·unfold AM.part at e
  split at e
  ·exact S.obj id o e
  ·cases e;trivial
 ·unfold AM.part
  split
  ·exact S.named id nm hn
  ·simp
 ·unfold AM.part at hg
  split at hg
  ·exact S.iK g hg
  ·cases hg
theorem A8 (S:jX N D w base h){id b:Nat}{o:fO}(ho:h id=some o)(hr:iR N id o b)(hF:F id=false):
  ¬yX N (AM.part h F) b/\b<w.heap.size/\¬D b:=by
 refine⟨λhO=>?_,(S.pa ho hr).2.2,(S.pa ho hr).1⟩;obtain⟨id2,o2,h1,h2⟩:=hO;obtain⟨h6,h7⟩:=zW h1 h2;have:=S.apart id id2 o o2 b ho h7 hr h2;subst this;rw[hF] at h6;cases h6
theorem jX.tY (S:jX N D w base h){id:Nat}{ep:List (Nat×aK)}{xs:List (cT ep)}(ho:h id=some (.store ep xs)):SB+(id-SB)=id:=by
 have:=S.obj id _ ho;simp only[qB,jf] at this;omega
theorem jX.join (S:jX N D w base h)(x:Ext N D w (AM.part h F) N' D' w' h')(S':jX N' D' w' base h')(hW: ∀id,W id=true->F id=true)(IS: ∀id,F id=true->W id=false->h' id=AM.part h F id):
  jX N' D' w' base (AM.join h h' W)/\Ext N D w h N' D' w' (AM.join h h' W):=by
 have yk: ∀id,F id=true->AM.join h h' W id=h' id:=by
  intro id hF;unfold AM.join;cases hw:W id with
  |true=>simp
  |false=>rw[IS id hF hw];simp[AM.part,hF]
 have jv: ∀id,F id=false->AM.join h h' W id=h id:=by
  intro id hF;unfold AM.join;cases hw:W id with
  |true=>rw[hW id hw] at hF;cases hF
  |false=>simp
 have vE: ∀id,F id=false->∀nm,N' id=some nm->N id=some nm:=by
  intro id hF nm hn;rcases x.fresh id nm hn with h1|h1
  ·exact h1
  ·unfold AM.part at h1;simp[hF] at h1
 have Lu: ∀id,F id=false->N' id=N id:=by
  intro id hF;cases e:N' id with
  |some nm=>exact(vE id hF nm e).symm
  |none=>
   cases e':N id with
   |none=>rfl
   |some nm=>rw[x.names id nm e'] at e;cases e
 have zP: ∀g,F (SB+g)=false->∀k,N'.sub g k=N.sub g k:=λg hF=>(x.pJ g (by simp[AM.part,hF])).2
 have hold: ∀id o b,F id=false->h id=some o->(iR N' id o b↔iR N id o b):=by
  intro id o b hF ho;by_cases kr: ∃ep xs,o= .store ep xs
  ·obtain⟨ep,xs,rfl⟩:=kr
   have e:=S.tY ho;exact iR.names (Lu id hF) (zP _ (by rw[e];exact hF))
  ·cases o with
   |dead=>exact Iff.rfl
   |void=>exact Iff.rfl
   |var v=>exact om.eq (Lu id hF)
   |row ro t xs=>
    cases ro with
    |true=>exact Iff.rfl
    |false=>exact om.eq (Lu id hF)
   |store ep xs=>exact absurd ⟨ep,xs,rfl⟩ kr
 have zag: ∀b,b<w.heap.size->yX N' (AM.join h h' W) b->yX N h b:=by
  rintro b kW ⟨id,o,h1,h2⟩
  cases hF:F id with
  |true=>
   rw[yk id hF] at h1;exact DK (x.own b kW ⟨id,o,h1,h2⟩)
  |false=>
   rw[jv id hF] at h1;exact⟨id,o,h1,(hold id o b hF h1).1 h2⟩
 have HA:=x.Jb (S.part F);refine⟨⟨λid o e=>?_,?_,S'.frozen,λid nm hn=>?_,S'.size,λg hg=>?_⟩,⟨x.names,x.frozen,x.os,x.tape,x.output,x.size,λb hb ho=>x.sQ b hb (λmW=>ho (DK mW)),zag,λb hb=>?_,λi nm hn=>?_,λi hi=>?_,λg hg=>?_⟩⟩
 ·cases hF:F id with
  |true=>rw[yk id hF] at e;exact S'.obj id o e
  |false=>
   rw[jv id hF] at e;refine nO (S.obj id o e) x.names x.frozen HA (λb hO=>?_) (λep xs eo=>?_)
   ·obtain⟨g1,g2,g3⟩:=A8 (F:=F) S e hO hF
    refine⟨x.sQ _ g2 g1,λ_ hd=>?_⟩;rcases x.Ja _ hd with h1|h1|h1
    ·exact g3 h1
    ·exact g1 h1
    ·omega
   ·subst eo
    have e':=S.tY e;exact zP _ (by rw[e'];exact hF)
 ·intro i j oi oj b hi hj ri rj
  cases X8:F i<;>cases X9:F j
  ·rw[jv i X8] at hi
   rw[jv j X9] at hj;exact S.apart i j oi oj b hi hj ((hold i oi b X8 hi).1 ri) ((hold j oj b X9 hj).1 rj)
  ·exfalso
   rw[jv i X8] at hi;rw[yk j X9] at hj;obtain⟨g1,g2,g3⟩:=A8 (F:=F) S hi ((hold i oi b X8 hi).1 ri) X8;exact g1 (x.own _ g2 ⟨j,oj,hj,rj⟩)
  ·exfalso
   rw[yk i X8] at hi;rw[jv j X9] at hj;obtain⟨g1,g2,g3⟩:=A8 (F:=F) S hj ((hold j oj b X9 hj).1 rj) X9;exact g1 (x.own _ g2 ⟨i,oi,hi,ri⟩)
  ·rw[yk i X8] at hi
   rw[yk j X9] at hj;exact S'.apart i j oi oj b hi hj ri rj
 ·cases hF:F id with
  |true=>rw[yk id hF];exact S'.named id nm hn
  |false=>rw[jv id hF];exact S.named id nm (vE id hF nm hn)
 ·cases hF:F (SB+g) with
  |true=>rw[yk _ hF] at hg;exact S'.iK g hg
  |false=>
   rw[jv _ hF] at hg;exact λk=>(zP g hF k).trans (S.iK g hg k)
 ·rcases x.Ja b hb with h1|h1|h1
  ·exact .inl h1
  ·exact .inr (.inl (DK h1))
  ·exact .inr (.inr h1)
 ·rcases x.fresh i nm hn with h1|h1
  ·exact .inl h1
  ·right
   unfold AM.part at h1;split at h1
   ·exact h1
   ·cases h1
 ·cases hF:F i with
  |true=>
   rw[yk i hF] at hi;have:=x.live i hi;simpa [AM.part,hF] using this
  |false=>rw[jv i hF] at hi;exact hi
 ·cases hF:F (SB+g) with
  |true=>
   rw[yk _ hF];exact x.pJ g (by simp[AM.part,hF,hg])
  |false=>
   rw[jv _ hF];exact⟨hg,zP g hF⟩
end
end AM
namespace AM
open Go
variable {α:Type}{P:Program}{base:Nat}
def A9:List AV->List (Nat×AV)->List AV->Prop
 |l,[],l'=>l'=l
 |l,(i,u)::ps,l'=>(∃v,l[i]?=some v/\u.size=v.size)/\A9 (l.set i u) ps l'
def Gd (N:Names)(D:Nat->Prop)(w:World):List (Nat×AV)->List (Nat×Value)->Prop
 | [],cs=>cs=[]
 |p::ps,cs=> ∃c tG,cs=(p.1,c)::tG/\c.cells.size=p.2.size/\aq N D w p.2 (c.cells[·]?)/\Gd N D w ps tG
theorem Ge (off:Nat): ∀(l:List Value) (k:Nat) (cells:Array Value),off+k+l.length<=cells.size->
  ((l.zipIdx k).foldl (λcs (c,j)=>cs.setIfInBounds (off+j) c) cells).size=cells.size/\
  ∀j,((l.zipIdx k).foldl (λcs (c,j)=>cs.setIfInBounds (off+j) c) cells)[j]?=if off+k<=j/\j<off+k+l.length then l[j-(off+k)]? else cells[j]?
 | [],k,cells,_=>⟨rfl,λj=>by simp;intro h1 h2;omega⟩
 |c::l,k,cells,h=>by
  simp only[List.zipIdx_cons,zeW];simp only[zdX] at h;obtain⟨h1,h2⟩:=Ge off l (k+1) (cells.setIfInBounds (off+k) c) (by simp;omega)
  refine⟨by rw[h1];simp,λj=>?_⟩
  rw[h2 j];by_cases e:j=off+k
  ·subst e
   rw[if_neg (by omega),if_pos (by simp)]
   simp[show off+k<cells.size by omega]
  ·by_cases e2:off+(k+1)<=j/\j<off+(k+1)+l.length
   ·rw[if_pos e2,if_pos (by simp only[zdX];omega),show j-(off+k)=(j-(off+(k+1)))+1 by omega,List.getElem?_cons_succ]
   ·rw[if_neg e2,if_neg (by simp only[zdX];omega),Array.getElem?_setIfInBounds_ne (by omega)]
theorem Gf: ∀(l:List AV) (i:Nat) (v u:AV),l[i]?=some v->u.size=v.size->AV.dX (l.set i u)=AV.dX l/\(∀j,AV.dX ((l.set i u).take j)=AV.dX (l.take j))/\∀(j:Nat) (v':AV),(l.set i u)[j]?=some v'->∃v'',l[j]?=some v''/\v'.size=v''.size
 | [],i,v,u,h,_=>by simp at h
 |x::xs,0,v,u,h,e=>by
  simp at h;subst h;refine⟨by simp[AV.dX,e],λj=>?_,λj v' hj=>?_⟩
  ·cases j<;>simp[AV.dX,e]
  ·cases j with
   |zero=>simp at hj;subst hj;exact⟨x,rfl,e⟩
   |succ j=>exact⟨v',by simpa using hj,rfl⟩
 |x::xs,i+1,v,u,h,e=>by
  obtain⟨h1,h2,h3⟩:=Gf xs i v u (by simpa using h) e
  refine⟨by simp[AV.dX,h1],λj=>?_,λj v' hj=>?_⟩
  ·cases j with
   |zero=>simp[AV.dX]
   |succ j=>simp[AV.dX,h2 j]
  ·cases j with
   |zero=>simp at hj;subst hj;exact⟨x,rfl,rfl⟩
   |succ j=>simpa using h3 j v' (by simpa using hj)
theorem wg {N:Names}{D:Nat->Prop}{w:World}{place:Nat->Option (Nat×Nat)}: ∀(ps:List (Nat×AV)) (l l':List AV) (cs:List (Nat×Value)) (cells:Array Value),A9 l ps l'->Gd N D w ps cs->cells.size=AV.dX l->fg N D w l (cells[·]?)->
  (∀(i:Nat) (v:AV),l[i]?=some v->place i=some (AV.dX (l.take i),v.size))->∃lA,Instr.fill place cells cs=some lA/\lA.size=AV.dX l'/\AV.dX l'=AV.dX l/\fg N D w l' (lA[·]?)
 | [],l,l',cs,cells,hf,hp,hs,hr,hpl=>by
  simp only[A9] at hf;simp only[Gd] at hp;subst hf;subst hp;exact⟨cells,rfl,hs,rfl,hr⟩
 |(i,u)::ps,l,l',cs,cells,hf,hp,hs,hr,hpl=>by
  obtain⟨⟨v,hv,hu⟩,hf⟩:=hf;obtain⟨c,tG,rfl,hc,hrc,hp⟩:=hp;simp only at hc hrc;have hle:=uV l i v hv;obtain⟨p1,p2⟩:=Ge (AV.dX (l.take i)) c.cells.toList 0 cells (by simp;omega)
  obtain⟨q1,q2,q3⟩:=Gf l i v u hv hu;have hz:c.cells.zipIdx.foldl (λcs (c,j)=>cs.setIfInBounds (AV.dX (l.take i)+j) c) cells=(c.cells.toList.zipIdx 0).foldl (λcs (c,j)=>cs.setIfInBounds (AV.dX (l.take i)+j) c) cells:=by
   rw[<-Array.foldl_toList,Array.toList_zipIdx]
  obtain⟨lA,r1,r2,r3,r4⟩:=wg (place:=place) ps (l.set i u) l' tG ((c.cells.toList.zipIdx 0).foldl (λcs (c,j)=>cs.setIfInBounds (AV.dX (l.take i)+j) c) cells) hf hp (by rw[p1,hs,q1]) (by
   refine yY l i v u (cells[·]?) _ hv hu hr (λj hj=>?_) (jR u _ _ (λj hj=>?_) hrc)
   ·simp only[p2]
    rw[if_neg (by simp only[Array.length_toList];omega)]
   ·simp only[p2]
    rw[if_pos (by simp only[Array.length_toList];omega)]
    simp) (λj v' hj=>by
   obtain⟨v'',g1,g2⟩:=q3 j v' hj;rw[hpl j v'' g1,q2 j,g2])
  refine⟨lA,?_,r2,r3.trans q1,r4⟩;unfold Instr.fill;rw[hpl i v hv];simp only;rw[if_neg (by simp only[zeY,zd1,not_or];constructor<;>omega),hz]
  exact r1
theorem HB {v u:AV}(h:v.lu u=true):u.size=v.size:=by rw[<-kT,<-vZ v u h,kT]
theorem zX: ∀(ps:List (Nat×AV)) (l l':List AV),zE l ps=some l'->A9 l ps l'/\∀p∈ps,p.2.nv=true
 | [],l,l',h=>by
  simp only[zE,zdT] at h;exact⟨h.symm,λp hp=>by simp at hp⟩
 |(i,u)::ps,l,l',h=>by
  simp only[zE] at h;split at h
  ·rename_i v hv
   split at h
   ·rename_i hs
    simp only[zdV] at hs;obtain⟨h1,h2⟩:=zX ps _ l' h;exact⟨⟨⟨v,hv,HB hs.1⟩,h1⟩,List.forall_mem_cons.2 ⟨hs.2,h2⟩⟩
   ·cases h
  ·cases h
theorem B0 {sz:Nat}: ∀(ps:List (Nat×AV)) (l l':List AV),(∀v∈l,v.size=sz)->Dk sz l ps=some l'->A9 l ps l'/\(∀p∈ps,p.2.nv=true)/\l'.length=l.length/\(∀v∈l',v.size=sz)
 | [],l,l',hl,h=>by
  simp only[Dk,zdT] at h;subst h;exact⟨rfl,(λp hp=>by simp at hp),rfl,hl⟩
 |(i,u)::ps,l,l',hl,h=>by
  simp only[Dk] at h;split at h
  ·rename_i hs
   simp only[zdV,zd1] at hs;obtain⟨h1,h2,h3,h4⟩:=B0 ps _ l' (λv hv=>by
    rcases zeZ hv with hv|rfl
    ·exact hl v hv
    ·exact hs.2) h
   refine⟨⟨⟨l[i]'hs.1.1,zdS _,?_⟩,h1⟩,List.forall_mem_cons.2 ⟨hs.1.2,h2⟩,by rw[h3];simp,h4⟩
   exact hs.2.trans (hl _ (ze0 _)).symm
  ·cases h
theorem zY {N:Names}{D:Nat->Prop}{w:World}{st:St}{a:Act}(s:kx N D w base st a): ∀(ps:List (Nat×Operand)),(∀p∈ps,(st.ev p.2).nv=true)->Gd N D w (ps.map λp=>(p.1,st.ev p.2)) (ps.map λp=>(p.1,a.eval p.2))
 | [],_=>rfl
 |p::ps,h=>by
  obtain⟨h1,h2,_⟩:=tU (h p (zd0 ..)) (s.Fm p.2);exact⟨_,_,rfl,h1,h2,zY s ps λp hp=>h p (zdZ _ hp)⟩
theorem xL {N:Names}{D:Nat->Prop}{w:World}{t:Ty}: ∀(xs:List t.den) (g:Nat->Option Value),fg N D w (xs.map (enc t)) g↔eg N D w t xs g
 | [],g=>by simp only[List.map_nil,fg,true_iff];exact eg.nil
 |x::xs,g=>by
  simp only[zeK,fg];rw[kO,xL xs,nE];constructor
  ·rintro⟨h1,h2⟩ i y hy
   cases i with
   |zero=>
    simp only[jW,zep,zdT] at hy;subst hy;exact iy.func h1 λj=>by simp
   |succ i=>
    exact iy.func (h2 i y (by simpa [jW] using hy)) λj=>congrArg g (by rw[zd7];omega)
  ·intro h
   refine⟨iy.func (h 0 x rfl) λj=>by simp,λi y hy=>?_⟩
   exact iy.func (h (i+1) y (by simpa [jW] using hy)) λj=>congrArg g (by rw[zd7];omega)
theorem wi {t:Ty}: ∀(xs:List t.den),AV.dX (xs.map (enc t))=xs.length*t.size
 | []=>by simp[AV.dX]
 |x::xs=>by simp only[zeK,AV.dX,nE,wi xs,zdX,zd7];omega
theorem zZ {s:St}{t:Ty}: ∀(ps:List (Nat×AV)) (xs:List t.den) (k:List t.den->Option α) (r:α),CV s t xs ps k=some r->
  ∃BZ us,k BZ=some r/\A9 (xs.map (enc t)) us (BZ.map (enc t))/\BZ.length=xs.length/\(∀p∈ps,p.2.nv=true)/\∀N D w base,jX N D w base s.h->∀cs,Gd N D w ps cs->Gd N D w us cs
 | [],xs,k,r,h=>⟨xs,[],h,rfl,rfl,(λp hp=>by simp at hp),λ_ _ _ _ _ cs hp=>hp⟩
 |(i,u)::ps,xs,k,r,h=>by
  simp only[CV] at h;obtain⟨hsz,x,ids,h1,h2⟩:=mJ t u _ r h;split at h1
  ·split at h1
   ·rename_i hi
    simp only[zdV,zd1] at hi;obtain⟨BZ,us,g1,g2,g3,g4,g5⟩:=zZ ps _ k r h1;refine⟨BZ,(i,enc t x)::us,g1,⟨⟨enc t (xs[i]'hi.1),by simp[hi.1],by rw[nE,nE]⟩,by rw[<-List.map_set];exact g2⟩,by rw[g3];simp,List.forall_mem_cons.2 ⟨hi.2,g4⟩,λN D w base S cs hp=>?_⟩
    obtain⟨c,tG,rfl,c1,c2,c3⟩:=hp;exact⟨c,tG,rfl,by rw[c1,nE,hsz],(kO t x _).2 (h2 N D w base S _ c2 D (λ_ h=>h) (by intro q hq;simp at hq)),g5 N D w base S tG c3⟩
   ·cases h1
  ·cases h1
theorem xM: ∀(fl:List Field) (off:Nat) (fs:List AV),tD P fl off fs=true->∃Ba,fl.mapM (λf=>(P.info? f.type).map λi=>(f.offset,i.size))=some Ba/\∀(i:Nat) (v:AV),fs[i]?=some v->Ba[i]?=some (off+AV.dX (fs.take i),v.size)
 | [],off,[],_=>⟨[],rfl,λi v h=>by simp at h⟩
 |f::fl,off,v::vs,h=>by
  simp only[tD,zdV,zd1] at h;obtain⟨⟨⟨h1,h2⟩,h3⟩,h4⟩:=h;obtain⟨Ba,g1,g2⟩:=xM fl _ vs h4;obtain⟨i,hi⟩:=Option.isSome_iff_exists.1 h3;have hsz:i.size=v.size:=by rw[<-h2];simp[Program.cellsOf,hi]
  refine⟨(f.offset,i.size)::Ba,by simp[List.mapM_cons,hi,g1],λj u hj=>?_⟩
  cases j with
  |zero=>simp at hj;subst hj;simp[AV.dX,h1,hsz]
  |succ j=>
   simp only[List.getElem?_cons_succ] at hj⊢;rw[g2 j u hj];simp[AV.dX,zd8]
 | [],_,_::_,h=>by simp[tD] at h
 |_::_,_,[],h=>by simp[tD] at h
theorem Lv {dst ty pos after guard}{t:TypeId}{parts:Array (Nat×Operand)}{st:St}{k:AV->St->Option α}{r:α}(h:Hb P st t (parts.toList.map λp=>(p.1,st.ev p.2)) k=some r):nU P base ⟨dst, .build t parts,ty,pos,after,guard⟩ st k r:=by
 unfold Hb at h;obtain⟨v,i,z,h,hi,hz,_,_,g1,g2⟩:=rT h;split at h
 ·rename_i fl fs hu _ _
  split at h
  ·rename_i lq
   split at h
   ·rename_i fs' zah
    obtain⟨h1,h2⟩:=zX _ _ _ zah;obtain⟨Ba,p1,p2⟩:=xM _ _ _ lq;refine⟨_,_,h,lx.pure λN D w a s=>?_⟩;have hp:=zY s parts.toList λp hp=>h2 (p.1,st.ev p.2) (List.mem_map_of_mem hp);obtain⟨lA,r1,r2,r3,r4⟩:=wg _ _ _ _ z.cells h1 hp g1 (by have:=g2 N D w;simpa only[aq] using this) (place:=(Ba.toArray[·]?)) λj u hj=>by simp only[List.getElem?_toArray];rw[p2 j u hj,zeC]
    refine⟨.agg lA,?_,xz.2 ⟨lA,rfl,r2,r4⟩⟩;have hb:P.built t (parts.map λp=>(p.1,a.eval p.2)).toList=some lA:=by
     simp only[Program.built,hi,hu,hz,p1,Array.toList_map];exact r1
    simp only[execOp,zee,run_build w t _ lA hb,zef,zeg]
   ·cases h
  ·cases h
 ·rename_i m e n te xs hu _ _
  split at h
  ·rename_i hc
   simp only[zdV,zd1] at hc;obtain⟨⟨rfl,O6⟩,hie⟩:=hc;obtain⟨ie,hie⟩:=Option.isSome_iff_exists.1 hie;have zb5:ie.size=te.size:=by rw[<-O6];simp[Program.cellsOf,hie]
   obtain⟨BZ,us,q1,q2,q3,q4,q5⟩:=zZ _ _ _ _ h;refine⟨_,_,q1,lx.pure λN D w a s=>?_⟩;have hp:=q5 N D w base s.nw _ (zY s parts.toList λp hp=>q4 (p.1,st.ev p.2) (List.mem_map_of_mem hp));have Rt:=g2 N D w;simp only[aq,iy] at Rt;have hlen:List.length (α:=te.den) xs=m:=Rt.1;obtain⟨lA,r1,r2,r3,r4⟩:=wg _ _ _ _ z.cells q2 hp (by rw[g1,wi,hlen];rfl) ((xL xs _).2 Rt.2) (place:=λi=>some (i*ie.size,ie.size)) λj u hj=>by
    rw[zeT] at hj;obtain⟨y,hy,rfl⟩:=Option.map_eq_some_iff.1 hj;have hjl:=(List.getElem?_eq_some_iff.1 hy).1;rw[<-List.map_take,wi,nE,zb5,zeh,zeQ (by omega)]
   refine⟨.agg lA,?_,vr.2 ⟨lA,rfl,?_,?_⟩⟩
   ·have hb:P.built t (parts.map λp=>(p.1,a.eval p.2)).toList=some lA:=by
     simp only[Program.built,hi,hu,hz,hie,Array.toList_map];exact r1
    simp only[execOp,zee,run_build w t _ lA hb,zef,zeg]
   ·rw[r2,wi,q3,hlen]
   ·exact⟨by show List.length (α:=te.den) BZ=m;rw[q3,hlen],(xL BZ _).1 r4⟩
  ·cases h
 ·cases h
theorem B1: ∀(ids:List Nat) (s s':St),s.freeze ids=some s'->∀j,j∉ids->s'.h j=s.h j
 | [],s,s',h,j,_=>by simp only[St.freeze,zdT] at h;subst h;rfl
 |i::l,s,s',h,j,hj=>by
  simp only[St.freeze] at h;simp only[zex,not_or] at hj;split at h
  ·rw[B1 l _ s' h j hj.2]
   simp[St.set,hj.1]
  ·cases h
theorem B2 {s:St}{t:Ty}: ∀(l:List AV) (k:List t.den->List Nat->Option α) (r:α),elems s t l k=some r->
  ∃xs ids,k xs ids=some r/\xs.length=l.length/\∀N D w base,jX N D w base s.h->∀D',(∀b,D b->D' b)->ly N D' ids->∀g,fg N D w l g->eg N D' w t xs g
 | [],k,r,h=>⟨[],[],h,rfl,λN D w base S D' _ _ g _=>eg.nil⟩
 |v::vs,k,r,h=>by
  simp only[elems] at h;obtain⟨hsz,x,ids,h1,h2⟩:=mJ t v _ r h;obtain⟨xs,XR,h3,h4,h5⟩:=B2 vs _ r h1;refine⟨x::xs,ids++XR,h3,by simp[h4],λN D w base S D' hD hF g hg=>?_⟩
  simp only[fg] at hg;have a1:=h2 N D w base S g hg.1 D' hD hF.left;have a2:=h5 N D w base S D' hD hF.right _ hg.2;intro i y hy;cases i with
  |zero=>
   simp only[jW,zep,zdT] at hy;subst hy;exact iy.func a1 λj=>by simp
  |succ i=>
   exact iy.func (a2 i y (by simpa [jW] using hy)) λj=>congrArg g (by rw[hsz,zd7];omega)
theorem vF {N:Names}{D:Nat->Prop}{w:World}{v:AV}{z:Array Value}(hz:z.size=v.size)(hr:aq N D w v (z[·]?)): ∀(n:Nat) (g:Nat->Option Value),(∀j,j<n*v.size->g j=z[j%v.size]?)->fg N D w (List.replicate n v) g
 |0,g,_=>by simp only[ze1,fg]
 |n+1,g,hg=>by
  simp only[zez,fg];refine⟨jR v _ _ (λj hj=>?_) hr,vF hz hr n _ λj hj=>?_⟩
  ·rw[hg j (by rw[zd7];omega),Nat.mod_eq_of_lt hj]
  ·rw[hg (v.size+j) (by rw[zd7];omega),Nat.add_mod_left]
theorem qj (v:AV): ∀n,AV.dX (List.replicate n v)=n*v.size
 |0=>by simp[AV.dX]
 |n+1=>by simp only[zez,AV.dX,qj v n,zd7];omega
theorem CA {dst ty pos after guard}{t:TypeId}{len:Nat}{parts:Array (Nat×Operand)}{st:St}{id:Nat}(pJ:id=name st.ep (dst.getD 999) 0){k:AV->St->Option α}{r:α}(h:vV P st id t len (parts.toList.map λp=>(p.1,st.ev p.2)) k=some r):nU P base ⟨dst, .buildSlice t len parts,ty,pos,after,guard⟩ st k r:=by
 unfold vV at h;split at h
 ·rename_i e te he
  obtain⟨hu,Nt,hsz,hb,i,hi,vB,Rn,_⟩:=qq he;obtain⟨v,i',z,h,nB,hz,X0,zb,uA,hzr⟩:=rT h;rw[hi] at nB;cases nB;have zb6:z.cells.size=te.size:=by
   have:=tH 12 e te v Nt X0;rw[<-zb] at this;rw[<-mZ te,<-this];simp
  have hvs:v.size=te.size:=by rw[<-uA,zb6]
  split at h
  ·cases h
  ·rename_i l uB
   obtain⟨f1,f2,f3,f4⟩:=B0 _ _ _ (λu hu=>by rw[List.eq_of_mem_replicate hu,hvs]) uB
   have tX: ∀N D w a,kx N D w base st a->∃lA,Instr.fill (λi'=>some (i'*i.size,i.size)) ((Array.range (len*i.size)).map (z.cells[·%z.cells.size]!)) (parts.toList.map λp=>(p.1,a.eval p.2))=some lA/\lA.size=AV.dX l/\AV.dX l=AV.dX (List.replicate len v)/\fg N D w l (lA[·]?):=by
    intro N D w a s;have hp:=zY s parts.toList λp hp=>f2 (p.1,st.ev p.2) (List.mem_map_of_mem hp);refine wg _ _ _ _ _ f1 hp (by rw[qj,hvs,vB];simp) (vF uA (hzr N D w) len _ λj hj=>?_) λq u hq=>?_
    ·have hp0:0<v.size:=by
      rcases zed v.size with q|q
      ·rw[q] at hj;omega
      ·exact q
     have hm:j%v.size<z.cells.size:=by rw[uA];exact Nat.mod_lt _ hp0
     rw[hvs,<-vB] at hj;simp only[Array.getElem?_map,Array.getElem?_range,hj,if_true,zd2];rw[uA,getElem!_pos z.cells _ hm,zev hm]
    ·have hql:=(List.getElem?_eq_some_iff.1 hq).1
     have hu':=List.eq_of_mem_replicate (zeO hq);subst hu';rw[List.take_replicate,qj,zeQ (by simp at hql;omega),hvs,vB]
   have zai:Hc st id len te.size l k=some r->nU P base ⟨dst, .buildSlice t len parts,ty,pos,after,guard⟩ st k r:=by
    intro h1;unfold Hc at h1;split at h1;rotate_left
    ·cases h1
    rename_i HC;simp only[zd1] at HC;obtain⟨UJ,_⟩:=HC;have vG:st.h id=none:=by
     unfold St.new at h1;split at h1
     ·assumption
     ·cases h1
    have uB:st.new id (.var (.agg l)) (λs=>some s)=some (st.set id (.var (.agg l))):=by unfold St.new;rw[vG]
    have g1:k (.uu id len) (st.set id (.var (.agg l)))=some r:=by unfold St.new at h1;rw[vG] at h1;exact h1
    obtain⟨s',q0,g2,g3,g4,IS,g5⟩:=Hs uB;simp only[zdT] at q0;subst q0;refine⟨_,_,g1,g2,g3,g4,λj _ hn=>IS j (λe=>by subst e;subst pJ;simp[qz,makes,rh] at hn),λN D w a s=>?_⟩
    obtain⟨lA,r1,r2,r3,r4⟩:=tX N D w a s;obtain⟨N',n1,n2,n3⟩:=g5 N D w base s.nw lA e (by simpa [AV.size] using r2) (by simp only[aq];exact r4)
    refine⟨N',D,_, .slice (some ⟨w.heap.size,0,none⟩) len len, .inl ?_,n2,n1,?_⟩
    ·have hpm:(parts.map λp=>(p.1,a.eval p.2)).toList=parts.toList.map λp=>(p.1,a.eval p.2):=by simp
     have:=run_buildSlice (P:=P) w t e len (parts.map λp=>(p.1,a.eval p.2)) lA i z hu hi hz (by rw[vB];omega) (by rw[vB];omega) (by rw[hpm];exact r1)
     simp only[execOp,zee,this,zef,zeg]
    ·unfold cw at n3⊢
     simp only[AV.isAgg,jz,aq] at n3⊢;obtain⟨nm,ad,o,q1,q2,q3,q4⟩:=n3;have Fc:nm.row=false:=by
      cases hr:nm.row with
      |false=>rfl
      |true=>simp[Nm.off,hr] at q3
     simp only[Nm.off,Fc,fG,zdU,if_false,zdT] at q3;subst q3;refine⟨nm,ad,q1,q2,Fc,?_⟩;simp only[zdT,Value.pointer.injEq,Addr.at_,zeM,Addr.mk.injEq] at q4;obtain⟨q5,q6,_⟩:=q4;have Fe:ad.spot=none:=by
      obtain⟨mG,ad',e1,e2,_,_,e5,_⟩:=n1.obj id (.var (.agg l)) (by simp[St.set])
      rw[q1] at e1;cases e1;rw[q2] at e2;cases e2;exact e5
     obtain⟨b,off,sp⟩:=ad;simp only at q5 q6 Fe;rw[q5,q6,Fe]
   split at h
   ·exact zai h
   obtain⟨xs,ids,h1,W3,mI⟩:=B2 _ _ _ h;split at h1;rotate_left
   ·exact zai h1
   ·rename_i s1 zdD
    split at h1;rotate_left
    ·cases h1
    rename_i s1 hfz;obtain⟨z1,z2,z3,z4⟩:=wa _ _ _ hfz;split at h1
    ·rename_i HC
     simp only[zdV,zd1,zew,ze2] at HC;obtain⟨s',g1,g2,g3,g4,IS,g5⟩:=Nv h1;refine⟨_,_,g1,by rw[g2,z1],by rw[g3,z2],by rw[g4,z3],λj hj hn=>?_,λN D w a s=>?_⟩
     ·rw[IS j (λe=>by subst e;subst pJ;simp[qz,makes,rh] at hn)]
      refine B1 _ _ _ hfz j λBU=>hj ?_;have:=HC.2 j BU;simp only[KW];rw[List.flatMap_map] at this;exact this
     ·obtain⟨D1,y1,y2,y3,y4⟩:=z4 N D w base s.nw
      have hlen:List.length (α:=te.den) xs=len:=by rw[W3,f3];simp
      obtain⟨lA,r1,r2,r3,r4⟩:=tX N D w a s;have yB:lA.size=len*te.size:=by rw[r2,r3,qj,hvs]
      obtain⟨N',n1,n2,n3⟩:=g5 N D1 w base y3 w lA e (0,0) len rfl rfl rfl rfl (by show List.length (α:=te.den) xs<=len;omega) (by omega) (.inl rfl) (mI N D w base s.nw D1 y1 y2 _ r4)
      refine⟨N',D1,_,_, .inl ?_,y4.trans n2,n1,n3⟩;have hpm:(parts.map λp=>(p.1,a.eval p.2)).toList=parts.toList.map λp=>(p.1,a.eval p.2):=by simp
      have O3:aQ (β:=te.den) xs=len:=hlen;rw[O3];by_cases UJ:len*i.size=0
      ·have ox:Instr.fill (λi'=>some (i'*i.size,i.size)) #[] (parts.toList.map λp=>(p.1,a.eval p.2))=some lA:=by
        rw[<-r1];congr 1;rw[UJ];simp
       simp only[execOp,zee];have O6:P.cellsOf e=i.size:=by rw[vB,hsz]
       simp only[Instr.buildSlice,zee,run_underlying hu,zef,run_sizeOf w hi,O6,UJ,Nat.not_lt_zero,gt_iff_lt,if_false,if_true,zeg];have he0:(Array.range 0).map ((#[]:Array Value)[·% (#[]:Array Value).size]!)= #[]:=by simp
       have hpe:(parts.map λx=>(x.1,a.eval x.2)).toList=parts.toList.map λp=>(p.1,a.eval p.2):=by simp
       rw[he0,hpe,ox];simp[newRow]
      ·have:=run_buildSlice (P:=P) w t e len (parts.map λp=>(p.1,a.eval p.2)) lA i z hu hi hz (by rw[vB];omega) UJ (by rw[hpm];exact r1)
       simp only[execOp,zee,this,zef,zeg]
    ·cases h1
 ·cases h
end AM
namespace AM
open Go
variable {α:Type}{P:Program}{base:Nat}
theorem Ru {e:TypeId}{k:IntKind}(h:vp P 12 e=some (.int k)):P.underlying e=some (.int k):=by
 unfold vp at h;split at h
 ·rename_i k' hu
  simp only[zdT,Ty.int.injEq] at h;rw[hu,h]
 ·simp at h
 ·simp at h
 ·rename_i fs hu
  exfalso
  cases hl:fs.toList with
  |nil=>rw[hl] at h;simp at h
  |cons f fl=>
   rw[hl] at h;simp only[zeI] at h;split at h<;>simp at h
 ·simp only[zeJ] at h
  obtain⟨_,_,h⟩:=h;cases h
 ·simp only[zeJ] at h
  obtain⟨_,_,h⟩:=h;cases h
 ·simp at h
 ·cases h
theorem B3 {e:TypeId}{k:IntKind}(hu:P.underlying e=some (.int k))(hf: ∀x:Int,su P e (enc (.int k) x)=true)(hc:P.cellsOf e=1){D:Nat}(hD:1<=D){w:World}{cx cy:Array Value}: ∀(xs ys:List Int) (s:Nat),xs.length=ys.length->(∀i x,xs[i]?=some x->cx[s+i]?=some (.int k x))->(∀i y,ys[i]?=some y->cy[s+i]?=some (.int k y))->
  (Op.eqItems D e (P.cellsOf e) cx cy (List.range' s xs.length)).run P w= .ok ((xs.zip ys).all λp=>ak p.1 p.2) w
 | [],ys,s,hl,_,_=>by simp[Op.eqItems]
 |x::xs,[],s,hl,_,_=>by simp at hl
 |x::xs,y::ys,s,hl,hx,hy=>by
  obtain⟨D',rfl⟩: ∃D',D=D'+1:=⟨D-1,by omega⟩
  have hpx:(Go.part e cx (s*1)).run P w= .ok (.int k x) w:=by
   obtain⟨c,h1,h2⟩:=tV (P:=P) (N:=Names.nil) (D:=λ_=>False) (w:=w) (cs:=cx) (off:=s*1) (hf x) (by
    have:=hx 0 x rfl;simp only[enc,aq];rw[zeV,<-this])
   have:c= .int k x:=by simpa [enc] using ek.1 h2
   rw[h1,this]
  have hpy:(Go.part e cy (s*1)).run P w= .ok (.int k y) w:=by
   obtain⟨c,h1,h2⟩:=tV (P:=P) (N:=Names.nil) (D:=λ_=>False) (w:=w) (cs:=cy) (off:=s*1) (hf y) (by
    have:=hy 0 y rfl;simp only[enc,aq];rw[zeV,<-this])
   have:c= .int k y:=by simpa [enc] using ek.1 h2
   rw[h1,this]
  have ih:=B3 hu hf hc hD (w:=w) (cx:=cx) (cy:=cy) xs ys (s+1) (by simpa using hl) (λi z hz=>by rw[show s+1+i=s+(i+1) by omega];exact hx (i+1) z (by simpa using hz)) (λi z hz=>by rw[show s+1+i=s+(i+1) by omega];exact hy (i+1) z (by simpa using hz))
  rw[hc] at ih⊢;simp only[zdX,List.range'_succ,Op.eqItems,zee,hpx,hpy,zef,run_equalIn_int w D' e k k x y hu,List.zip_cons_cons,List.all_cons];have hxy:(x==y)=ak x y:=by simp only[ak,ke];rfl
  rw[hxy];cases ak x y with
  |false=>simp
  |true=>simpa using ih
def W4 (P:Program)(d:Nat):Prop:= ∀(t:TypeId) (x y:AV) (b:Bool),Ua P d t x y=some b->∀D,d<=D->∀N Dd w vx vy,cw N Dd w x vx->cw N Dd w y vy->(Op.equalIn D t vx vy).run P w= .ok b w
theorem Rv {d:Nat}(hA:W4 P d): ∀(fs:List Field) (off:Nat) (xs ys:List AV) (b:Bool),Ua.KT P d fs off xs ys=some b->∀D,d<=D->∀N Dd w (cx cy:Array Value),fg N Dd w xs (λj=>cx[off+j]?)->fg N Dd w ys (λj=>cy[off+j]?)->(Op.eqFields D cx cy fs).run P w= .ok b w:=by
 intro fs;induction fs with
 |nil=>
  intro off xs ys b h D hD N Dd w cx cy hx hy;cases xs<;>cases ys<;>simp[Ua.KT] at h
  subst h;simp[Op.eqFields]
 |cons f fs ih=>
  intro off xs ys b h D hD N Dd w cx cy hx hy;cases xs with
  |nil=>simp[Ua.KT] at h
  |cons x xs=>
   cases ys with
   |nil=>simp[Ua.KT] at h
   |cons y ys=>
    simp only[Ua.KT] at h;split at h
    ·cases h
    ·rename_i hn
     simp only[not_or,Decidable.not_not] at hn;split at h
     ·cases h
     ·rename_i lq
      simp only[zdV,zd1] at lq;split at h
      ·rename_i a b' ha hb
       cases h;simp only[fg] at hx hy;obtain⟨c1,p1,v1⟩:=tV (P:=P) (N:=N) (D:=Dd) (w:=w) (cs:=cx) (off:=off) lq.1.1 hx.1;obtain⟨c2,p2,v2⟩:=tV (P:=P) (N:=N) (D:=Dd) (w:=w) (cs:=cy) (off:=off) lq.1.2 hy.1;have h1:=hA f.type x y a ha D hD N Dd w c1 c2 v1 v2;have h2:=ih (off+x.size) xs ys b' hb D hD N Dd w cx cy (by have:=hx.2;simpa only[zd8] using this) (by have:=hy.2;rw[<-lq.2] at this;simpa only[zd8] using this)
       simp only[Op.eqFields,hn.1,ne_eq,not_false_eq_true,if_true,zee,hn.2,p1,p2,zef,h1];cases a with
       |false=>simp
       |true=>simpa using h2
      ·cases h
theorem NA: ∀d:Nat,W4 P d
 |0=>λt x y b h=>by simp[Ua] at h
 |d+1=>by
  intro t x y b h D hD N Dd w vx vy hx hy;obtain⟨D',rfl⟩: ∃D',D=D'+1:=⟨D-1,by omega⟩
  unfold Ua at h;split at h
  ·rename_i k ka a kb c hu
   split at h
   ·rename_i hk
    obtain⟨rfl,rfl⟩:=hk;cases h;rw[ek.1 hx,ek.1 hy,run_equalIn_int w D' t _ _ a c hu];simp only[ak,ke];rfl
   ·cases h
  ·rename_i a c hu
   cases h;rw[ek.1 hx,ek.1 hy,run_equalIn_bool' w D' t a c hu];rfl
  ·rename_i a c hu
   cases h;rw[ek.1 hx,ek.1 hy,run_equalIn_string w D' t a c hu];rfl
  ·rename_i fs xs ys hu
   split at h
   ·cases h
   ·rename_i kr
    obtain⟨cx,rfl,_,Z8⟩:=xz.1 hx;obtain⟨cy,rfl,_,hcy⟩:=xz.1 hy;have hfo:P.fieldsOf t=fs:=by simp[Program.fieldsOf,hu]
    rw[run_equalIn_struct w D' t cx cy (by rw[hfo];exact hu) kr,hfo]
    exact Rv (NA d) fs.toList 0 xs ys b h D' (by omega) N Dd w cx cy (by simpa using Z8) (by simpa using hcy)
  ·rename_i n e m t' xs m' t'' ys hu
   split at h
   ·rename_i te ys' Nt xN
    obtain⟨rfl,rfl⟩:=iY xN;split at h
    ·rename_i hc
     obtain⟨rfl,rfl,rfl,hint,hd,O6,hie⟩:=hc;cases h;obtain⟨cx,rfl,_,Z8⟩:=vr.1 hx;obtain⟨cy,rfl,_,hcy⟩:=vr.1 hy;obtain⟨i,hi⟩:=Option.isSome_iff_exists.1 hie;rw[run_equalIn_array w D' cx cy hu hi];cases te with
     |int k=>
      have h1:List.length (α:=Int) xs=m':=Z8.1;have h2:List.length (α:=Int) ys'=m':=hcy.1;have:=B3 (P:=P) (e:=e) (k:=k) (D:=D') (w:=w) (cx:=cx) (cy:=cy) (Ru Nt) (λx=>DF Nt (by rw[O6];rfl) x) O6 (by omega) xs ys' 0 (by rw[h1,h2]) (λi x hx=>by
       have:=Z8.2 i x hx;simp only[iy,Ty.size,zeV,zeM] at this;rw[zeC];exact this) (λi x hx=>by
       have:=hcy.2 i x hx;simp only[iy,Ty.size,zeV,zeM] at this;rw[zeC];exact this)
      rw[h1] at this;rw[List.range_eq_range'];exact this
     |_=>simp[Nb] at hint
    ·cases h
   ·cases h
  ·cases h
theorem O7 {op:BinOp}{t:TypeId}{x y:Operand}{st:St}{b:Bool}(h:UB P t (st.ev x) (st.ev y)=some b): ∀N D w a,kx N D w base st a->(op= .eql\/op= .neq)->(do eqGuard op t x y (a.eval x) (a.eval y);Go.binOp op t (a.eval x) (a.eval y):Sem Value).run P w= .ok (.bool (zN op b)) w:=by
 intro N D w a s vm;unfold UB at h;split at h
 ·rename_i Fb
  simp only[zdV] at Fb;obtain⟨Fb,zb7⟩:=Fb;split at h
  ·cases h
  ·rename_i hg
   have hx:=s.Fm x;have hy:=s.Fm y;have jL:=NA (P:=P) 12 t _ _ b h 10000 (by omega) N D w _ _ hx hy
   have hvx: ∃cx,a.eval x= .agg cx:=by
    unfold cw at hx;rw[Fb] at hx;obtain⟨c,h1,_⟩:=hx;exact⟨c,h1⟩
   have hvy: ∃cy,a.eval y= .agg cy:=by
    unfold cw at hy;rw[zb7] at hy;obtain⟨c,h1,_⟩:=hy;exact⟨c,h1⟩
   obtain⟨cx,ex⟩:=hvx;obtain⟨cy,ey⟩:=hvy;rw[ex,ey] at jL⊢;rw[zee,run_eqGuard_agg w op t x y cx cy hg,zef];rcases vm with rfl|rfl
   ·rw[run_eql_struct w t cx cy,jL];rfl
   ·rw[run_neq_struct w t cx cy,jL];rfl
 ·cases h
end AM
namespace AM
open Go
variable {α:Type}{P:Program}{base:Nat}
theorem Rl.first {N:Names}{w:World}{t:Ty}{ys:List t.den}{D:Nat->Prop}{c:Value}(h:Rl N D w t ys c){n:Nat}(hn:n<=aQ (β:=t.den) ys): ∃cs:List Value,cs.length=n*t.size/\eg N D w t (ys.take n:List t.den) (cs[·]?)/\(∀v∈cs,v.oneCell'=true)/\
  (Builtin.firstCells t.size n c).run P w= .ok cs.toArray w/\(Builtin.lenOf c).run P w= .ok (aQ (β:=t.den) ys) w:=by
 obtain⟨a,cap,rfl,h1,h2,h3⟩:=h;have htk:aQ (β:=t.den) (ys.take n)=n:=by simp only[aQ,zeh];simp only[aQ] at hn;omega
 by_cases h0:aQ (β:=t.den) ys=0
 ·have WY:n=0:=by omega
  subst WY;refine⟨[],by simp,by simpa using eg.nil,by simp,?_,xK _ _ _ _⟩
  cases a with
  |none=>exact run_firstCells_none (P:=P) w _ _ _ _
  |some a=>exact run_firstCells_some (P:=P) w t.size 0 a _ cap [] (by simp) (by simp)
 ·cases a with
  |none=>have:=h2 rfl;omega
  |some a=>
   obtain⟨f1,f2⟩:=h3 a rfl h0;obtain⟨cs,g1,g2,g3,g4⟩:=(f2.take n).cells;rw[htk] at g1;refine⟨cs,g1,g3,g4,?_,xK _ _ _ _⟩;refine run_firstCells_some (P:=P) w t.size n a _ cap cs g1 λj v hv=>?_;obtain⟨b,o,sp⟩:=a;simp only at f1;subst f1;rw[ow];exact g2 j v hv
theorem HD {w:World}{b o:Nat}{v:Value}(h:w.cell? ⟨b,o,none⟩=some v):w.setCell ⟨b,o,none⟩ v=w:=by
 have e:(w.setCell ⟨b,o,none⟩ v).heap=w.heap:=by
  apply Array.ext_getElem?;intro i;simp only[World.setCell,zet];by_cases hi:b=i
  ·subst hi
   unfold World.cell? at h;split at h
   ·rename_i c el fz hb
    simp only[ze3,zdU,if_false] at h;simp only at hb;rw[hb];simp only[if_true,zd2,ze3,zdU,if_false];have:c.setIfInBounds o v=c:=by
     apply Array.ext_getElem?;intro j;rw[Array.getElem?_setIfInBounds];split
     ·rename_i hj;subst hj
      split
      ·exact h.symm
      ·rename_i kW;rw[Array.getElem?_eq_none (by omega)] at h;cases h
     ·rfl
    rw[this]
   ·cases h
  ·rw[if_neg hi]
 have e2:w.setCell ⟨b,o,none⟩ v={w with heap:=(w.setCell ⟨b,o,none⟩ v).heap}:=rfl;rw[e2,e]
theorem sT (b:Nat): ∀(xs ys:List Value) (o:Nat) (w:World),w.setCells b o (xs++ys)=(w.setCells b o xs).setCells b (o+xs.length) ys
 | [],ys,o,w=>rfl
 |x::xs,ys,o,w=>by
  simp only[zes,World.setCells,zdX];rw[sT b xs ys,show o+1+xs.length=o+(xs.length+1) by omega]
theorem uW (b:Nat): ∀(xs:List Value) (o:Nat) (w:World),(∀j v,xs[j]?=some v->w.cell? ⟨b,o+j,none⟩=some v)->w.setCells b o xs=w
 | [],o,w,_=>rfl
 |x::xs,o,w,h=>by
  rw[World.setCells,HD (by simpa using h 0 x rfl)]
  exact uW b xs (o+1) w λj v hv=>by
   have:=h (j+1) v (by simpa using hv)
   rwa [show o+1+j=o+(j+1) by omega]
theorem HE {b o:Nat}{w:World}{pre cs suf:List Value}(h1: ∀j v,pre[j]?=some v->w.cell? ⟨b,o+j,none⟩=some v)(h2: ∀j v,suf[j]?=some v->w.cell? ⟨b,o+pre.length+cs.length+j,none⟩=some v):
  w.setCells b o (pre++(cs++suf))=w.setCells b (o+pre.length) cs:=by
 rw[sT,uW b pre o w h1,sT];refine uW b suf _ _ λj v hv=>?_;rw[World.cell?_setCells_out _ _ _ _ _ (λ_ _=>by simp only;omega)]
 exact h2 j v hv
theorem HF {dst rt pos after guard}{x y:Operand}{args:Array Operand}{tys:Array TypeId}{tx e:TypeId}{te:Ty}{A6:List TypeId}{st:St}{k:AV->St->Option α}{r:α}(ha:args.toList=[x,y])(ht:tys.toList=tx::A6)(he:zD P tx=some (e,te))
  {ys xs:List te.den} {q n off len:Nat} {p:List Step} (hx:st.ev x= .slice q p off len) (mI:(p.isEmpty&&zB st q)=false) (Fy: ∀N D w base,jX N D w base st.h->∀c,cw N D w (st.ev y) c->Rl N D w te ys c)
  (yz:st.shape q p=some (.arr n (sr te))) (qO: ∀N D w base,jX N D w base st.h->∀nm a o,N q=some nm->nm.base=some a->nm.off p=some o->a.spot=none/\aq N D w (.arr n te xs) (λj=>aZ w a (o+j)))
  (h:st.store q p (.arr n te (xs.take off++(ys.take len++xs.drop (off+min ys.length len)))) (λs=>k (.val (.int .i64 ((min ys.length len:Nat):Int))) s)=some r):nU P base ⟨dst, .call ⟨.builtin .copy,args,tys⟩,rt,pos,after,guard⟩ st k r:=by
 obtain⟨hu,Nt,hsz,hb1,i,hi,vB,Rn,_⟩:=qq he;have nz:args= #[x,y]:=by cases args;simp at ha;subst ha;rfl
 have zR:tys[0]?=some tx:=by
  have:tys.toList[0]?=some tx:=by rw[ht];rfl
  simpa using this
 subst nz;obtain⟨s',h1,h2,h3,h4,h5,h6⟩:=xE h rfl;refine⟨_,_,h1,h2,h3,h4,λj hj _=>h5 j (λe'=>hj (by simp[KW,hx,uG,e'])) (by simp[AV.ids]),λN D w a s=>?_⟩
 have hv:=s.uz hx;have hy:=Fy N D w base s.nw _ (s.Fm y);unfold cw at hv;simp only[AV.isAgg,jz,aq] at hv;obtain⟨nm,g1,hv⟩:=hv;have KG:=xB mI yz s.nw g1;generalize hn:min (aQ (β:=te.den) ys) len=m;have OS:min (List.length (α:=te.den) ys) len=m:=hn;cases hb:nm.base with
 |none=>rw[hb] at hv;rw[KG] at hv;cases hv.1
 |some ad=>
  rw[hb] at hv;simp only at hv;rw[if_neg (by rw[KG];simp)] at hv
  obtain⟨o,n',e',u,room,i1,i2,i3,i4,i5,a',sA,rfl,i6,rfl,i7⟩:=hv;simp only[zdT] at i4;have KH:=A3 yz s.nw g1;rw[i2] at KH;simp only[zdT,Sh.arr.injEq] at KH;obtain⟨rfl,rfl⟩:=KH;rw[iL] at i7;obtain⟨j1,j2⟩:=qO N D w base s.nw nm ad o g1 hb i1;simp only[aq,iy] at j2;obtain⟨hlen,zaj⟩:=j2;have zak:eg N D w te xs (λj=>aZ w ad (o+j)):=zaj;have zdB:List.length (α:=te.den) xs=n':=hlen;obtain⟨W,w1,w2,w3,w4⟩:=zak.cells;obtain⟨cs,c1,c2,c3,c4,c5⟩:=hy.first (P:=P) (n:=m) (by omega)
  have hml:m<=len:=by omega
  have hW:W.length=n'*te.size:=by rw[w1];congr 1
  have nV:off*te.size+m*te.size<=n'*te.size:=by rw[<-zd7];exact zd6 _ (by omega)
  have hyt:ys.take len=ys.take m:=by
   rcases Nat.le_total (List.length (α:=te.den) ys) len with hle|hle
   ·rw[zen hle,zen (by omega)]
   ·have:m=len:=by omega
    rw[this]
  have IU:aQ (β:=te.den) (ys.take m)=m:=by simp only[aQ,zeh];simp only[aQ] at hn;omega
  have htx:aQ (β:=te.den) (xs.take off)=off:=by simp only[aQ,zeh];omega
  have O8:(W.take (off*te.size)).length=off*te.size:=by rw[zeh];omega
  have hval:cw N D w (.arr n' te (xs.take off++(ys.take len++xs.drop (off+min ys.length len)))) (.agg (W.take (off*te.size)++(cs++W.drop ((off+m)*te.size))).toArray):=by
   rw[hyt,OS];refine vr.2 ⟨_,rfl,?_,?_,?_⟩
   ·simp only[List.size_toArray,zdW,O8,c1,zei,hW,zd7];omega
   ·show List.length (α:=te.den) _=n'
    simp only[zdW,zeh,zei];simp only[aQ] at IU hn;omega
   ·have key:eg N D w te (xs.take off++(ys.take m++xs.drop (off+m)):List te.den) ((W.take (off*te.size)++(cs++W.drop ((off+m)*te.size)))[·]?):=by
     refine eg.rk ((w3.take off).congr λj hj=>?_) (by rw[O8,htx]) (eg.rk c2 (by rw[c1,IU]) ((w3.drop (off+m)).congr λj hj=>?_))
     ·rw[htx] at hj
      rw[zej,if_pos hj]
     ·rw[zek]
    exact key.congr λj hj=>by simp
  obtain⟨k1,⟨C,Ld,fz,k2,k3,k4⟩,D',k5,k6⟩:=h6 N D w base s.nw nm ad o _ g1 hb i1 hval;have tX:(Value.agg (W.take (off*te.size)++(cs++W.drop ((off+m)*te.size))).toArray).cells.toList=W.take (off*te.size)++(cs++W.drop ((off+m)*te.size)):=by simp[Value.cells]
  have Ya:w.setCells ad.block (ad.off+o) (W.take (off*te.size)++(cs++W.drop ((off+m)*te.size)))=w.setCells ad.block (ad.off+o+off*te.size) cs:=by
   have:=HE (b:=ad.block) (o:=ad.off+o) (w:=w) (pre:=W.take (off*te.size)) (cs:=cs) (suf:=W.drop ((off+m)*te.size)) (λj v hj=>?_) (λj v hj=>?_)
   ·rw[O8] at this;exact this
   ·rw[zej] at hj
    split at hj
    ·have:=w2 j v hj
     simpa only[aZ,zd8] using this
    ·cases hj
   ·rw[zek] at hj
    have:=w2 _ v hj;simp only[aZ] at this;rw[<-this,O8,c1];congr 2
    rw[zd7];omega
  rw[tX,Ya] at k5 k6;have kr:(storeCells a' cs).run P w= .ok () (w.setCells ad.block (ad.off+o+off*te.size) cs):=by
   by_cases hc:cs=[]
   ·subst hc;rfl
   ·have lV:sA≠0:=by
     intro e0;have:m=0:=by omega
     rw[this,zeB] at c1;exact hc (zem c1)
    rcases i7 with rfl|i7
    ·have:=pf (P:=P) (w:=w) (b:=ad.block) (o:=ad.off+(o+off*te.size)) k2 k3 (by rw[c1];have k4':ad.off+o+n'*te.size<=C.size:=k4;omega) c3
     simpa only[Addr.at_,zd8] using this
    ·exact absurd i7 lV
  have hmm:min (aQ (β:=te.den) ys) len=m:=hn;refine⟨N,D',_,_, .inl ?_,k6,k5,ek.2 rfl⟩;simp only[execOp,resolve,invoke,builtin,Builtin.copy_,zee,zef,zeg];simp[zR,i4,run_underlying hu,c5,run_sizeOf w hi,<-hsz,hmm,c4,kr,goInt]
theorem O9 {dst rt pos after guard}{x y:Operand}{args:Array Operand}{tys:Array TypeId}{tx:TypeId}{A6:List TypeId}{st:St}{k:AV->St->Option α}{r:α}(ha:args.toList=[x,y])(ht:tys.toList=tx::A6)
  (h:KV P st tx (st.ev x) (st.ev y) k=some r):nU P base ⟨dst, .call ⟨.builtin .copy,args,tys⟩,rt,pos,after,guard⟩ st k r:=by
 unfold KV at h;split at h
 ·rename_i e te he
  obtain⟨hu,Nt,hsz,hb1,i,hi,vB,Rn,_⟩:=qq he;obtain⟨ys,ids,h,Fy⟩:=uM h;split at h
  ·rename_i q off hx
   split at h
   ·rename_i t' xs ho
    split at h
    ·cases h
    ·rename_i h0
     simp only[zd1] at h0;subst h0;split at h
     ·rename_i BZ xN
      obtain⟨rfl,rfl⟩:=iY xN;have nz:args= #[x,y]:=by cases args;simp at ha;subst ha;rfl
      have zR:tys[0]?=some tx:=by
       have:tys.toList[0]?=some tx:=by rw[ht];rfl
       simpa using this
      subst nz;refine⟨_,_,h,rfl,rfl,rfl,λj hj _=>?_,λN D w a s=>?_⟩
      ·have BU:j≠q:=by
        intro e';apply hj;simp[KW,hx,uG,e']
       simp[St.set,BU]
      ·have hv:=s.uz hx
       have hy:=Fy N D w base s.nw _ (s.Fm y);unfold cw at hv;simp only[AV.isAgg,jz,aq] at hv;obtain⟨nm,g1,g2,g3,g4,g5⟩:=hv;obtain⟨mG,i1,i2,i3,i4,i5,i6⟩:=s.nw.obj q _ ho;rw[g1] at i1;cases i1;generalize hn:min (aQ (β:=t'.den) ys) (aQ (β:=t'.den) BZ)=n;have OS:min (List.length (α:=t'.den) ys) (List.length (α:=t'.den) BZ)=n:=hn;have zal:(ys.take (List.length (α:=t'.den) BZ)++BZ.drop (List.length (α:=t'.den) ys):List t'.den)=ys.take n++BZ.drop n:=by
        rcases Nat.le_total (List.length (α:=t'.den) ys) (List.length (α:=t'.den) BZ) with hle|hle
        ·have:n=List.length (α:=t'.den) ys:=by omega
         rw[this,zen hle,ze4]
        ·have:n=List.length (α:=t'.den) BZ:=by omega
         rw[this,List.drop_of_length_le hle,List.drop_of_length_le (zd9 _)]
       obtain⟨cs,c1,c2,c3,c4,c5⟩:=hy.first (P:=P) (n:=n) (by omega)
       rw[zal];have O3:aQ (β:=t'.den) (ys.take n++BZ.drop n)=nm.len:=by
        rw[i4];simp only[aQ,zdW,zeh,zei];simp only[aQ] at hn;omega
       have Yb: ∀m,m=aQ (β:=t'.den) BZ->Nat.min (aQ (β:=t'.den) ys) m=n:=λm hm=>by rw[hm];exact hn
       cases hb:nm.base with
       |none=>
        rw[hb] at g5;obtain⟨g5,g6⟩:=g5;simp only[zdT] at g6;have Hn:aQ (β:=t'.den) BZ=0:=by omega
        have WY:n=0:=by omega
        have Ll:BZ=[]:=zem Hn;subst WY;subst Ll;have vE:(kq st.h q (.row false t' (ys.take 0++([]:List t'.den).drop 0:List t'.den)))=st.h:=by simpa using xJ ho
        refine⟨N,D,w,_, .inl ?_,?_,?_,ek.2 rfl⟩
        ·have yB:cs=[]:=zem (by rw[c1];simp)
         subst yB;simp only[execOp,resolve,invoke,builtin,Builtin.copy_,zee,zef,zeg];simp[zR,g6,run_underlying hu,c5,run_sizeOf w hi,<-hsz,c4,goInt]
        ·rw[St.tf,vE];exact Ext.refl _ _ _ _
        ·rw[St.tf,vE];exact s.nw
       |some ad=>
        rw[hb] at g5 i6;obtain⟨v,room,g6,g7,a',sA,rfl,g8,rfl,g9⟩:=g5;simp only[zdT] at g6;obtain⟨j1,⟨C,Ld,fz,j2,j3,j4⟩,j5,j6⟩:=i6;replace j4:=j4 rfl
        simp only[zdU,if_false] at j5;have mI:eg N D w t' BZ (aZ w ad):=j6;have Ft:cs.length<=nm.cap*t'.size:=by rw[c1];exact zd6 _ (by omega)
        have kr:(storeCells a' cs).run P w= .ok () (w.setCells ad.block ad.off cs):=by
         by_cases hc:cs=[]
         ·subst hc;rfl
         ·have lV:sA≠0:=by
           intro e0;have:n=0:=by omega
           rw[this,zeB] at c1;exact hc (zem c1)
          rcases g9 with rfl|g9
          ·simp only[zeB,Addr.at_,zeM]
           exact pf j2 (j4.imp_right And.left) (by omega) c3
          ·exact absurd g9 lV
        obtain⟨o1,o2,o3⟩:=kX ad.block cs ad.off w;obtain⟨C',f1,f2⟩:=jg ad.block cs ad.off w C Ld fz j2;have Ue:=jF ad.block cs ad.off w;have one:=kD ad.block cs ad.off w;have hD: ∀b,D b->(w.setCells ad.block ad.off cs).heap[b]?=w.heap[b]?:=λb vl=>one b (λe=>j5.2 (e▸vl));have KJ:=mI.mono (λ_ h=>h) hD;have key:=s.nw.write (o':= .row false t' (ys.take n++BZ.drop n:List t'.den)) ho rfl g1 hb o1 o2 o3 Ue one (by
         refine⟨nm,g1,i2,i3,O3.symm,i5,?_⟩;rw[hb];show _/\_/\_/\_
         refine⟨j1,⟨C',Ld,fz,f1,by rw[f2];exact j3,λ_=>by rw[f2];exact j4⟩,by simp only[zdU,if_false];exact j5,?_⟩
         have IU:aQ (β:=t'.den) (ys.take n)=n:=by simp only[aQ,zeh];simp only[aQ] at hn;omega
         have hB:eg N D (w.setCells ad.block ad.off cs) t' (ys.take n:List t'.den) (aZ (w.setCells ad.block ad.off cs) ad):=by
          refine(c2.mono (λ_ h=>h) hD).congr λj hj=>?_;rw[IU,<-c1] at hj;have:=World.cell?_setCells_in ad.block cs ad.off w (λj hj=>iZ j2 (by omega)) j hj
          simp only[aZ];rw[this];simp
         have hC:eg N D (w.setCells ad.block ad.off cs) t' (BZ.drop n:List t'.den) (λj=>aZ (w.setCells ad.block ad.off cs) ad (n*t'.size+j)):=by
          refine(KJ.drop _).congr λj hj=>?_;simp only[aZ];refine(World.cell?_setCells_out _ _ _ _ _ (λ_ _=>?_)).symm;right
          simp only;rw[c1];omega
         exact eg.append hB (by rw[IU];exact hC))
        refine⟨N,D,_,_, .inl ?_,by rw[St.tf];exact key.2,by rw[St.tf];exact key.1,ek.2 rfl⟩
        have hm:=Yb nm.len (by omega)
        have hm2:min (aQ (β:=t'.den) ys) nm.len=n:=hm;simp only[execOp,resolve,invoke,builtin,Builtin.copy_,zee,zef,zeg];simp[zR,g6,run_underlying hu,c5,run_sizeOf w hi,<-hsz,hm2,c4,kr,goInt]
     ·cases h
   ·cases h
  ·rename_i q p off len hx
   split at h
   ·cases h
   rename_i mI;obtain⟨u,h,yz,qO⟩:=pB h;split at h
   ·rename_i n t' xs
    split at h
    ·rename_i BZ xN
     obtain⟨rfl,rfl⟩:=iY xN;exact HF ha ht he hx (by simpa using mI) Fy (by simpa [AV.sh] using yz) (λN D w base S nm a o h1 h2 h3=>by obtain⟨q1,q2,_⟩:=qO N D w base S nm a o h1 h2 h3;exact⟨q1,q2⟩) h
    ·cases h
   ·cases h
  ·cases h
 ·cases h
end AM
namespace AM
open Go
variable {α:Type}{P:Program}{base:Nat}
theorem CZ {β γ:Type}{f:β->γ}{l:List β}{a b:γ}(h:l.map f=[a,b]): ∃x y,l=[x,y]/\f x=a/\f y=b:=by
 match l,h with
 | [x,y],h=>simp at h;exact⟨x,y,rfl,h.1,h.2⟩
theorem HG {β γ:Type}{f:β->γ}{l:List β}{a:γ}(h:l.map f=[a]): ∃x,l=[x]/\f x=a:=by
 match l,h with
 | [x],h=>simp at h;exact⟨x,rfl,h⟩
theorem HH {dst rt pos after guard}{b:Builtin}{args:Array Operand}{tys:Array TypeId}{st:St}{k:AV->St->Option α}{r:α}
  (h:AT P st (name st.ep (dst.getD 999) 0) b (args.toList.map st.ev) tys.toList k=some r):nU P base ⟨dst, .call ⟨.builtin b,args,tys⟩,rt,pos,after,guard⟩ st k r:=by
 generalize ha:args.toList.map st.ev=l at h;generalize ht:tys.toList=tl at h;unfold AT at h;split at h
 ·rename_i x t A6
  obtain⟨x',hx,rfl⟩:=HG ha;exact Rj hx ht h
 ·rename_i x t A6
  obtain⟨x',hx,rfl⟩:=HG ha;exact Rp hx ht h
 ·rename_i x y _
  obtain⟨x',y',hx,rfl,rfl⟩:=CZ ha;exact Rq hx h
 ·rename_i x y _
  obtain⟨x',y',hx,rfl,rfl⟩:=CZ ha;exact Rr hx h
 ·rename_i x y tx ty _
  obtain⟨x',y',hx,rfl,rfl⟩:=CZ ha;exact Jj rfl hx ht h
 ·rename_i x y tx _
  obtain⟨x',y',hx,rfl,rfl⟩:=CZ ha;exact O9 hx ht h
 ·rename_i x tx _
  obtain⟨x',hx,rfl⟩:=HG ha;exact Lq hx ht h
 ·cases h
theorem Pb {st:St}{o:Oper}{k:AV->St->Option α}{r:α}(h:aop P st o k=some r):nU P base o st k r:=by
 obtain⟨dst,op,ty,pos,after,guard⟩:=o;unfold aop at h;simp only at h;split at h
 ·exact OV h
 ·exact Je h
 ·exact Fu h
 ·exact DB h
 ·exact Lg h
 ·exact OU h
 ·exact Lc h
 ·exact OW h
 ·exact Rg h (λb hb N D w a s vm=>O7 hb N D w a s vm)
 ·exact OX h
 ·exact Hz rfl h
 ·exact Ht h
 ·exact Le rfl h
 ·exact Rh rfl h
 ·exact Lv h
 ·exact CA rfl h
 ·exact DG rfl h
 ·exact DD h
 ·exact Lh h
 ·exact Lj h
 ·exact Jh h
 ·exact Fv h
 ·exact HH h
 ·cases h
end AM
namespace AM
open Go
variable {α:Type}{P:Program}{base:Nat}
def xO (P:Program)(base:Nat)(W:List Nat)(f:FuncId)(args:List AV)(st:St)(fresh:Nat)(av:AV)(fe:St):Prop:=
 (∃fn,P.funcs[f]?=some fn/\fn.body.isNone=false/\(fn.name== "runtime.NumGoroutine")=false)/\
 fe.t=st.t/\fe.nt=st.nt/\fe.ep=st.ep/\(∀id,id∉W->id/100≠fresh/100->fe.h id=st.h id)/\
 ∀N D w,jX N D w base st.h->∀lN:List Value,bF N D w args lN->Calls P f lN.toArray w λe w'=>match e with
  | .returned v=> ∃N' D',Ext N D w st.h N' D' w' fe.h/\jX N' D' w' base fe.h/\cw N' D' w' av v
  |_=>False
def sC (P:Program)(base:Nat)(env:Env α):Prop:= ∀f args st fresh k r,fresh%100=0->env.call f args st fresh k=some r->∃av fe,k av fe=some r/\xO P base (env.fp f args st fresh).2 f args st fresh av fe
def DL (P:Program)(base:Nat)(W:List Nat)(o:Oper)(st:St)(av:AV)(fe:St):Prop:=
 fe.t=st.t/\fe.nt=st.nt/\fe.ep=st.ep/\(∀id,id∉W->qz st.ep o id=false->fe.h id=st.h id)/\
 ∀N D w a,kx N D w base st a->∀(next:Act->World->Prop) (Q:Exit->Act->World->Prop),
  (∀N' D' w' v,Ext N D w st.h N' D' w' fe.h->jX N' D' w' base fe.h->cw N' D' w' av v->next (a.put o.dst v) w')->o.wp P a w next Q
theorem Pc {st fe:St}{o:Oper}{av:AV}(h:lx P base o st av fe):DL P base (KW st o) o st av fe:=by
 obtain⟨h1,h2,h3,h4,h5⟩:=h;refine⟨h1,h2,h3,h4,λN D w a s next Q hn=>?_⟩;obtain⟨N',D',w',v,jL,hx,hs,hv⟩:=h5 N D w a s;unfold Oper.wp;rcases jL with jL|⟨jL,rfl⟩
 ·rw[jL,Oper.upon_value];exact hn N' D' w' v hx hs hv
 ·rw[jL,Oper.upon_skip];exact hn N' D' w' _ hx hs hv
theorem B4 {st fe:St}{av:AV}{dst ty pos after guard}{fo:Operand}{args:Array Operand}{tys:Array TypeId}{f:FuncId}{cs:List AV}{W:List Nat}
  (hf:(∃first captured,st.ev fo= .val (.func (.func f) first captured)/\first.size+captured.size=0/\cs=[])\/st.ev fo= .wZ (.func f) cs)
  (h:xO P base W f (args.toList.map st.ev++cs) st (name st.ep (dst.getD 999) 0) av fe):DL P base W ⟨dst, .call ⟨.value fo,args,tys⟩,ty,pos,after,guard⟩ st av fe:=by
 obtain⟨⟨fn,g1,g2,g3⟩,h1,h2,h3,h4,h5⟩:=h;refine⟨h1,h2,h3,λid hi hn=>h4 id hi λe=>?_,λN D w a s next Q hn=>?_⟩
 ·rw[rh] at e
  simp[qz,makes,e] at hn
 ·have nz:bF N D w (args.toList.map st.ev) (args.map a.eval).toList:=by
   have:=uL s args.toList;simpa using this
  have Yc: ∃lN:List Value,bF N D w (args.toList.map st.ev++cs) lN/\(execOp a.eval ⟨dst, .call ⟨.value fo,args,tys⟩,ty,pos,after,guard⟩).run P w= .ok (.enter f lN.toArray) w:=by
   have hcf: ∀xs:Array Value,(callFunc f xs).run P w= .ok (.enter f xs) w:=by
    intro xs;simp only[callFunc,zee,run_program,zef,g1,g3,g2,zdU,if_false,zeg]
   rcases hf with⟨first,captured,e1,e2,rfl⟩|e1
   ·have Yd:first= #[]:=zeL (by omega)
    have Ft:captured= #[]:=zeL (by omega)
    subst Yd;subst Ft;refine⟨(args.map a.eval).toList,by simpa using nz,?_⟩
    simp[execOp,resolve,s.sS e1,Deferred.ofValue,invoke,hcf];apply Array.ext';simp
   ·have hv:=s.uz e1
    unfold cw at hv;simp only[AV.isAgg,jz,aq] at hv;obtain⟨cc,h6,h7⟩:=hv;simp only[zdT] at h6;refine⟨(args.map a.eval).toList++cc.toList,?_,?_⟩
    ·have app: ∀(l:List AV) (c:List Value),bF N D w l c->bF N D w (l++cs) (c++cc.toList):=by
      intro l;induction l with
      |nil=>intro c hc;simp only[bF] at hc;subst hc;simpa using h7
      |cons x xs ih=>
       intro c hc;simp only[bF] at hc;obtain⟨c1,c2,rfl,q1,q2⟩:=hc;simp only[zes,bF];exact⟨c1,c2++cc.toList,rfl,q1,ih c2 q2⟩
     exact app _ _ nz
    ·simp[execOp,resolve,h6,Deferred.ofValue,invoke,hcf]
  obtain⟨lN,k1,k2⟩:=Yc;unfold Oper.wp;rw[k2,Oper.upon_enter];refine(h5 N D w s.nw lN k1).mono λe w' he=>?_;cases e with
  |returned v=>
   obtain⟨N',D',q1,q2,q3⟩:=he;exact hn N' D' w' v q1 q2 q3
  |panicked c=>exact he.elim
  |outgrown=>exact he.elim
theorem Jk (a b:Nat):name a b 0%100=0:=by unfold name;omega
theorem xP {env:Env α}(he:sC P base env){st:St}{o:Oper}{k:AV->St->Option α}{r:α}(h:I7 P env st o k=some r): ∃av fe,k av fe=some r/\DL P base (yy env st o).2 o st av fe:=by
 obtain⟨dst,op,ty,pos,after,guard⟩:=o;unfold I7 at h;simp only at h;split at h
 ·rename_i fo args tys
  split at h
  ·rename_i f first captured e1
   split at h
   ·rename_i hs
    obtain⟨av,fe,h1,h2⟩:=he _ _ _ _ _ _ (Jk _ _) h;refine⟨av,fe,h1,?_⟩;simp only[yy,e1];exact B4 (cs:=[]) (.inl ⟨first,captured,e1,hs,rfl⟩) (by simpa using h2)
   ·cases h
  ·rename_i f cs e1
   obtain⟨av,fe,h1,h2⟩:=he _ _ _ _ _ _ (Jk _ _) h;refine⟨av,fe,h1,?_⟩;simp only[yy,e1];exact B4 (.inr e1) h2
  ·cases h
 ·rename_i v8
  obtain⟨av,fe,h1,h2⟩:=Pb (base:=base) h;refine⟨av,fe,h1,?_⟩;have e:(yy env st ⟨dst,op,ty,pos,after,guard⟩).2=KW st ⟨dst,op,ty,pos,after,guard⟩:=by
   unfold yy;simp only;split<;>first|rfl|skip
   all_goals (rename_i e1;exact absurd rfl (v8 _ _ _))
  rw[e];exact Pc h2
end AM
namespace AM
open Go
variable {α:Type}{P:Program}{base:Nat}
def z5:Out->Exit
 | .norm=> .normal| .ret=> .ret| .exit id=> .exit id
def pQ (P:Program):List Item->(Exit->Act->World->Prop)->Exit->Act->World->Prop
 | [],Q=>Q
 | .code c::k,Q=>Exit.then (c.wp P (pQ P k Q)) (pQ P k Q)
 | .Nf id::k,Q=>Exit.inBlock id (pQ P k Q)
 |_::k,Q=>pQ P k Q
def Item.clean:Item->Bool
 | .code _| .Nf _=>true
 |_=>false
theorem tI (Q:Exit->Act->World->Prop): ∀(k:List Item) (a:Act) (w:World),pQ P k Q .ret a w=Q .ret a w
 | [],_,_=>rfl
 | .code c::k,a,w=>by simp only[pQ,Exit.then];exact tI Q k a w
 | .Nf id::k,a,w=>by simp only[pQ,Exit.inBlock];exact tI Q k a w
 | .ops _ _::k,a,w=>by simp only[pQ];exact tI Q k a w
 | .zF _ _ _ _::k,a,w=>by simp only[pQ];exact tI Q k a w
theorem tZ (Q:Exit->Act->World->Prop)(id:Nat): ∀(k:List Item) (a:Act) (w:World),pQ P k Q (.exit id) a w=match AM.unwind id k with|some k'=>pQ P k' Q .normal a w|none=>Q (.exit id) a w
 | [],_,_=>rfl
 | .code c::k,a,w=>by simp only[pQ,Exit.then,AM.unwind];exact tZ Q id k a w
 | .Nf i::k,a,w=>by
  simp only[pQ,Exit.inBlock,AM.unwind];by_cases e:i=id
  ·subst e;simp
  ·rw[if_neg (λe'=>e e'.symm),if_neg e];exact tZ Q id k a w
 | .ops _ _::k,a,w=>by simp only[pQ,AM.unwind];exact tZ Q id k a w
 | .zF _ _ _ _::k,a,w=>by simp only[pQ,AM.unwind];exact tZ Q id k a w
def nb (fn:Func):Code->Prop
 | .seq a b=>nb fn a/\nb fn b
 | .cond _ a b=>nb fn a/\nb fn b
 | .block _ c=>nb fn c
 | .scope c=>nb fn c
 | .loop c=>(∀id,mn c=some id->qW id fn=c)/\nb fn c
 |_=>True
def Item.ok (fn:Func):Item->Prop
 | .code c=>nb fn c
 |_=>True
def Rw (P:Program)(base:Nat)(fn:Func)(id:Nat)(st:St)(out:Out)(fe:St):Prop:=
 ∀N D w a,kx N D w base st a->(Code.loop (qW id fn)).wp P (λe a' w'=>e=z5 out/\∃N' D',kx N' D' w' base fe a'/\Ext N D w st.h N' D' w' fe.h) a w
def xQ (P:Program)(base:Nat)(fn:Func)(env:Env α):Prop:= ∀id st k r,env.loop id st k=some r->∃out fe,k out fe=some r/\Rw P base fn id st out fe
def zam (P:Program)(todo:List Item)(Q:Exit->Act->World->Prop)(a:Act)(w:World):Prop:=match todo with
 | .ops all rest::k=> ∀i,i<=all.size->rest=all.toList.drop i->wpOps P all (pQ P k Q) (List.range' i (all.size-i)) a w
 |todo=>pQ P todo Q .normal a w
theorem kx.W5 {N:Names}{D:Nat->Prop}{w:World}{st:St}{a:Act}(s:kx N D w base st a)(e:Nat):kx N D w base {st with ep:=e} a:=⟨s.nw,s.tmps,s.nt,s.defers⟩
theorem pC {k:List Item}(hk: ∀x∈k,x.clean=true){Q:Exit->Act->World->Prop}{a:Act}{w:World}(h:zam P k Q a w):pQ P k Q .normal a w:=by
 cases k with
 |nil=>exact h
 |cons x k=>
  cases x with
  |ops all rest=>have:=hk _ (zd0 ..);simp[Item.clean] at this
  |zF all i rest Dq=>have:=hk _ (zd0 ..);simp[Item.clean] at this
  |code c=>exact h
  |Nf id=>exact h
end AM
namespace AM
open Go
variable {α:Type}{P:Program}{base:Nat}
theorem kx.refine {N:Names}{D:Nat->Prop}{w:World}{st:St}{a:Act}(s:kx N D w base st a)(slot:Nat){u:AV}(hu:cw N D w u (a.tmps.getD slot Go.undef)):kx N D w base (st.put (some slot) u) a:=by
 refine⟨by rw[St.BQ];exact s.nw,λx=>?_,by rw[St.Hl];exact s.nt,s.defers⟩
 simp only[St.put];split
 ·by_cases e:x=slot
  ·subst e;simp only[if_true];exact hu
  ·simp only[if_neg e];exact s.tmps x
 ·exact s.tmps x
structure wP (base:Nat)(st wQ:St):Prop where
 h:wQ.h=st.h
 nt:wQ.nt=st.nt
 ep:wQ.ep=st.ep
 rel: ∀N D w a,kx N D w base st a->kx N D w base wQ a
theorem wP.refl (base:Nat)(st:St):wP base st st:=⟨rfl,rfl,rfl,λ_ _ _ _ h=>h⟩
theorem wP.put {st:St}{slot:Nat}{v:Value}(e:st.t slot= .val v):wP base st (st.put (some slot) (.val v)):=
 ⟨St.BQ _ _ _,St.Hl _ _ _,St.Rb _ _ _,λN D w a s=>s.refine slot (by have:=s.tmps slot;rwa [e] at this)⟩
theorem pg {N:Names}{D:Nat->Prop}{w:World}{st:St}{a:Act}(s:kx N D w base st a){all:Array Oper}{j slot:Nat}{b:Bool}(hj:(all[j]?).bind (·.dst)=some slot)(e:st.t slot= .val (.bool b)):yielded all a.tmps j=some b:=by
 have h1:=s.tmps slot;rw[e] at h1;replace h1:=ek.1 h1
 simp only[yielded,hj,zdM];cases h2:a.tmps[slot]? with
 |none=>simp[h2,Go.undef] at h1
 |some v=>simp[h2] at h1;subst h1;rfl
theorem B5 {N:Names}{D:Nat->Prop}{w:World}{st:St}{a:Act}(s:kx N D w base st a){all:Array Oper}{j slot:Nat}{c:Array Value}(hj:(all[j]?).bind (·.dst)=some slot)(e:st.t slot= .val (.tuple c)):yielded all a.tmps j=none:=by
 have h1:=s.tmps slot;rw[e] at h1;replace h1:=ek.1 h1
 simp only[yielded,hj,zdM];cases h2:a.tmps[slot]? with
 |none=>rfl
 |some v=>simp[h2] at h1;subst h1;rfl
theorem HI {all:Array Oper}{o:Oper}{st:St}{next skip:St->Option α}{r:α}(h:guarded all o st next skip=some r):
  (∃wQ,next wQ=some r/\wP base st wQ/\∀N D w a,kx N D w base st a->Region.wanted o (yielded all a.tmps)=true)\/
  (∃wQ,skip (wQ.put o.dst (.val Go.undef))=some r/\wP base st wQ/\∀N D w a,kx N D w base st a->Region.wanted o (yielded all a.tmps)=false):=by
 unfold guarded at h;split at h
 ·rename_i hg
  exact .inl ⟨st,h,wP.refl _ _,λN D w a s=>by simp[Region.wanted,hg]⟩
 ·rename_i j want hg
  split at h
  ·cases h
  ·rename_i slot hj
   split at h
   ·rename_i b hb
    cases b<;>cases want<;>simp only at h
    ·exact .inl ⟨_,h,wP.put hb,λN D w a s=>by simp[Region.wanted,hg,pg s hj hb]⟩
    ·exact .inr ⟨_,h,wP.put hb,λN D w a s=>by simp[Region.wanted,hg,pg s hj hb]⟩
    ·exact .inr ⟨_,h,wP.put hb,λN D w a s=>by simp[Region.wanted,hg,pg s hj hb]⟩
    ·exact .inl ⟨_,h,wP.put hb,λN D w a s=>by simp[Region.wanted,hg,pg s hj hb]⟩
   ·rename_i c hc
    exact .inr ⟨st,h,wP.refl _ _,λN D w a s=>by simp[Region.wanted,hg,B5 s hj hc]⟩
   ·cases h
end AM
namespace AM
open Go
variable {α:Type}{P:Program}{base:Nat}
theorem Rx {st:St}{slot:Nat}{v:AV}(e:st.t slot=v):st.put (some slot) v=st:=by
 simp only[St.put];split
 ·have:(λx=>if x=slot then v else st.t x)=st.t:=by
   funext x
   by_cases h:x=slot
   ·subst h;simp[e]
   ·simp[h]
  rw[this]
 ·rfl
theorem FA {all:Array Oper}{o:Oper}{st:St}{next skip:St->Option α}{r:α}(h:guarded all o st next skip=some r):
  (next st=some r/\∀T:St,(∀x∈o.looksAt all,T.t x=st.t x)->∀N D w a,kx N D w base T a->Region.wanted o (yielded all a.tmps)=true)\/
  (skip (st.put o.dst (.val Go.undef))=some r/\∀T:St,(∀x∈o.looksAt all,T.t x=st.t x)->∀N D w a,kx N D w base T a->Region.wanted o (yielded all a.tmps)=false):=by
 unfold guarded at h;split at h
 ·rename_i hg
  exact .inl ⟨h,λT _ N D w a s=>by simp[Region.wanted,hg]⟩
 ·rename_i j want hg
  split at h
  ·cases h
  ·rename_i slot hj
   have tq:slot∈o.looksAt all:=by simp[Oper.looksAt,hg,hj]
   split at h
   ·rename_i b hb
    cases b<;>cases want<;>simp only[Rx hb] at h
    ·exact .inl ⟨h,λT hT N D w a s=>by simp[Region.wanted,hg,pg s hj ((hT slot tq).trans hb)]⟩
    ·exact .inr ⟨h,λT hT N D w a s=>by simp[Region.wanted,hg,pg s hj ((hT slot tq).trans hb)]⟩
    ·exact .inr ⟨h,λT hT N D w a s=>by simp[Region.wanted,hg,pg s hj ((hT slot tq).trans hb)]⟩
    ·exact .inl ⟨h,λT hT N D w a s=>by simp[Region.wanted,hg,pg s hj ((hT slot tq).trans hb)]⟩
   ·rename_i c hc
    exact .inr ⟨h,λT hT N D w a s=>by simp[Region.wanted,hg,B5 s hj ((hT slot tq).trans hc)]⟩
   ·cases h
theorem Jl {N:Names}{D:Nat->Prop}{w:World}{h:Nat->Option fO}(S:jX N D w base h){v:AV}{c:Value}(hv:cw N D w v c):cw N D w (Hg h v) c:=by
 unfold Hg;split
 ·rename_i i p f off
  split
  ·rename_i fs hs
   split
   ·rename_i hd
    simp only[zd1] at hd;unfold cw at hv;simp only[AV.isAgg,jz,aq] at hv;obtain⟨nm,a,o,h1,h2,h3,h4⟩:=hv;have yz:=nP (s:=⟨λ_=> .undef,h,0,0⟩) hs S h1;refine ju.2 ⟨nm,a,_,h1,h2,tp h3 yz hd.2,?_⟩;simp only[zdT] at h4;rw[h4,hd.1]
   ·exact hv
  ·exact hv
 ·exact hv
theorem kx.norm {N:Names}{D:Nat->Prop}{w:World}{st:St}{a:Act}(s:kx N D w base st a):kx N D w base (rN st) a:=⟨s.nw,λx=>Jl s.nw (s.tmps x),s.nt,s.defers⟩
structure sM where
 dst:Option Tmp
 av:AV
 W:Nat->Bool
 h:Nat->Option fO
def sM.ap (E:sM)(st:St):St:=St.put {st with h:=λid=>if E.W id then E.h id else st.h id} E.dst E.av
theorem sM.UK (E:sM)(st:St)(id:Nat):(E.ap st).h id=if E.W id then E.h id else st.h id:=by unfold sM.ap;rw[St.BQ]
theorem sM.W6 (E:sM)(st:St):(E.ap st).nt=st.nt:=by unfold sM.ap;rw[St.Hl]
theorem sM.W7 (E:sM)(st:St):(E.ap st).ep=st.ep:=by unfold sM.ap;rw[St.Rb]
theorem sM.Pd (E:sM)(st:St)(x:Nat):(E.ap st).t x=if E.dst=some x/\x<st.nt then E.av else st.t x:=by
 unfold sM.ap;cases hd:E.dst with
 |none=>simp[St.put]
 |some d=>
  simp only[St.put,zdT];by_cases h1:d<st.nt
  ·rw[if_pos h1]
   by_cases h2:x=d
   ·subst h2;simp[h1]
   ·simp[h2,Ne.symm h2]
  ·rw[if_neg h1]
   by_cases h2:d=x
   ·subst h2;simp[h1]
   ·simp[h2]
def lI (E:Nat->sM)(X:Nat->Bool)(S0:St):Nat->St
 |0=>S0
 |n+1=>if X n then(E n).ap (lI E X S0 n) else lI E X S0 n
theorem sg (E:Nat->sM)(X:Nat->Bool)(S0:St): ∀n,(lI E X S0 n).nt=S0.nt
 |0=>rfl
 |n+1=>by simp only[lI];split<;>simp[sM.W6,sg E X S0 n]
theorem yn (E:Nat->sM)(X:Nat->Bool)(S0:St): ∀n,(lI E X S0 n).ep=S0.ep
 |0=>rfl
 |n+1=>by simp only[lI];split<;>simp[sM.W7,yn E X S0 n]
theorem wj {E:Nat->sM}{X Y:Nat->Bool}{S0:St}{x:Nat}: ∀n,(∀j,j<n->X j≠Y j->(E j).dst≠some x)->(lI E X S0 n).t x=(lI E Y S0 n).t x
 |0,_=>rfl
 |n+1,h=>by
  have ih:=wj (S0:=S0) n λj hj=>h j (by omega)
  simp only[lI];cases hx:X n<;>cases hy:Y n<;>simp only[if_true,if_false,zdU,sM.Pd,sg]
  ·exact ih
  ·rw[if_neg (λe=>h n (by omega) (by rw[hx,hy];simp) e.1)];exact ih
  ·rw[if_neg (λe=>h n (by omega) (by rw[hx,hy];simp) e.1)];exact ih
  ·split
   ·rfl
   ·exact ih
theorem wk {E:Nat->sM}{X Y:Nat->Bool}{S0:St}{id:Nat}: ∀n,(∀j,j<n->X j≠Y j->(E j).W id=false)->(lI E X S0 n).h id=(lI E Y S0 n).h id
 |0,_=>rfl
 |n+1,h=>by
  have ih:=wk (S0:=S0) n λj hj=>h j (by omega)
  simp only[lI];cases hx:X n<;>cases hy:Y n<;>simp only[if_true,if_false,zdU,sM.UK]
  ·exact ih
  ·rw[h n (by omega) (by rw[hx,hy];simp)];simpa using ih
  ·rw[h n (by omega) (by rw[hx,hy];simp)];simpa using ih
  ·split
   ·rfl
   ·exact ih
theorem B6 {E:Nat->sM}{X:Nat->Bool}{S0:St}{x i:Nat}(hX:X i=true)(hd:(E i).dst=some x): ∀n,i<n->(∀j,i<j->j<n->X j=true->(E j).dst≠some x)->(lI E X S0 n).t x=if x<S0.nt then(E i).av else S0.t x
 |0,h,_=>by omega
 |n+1,h,hl=>by
  have base:x<S0.nt\/¬x<S0.nt:=zec x S0.nt|>.imp id Nat.not_lt.2
  by_cases e:i=n
  ·subst e
   simp only[lI,hX,if_true,sM.Pd,hd,true_and,sg];rcases base with hb|hb
   ·simp[hb]
   ·simp only[hb,if_false]
    have out: ∀m,(lI E X S0 m).t x=S0.t x:=by
     intro m;induction m with
     |zero=>rfl
     |succ m ih=>
      simp only[lI];split
      ·rw[sM.Pd,sg,if_neg (λq=>hb q.2)];exact ih
      ·exact ih
    exact out i
  ·have ih:=B6 (S0:=S0) hX hd n (by omega) λj h1 h2 h3=>hl j h1 (by omega) h3
   simp only[lI];split
   ·rename_i hn
    rw[sM.Pd,if_neg (λq=>hl n (by omega) (by omega) hn q.1)];exact ih
   ·exact ih
theorem B7 {E:Nat->sM}{X:Nat->Bool}{S0:St}{id i:Nat}(hX:X i=true)(hd:(E i).W id=true): ∀n,i<n->(∀j,i<j->j<n->X j=true->(E j).W id=false)->(lI E X S0 n).h id=(E i).h id
 |0,h,_=>by omega
 |n+1,h,hl=>by
  by_cases e:i=n
  ·subst e
   simp only[lI,hX,if_true,sM.UK,hd]
  ·have ih:=B7 (S0:=S0) hX hd n (by omega) λj h1 h2 h3=>hl j h1 (by omega) h3
   simp only[lI];split
   ·rename_i hn
    rw[sM.UK,hl n (by omega) (by omega) hn];simpa using ih
   ·exact ih
end AM
namespace AM
open Go
def B8 (o:Oper)(acc:Array Nat):Nat:=o.after.foldl (λs e=>if Region.binds .any e then s|||2^e.on|||acc.getD e.on 0 else s) 0
def rl (l:List Oper)(acc:Array Nat):Array Nat:=l.foldl (λacc o=>acc.push (B8 o acc)) acc
theorem Gg (ops:Array Oper):Region.before ops=rl ops.toList #[]:=by
 unfold Region.before rl;rw[<-Array.foldl_toList];rfl
theorem zc: ∀(l:List Oper) (acc:Array Nat),(rl l acc).size=acc.size+l.length
 | [],acc=>by simp[rl]
 |o::l,acc=>by
  have:=zc l (acc.push (B8 o acc));simp only[rl,zeW] at this⊢;rw[this];simp;omega
theorem Bb: ∀(l:List Oper) (acc:Array Nat) (j:Nat),j<acc.size->(rl l acc)[j]?=acc[j]?
 | [],acc,j,_=>by simp[rl]
 |o::l,acc,j,h=>by
  have:=Bb l (acc.push (B8 o acc)) j (by simp;omega)
  simp only[rl,zeW] at this⊢;rw[this,zey,if_neg (by omega)]
theorem Gh: ∀(l:List Oper) (acc:Array Nat) (j:Nat) (o:Oper),l[j]?=some o->(rl l acc)[acc.size+j]?=some (B8 o (rl (l.take j) acc))
 | [],acc,j,o,h=>by simp at h
 |o'::l,acc,0,o,h=>by
  simp only[zep,zdT] at h;subst h;have:=Bb l (acc.push (B8 o' acc)) acc.size (by simp)
  simp only[rl,zeW,zeM,List.take_zero,List.foldl_nil] at this⊢;rw[this];simp
 |o'::l,acc,j+1,o,h=>by
  have:=Gh l (acc.push (B8 o' acc)) j o (by simpa using h)
  simp only[rl,zeW,Array.size_push,List.take_succ_cons] at this⊢;rw[show acc.size+(j+1)=acc.size+1+j by omega,this]
theorem Lw (l:List Oper)(j e:Nat)(he:e<j)(hj:j<=l.length):(rl (l.take j) #[]).getD e 0=(rl l #[]).getD e 0:=by
 have h1:rl l #[]=rl (l.drop j) (rl (l.take j) #[]):=by
  unfold rl;rw[<-List.foldl_append,ze5]
 have h2:=Bb (l.drop j) (rl (l.take j) #[]) e (by rw[zc];simp;omega)
 rw[h1,ze6,ze6,h2]
theorem Pe {o:Oper}{acc:Array Nat}{i:Nat}(h:(B8 o acc).testBit i=true): ∃e∈o.after,Region.binds .any e=true/\(i=e.on\/(acc.getD e.on 0).testBit i=true):=by
 unfold B8 at h;rw[<-Array.foldl_toList] at h;have key: ∀(l:List Edge) (s:Nat),(l.foldl (λs e=>if Region.binds .any e then s|||2^e.on|||acc.getD e.on 0 else s) s).testBit i=true->s.testBit i=true\/∃e∈l,Region.binds .any e=true/\(i=e.on\/(acc.getD e.on 0).testBit i=true):=by
  intro l;induction l with
  |nil=>intro s h;exact .inl h
  |cons e l ih=>
   intro s h;simp only[zeW] at h;rcases ih _ h with h1|⟨e',h1,h2⟩
   ·split at h1
    ·rename_i hb
     simp only[Nat.testBit_or,zeY] at h1;rcases h1 with(h1|h1)|h1
     ·exact .inl h1
     ·rw[Nat.testBit_two_pow] at h1
      exact .inr ⟨e,zd0 ..,hb, .inl (of_decide_eq_true h1).symm⟩
     ·exact .inr ⟨e,zd0 ..,hb, .inr h1⟩
    ·exact .inl h1
   ·exact .inr ⟨e',zdZ _ h1,h2⟩
 rcases key _ _ h with h1|⟨e,h1,h2⟩
 ·simp at h1
 ·exact⟨e,by simpa using h1,h2⟩
def rV (ops:Array Oper):Bool:=(List.range ops.size).all λj=>match ops[j]? with|some o=>o.after.all λe=>!Region.binds .any e||decide (e.on<j)|none=>true
theorem xR {ops:Array Oper}(h:rV ops=true){j:Nat}{o:Oper}(ho:ops[j]?=some o){e:Edge}(he:e∈o.after)(hb:Region.binds .any e=true):e.on<j:=by
 have hj:j<ops.size:=(Array.getElem?_eq_some_iff.1 ho).1;have:=List.all_eq_true.1 h j (by simpa using hj)
 simp only[ho] at this;have:=Array.all_eq_true_iff_forall_mem.1 this e he;simpa [hb] using this
theorem yK {ops:Array Oper}(hE:rV ops=true){X:Nat->Prop}(hX: ∀j o,ops[j]?=some o->X j->∀e∈o.after,Region.binds .any e=true->X e.on): ∀(j i:Nat),X j->((Region.before ops).getD j 0).testBit i=true->X i:=by
 intro j;induction j using Nat.strongRecOn with
 |_ j ih=>
  intro i hj hb;rw[Gg] at hb;cases ho:ops.toList[j]? with
  |none=>
   have hsz:ops.toList.length<=j:=List.getElem?_eq_none_iff.1 ho;rw[ze6,Array.getElem?_eq_none (by rw[zc];simp at hsz⊢;omega)] at hb
   simp at hb
  |some o=>
   have mW:ops[j]?=some o:=by simpa using ho
   have h1:=Gh ops.toList #[] j o ho;simp only[List.size_toArray,zdY,zeC] at h1;rw[ze6,h1,ze7] at hb;obtain⟨e,he,W8,hc⟩:=Pe hb;have kW:=xR hE mW he W8;have hXe:=hX j o mW hj e he W8;rcases hc with rfl|hc
   ·exact hXe
   ·have hjl:j<=ops.toList.length:=Nat.le_of_lt (List.getElem?_eq_some_iff.1 ho).1
    rw[Lw _ _ _ kW hjl,<-Gg] at hc;exact ih e.on kW i hXe hc
end AM
namespace AM
open Go
variable {α:Type}{P:Program}{base:Nat}
structure HJ (P:Program)(base:Nat)(ops:Array Oper)(o:Oper)(S:St)(E:sM)(F:Option Fp):Prop where
 dst:E.dst=o.dst
 run:match F with
  |none=>E.av= .val Go.undef/\(∀id,E.W id=false)/\∀T:St,(∀x∈o.looksAt ops,T.t x=S.t x)->∀N D w a,kx N D w base T a->Region.wanted o (yielded ops a.tmps)=false
  |some f=>f.2=keyOf S.ep o/\(∀id,E.W id=(f.1.2.contains id||qz S.ep o id))/\(∀T:St,(∀x∈o.looksAt ops,T.t x=S.t x)->∀N D w a,kx N D w base T a->Region.wanted o (yielded ops a.tmps)=true)/\
    ∃fe,DL P base f.1.2 o (wM S o f.1) E.av fe/\∀id,E.W id=true->E.h id=fe.h id
theorem DL.zb8 {W W':List Nat}{o:Oper}{st:St}{av:AV}{fe:St}(h:DL P base W o st av fe)(hW: ∀i∈W,i∈W'):DL P base W' o st av fe:=
 ⟨h.1,h.2.1,h.2.2.1,λid hi hn=>h.2.2.2.1 id (λh'=>hi (hW id h')) hn,h.2.2.2.2⟩
theorem Ry {env:Env α}(he:sC P base env){ops:Array Oper}: ∀(n i:Nat) (rest:List Oper) (Dq:List (Nat×Fp)) (k:List Item) (st:St) (K:Out->St->Option α) (r:α),
  exec P env n (.zF ops i rest Dq::k) st K=some r->i<=ops.size->rest=ops.toList.drop i->
  ∃m Lx,m<n/\exec P env m k (rN Lx) K=some r/\∃(E:Nat->sM) (S:Nat->St) (F:Nat->Option Fp),S i=st/\S ops.size=Lx/\
   (∀j o,i<=j->ops[j]?=some o->S (j+1)=(E j).ap (S j)/\HJ P base ops o (S j) (E j) (F j))/\
   (∀j f,i<=j->F j=some f->(∀q g,(q,g)∈Dq->((Region.before ops).getD j 0).testBit q=true\/yH g f=false)/\∀q g,i<=q->q<j->F q=some g->((Region.before ops).getD j 0).testBit q=true\/yH g f=false):=by
 intro n;induction n with
 |zero=>intro i rest Dq k st K r h;simp[exec] at h
 |succ n ih=>
  intro i rest Dq k st K r h hi z6;unfold exec at h;cases rest with
  |nil=>
   have hsz:i=ops.size:=by
    have:=congrArg List.length z6;simp at this;omega
   subst hsz;refine⟨n,st,ze8 n,h,λ_=>⟨none, .undef,λ_=>false,λ_=>none⟩,λ_=>st,λ_=>none,rfl,rfl,λj o hj ho=>?_,λj f _ hf=>by cases hf⟩
   have:=(Array.getElem?_eq_some_iff.1 ho).1;omega
  |cons o rest=>
   have kW:i<ops.size:=by
    have:=congrArg List.length z6;simp at this;omega
   have UL:ops[i]?=some o:=by
    have h1:(ops.toList.drop i)[0]?=some o:=by rw[<-z6];rfl
    rw[zek] at h1;simpa using h1
   have HK:rest=ops.toList.drop (i+1):=by
    have h1:(ops.toList.drop i).tail=rest:=by rw[<-z6];rfl
    rw[<-h1,List.tail_drop]
   simp only at h;have lV: ∀j,i+1<=j->j≠i:=λj hj=>by omega
   have z7: ∀(E0:sM) (F0:Option Fp) (Rz:List (Nat×Fp)) (HL:St),HL=E0.ap st->HJ P base ops o st E0 F0->exec P env n (.zF ops (i+1) rest Rz::k) HL K=some r->
     (∀p,p∈Dq->p∈Rz)->(∀f,F0=some f->(i,f)∈Rz/\∀q g,(q,g)∈Dq->((Region.before ops).getD i 0).testBit q=true\/yH g f=false)->
     ∃m Lx,m<n+1/\exec P env m k (rN Lx) K=some r/\∃(E:Nat->sM) (S:Nat->St) (F:Nat->Option Fp),S i=st/\S ops.size=Lx/\
      (∀j o,i<=j->ops[j]?=some o->S (j+1)=(E j).ap (S j)/\HJ P base ops o (S j) (E j) (F j))/\
      (∀j f,i<=j->F j=some f->(∀q g,(q,g)∈Dq->((Region.before ops).getD j 0).testBit q=true\/yH g f=false)/\∀q g,i<=q->q<j->F q=some g->((Region.before ops).getD j 0).testBit q=true\/yH g f=false):=by
    intro E0 F0 Rz HL e2 hs hx zP hF0;obtain⟨m,Lx,g1,g2,E',S',F',g3,g4,g5,g6⟩:=ih (i+1) rest Rz k HL K r hx kW HK;refine⟨m,Lx,Nat.lt_succ_of_lt g1,g2,λj=>if j=i then E0 else E' j,λj=>if j=i then st else S' j,λj=>if j=i then F0 else F' j,by simp,?_,λj o' hj mW=>?_,λj f hj hf=>?_⟩
    ·simp only[if_neg (show ops.size≠i by omega)];exact g4
    ·by_cases e:j=i
     ·subst e
      rw[UL] at mW;cases mW;simp only[if_true,if_neg (show j+1≠j by omega)]
      exact⟨by rw[g3,e2],hs⟩
     ·simp only[if_neg e,if_neg (show j+1≠i by omega)]
      exact g5 j o' (by omega) mW
    ·by_cases e:j=i
     ·subst e
      simp only[if_true] at hf;exact⟨(hF0 f hf).2,λq g h1 h2=>by omega⟩
     ·simp only[if_neg e] at hf
      obtain⟨h1,h2⟩:=g6 j f (by omega) hf
      refine⟨λq g hq=>h1 q g (zP _ hq),λq g h3 h4 h5=>?_⟩;by_cases e3:q=i
      ·subst e3
       simp only[if_true] at h5;exact h1 q g (hF0 g h5).1
      ·simp only[if_neg e3] at h5
       exact h2 q g (by omega) h4 h5
   rcases FA (base:=base) h with⟨h1,hw⟩|⟨h1,hw⟩
   ·split at h1
    ·rename_i Ye
     split at h1
     ·cases h1
     ·rename_i Hy
      obtain⟨av,fe,h2,Ly⟩:=xP he h1;refine z7 ⟨o.dst,av,λid=>(yy env (rN st) o).2.contains id||qz st.ep o id,fe.h⟩ (some (yy env (rN st) o,keyOf st.ep o)) _ _ rfl ⟨rfl,rfl,λ_=>rfl,hw,fe,Ly.zb8 (λi hi=>?_),λ_ _=>rfl⟩ h2 (λp hp=>zdZ _ hp) (λf hf=>?_)
      ·have:=List.all_eq_true.1 Hy i hi
       simpa using this
      ·cases hf
       refine⟨zd0 ..,λq g hq=>?_⟩;have:=List.all_eq_true.1 Ye (q,g) hq;simpa using this
    ·split at h1
     ·rename_i t0 x0 f0 vm
      split at h1
      ·rename_i Ye
       obtain⟨av,fe,h2,Ly⟩:=xP he h1;have hW:(yy env (wM st o ([],[])) o).2=[]:=by
        unfold yy;rw[vm];simp only[KW,vm]
       rw[hW] at Ly;refine z7 ⟨o.dst,av,λid=>([]:List Nat).contains id||qz st.ep o id,fe.h⟩ (some (([],[]),keyOf st.ep o)) _ _ rfl ⟨rfl,rfl,λ_=>rfl,hw,fe,Ly,λ_ _=>rfl⟩ h2 (λp hp=>zdZ _ hp) (λf hf=>?_)
       cases hf;refine⟨zd0 ..,λq g hq=>?_⟩;have:=List.all_eq_true.1 Ye (q,g) hq;simpa using this
      ·cases h1
     ·cases h1
   ·refine z7 ⟨o.dst, .val Go.undef,λ_=>false,λ_=>none⟩ none Dq _ ?_ ⟨rfl,rfl,λ_=>rfl,hw⟩ h1 (λp hp=>hp) (λf hf=>by cases hf)
    simp[sM.ap]
end AM
namespace AM
open Go
variable {α:Type}{P:Program}{base:Nat}
def sU (ops:Array Oper):Bool:=rV ops&& (List.range ops.size).all λj=>(List.range j).all λi=>((Region.before ops).getD j 0).testBit i||(match ops[i]?,ops[j]? with|some x,some y=>x.apart ops y|_,_=>true)
theorem pj {ops:Array Oper}(h:sU ops=true):rV ops=true/\∀i j x y,i<j->ops[i]?=some x->ops[j]?=some y->((Region.before ops).getD j 0).testBit i=true\/x.apart ops y=true:=by
 simp only[sU,zdV] at h;refine⟨h.1,λi j x y hij hx hy=>?_⟩;have hj:j<ops.size:=(Array.getElem?_eq_some_iff.1 hy).1;have:=List.all_eq_true.1 h.2 j (by simpa using hj)
 have:=List.all_eq_true.1 this i (by simpa using hij)
 simpa [hx,hy] using this
theorem LA {a b:Fp}(h:yH a b=false):(∀id∈a.1.2,id∉b.1.1/\id∉b.1.2)/\(∀id∈b.1.2,id∉a.1.1)/\(∀k,a.2=some k->∀id,id∈b.1.1\/id∈b.1.2->id/100≠k)/\(∀k,b.2=some k->∀id,id∈a.1.1\/id∈a.1.2->id/100≠k)/\∀k,a.2=some k->b.2≠some k:=by
 simp only[yH,Bool.or_eq_false_iff] at h;obtain⟨⟨⟨⟨h1,h2⟩,h3⟩,h4⟩,h5⟩:=h;refine⟨λid hi=>?_,λid hi=>?_,λk hk id hi=>?_,λk hk id hi=>?_,λk hk th=>?_⟩
 ·have:=List.any_eq_false.1 h1 id hi
  simpa using this
 ·have:=List.any_eq_false.1 h2 id hi
  simpa using this
 ·rw[hk] at h3
  have:=List.any_eq_false.1 h3 id (by simpa using hi)
  simpa using this
 ·rw[hk] at h4
  have:=List.any_eq_false.1 h4 id (by simpa using hi)
  simpa using this
 ·rw[hk,th] at h5;simp at h5
theorem zd {E:Nat->sM}{X Y:Nat->Bool}{S0:St}: ∀n,(∀j,j<n->X j=Y j)->lI E X S0 n=lI E Y S0 n
 |0,_=>rfl
 |n+1,h=>by
  have ih:=zd (S0:=S0) (E:=E) n λj hj=>h j (by omega)
  simp only[lI,h n (by omega),ih]
theorem HM {E:Nat->sM}{S0:St}{i:Nat}: ∀n,i<=n->lI E (λj=>decide (j<i)) S0 n=lI E (λ_=>true) S0 i
 |0,h=>by
  have:i=0:=by omega
  subst this;rfl
 |n+1,h=>by
  by_cases e:i=n+1
  ·subst e;exact zd _ λj hj=>by simpa using hj
  ·have ih:=HM (S0:=S0) (E:=E) n (show i<=n by omega)
   simp only[lI];rw[if_neg (by simp;omega)];exact ih
theorem RA {E:Nat->sM}{X:Nat->Bool}{S0:St}{i n:Nat}(hi:i<n)(hX:X i=false)(ht: ∀j,i<j->j<n->X j=true->∀x,(E i).dst=some x->(E j).dst≠some x)(hh: ∀j,i<j->j<n->X j=true->∀id,(E i).W id=true->(E j).W id=false):
  lI E (λj=>X j||decide (j=i)) S0 n=(E i).ap (lI E X S0 n):=by
 have lV: ∀j,X j≠(X j||decide (j=i))->j=i:=by
  intro j h;by_cases e:j=i
  ·exact e
  ·simp[e] at h
 have e1: ∀a b:St,a.t=b.t->a.h=b.h->a.ep=b.ep->a.nt=b.nt->a=b:=by
  intro a b h1 h2 h3 h4;cases a;cases b;simp_all
 apply e1
 ·funext x
  rw[sM.Pd,sg];by_cases hd:(E i).dst=some x
  ·have RB:=B6 (E:=E) (X:=λj=>X j||decide (j=i)) (S0:=S0) (x:=x) (i:=i) (by simp) hd n hi λj h1 h2 h3=>ht j h1 h2 (by
    have hji:j≠i:=by omega
    simpa [hji] using h3) x hd
   rw[RB];by_cases hb:x<S0.nt
   ·simp[hd,hb]
   ·simp only[hb,hd,and_false,if_false]
    have out: ∀m,(lI E X S0 m).t x=S0.t x:=by
     intro m;induction m with
     |zero=>rfl
     |succ m ih=>
      simp only[lI];split
      ·rw[sM.Pd,sg,if_neg (λq=>hb q.2)];exact ih
      ·exact ih
    exact(out n).symm
  ·rw[if_neg (λq=>hd q.1)]
   refine(wj n λj _ hj=>?_).symm;rw[lV j hj];exact hd
 ·funext id
  rw[sM.UK];cases hd:(E i).W id with
  |true=>
   have RB:=B7 (E:=E) (X:=λj=>X j||decide (j=i)) (S0:=S0) (id:=id) (i:=i) (by simp) hd n hi λj h1 h2 h3=>hh j h1 h2 (by
    have hji:j≠i:=by omega
    simpa [hji] using h3) id hd
   rw[RB];simp
  |false=>
   simp only[zdU,if_false];refine(wk n λj _ hj=>?_).symm;rw[lV j hj];exact hd
 ·rw[yn,sM.W7,yn]
 ·rw[sg,sM.W6,sg]
end AM
namespace AM
open Go
variable {α:Type}{P:Program}{base:Nat}
theorem HN {o:Oper}{ops:Array Oper}{x:Nat}(h:x∈Q1 o):x∈o.looksAt ops:=zd4 _ h
structure lJ (P:Program)(base:Nat)(ops:Array Oper)(E:Nat->sM)(S:Nat->St)(F:Nat->Option Fp):Prop where
 step: ∀j o,ops[j]?=some o->S (j+1)=(E j).ap (S j)/\HJ P base ops o (S j) (E j) (F j)
 pair: ∀q j f g,q<j->F j=some f->F q=some g->((Region.before ops).getD j 0).testBit q=true\/yH g f=false
theorem lJ.Pf {ops:Array Oper}{E:Nat->sM}{S:Nat->St}{F:Nat->Option Fp}(R:lJ P base ops E S F): ∀j,j<=ops.size->S j=lI E (λ_=>true) (S 0) j
 |0,_=>rfl
 |j+1,h=>by
  rw[(R.step j ops[j] (zev (by omega))).1,R.Pf j (by omega)]
  simp[lI]
theorem lJ.ep {ops:Array Oper}{E:Nat->sM}{S:Nat->St}{F:Nat->Option Fp}(R:lJ P base ops E S F){j:Nat}(h:j<=ops.size):(S j).ep=(S 0).ep:=by rw[R.Pf j h,yn]
theorem lJ.nt {ops:Array Oper}{E:Nat->sM}{S:Nat->St}{F:Nat->Option Fp}(R:lJ P base ops E S F){j:Nat}(h:j<=ops.size):(S j).nt=(S 0).nt:=by rw[R.Pf j h,sg]
structure sV (ops:Array Oper)(X:Nat->Bool)(i:Nat)(o:Oper):Prop where
 op:ops[i]?=some o
 not:X i=false
 closed: ∀j o,ops[j]?=some o->X j=true->∀e∈o.after,Region.binds .any e=true->X e.on=true
 ready: ∀e∈o.after,Region.binds .any e=true->X e.on=true
theorem sV.before {ops:Array Oper}(hE:rV ops=true){X:Nat->Bool}{i:Nat}{o:Oper}(h:sV ops X i o){j:Nat}(hj:((Region.before ops).getD i 0).testBit j=true):X j=true\/j=i:=by
 refine yK hE (X:=λq=>X q=true\/q=i) (λq o' ho hq e he hb=>?_) i j (.inr rfl) hj;rcases hq with hq|rfl
 ·exact .inl (h.closed q o' ho hq e he hb)
 ·rw[h.op] at ho;cases ho;exact .inl (h.ready e he hb)
theorem sV.after {ops:Array Oper}(hE:rV ops=true){X:Nat->Bool}{i:Nat}{o:Oper}(h:sV ops X i o){j:Nat}(hX:X j=true):((Region.before ops).getD j 0).testBit i=false:=by
 cases e:((Region.before ops).getD j 0).testBit i with
 |false=>rfl
 |true=>
  have:=yK hE (X:=λq=>X q=true) (λq o' ho hq e he hb=>h.closed q o' ho hq e he hb) j i hX e;rw[h.not] at this;cases this
section
variable {ops:Array Oper}{E:Nat->sM}{S:Nat->St}{F:Nat->Option Fp}
theorem sV.unordered (hD:sU ops=true){X:Nat->Bool}{i:Nat}{o:Oper}(h:sV ops X i o){j:Nat}(hj:X j≠decide (j<i)):j≠i/\(j<i->((Region.before ops).getD i 0).testBit j=false)/\(i<j->((Region.before ops).getD j 0).testBit i=false):=by
 have hE:=(pj hD).1;have lV:j≠i:=by intro e;subst e;simp[h.not] at hj
 refine⟨lV,λkW=>?_,λkW=>?_⟩
 ·cases e:((Region.before ops).getD i 0).testBit j with
  |false=>rfl
  |true=>
   rcases h.before hE e with h1|h1
   ·simp[h1,kW] at hj
   ·exact absurd h1 lV
 ·have hX:X j=true:=by
   cases e:X j with
   |true=>rfl
   |false=>simp[e,Nat.not_lt.2 (Nat.le_of_lt kW)] at hj
  exact h.after hE hX
theorem lJ.jP (R:lJ P base ops E S F)(hD:sU ops=true){X:Nat->Bool}{i:Nat}{o:Oper}(h:sV ops X i o){x:Nat}(hx:x∈o.looksAt ops):(lI E X (S 0) ops.size).t x=(S i).t x:=by
 have hi:i<ops.size:=(Array.getElem?_eq_some_iff.1 h.op).1;rw[R.Pf i (by omega),<-HM ops.size (show i<=ops.size by omega)]
 refine wj _ λj hj lV hd=>?_;obtain⟨h1,h2,h3⟩:=h.unordered hD lV;have hoj:=zev hj;rw[(R.step j _ hoj).2.dst] at hd;rcases Nat.lt_or_gt_of_ne h1 with kW|kW
 ·rcases(pj hD).2 j i _ _ kW hoj h.op with q|q
  ·rw[h2 kW] at q;cases q
  ·exact(Oper.apart_spec q).1 x hd hx
 ·rcases(pj hD).2 i j _ _ kW h.op hoj with q|q
  ·rw[h3 kW] at q;cases q
  ·exact(Oper.apart_spec q).2.2 x hd hx
def Fp.all (f:Fp)(id:Nat):Prop:=id∈f.1.1\/id∈f.1.2\/f.2=some (id/100)
def Fp.out (f:Fp)(id:Nat):Prop:=id∈f.1.2\/f.2=some (id/100)
theorem Bc {a b:Fp}(h:yH a b=false){id:Nat}:(a.out id->¬b.all id)/\(b.out id->¬a.all id):=by
 obtain⟨h1,h2,h3,h4,h5⟩:=LA h;constructor
 ·rintro(ha|ha) (hb|hb|hb)
  ·exact(h1 id ha).1 hb
  ·exact(h1 id ha).2 hb
  ·exact h4 _ hb id (.inr ha) rfl
  ·exact h3 _ ha id (.inl hb) rfl
  ·exact h3 _ ha id (.inr hb) rfl
  ·exact h5 _ ha hb
 ·rintro(hb|hb) (ha|ha|ha)
  ·exact h2 id hb ha
  ·exact(h1 id ha).2 hb
  ·exact h3 _ ha id (.inr hb) rfl
  ·exact h4 _ hb id (.inl ha) rfl
  ·exact h4 _ hb id (.inr ha) rfl
  ·exact h5 _ ha hb
theorem NC {ep:Nat}{o:Oper}{id:Nat}:qz ep o id=true↔keyOf ep o=some (id/100):=by
 unfold qz keyOf;cases makes o
 ·simp
 ·simp[eq_comm]
theorem lJ.out (R:lJ P base ops E S F){j:Nat}{o:Oper}(ho:ops[j]?=some o){id:Nat}(h:(E j).W id=true): ∃f,F j=some f/\f.out id:=by
 have:=(R.step j o ho).2.run;cases hF:F j with
 |none=>rw[hF] at this;rw[this.2.1 id] at h;cases h
 |some f=>
  rw[hF] at this;refine⟨f,rfl,?_⟩;rw[this.2.1 id,zeY] at h;rcases h with h|h
  ·exact .inl (by simpa using h)
  ·exact .inr (by rw[this.1];exact NC.1 h)
theorem lJ.heap (R:lJ P base ops E S F)(hD:sU ops=true){X:Nat->Bool}{i:Nat}{o:Oper}(h:sV ops X i o){f:Fp}(hF:F i=some f){id:Nat}(pJ:f.all id):(lI E X (S 0) ops.size).h id=(S i).h id:=by
 have hi:i<ops.size:=(Array.getElem?_eq_some_iff.1 h.op).1;rw[R.Pf i (by omega),<-HM ops.size (show i<=ops.size by omega)]
 refine wk _ λj hj lV=>?_;obtain⟨h1,h2,h3⟩:=h.unordered hD lV;cases hW:(E j).W id with
 |false=>rfl
 |true=>
  exfalso
  obtain⟨g,hg,jv⟩:=R.out (zev hj) hW;rcases Nat.lt_or_gt_of_ne h1 with kW|kW
  ·rcases R.pair j i f g kW hF hg with q|q
   ·rw[h2 kW] at q;cases q
   ·exact(Bc q).1 jv pJ
  ·rcases R.pair i j g f kW hg hF with q|q
   ·rw[h3 kW] at q;cases q
   ·exact(Bc q).2 jv pJ
theorem lJ.put (R:lJ P base ops E S F)(hD:sU ops=true){X:Nat->Bool}{i:Nat}{o:Oper}(h:sV ops X i o):lI E (λj=>X j||decide (j=i)) (S 0) ops.size=(E i).ap (lI E X (S 0) ops.size):=by
 have hi:i<ops.size:=(Array.getElem?_eq_some_iff.1 h.op).1;refine RA hi h.not (λj kW hj hX x hdi hdj=>?_) (λj kW hj hX id hWi=>?_)
 ·have hoj:=zev hj
  rw[(R.step j _ hoj).2.dst] at hdj;rw[(R.step i _ h.op).2.dst] at hdi;have hb:=h.after (pj hD).1 hX;rcases(pj hD).2 i j _ _ kW h.op hoj with q|q
  ·rw[hb] at q;cases q
  ·exact(Oper.apart_spec q).2.1 x hdi hdj
 ·cases hW:(E j).W id with
  |false=>rfl
  |true=>
   exfalso
   obtain⟨f,hf,hfo⟩:=R.out h.op hWi;obtain⟨g,hg,WW⟩:=R.out (zev hj) hW;have hb:=h.after (pj hD).1 hX;rcases R.pair i j g f kW hg hf with q|q
   ·rw[hb] at q;cases q
   ·refine(Bc q).1 hfo ?_
    rcases WW with WW|WW
    ·exact .inr (.inl WW)
    ·exact .inr (.inr WW)
end
end AM
namespace AM
open Go
variable {α:Type}{P:Program}{base:Nat}
section
variable {ops:Array Oper}{E:Nat->sM}{S:Nat->St}{F:Nat->Option Fp}
theorem lJ.wM (R:lJ P base ops E S F)(hD:sU ops=true){X:Nat->Bool}{i:Nat}{o:Oper}(h:sV ops X i o){f:Fp}(hF:F i=some f)(hk:f.2=keyOf (S i).ep o):AM.wM (lI E X (S 0) ops.size) o f.1=AM.wM (S i) o f.1:=by
 have hi:i<ops.size:=(Array.getElem?_eq_some_iff.1 h.op).1;have uv:(lI E X (S 0) ops.size).ep=(S i).ep:=by rw[yn];exact(R.ep (by omega)).symm
 have RC:(lI E X (S 0) ops.size).nt=(S i).nt:=by rw[sg];exact(R.nt (by omega)).symm
 have hH:Dr (lI E X (S 0) ops.size) o f.1=Dr (S i) o f.1:=by
  funext id
  unfold Dr;rw[uv];split
  ·rename_i hx
   refine R.heap hD h hF ?_;simp only[zeY,List.contains_iff_mem] at hx;rcases hx with(hx|hx)|hx
   ·exact .inl hx
   ·exact .inr (.inl hx)
   ·exact .inr (.inr (by rw[hk];exact NC.1 hx))
  ·rfl
 unfold AM.wM;rw[uv,RC,hH];congr 1
 funext x
 split
 ·rename_i hx
  rw[R.jP hD h (HN (by simpa using hx))]
 ·rfl
theorem lJ.one (R:lJ P base ops E S F)(hD:sU ops=true){X:Nat->Bool}{i:Nat}{o:Oper}(h:sV ops X i o){N:Names}{D:Nat->Prop}{w:World}{a:Act}(s:kx N D w base (lI E X (S 0) ops.size) a){Q:Exit->Act->World->Prop}{K:Act->World->Prop}
  (hK: ∀N' D' w' a',kx N' D' w' base (lI E (λj=>X j||decide (j=i)) (S 0) ops.size) a'->Ext N D w (lI E X (S 0) ops.size).h N' D' w' (lI E (λj=>X j||decide (j=i)) (S 0) ops.size).h->K a' w'):wpOp P ops Q i K a w:=by
 have hi:i<ops.size:=(Array.getElem?_eq_some_iff.1 h.op).1;obtain⟨kr,mh⟩:=R.step i o h.op;have jL:=mh.run;have wO: ∀x∈o.looksAt ops,(lI E X (S 0) ops.size).t x=(S i).t x:=λx hx=>R.jP hD h hx;rw[R.put hD h] at hK;unfold wpOp;rw[h.op];simp only;cases hF:F i with
 |none=>
  rw[hF] at jL;obtain⟨h1,h2,h3⟩:=jL;rw[if_neg (by rw[h3 _ wO N D w a s];simp)]
  have s2:=s.put (Ext.refl _ _ _ _) s.nw rfl rfl o.dst (u:= .val Go.undef) (v:=Go.undef) (ek.2 rfl);have e:(E i).ap (lI E X (S 0) ops.size)=(lI E X (S 0) ops.size).put o.dst (.val Go.undef):=by
   unfold sM.ap;rw[mh.dst,h1];simp[h2]
  rw[e] at hK;exact hK N D w _ s2 (by rw[St.BQ];exact Ext.refl _ _ _ _)
 |some f=>
  rw[hF] at jL;obtain⟨h1,h2,h3,fe,Ly,h4⟩:=jL;rw[if_pos (h3 _ wO N D w a s)];left
  have LB:=R.wM hD h hF h1;rw[<-LB] at Ly;obtain⟨o1,o2,o3,o4,o5⟩:=Ly;generalize hT:lI E X (S 0) ops.size=T at*;have uv:T.ep=(S i).ep:=by rw[<-hT,yn];exact(R.ep (by omega)).symm
  have sR:kx N D w base (AM.wM T o f.1) a:=⟨s.nw.part (λid=>f.1.1.contains id||f.1.2.contains id||qz T.ep o id),λx=>by
   unfold AM.wM;simp only;split
   ·exact Jl (s.nw.part (λid=>f.1.1.contains id||f.1.2.contains id||qz T.ep o id)) (s.tmps x)
   ·exact pb,s.nt,s.defers⟩
  refine o5 N D w a sR K Q λN' D' w' v x' s' hv=>?_;obtain⟨jS,jE⟩:=s.nw.join (F:=λid=>f.1.1.contains id||f.1.2.contains id||qz T.ep o id) (W:=(E i).W) x' s' (λid pJ=>by
   rw[h2 id,<-uv] at pJ;simp only[zeY] at pJ⊢;rcases pJ with pJ|pJ
   ·exact .inl (.inr pJ)
   ·exact .inr pJ) (λid _ pJ=>by
   rw[h2 id,<-uv,Bool.or_eq_false_iff] at pJ;exact o4 id (by simpa using pJ.1) pJ.2)
  have hj:AM.join T.h fe.h (E i).W=λid=>if(E i).W id then(E i).h id else T.h id:=by
   funext id
   unfold AM.join;cases hw:(E i).W id with
   |true=>simp[h4 id hw]
   |false=>simp
  rw[hj] at jS jE;have s2:=s.put (fe:={T with h:=λid=>if(E i).W id then(E i).h id else T.h id}) jE jS rfl rfl o.dst hv
  have e:(E i).ap T=St.put {T with h:=λid=>if(E i).W id then(E i).h id else T.h id} o.dst (E i).av:=by unfold sM.ap;rw[mh.dst]
  rw[e] at hK;exact hK N' D' w' _ s2 (by rw[St.BQ];exact jE)
end
end AM
namespace AM
open Go
variable {α:Type}{P:Program}{base:Nat}
section
variable {ops:Array Oper}{E:Nat->sM}{S:Nat->St}{F:Nat->Option Fp}
def sD (l:Array Bool)(j:Nat):Bool:=l.getD j false
def HO (ops:Array Oper)(l:Array Bool):Prop:=l.size=ops.size/\∀j o,ops[j]?=some o->sD l j=true->∀e∈o.after,Region.binds .any e=true->sD l e.on=true
theorem DM {l:Array Bool}(hc:HO ops l){i:Nat}(h:i∈Region.ready .any ops l): ∃o,sV ops (sD l) i o:=by
 unfold Region.ready at h;simp only[List.mem_filter,List.mem_range,zdV,Bool.not_eq_eq_eq_not,zdQ] at h;obtain⟨hi,h1,h2⟩:=h;have UL:=zev hi;refine⟨ops[i],UL,?_,hc.2,λe he hb=>?_⟩
 ·have hl:i<l.size:=by rw[hc.1];exact hi
  unfold sD;simp[Array.getD,hl] at h1⊢;exact h1
 ·rw[UL] at h2
  simp only[zd2,ze7] at h2;have:=Array.all_eq_true_iff_forall_mem.1 h2 e he;simpa [hb,sD] using this
theorem LC (hE:rV ops=true){l:Array Bool}(hc:HO ops l)(h:Region.ready .any ops l=[]): ∀i,i<ops.size->sD l i=true:=by
 intro i;induction i using Nat.strongRecOn with
 |_ i ih=>
  intro hi;cases hX:sD l i with
  |true=>rfl
  |false=>
   exfalso
   have hl:i<l.size:=by rw[hc.1];exact hi
   have UL:=zev hi;have:i∈Region.ready .any ops l:=by
    unfold Region.ready;simp only[List.mem_filter,List.mem_range,zdV,Bool.not_eq_eq_eq_not,zdQ];refine⟨hi,?_,?_⟩
    ·unfold sD at hX
     simp[Array.getD,hl] at hX⊢;exact hX
    ·rw[UL]
     simp only[zd2,ze7];refine Array.all_eq_true_iff_forall_mem.2 λe he=>?_;cases hb:Region.binds .any e with
     |false=>simp
     |true=>
      have:=xR hE UL he hb;have:=ih e.on this (by omega)
      unfold sD at this;simp[this]
   rw[h] at this;cases this
def yL (l:Array Bool):Nat->Nat
 |0=>0
 |m+1=>yL l m+(if sD l m then 0 else 1)
theorem Jm {l:Array Bool}: ∀m,yL l m=0->∀j,j<m->sD l j=true
 |0,_,j,h=>by omega
 |m+1,h,j,hj=>by
  simp only[yL] at h;by_cases e:j=m
  ·subst e
   cases hX:sD l j with
   |true=>rfl
   |false=>simp[hX] at h
  ·exact Jm m (by omega) j (by omega)
theorem DN {l:Array Bool}{i j:Nat}(hi:i<l.size):sD (l.setIfInBounds i true) j=(sD l j||decide (j=i)):=by
 unfold sD;by_cases e:j=i
 ·subst e;simp[Array.getD,hi]
 ·simp[ze6,Array.getElem?_setIfInBounds_ne (Ne.symm e),e]
theorem ND {l:Array Bool}{i:Nat}(hi:i<l.size)(hX:sD l i=false): ∀m,yL (l.setIfInBounds i true) m+(if i<m then 1 else 0)=yL l m
 |0=>by simp[yL]
 |m+1=>by
  have ih:=ND hi hX m;simp only[yL,DN hi];by_cases e:m=i
  ·subst e;simp[hX] at ih⊢;omega
  ·by_cases kW:i<m
   ·simp[e,kW,show i<m+1 by omega] at ih⊢;omega
   ·simp[e,kW,show¬i<m+1 by omega] at ih⊢;omega
theorem lJ.any (R:lJ P base ops E S F)(hD:sU ops=true){Q:Exit->Act->World->Prop}: ∀(fuel:Nat) (l:Array Bool),HO ops l->yL l ops.size<=fuel->∀N D w a,kx N D w base (lI E (sD l) (S 0) ops.size) a->
  (∀N' D' w' a',kx N' D' w' base (S ops.size) a'->Ext N D w (lI E (sD l) (S 0) ops.size).h N' D' w' (S ops.size).h->Q .normal a' w')->wpAny P .any ops Q fuel l a w:=by
 have hE:=(pj hD).1;have zan: ∀(l:Array Bool),(∀i,i<ops.size->sD l i=true)->lI E (sD l) (S 0) ops.size=S ops.size:=λl hl=>by
  rw[R.Pf _ (zd9 _)];exact zd _ λj hj=>hl j hj
 intro fuel;induction fuel with
 |zero=>
  intro l hc hf N D w a s hQ;have Hy:=Jm (l:=l) ops.size (Nat.le_zero.1 hf);refine⟨?_,?_⟩
  ·cases hr:Region.ready .any ops l with
   |nil=>rfl
   |cons i is=>
    obtain⟨o,hn⟩:=DM hc (i:=i) (by rw[hr];exact zd0 ..)
    have:=Hy i (Array.getElem?_eq_some_iff.1 hn.op).1;rw[hn.not] at this;cases this
  ·have e:=zan l Hy
   rw[e] at s hQ;exact hQ N D w a s (Ext.refl _ _ _ _)
 |succ fuel ih=>
  intro l hc hf N D w a s hQ;refine⟨λhr=>?_,λi hi=>?_⟩
  ·have e:=zan l (LC hE hc hr)
   rw[e] at s hQ;exact hQ N D w a s (Ext.refl _ _ _ _)
  ·obtain⟨o,hn⟩:=DM hc hi
   have yk:i<ops.size:=(Array.getElem?_eq_some_iff.1 hn.op).1;have hil:i<l.size:=by rw[hc.1];exact yk
   have hX:(λj=>sD l j||decide (j=i))=sD (l.setIfInBounds i true):=by funext j;rw[DN hil]
   refine R.one hD hn s λN' D' w' a' s' x'=>?_;rw[hX] at s' x';have FB:=ND hil hn.not ops.size;rw[if_pos yk] at FB;refine ih _ ⟨by simp[hc.1],λj o' mW hj e he hb=>?_⟩ (by omega) N' D' w' a' s' λN2 D2 w2 a2 s2 x2=>hQ N2 D2 w2 a2 s2 (x'.trans x2)
   rw[DN hil] at hj⊢;simp only[zeY,zd1] at hj⊢;rcases hj with hj|rfl
   ·exact .inl (hc.2 j o' mW hj e he hb)
   ·rw[hn.op] at mW;cases mW;exact .inl (hn.ready e he hb)
end
end AM
namespace AM
open Go
variable {α:Type}{P:Program}{base:Nat}
def pD:Code->Prop
 | .seq a b=>pD a/\pD b
 | .cond _ a b=>pD a/\pD b
 | .block _ c=>pD c
 | .scope c=>pD c
 | .region _ ops draw=>draw=true->sU ops=true
 |_=>True
theorem LD {env:Env α}(he:sC P base env)(hm:P.follows .mixedOrders=true){ops:Array Oper}(hd:sU ops=true){n:Nat}{k:List Item}{st:St}{K:Out->St->Option α}{r:α}(h:exec P env n (.zF ops 0 ops.toList []::k) st K=some r):
  ∃m Lx,m<n/\exec P env m k Lx K=some r/\∀N D w a id Q,kx N D w base st a->(∀N' D' w' a',kx N' D' w' base Lx a'->Ext N D w st.h N' D' w' Lx.h->Q .normal a' w')->(Code.region id ops true).wp P Q a w:=by
 obtain⟨m,Lx,h1,h2,E,S,F,h3,h4,h5,h6⟩:=Ry he n 0 ops.toList [] k st K r h (zeU _) (by simp)
 have R:lJ P base ops E S F:=⟨λj o ho=>h5 j o (zeU _) ho,λq j f g hq hf hg=>(h6 j f (zeU _) hf).2 q g (zeU _) hq hg⟩;refine⟨m,rN Lx,h1,h2,λN D w a id Q s hQ=>wp_region_any hm ?_⟩;have vG: ∀j,sD (Array.replicate ops.size false) j=false:=λj=>by
  unfold sD;rw[ze6,Array.getElem?_replicate];split<;>rfl
 have h0:lI E (sD (Array.replicate ops.size false)) (S 0) ops.size=st:=by
  rw[h3];have: ∀m,lI E (sD (Array.replicate ops.size false)) st m=st:=by
   intro m;induction m with
   |zero=>rfl
   |succ m ih=>simp only[lI,vG];exact ih
  exact this _
 have FB: ∀m,yL (Array.replicate ops.size false) m=m:=by
  intro m;induction m with
  |zero=>rfl
  |succ m ih=>simp[yL,vG,ih]
 have s0:kx N D {w with drawn:=w.drawn+1} base st a:=⟨⟨λi o hi=>nO (s.nw.obj i o hi) (Names.le_refl _) (λ_ h=>h) (λ_ _=>rfl) (λ_ _=>⟨rfl,λh=>h⟩) (λ_ _ _ _=>rfl),s.nw.apart,s.nw.frozen,s.nw.named,s.nw.size,s.nw.iK⟩,λx=>F5 (w:=w) (w':={w with drawn:=w.drawn+1}) (Names.le_refl _) (λ_ h=>h) (λ_ _=>rfl) (s.tmps x),s.nt,s.defers⟩;refine R.any hd ops.size _ ⟨by simp,λj o _ hj=>by rw[vG] at hj;cases hj⟩ (by rw[FB];exact zd9 _) N D _ a (by rw[h0];exact s0) λN' D' w' a' s' x'=>?_
 rw[h4] at s' x';rw[h0] at x';exact hQ N' D' w' a' s'.norm ⟨x'.names,x'.frozen,x'.os,x'.tape,x'.output,x'.size,x'.sQ,x'.own,x'.Ja,x'.fresh,x'.live,x'.pJ⟩
def Item.Yf:Item->Prop
 | .code c=>pD c
 |_=>True
theorem qu {id:Nat}: ∀{k k':List Item},AM.unwind id k=some k'->∀x∈k',x∈k
 | [],_,h=>by simp[AM.unwind] at h
 | .Nf i::k,k',h=>by
  simp only[AM.unwind] at h;split at h
  ·cases h;exact λx hx=>zdZ _ hx
  ·exact λx hx=>zdZ _ (qu h x hx)
 | .code _::k,k',h=>by simp only[AM.unwind] at h;exact λx hx=>zdZ _ (qu h x hx)
 | .ops _ _::k,k',h=>by simp only[AM.unwind] at h;exact λx hx=>zdZ _ (qu h x hx)
 | .zF _ _ _ _::k,k',h=>by simp only[AM.unwind] at h;exact λx hx=>zdZ _ (qu h x hx)
structure Good (fn:Func)(todo:List Item):Prop where
 ok: ∀x∈todo,x.ok fn
 Yf: ∀x∈todo,x.Yf
 clean: ∀x∈todo.tail,x.clean=true
 head: ∀all i rest Dq k,todo≠ .zF all i rest Dq::k
def sF (fn:Func)(k:List Item):Prop:=(∀x∈k,x.ok fn)/\(∀x∈k,x.Yf)/\∀x∈k,x.clean=true
theorem sF.CB {fn:Func}{k:List Item}(h:sF fn k):Good fn k:=
 ⟨h.1,h.2.1,λx hx=>h.2.2 x (List.mem_of_mem_tail hx),λall i rest Dq k' e=>by subst e;have:=h.2.2 _ (zd0 ..);simp[Item.clean] at this⟩
theorem sF.cons {fn:Func}{c:Code}{k:List Item}(h:sF fn k)(h1:nb fn c)(h2:pD c):sF fn (.code c::k):=
 ⟨List.forall_mem_cons.2 ⟨h1,h.1⟩,List.forall_mem_cons.2 ⟨h2,h.2.1⟩,List.forall_mem_cons.2 ⟨rfl,h.2.2⟩⟩
theorem sF.Nf {fn:Func}{id:Nat}{k:List Item}(h:sF fn k):sF fn (.Nf id::k):=
 ⟨List.forall_mem_cons.2 ⟨trivial,h.1⟩,List.forall_mem_cons.2 ⟨trivial,h.2.1⟩,List.forall_mem_cons.2 ⟨rfl,h.2.2⟩⟩
theorem sF.unwind {fn:Func}{id:Nat}{k k':List Item}(h:sF fn k)(e:AM.unwind id k=some k'):sF fn k':=
 ⟨λx hx=>h.1 x (qu e x hx),λx hx=>h.2.1 x (qu e x hx),λx hx=>h.2.2 x (qu e x hx)⟩
theorem sF.ops {fn:Func}{all:Array Oper}{rest:List Oper}{k:List Item}(h:sF fn k):Good fn (.ops all rest::k):=
 ⟨List.forall_mem_cons.2 ⟨trivial,h.1⟩,List.forall_mem_cons.2 ⟨trivial,h.2.1⟩,h.2.2,λ_ _ _ _ _ e=>by cases e⟩
theorem Good.tail {fn:Func}{x:Item}{k:List Item}(h:Good fn (x::k)):sF fn k:=
 ⟨λy hy=>h.ok y (zdZ _ hy),λy hy=>h.Yf y (zdZ _ hy),h.clean⟩
theorem DO {env:Env α}(he:sC P base env){fn:Func}(hl:xQ P base fn env)(hm:P.follows .mixedOrders=true): ∀(n:Nat) (todo:List Item) (st:St) (K:Out->St->Option α) (r:α),exec P env n todo st K=some r->Good fn todo->
  ∀N D w a (Q:Exit->Act->World->Prop),kx N D w base st a->(∀out fe,K out fe=some r->∀N' D' w' a',kx N' D' w' base fe a'->Ext N D w st.h N' D' w' fe.h->Q (z5 out) a' w')->zam P todo Q a w:=by
 intro n;induction n using Nat.strongRecOn with
 |_ n ih=>
 intro todo st K r h hg N D w a Q s hQ;cases n with
 |zero=>simp[exec] at h
 |succ n=>
 have W9: ∀(id:Nat) (k:List Item) (fe:St),sF fn k->(match AM.unwind id k with|some k'=>exec P env n k' fe K|none=>K (.exit id) fe)=some r->∀N' D' w' a',kx N' D' w' base fe a'->Ext N D w st.h N' D' w' fe.h->pQ P k Q (.exit id) a' w':=by
  intro id k fe hk h2 N' D' w' a' s' x';rw[tZ];cases hu:AM.unwind id k with
  |some k'=>
   rw[hu] at h2;exact pC (hk.unwind hu).2.2 (ih n (ze8 n) k' fe K r h2 (hk.unwind hu).CB N' D' w' a' Q s' λout LF hK N2 D2 w2 a2 s2 x2=>hQ out LF hK N2 D2 w2 a2 s2 (x'.trans x2))
  |none=>
   rw[hu] at h2;exact hQ _ fe h2 N' D' w' a' s' x'
 unfold exec at h;match todo,hg,h with
 | [],hg,h=>exact hQ .norm st h N D w a s (Ext.refl _ _ _ _)
 | .Nf id::k,hg,h=>
  have hk:=hg.tail;exact pC hk.2.2 (ih n (ze8 n) k st K r h hk.CB N D w a Q s hQ)
 | .zF all i rest Dq::k,hg,h=>exact absurd rfl (hg.head all i rest Dq k)
 | .ops all rest::k,hg,h=>
  have hk:=hg.tail;intro i hi z6;cases rest with
  |nil=>
   have hlen:all.size-i=0:=by
    have:=congrArg List.length z6;simp at this;omega
   rw[hlen];exact pC hk.2.2 (ih n (ze8 n) k st K r h hk.CB N D w a Q s hQ)
  |cons o rest=>
   have kW:i<all.size:=by
    have:=congrArg List.length z6;simp at this;omega
   have UL:all[i]?=some o:=by
    have h1:(all.toList.drop i)[0]?=some o:=by rw[<-z6];rfl
    rw[zek] at h1;simpa using h1
   have HK:rest=all.toList.drop (i+1):=by
    have h1:(all.toList.drop i).tail=rest:=by rw[<-z6];rfl
    rw[<-h1,List.tail_drop]
   have hr:List.range' i (all.size-i)=i::List.range' (i+1) (all.size-(i+1)):=by
    rw[show all.size-i=(all.size-(i+1))+1 by omega,List.range'_succ]
   rw[hr];simp only[wpOps,UL];simp only at h;rcases HI (base:=base) h with⟨wQ,h1,hf,hw⟩|⟨wQ,h1,hf,hw⟩
   ·rw[if_pos (hw N D w a s)]
    left
    obtain⟨av,fe,h2,o1,o2,o3,o4,o5⟩:=xP he h1;refine o5 N D w a (hf.rel _ _ _ _ s) _ _ λN' D' w' v x' s' hv=>?_;have s2:=(hf.rel _ _ _ _ s).put x' s' o1 o2 o.dst hv;refine ih n (ze8 n) (.ops all rest::k) _ K r h2 hk.ops N' D' w' _ Q s2 (λout LF hK N2 D2 w2 a2 s3 x2=>?_) (i+1) kW HK;rw[St.BQ] at x2;refine hQ out LF hK N2 D2 w2 a2 s3 ?_;rw[<-hf.h];exact x'.trans x2
   ·have hwf:=hw N D w a s
    rw[if_neg (by rw[hwf];simp)]
    have s1:=hf.rel _ _ _ _ s;have s2:=s1.put (Ext.refl _ _ _ _) s1.nw rfl rfl o.dst (u:= .val Go.undef) (v:=Go.undef) (ek.2 rfl);refine ih n (ze8 n) (.ops all rest::k) _ K r h1 hk.ops N D w _ Q s2 (λout LF hK N2 D2 w2 a2 s3 x2=>?_) (i+1) kW HK;rw[St.BQ,hf.h] at x2;exact hQ out LF hK N2 D2 w2 a2 s3 x2
 | .code c::k,hg,h=>
  have hk:=hg.tail;have hc:=hg.ok _ (zd0 ..);have RD:=hg.Yf _ (zd0 ..);show c.wp P (pQ P k Q) a w
  simp only at h;split at h
  ·exact wp_skip (pC hk.2.2 (ih n (ze8 n) k st K r h hk.CB N D w a Q s hQ))
  ·exact wp_label (pC hk.2.2 (ih n (ze8 n) k st K r h hk.CB N D w a Q s hQ))
  ·rename_i x y
   exact wp_seq (ih n (ze8 n) (.code x:: .code y::k) st K r h ((hk.cons hc.2 RD.2).cons hc.1 RD.1).CB N D w a Q s hQ)
  ·rename_i id ops draw
   split at h
   ·refine wp_region ?_
    have:=ih n (ze8 n) (.ops ops ops.toList::k) {st with ep:=st.ep+1} K r h hk.ops N D w a Q (s.W5 _) hQ 0 (zeU _) (by simp)
    rwa [Nat.sub_zero,<-List.range_eq_range'] at this
   ·obtain⟨m,Lx,h1,h2,h3⟩:=LD he hm (RD rfl) h
    refine h3 N D w a id _ (s.W5 _) λN' D' w' a' s' x'=>?_;exact pC hk.2.2 (ih m (Nat.lt_succ_of_lt h1) k Lx K r h2 hk.CB N' D' w' a' Q s' λout LF hK N2 D2 w2 a2 s3 x2=>hQ out LF hK N2 D2 w2 a2 s3 (x'.trans x2))
  ·rename_i c' x y
   split at h
   ·rename_i b hb
    have hev:=s.sS hb;cases b with
    |true=>exact wp_cond_true hev (ih n (ze8 n) (.code x::k) st K r h (hk.cons hc.1 RD.1).CB N D w a Q s hQ)
    |false=>exact wp_cond_false hev (ih n (ze8 n) (.code y::k) st K r h (hk.cons hc.2 RD.2).CB N D w a Q s hQ)
   ·rename_i hb
    split at h
    ·rename_i heq
     have heq:=kR.1 heq;have hv:=s.uz hb;unfold cw at hv;simp only[AV.isAgg,jz,aq] at hv;obtain⟨b,hv⟩:=hv;simp only[zdT] at hv;cases b with
     |true=>exact wp_cond_true hv (ih n (ze8 n) (.code x::k) st K r h (hk.cons hc.1 RD.1).CB N D w a Q s hQ)
     |false=>exact wp_cond_false hv (ih n (ze8 n) (.code y::k) st K r (heq▸h) (hk.cons hc.2 RD.2).CB N D w a Q s hQ)
    ·cases h
   ·cases h
  ·rename_i id c'
   exact wp_block (ih n (ze8 n) (.code c':: .Nf id::k) st K r h (sF.cons (c:=c') (sF.Nf (id:=id) hk) hc RD).CB N D w a Q s hQ)
  ·rename_i id
   exact wp_exit (W9 id k st hk h N D w a s (Ext.refl _ _ _ _))
  ·refine wp_ret ?_
   rw[tI];exact hQ .ret st h N D w a s (Ext.refl _ _ _ _)
  ·rename_i c'
   split at h
   ·rename_i id pJ
    obtain⟨out,fe,h1,h2⟩:=hl _ _ _ _ h;have hla:=hc.1 id pJ;have:=h2 N D w a s;rw[hla] at this;refine wp_mono this λe a' w' hq=>?_;obtain⟨rfl,N',D',s',x'⟩:=hq;split at h1
    ·cases h1
    ·show pQ P k Q .ret a' w'
     rw[tI];exact hQ .ret fe h1 N' D' w' a' s' x'
    ·rename_i QL
     exact W9 QL k fe hk h1 N' D' w' a' s' x'
   ·cases h
  ·cases h
end AM
namespace AM
open Go
variable {α:Type}{P:Program}{base:Nat}
def Sh.isAgg:Sh->Bool
 | .one=>false
 |_=>true
theorem z8 (v:AV):v.isAgg=v.sh.isAgg:=by cases v<;>simp[AV.isAgg,AV.sh,Sh.isAgg]
theorem C1 {N N':Names}{D D':Nat->Prop}{w w':World}{v v':AV}{c:Value}(hs:v'.sh=v.sh)(h:cw N D w v c)(hr: ∀g,aq N D w v g->aq N' D' w' v' g):cw N' D' w' v' c:=by
 unfold cw at*;rw[z8 v',hs,<-z8 v,<-kT v',hs,kT v];exact xy hr h
def kz.le (b b':kz):Prop:= ∀c g,b.get c=some g->b'.get c=some g
theorem kz.le_refl (b:kz):b.le b:=λ_ _ h=>h
theorem kz.le_trans {b b' UM:kz}(h1:b.le b')(h2:b'.le UM):b.le UM:=λc g h=>h2 c g (h1 c g h)
theorem kz.ua {b b':kz}{c:Nat}{g:xb}(h:b.add c g=some b'):b.le b'/\b'.get c=some g:=by
 unfold kz.add at h;split at h
 ·rename_i hn
  cases h;refine⟨λc' g' h'=>?_,by simp[kz.get]⟩
  by_cases e:c=c'
  ·subst e;rw[hn] at h';cases h'
  ·simp[kz.get,e,h']
 ·rename_i i j hi
  split at h
  ·rename_i e
   cases h;subst e;exact⟨kz.le_refl _,hi⟩
  ·cases h
 ·rename_i i j hi
  split at h
  ·rename_i e
   cases h;subst e;exact⟨kz.le_refl _,hi⟩
  ·cases h
 ·cases h
def Nm.shift (off:Nat)(nm:Nm):Nm:={nm with base:=nm.base.map (Addr.at_ · (min off nm.cap*nm.sh.size)),len:=nm.len-off,cap:=nm.cap-off}
def Nm.cut (off len:Nat)(nm:Nm):Nm:={nm.shift off with len:=min len (nm.len-off)}
def lB (N:Names)(b:kz)(Nc:Names)(c:Nat):Prop:=match b.get c with
 |some (.at_ i)=>Nc c=N i
 |some (.tl i off)=>Nc c=(N i).map (Nm.shift off)
 |some (.sl i off len)=>Nc c=(N i).map (Nm.cut off len)
 |some .nil=> ∃nm,Nc c=some nm/\nm.row=true/\nm.len=0/\nm.cap=0/\nm.base=none
 |none=>True
theorem lB.at_ {N:Names}{b:kz}{Nc:Names}{c i:Nat}(h:lB N b Nc c)(e:b.get c=some (.at_ i)):Nc c=N i:=by unfold lB at h;rw[e] at h;exact h
theorem lB.tl {N:Names}{b:kz}{Nc:Names}{c i off:Nat}(h:lB N b Nc c)(e:b.get c=some (.tl i off)):Nc c=(N i).map (Nm.shift off):=by unfold lB at h;rw[e] at h;exact h
theorem lB.sl {N:Names}{b:kz}{Nc:Names}{c i off len:Nat}(h:lB N b Nc c)(e:b.get c=some (.sl i off len)):Nc c=(N i).map (Nm.cut off len):=by unfold lB at h;rw[e] at h;exact h
theorem lB.nil {N:Names}{b:kz}{Nc:Names}{c:Nat}(h:lB N b Nc c)(e:b.get c=some .nil): ∃nm,Nc c=some nm/\nm.row=true/\nm.len=0/\nm.cap=0/\nm.base=none:=by unfold lB at h;rw[e] at h;exact h
theorem lB.mono {N:Names}{b b':kz}{Nc:Names}{c:Nat}(h:lB N b' Nc c)(hl:b.le b'):lB N b Nc c:=by
 unfold lB;split
 ·rename_i i e;exact h.at_ (hl _ _ e)
 ·rename_i i off e;exact h.tl (hl _ _ e)
 ·rename_i i off len e;exact h.sl (hl _ _ e)
 ·rename_i e;exact h.nil (hl _ _ e)
 ·trivial
theorem HP {s:St}: ∀(t:Ty) (v:AV) (k:t.den->List Nat->Option α) (r:α),qN s t v k=some r->v.sh=sr t
 | .int k',v,k,r,h=>by
  unfold qN at h;split at h
  ·simp[AV.sh,sr]
  ·cases h
 | .bool,v,k,r,h=>by
  unfold qN at h;split at h
  ·simp[AV.sh,sr]
  ·cases h
 | .str,v,k,r,h=>by
  unfold qN at h;split at h
  ·simp[AV.sh,sr]
  ·cases h
 | .nil,v,k,r,h=>by
  unfold qN at h;split at h
  ·simp[AV.sh,AV.yG,sr]
  ·cases h
 | .cons a b,v,k,r,h=>by
  unfold qN at h;split at h
  ·rename_i x l
   have h1:=HP a x _ r h;obtain⟨_,y,ids,h2,_⟩:=mJ a x _ r h;have h3:=HP b (.agg l) _ r h2;simp only[AV.sh] at h3;simp only[AV.sh,AV.yG,sr,<-h3,h1]
  ·cases h
 | .arr n t,v,k,r,h=>by
  unfold qN at h;split at h
  ·rename_i n' t' xs
   split at h
   ·rename_i e
    subst e;split at h
    ·rename_i ys hc
     obtain⟨rfl,_⟩:=iY hc;simp[AV.sh,sr]
    ·cases h
   ·cases h
  ·cases h
 | .deep t,v,k,r,h=>by
  unfold qN KS at h;split at h
  ·simp[AV.sh,sr]
  obtain⟨h1,h2,h3⟩:=zK h;have:=z8 v;rw[h1] at this;cases hv:v.sh with
  |one=>simp[sr]
  |agg l=>rw[hv] at this;simp[Sh.isAgg] at this
  |arr n e=>rw[hv] at this;simp[Sh.isAgg] at this
 | .ref _,v,k,r,h=>by
  unfold qN at h;split at h
  ·split at h
   ·simp[AV.sh,sr]
   ·cases h
  ·simp[AV.sh,sr]
  ·cases h
theorem NF (a:Addr)(n m:Nat):Addr.at_ (Addr.at_ a n) m=Addr.at_ a (n+m):=by simp[Addr.at_,zd8]
theorem UN {f g:Fn}(h:XN f g=true):f=g:=by
 cases f<;>cases g<;>simp[XN] at h
 subst h;rfl
theorem sW: ∀(p:List oh) (q:List Step) (k:oh.xa p->Option α) (f:Option α) (r:α),nD p q k f=some r->f=some r\/∃d,k d=some r/\oh.mk p d=q
 | [],[],k,f,r,h=> .inr ⟨(),h,rfl⟩
 | [],_::_,k,f,r,h=>by unfold nD at h;exact .inl h
 | .ir n::p,[],k,f,r,h=>by unfold nD at h;exact .inl h
 | .ir n::p, .ir m::q,k,f,r,h=>by
  unfold nD at h;split at h
  ·rename_i e
   simp only[zd1] at e;subst e;rcases sW p q k f r h with h1|⟨d,h1,h2⟩
   ·exact .inl h1
   ·exact .inr ⟨d,h1,by simp only[oh.mk,h2]⟩
  ·exact .inl h
 | .ir n::p, .idx i::q,k,f,r,h=>by unfold nD at h;exact .inl h
 | .idx::p,[],k,f,r,h=>by unfold nD at h;exact .inl h
 | .idx::p, .ir m::q,k,f,r,h=>by unfold nD at h;exact .inl h
 | .idx::p, .idx i::q,k,f,r,h=>by
  unfold nD at h;rcases sW p q _ f r h with h1|⟨d,h1,h2⟩
  ·exact .inl h1
  ·exact .inr ⟨(i,d),h1,by simp only[oh.mk,h2]⟩
def Fits (s:St)(v:AV)(b':kz)(i:List Nat)(cs ks:List Nat)(u:AV):Prop:=
 u.sh=v.sh/\∀N D w base,jX N D w base s.h->∀Nc D',mo ks N Nc->(∀c∈cs,lB N b' Nc c)->(∀b,D b->D' b)->ly N D' i->∀g,aq N D w v g->aq Nc D' w u g
mutual
theorem rn {s:St}: ∀(p:cp) (v:AV) (b:kz) (k:p.den->List Nat->kz->Option α) (f:Option α) (r:α),oK s p v b k f=some r->
  f=some r\/∃x i b',k x i b'=some r/\b.le b'/\Fits s v b' i p.cs p.ks (p.mk (λc=>c) x)
 | .hole t,v,b,k,f,r,h=>by
  unfold oK zaa at h;split at h
  ·right
   obtain⟨_,x,ids,h1,h2⟩:=mJ t v _ r h;refine⟨x,ids,b,h1,kz.le_refl _,?_,λN D w base S Nc D' hE _ hD hF g hg=>?_⟩
   ·simp only[cp.mk];rw[rO,HP t v _ r h]
   ·simp only[cp.mk]
    exact(kO t x g).2 (kv (λ_ h=>h) (λ_ _=>rfl) t x g (by simpa only[cp.ks] using hE) (h2 N D w base S g hg D' hD hF))
  ·exact .inl h
 | .vn t,v,b,k,f,r,h=>by
  unfold oK at h;split at h
  ·rename_i i p
   right
   obtain⟨u,h1,yz,qO⟩:=pB h;obtain⟨_,x,ids,h2,h3⟩:=mJ t u _ r h1;refine⟨x,i::ids,b,h2,kz.le_refl _,by simp only[cp.mk,AV.sh],λN D w base S Nc D' hE _ hD hF g hg=>?_⟩
   simp only[cp.mk,aq] at hg⊢;obtain⟨nm,a,o,g1,g2,g3,g4⟩:=hg;obtain⟨g5,g6,_⟩:=qO N D w base S nm a o g1 g2 g3;refine⟨Addr.at_ a o,g4,rfl,hF i (by simp) nm a g1 g2,(kO t x _).2 ?_⟩
   have:=h3 N D w base S _ g6 D' hD (λq hq=>hF q (zdZ _ hq));exact kv (λ_ h=>h) (λ_ _=>rfl) _ _ _ (by simpa only[cp.ks] using hE) (jm _ _ _ _ (λj _=>by simp only[aZ,Addr.at_,zd8]) this)
  ·rename_i u
   right
   obtain⟨_,x,ids,h2,h3⟩:=mJ t u _ r h;refine⟨x,ids,b,h2,kz.le_refl _,by simp only[cp.mk,AV.sh],λN D w base S Nc D' hE _ hD hF g hg=>?_⟩
   simp only[cp.mk,aq] at hg⊢;obtain⟨a,g1,g2,g3,g4⟩:=hg;exact⟨a,g1,g2,hD _ g3,(kO t x _).2 (kv (λ_ h=>h) (λ_ _=>rfl) t x _ (by simpa only[cp.ks] using hE) (h3 N D w base S _ g4 D' hD hF))⟩
  ·exact .inl h
 | .const c,v,b,k,f,r,h=>by
  unfold oK at h;split at h
  ·rename_i v'
   split at h
   ·rename_i hv
    right
    have:=Ri hv;subst this;exact⟨(),[],b,h,kz.le_refl _,rfl,λN D w base S Nc D' hE _ _ _ g hg=>by simpa only[cp.mk,aq] using hg⟩
   ·exact .inl h
  ·exact .inl h
 | .ptr c,v,b,k,f,r,h=>by
  unfold oK at h;split at h
  ·rename_i i
   split at h
   ·rename_i b' hb
    right
    obtain⟨h1,h2⟩:=kz.ua hb;refine⟨(),[],b',h,h1,rfl,λN D w base S Nc D' hE hR _ _ g hg=>?_⟩;simp only[cp.mk,aq] at hg⊢;obtain⟨nm,a,o,g1,g2⟩:=hg;exact⟨nm,a,o,by rw[(hR c (by simp[cp.cs])).at_ h2];exact g1,g2⟩
   ·exact .inl h
  ·exact .inl h
 | .own c,v,b,k,f,r,h=>by
  unfold oK at h;split at h
  ·rename_i i off
   split at h
   ·rename_i b' hb
    right
    obtain⟨h1,h2⟩:=kz.ua hb;refine⟨(),[],b',h,h1,rfl,λN D w base S Nc D' hE hR _ _ g hg=>?_⟩;simp only[cp.mk,aq] at hg⊢;obtain⟨nm,g1,g2,g3,g4,g5⟩:=hg;refine⟨nm.shift off,by rw[(hR c (by simp[cp.cs])).tl h2,g1];rfl,g2,zeU _,by simp only[Nm.shift];omega,?_⟩
    cases pK:nm.base with
    |none=>
     rw[pK] at g5;simp only[Nm.shift,pK,zeR];exact⟨by rw[g5.1];exact Nat.zero_sub _,g5.2⟩
    |some a=>
     rw[pK] at g5;simp only[Nm.shift,pK,zd2];obtain⟨u,room,g6,g7,g8⟩:=g5;refine⟨u,room,g6,by omega,?_⟩
     rw[NF,zeQ (zea g3 g4)];simpa using g8
   ·exact .inl h
  ·split at h
   ·rename_i b' hb
    right
    obtain⟨h1,h2⟩:=kz.ua hb;refine⟨(),[],b',h,h1,rfl,λN D w base S Nc D' hE hR _ _ g hg=>?_⟩;simp only[cp.mk,aq] at hg⊢;obtain⟨nm,g1,g2,g3,g4,g5⟩:=(hR c (by simp[cp.cs])).nil h2
    refine⟨nm,g1,g2,zeU _,by omega,?_⟩
    rw[g5];exact⟨g3,hg⟩
   ·exact .inl h
  ·split at h
   ·rename_i i off len _ mI
    split at h
    ·rename_i b' hb
     right
     obtain⟨h1,h2⟩:=kz.ua hb;refine⟨(),[],b',h,h1,rfl,λN D w base S Nc D' hE hR _ _ g hg=>?_⟩;simp only[cp.mk,aq] at hg⊢;obtain⟨nm,g1,g2⟩:=hg;have hr:nm.row=true:=by
      unfold zB at mI;split at mI
      ·rename_i ho
       obtain⟨mG,e1,e2,_⟩:=S.obj i _ ho;rw[g1] at e1;cases e1;exact e2
      ·cases mI
     refine⟨nm.cut off len,by rw[(hR c (by simp[cp.cs])).sl h2,g1];rfl,hr,zeU _,?_,?_⟩
     ·cases pK:nm.base with
      |none=>rw[pK] at g2;simp only[Nm.cut,Nm.shift];omega
      |some a=>
       rw[pK] at g2;simp only[hr,List.isEmpty_nil,ze9,if_true] at g2;simp only[Nm.cut,Nm.shift];omega
     cases pK:nm.base with
     |none=>
      rw[pK] at g2;simp only[Nm.cut,Nm.shift,pK,zeR];obtain⟨_,_,g3,_,g4⟩:=g2;subst g3;exact⟨by omega,g4⟩
     |some a=>
      rw[pK] at g2;simp only[hr,List.isEmpty_nil,ze9,if_true] at g2;obtain⟨g3,g4,u,room,g5,g6,g7,g8⟩:=g2;simp only[Nm.cut,Nm.shift,pK,zd2];refine⟨u,room,g5,by omega,?_⟩
      rw[NF,zeQ (show off<=nm.cap by omega),zeQ (show len<=nm.len-off by omega)]
      simpa using g8
    ·exact .inl h
   ·exact .inl h
  ·exact .inl h
 | .Fj c,v,b,k,f,r,h=>by
  unfold oK at h;split at h
  ·rename_i i off len
   split at h
   ·rename_i h0
    simp only[zd1] at h0;subst h0;split at h
    ·rename_i b' hb
     right
     obtain⟨h1,h2⟩:=kz.ua hb;refine⟨len,[],b',h,h1,rfl,λN D w base S Nc D' hE hR _ _ g hg=>?_⟩;simp only[cp.mk,aq] at hg⊢;obtain⟨nm,g1,g2⟩:=hg;refine⟨nm.shift 0,by rw[(hR c (by simp[cp.cs])).tl h2,g1];rfl,?_⟩
     cases pK:nm.base with
     |none=>
      rw[pK] at g2;simp only[Nm.shift,pK,zeR];exact g2
     |some a=>
      rw[pK] at g2;simp only[Nm.shift,pK,zd2];simp only at g2;split at g2
      ·rename_i mI
       rw[if_pos mI];obtain⟨g3,g4,u,room,g5,g6,g7,g8⟩:=g2;exact⟨g3,g4,u,room,g5,g6,g7,by rw[NF];simpa using g8⟩
      ·rename_i mI
       rw[if_neg mI];obtain⟨o,n,e,u,room,g3,g4,g5,g6,g7,g8⟩:=g2;exact⟨o,n,e,u,room,g3,g4,g5,g6,g7,by rw[NF];simpa using g8⟩
    ·exact .inl h
   ·exact .inl h
  ·exact .inl h
 | .agg ps,v,b,k,f,r,h=>by
  unfold oK at h;split at h
  ·rename_i vs
   rcases uX ps vs b k f r h with h1|⟨x,i,b',h1,h2,h3,h4⟩
   ·exact .inl h1
   ·right
    refine⟨x,i,b',h1,h2,by simp only[cp.mk,AV.sh,h3],λN D w base S Nc D' hE hR hD hF g hg=>?_⟩
    simp only[cp.mk,aq] at hg⊢;exact(h4 N D w base S Nc D' (by simpa [cp.ks] using hE) (by simpa [cp.cs] using hR) hD hF).1 g hg
  ·exact .inl h
 | .kf c p,v,b,k,f,r,h=>by
  unfold oK at h;split at h
  ·rename_i i q
   rcases sW p q _ f r h with h1|⟨d,hd,hq⟩
   ·exact .inl h1
   ·split at hd
    ·rename_i b' hb
     right
     obtain⟨h1,h2⟩:=kz.ua hb;refine⟨d,[],b',hd,h1,rfl,λN D w base S Nc D' hE hR _ _ g hg=>?_⟩;simp only[cp.mk,aq] at hg⊢;obtain⟨nm,a,o,g1,g2⟩:=hg;exact⟨nm,a,o,by rw[(hR c (by simp[cp.cs])).at_ h2];exact g1,by rw[hq];exact g2⟩
    ·exact .inl hd
  ·exact .inl h
 | .wZ fn ps,v,b,k,f,r,h=>by
  unfold oK at h;split at h
  ·rename_i fn' vs
   split at h
   ·rename_i hfn
    have hfn:=UN hfn;subst hfn;rcases uX ps vs b k f r h with h1|⟨x,i,b',h1,h2,h3,h4⟩
    ·exact .inl h1
    ·right
     refine⟨x,i,b',h1,h2,by simp only[cp.mk,AV.sh],λN D w base S Nc D' hE hR hD hF g hg=>?_⟩
     simp only[cp.mk,aq] at hg⊢;obtain⟨cs,g1,g2⟩:=hg;exact⟨cs,g1,(h4 N D w base S Nc D' (by simpa [cp.ks] using hE) (by simpa [cp.cs] using hR) hD hF).2 _ g2⟩
   ·exact .inl h
  ·exact .inl h
 | .uu c n,v,b,k,f,r,h=>by
  unfold oK at h;split at h
  ·rename_i i m
   split at h
   ·rename_i hn
    simp only[zd1] at hn;subst hn;split at h
    ·rename_i b' hb
     right
     obtain⟨h1,h2⟩:=kz.ua hb;refine⟨(),[],b',h,h1,rfl,λN D w base S Nc D' hE hR _ _ g hg=>?_⟩;simp only[cp.mk,aq] at hg⊢;obtain⟨nm,a,g1,g2⟩:=hg;exact⟨nm,a,by rw[(hR c (by simp[cp.cs])).at_ h2];exact g1,g2⟩
    ·exact .inl h
   ·exact .inl h
  ·exact .inl h
 | .skip,v,b,k,f,r,h=>by
  unfold oK at h;split at h
  ·rename_i yz
   right
   exact⟨(),[],b,h,kz.le_refl _,by simp only[cp.mk,AV.sh];exact yz.symm,λN D w base S Nc D' hE _ _ _ g hg=>by simp only[cp.mk,aq]⟩
  ·exact .inl h
 | .I1 p,v,b,k,f,r,h=>by
  unfold oK at h;split at h
  ·rename_i i q
   obtain⟨u,h1,yz,qO⟩:=pB h;rcases rn p u b _ f r h1 with h2|⟨x,ids,b',h2,h3,h4,h5⟩
   ·exact .inl h2
   ·right
    refine⟨x,i::ids,b',h2,h3,by simp only[cp.mk,AV.sh],λN D w base S Nc D' hE hR hD hF g hg=>?_⟩
    simp only[cp.mk,aq] at hg⊢;obtain⟨nm,a,o,g1,g2,g3,g4⟩:=hg;obtain⟨g5,g6,_⟩:=qO N D w base S nm a o g1 g2 g3;refine⟨Addr.at_ a o,g4,rfl,hF i (by simp) nm a g1 g2,?_⟩
    have:=h5 N D w base S Nc D' (by simpa only[cp.ks] using hE) (by simpa only[cp.cs] using hR) hD (λq hq=>hF q (zdZ _ hq)) _ g6
    exact jR _ _ _ (λj _=>by simp only[aZ,Addr.at_,zd8]) this
  ·rename_i u
   rcases rn p u b k f r h with h2|⟨x,ids,b',h2,h3,h4,h5⟩
   ·exact .inl h2
   ·right
    refine⟨x,ids,b',h2,h3,by simp only[cp.mk,AV.sh],λN D w base S Nc D' hE hR hD hF g hg=>?_⟩
    simp only[cp.mk,aq] at hg⊢;obtain⟨a,g1,g2,g3,g4⟩:=hg;exact⟨a,g1,g2,hD _ g3,h5 N D w base S Nc D' (by simpa only[cp.ks] using hE) (by simpa only[cp.cs] using hR) hD hF _ g4⟩
  ·exact .inl h
theorem uX {s:St}: ∀(ps:List cp) (vs:List AV) (b:kz) (k:cp.xa ps->List Nat->kz->Option α) (f:Option α) (r:α),uH s ps vs b k f=some r->
  f=some r\/∃x i b',k x i b'=some r/\b.le b'/\AV.yG (cp.qS (λc=>c) ps x)=AV.yG vs/\∀N D w base,jX N D w base s.h->∀Nc D',mo (cp.Q4 ps) N Nc->(∀c∈cp.UD ps,lB N b' Nc c)->(∀b,D b->D' b)->ly N D' i->(∀g,fg N D w vs g->fg Nc D' w (cp.qS (λc=>c) ps x) g)/\∀cs,bF N D w vs cs->bF Nc D' w (cp.qS (λc=>c) ps x) cs
 | [],[],b,k,f,r,h=>by
  unfold uH at h;exact .inr ⟨(),[],b,h,kz.le_refl _,rfl,λN D w base S Nc D' hE _ _ _=>⟨λg _=>by simp only[cp.qS,fg],λcs hc=>by simpa only[cp.qS,bF] using hc⟩⟩
 |p::ps,v::vs,b,k,f,r,h=>by
  unfold uH at h;rcases rn p v b _ f r h with h1|⟨x,i,b',h1,h2,h3,h4⟩
  ·exact .inl h1
  ·rcases uX ps vs b' _ f r h1 with h5|⟨y,j,UM,h5,h6,h7,h8⟩
   ·exact .inl h5
   ·right
    refine⟨(x,y),i++j,UM,h5,kz.le_trans h2 h6,by simp only[cp.qS,AV.yG,h3,h7],λN D w base S Nc D' hE hR hD hF=>?_⟩
    simp only[cp.Q4] at hE;have a1:=h4 N D w base S Nc D' hE.left (λc hc=>(hR c (by simp[cp.UD,hc])).mono h6) hD hF.left
    obtain⟨a2,a3⟩:=h8 N D w base S Nc D' hE.right (λc hc=>hR c (by simp[cp.UD,hc])) hD hF.right
    have hsz:(p.mk (λc=>c) x).size=v.size:=by rw[<-kT,h3,kT]
    refine⟨λg hg=>?_,λcs hc=>?_⟩
    ·simp only[cp.qS,fg] at hg⊢
     refine⟨a1 g hg.1,?_⟩;rw[hsz];exact a2 _ hg.2
    ·simp only[cp.qS,bF] at hc⊢
     obtain⟨c,tG,e1,e2,e3⟩:=hc;exact⟨c,tG,e1,C1 (v:=v) h3 e2 a1,a3 _ e3⟩
 | [],_::_,b,k,f,r,h=>by unfold uH at h;exact .inl h
 |_::_,[],b,k,f,r,h=>by unfold uH at h;exact .inl h
end
end AM
namespace AM
open Go
variable {α:Type}{P:Program}{base:Nat}
def aK.sh:aK->Sh
 | .row t=>sr t
 |_=> .one
def aK.isVar:aK->Bool
 | .var _=>true
 |_=>false
theorem fJ {l:List (Nat×aK)}{x:Nat}:da l x=true↔∃e∈l,e.1=x/\e.2.mY=true:=by
 unfold da;rw[List.any_eq_true];constructor
 ·rintro⟨e,he,h⟩
  rw[zdV] at h;refine⟨e,he,by simpa using h.1,?_⟩
  have h2:=h.2;unfold aK.mY;exact h2
 ·rintro⟨e,he,h1,h2⟩
  refine⟨e,he,?_⟩;rw[zdV];exact⟨by simpa using h1,h2⟩
theorem C3 {b:kz}{c:Nat}(h: ¬SB<=c):b.look c=b.get c:=by unfold kz.look;rw[decide_eq_false h]
theorem uN {b:kz}{c:Nat}(h:SB<=c):b.look c=some (.at_ c):=by unfold kz.look;rw[decide_eq_true h]
theorem NG {b b':kz}(h:b.le b'){c:Nat}{g:xb}(e:b.look c=some g):b'.look c=some g:=by
 by_cases hc:SB<=c
 ·rw[uN hc] at e⊢;exact e
 ·rw[C3 hc] at e⊢;exact h _ _ e
def xS (N:Names)(g:Option xb)(p:aK):Option Nm:=match p.mY with
 |true=>none
 |false=>match g with
  |some (.at_ i)=>N i
  |some (.tl i off)=>(N i).map (Nm.shift off)
  |some (.sl i off len)=>(N i).map (Nm.cut off len)
  |some .nil=>some ⟨none,p.sh,true,0,0⟩
  |none=>none
def ub (N:Names)(b:kz):List (Nat×aK)->Nat->Option Nm
 | []=>λ_=>none
 |o::os=>λc=>if c=o.1 then xS N (b.look o.1) o.2 else ub N b os c
def jh (N:Names)(b:kz)(l:List (Nat×aK)):Names:=⟨λp=>match p with| []=>ub N b l|(g,k)::p=>if da l (SB+g)=true then N.at_ ((g,k)::p) else λ_=>none⟩
theorem vH {N:Names}{b:kz}{l:List (Nat×aK)}{g:Nat}(h:da l (SB+g)=true)(k:Nat):(jh N b l).sub g k=N.sub g k:=by
 unfold Names.sub jh;simp only[h,if_true]
theorem ze {N:Names}{b:kz}{l:List (Nat×aK)}{g:Nat}(h:da l (SB+g)=false)(k:Nat):(jh N b l).sub g k=Names.nil:=by
 unfold Names.sub jh Names.nil;simp only[h,zdU,if_false]
theorem Aa {s:St}: ∀(l:List (Nat×cp)) (b:kz) (k:wN l->List Nat->kz->Option α) (f:Option α) (r:α),Hh s l b k f=some r->
  f=some r\/∃x i b',k x i b'=some r/\b.le b'/\∀N D w base,jX N D w base s.h->∀Nc D',mo (Du l) N Nc->(∀c∈AX l,lB N b' Nc c)->(∀b,D b->D' b)->ly N D' i->∀y c,cw N D w (s.t y) c->cw Nc D' w (yW (λc=>c) l x y) c
 | [],b,k,f,r,h=> .inr ⟨(),[],b,h,kz.le_refl _,λN D w base S Nc D' _ _ _ _ y c _=>by simp only[yW];exact pb⟩
 |o::os,b,k,f,r,h=>by
  unfold Hh at h;rcases rn o.2 (s.t o.1) b _ f r h with h1|⟨x,i,b',h1,h2,h3,h4⟩
  ·exact .inl h1
  ·rcases Aa os b' _ f r h1 with h5|⟨y,j,UM,h5,h6,h7⟩
   ·exact .inl h5
   ·right
    refine⟨(x,y),i++j,UM,h5,kz.le_trans h2 h6,λN D w base S Nc D' hE hR hD hF z c hc=>?_⟩;have hE:mo (o.2.ks++Du os) N Nc:=by simpa only[Du,zeA] using hE
    simp only[yW];by_cases e:z=o.1
    ·rw[if_pos e]
     subst e;exact C1 h3 hc λg hg=>h4 N D w base S Nc D' hE.left (λc hc=>(hR c (by simp[AX,hc])).mono h6) hD hF.left g hg
    ·rw[if_neg e]
     exact h7 N D w base S Nc D' hE.right (λc hc=>hR c (by simp only[AX,zeA,zfa] at hc⊢;exact .inr hc)) hD hF.right z c hc
def fO.own:fO->Bool
 | .store _ _=>true
 |o=>o.rw
def UO (s:St)(p:aK)(g:xb):Prop:= ∀i∈g.ids,(∃o,s.h i=some o/\o.own=true/\(p.mY=false->o.rw=true))\/p.mY=true/\iK (s.h i)=true
def NH (s:St)(N:Names)(D:Nat->Prop)(l:List Nat):Prop:= ∀i∈l,∀o b,s.h i=some o->iR N i o b->¬D b
theorem DP {e e':List (Nat×aK)}{xs:List (cT e)}{ys:List (cT e')}(h:Nh e e' xs=some ys): ∃q:e=e',ys=q▸xs:=by
 unfold Nh at h;split at h
 ·rename_i hb
  simp only[zdT] at h;exact⟨CW hb,h.symm⟩
 ·cases h
theorem Gi {N Nc:Names}{D D':Nat->Prop}{w:World}{t:Ty}{xs:List t.den}{i c off len:Nat}{nm mG:Nm}(e1:N i=some nm)(h:nF N D w base i false t xs)(hc:Nc c=some mG)(hb:mG.base=(nm.shift off).base)(hs:mG.sh=nm.sh)(hr:mG.row=nm.row)(hl:mG.len=len)(Ft:mG.cap=nm.cap-off)
  (hle:len<=nm.len-off) (hK:mo t.ks N Nc) (hD: ∀b,D b->D' b) (hnd: ∀a,nm.base=some a->¬D' a.block):nF Nc D' w base c false t ((xs.drop off).take len:List t.den):=by
 obtain⟨WU,f1,e2,e3,e4,e5,e6⟩:=h;rw[e1] at f1;cases f1;have hlen:aQ (β:=t.den) ((xs.drop off).take len)=len:=by simp only[aQ,zeh,zei];simp only[aQ] at e4;omega
 refine⟨mG,hc,by rw[hr];exact e2,by rw[hs];exact e3,by rw[hl];exact hlen.symm,by rw[hl,Ft];omega,?_⟩
 cases vl:nm.base with
 |none=>
  rw[vl] at e6;rw[hb];simp only[Nm.shift,vl,zeR];omega
 |some a=>
  rw[vl] at e6;rw[hb];simp only[Nm.shift,vl,zd2];obtain⟨f1,⟨cc,ty,fz,f2,f3,f4⟩,f5,f6⟩:=e6;simp only[zdU,if_false] at f5⊢;have hsz:nm.sh.size=t.size:=by rw[e3,iL]
  refine⟨rfl,⟨cc,ty,fz,f2,?_,λ_=>f4 rfl⟩,⟨f5.1,hnd a vl⟩,λj x hx=>?_⟩
  ·have h1:min off nm.cap*nm.sh.size+(nm.cap-off)*t.size=nm.cap*t.size:=by
    rw[hsz,<-zd7];congr 1;omega
   rw[Ft];simp only[Addr.at_];omega
  ·have Xa:((xs.drop off).take len)[j]?=some x:=hx
   rw[zej] at Xa;split at Xa
   ·rename_i hj
    rw[zek] at Xa;have BS:jW (β:=t.den) xs (off+j)=some x:=Xa;have kW:=ym BS;have Yb:min off nm.cap=off:=by omega
    refine iy.func (kv hD (λ_ _=>rfl) _ _ _ hK (f6 _ _ BS)) λm=>?_;simp only[aZ,Addr.at_];congr 2
    rw[Yb,hsz,zd7];omega
   ·cases Xa
theorem HQ {s:St}{f:Option α}(p:aK)(g:xb)(b:kz)(k:p.den->List Nat->kz->Option α)(r:α)(h:KY s f p g b k=some r):
  f=some r\/∃x i b',k x i b'=some r/\b.le b'/\UO s p g/\(p.isVar=true->∃i,g= .at_ i)/\(∀ep ys,p.mk (λc=>c) x= .store ep ys->∃i,g= .at_ i/\SB<=i/\(s.h i=some (.store ep ys)\/iK (s.h i)=true/\ys=[]))/\
   ∀N D w base,jX N D w base s.h->∀Nc D' c,mo p.ks N Nc->(∀c∈p.cs,lB N b' Nc c)->(∀b,D b->D' b)->ly N D' i->NH s N D' g.ids->(p.mY=false->Nc c=xS N (some g) p)->(p.mY=true->g= .at_ c/\∀k,Nc.sub (c-SB) k=N.sub (c-SB) k)->qB Nc D' w base c (p.mk (λc=>c) x):=by
 unfold KY at h;split at h
 ·rename_i p i k
  split at h
  ·rename_i v hv
   rcases rn p v b _ f r h with h1|⟨x,j,b',h1,h2,h3,h4⟩
   ·exact .inl h1
   ·refine .inr ⟨x,j,b',h1,h2,λi' nB=>?_,λ_=>⟨i,rfl⟩,λep ys e=>by simp[aK.mk] at e,λN D w base S Nc D' c hE hR hD hF hN hc _=>?_⟩
    ·simp only[xb.ids,zfb] at nB
     subst nB;exact .inl ⟨_,hv,rfl,λ_=>rfl⟩
    ·obtain⟨nm,a,e1,e2,e3,e4,e5,e6,e7,e8,⟨cc,ty,e9,yj⟩,Np⟩:=S.obj i _ hv
     have hc:Nc c=N i:=hc rfl;refine⟨nm,a,by rw[hc];exact e1,e2,e3,by rw[e4];exact h3.symm,e5,e6,e7,hN i (by simp[xb.ids]) _ _ hv (iR.of rfl e1 e2),⟨cc,ty,e9,?_⟩,h4 N D w base S Nc D' hE hR hD hF _ Np⟩
     rw[yj,<-kT v,<-kT,h3]
  ·cases h
 ·rename_i t i off k
  split at h
  ·rename_i t' xs hv
   split at h
   ·rename_i ys xN
    obtain⟨rfl,rfl⟩:=iY xN;refine .inr ⟨_,_,_,h,kz.le_refl _,λi' nB=>?_,(by intro e;cases e),λep ys e=>by simp[aK.mk] at e,λN D w base S Nc D' c hE hR hD hF hN hc _=>?_⟩
    ·simp only[xb.ids,zfb] at nB
     subst nB;exact .inl ⟨_,hv,rfl,λ_=>rfl⟩
    ·have na:nF N D w base i false t' ys:=S.obj i _ hv
     obtain⟨nm,e1,e2,e3,e4,e5,e6⟩:=id na;have hc:Nc c=some (nm.shift off):=by have:=hc rfl;simpa [xS,aK.mY,e1] using this
     have:=Gi (len:=nm.len-off) e1 na hc rfl rfl rfl rfl rfl (zd9 _) hE hD (λa ha=>hN i (by simp[xb.ids]) _ _ hv (iR.of rfl e1 ha))
     rw[e4] at this;have e:((ys.drop off).take (aQ (β:=t'.den) ys-off):List t'.den)=ys.drop off:=zen (by simp[aQ])
     rw[e] at this;exact this
   ·cases h
  ·cases h
 ·rename_i t i off len k
  split at h
  ·rename_i t' xs hv
   split at h
   ·rename_i ys xN
    obtain⟨rfl,rfl⟩:=iY xN;refine .inr ⟨_,_,_,h,kz.le_refl _,λi' nB=>?_,(by intro e;cases e),λep ys e=>by simp[aK.mk] at e,λN D w base S Nc D' c hE hR hD hF hN hc _=>?_⟩
    ·simp only[xb.ids,zfb] at nB
     subst nB;exact .inl ⟨_,hv,rfl,λ_=>rfl⟩
    ·have na:nF N D w base i false t' ys:=S.obj i _ hv
     obtain⟨nm,e1,e2,e3,e4,e5,e6⟩:=id na;have hc:Nc c=some (nm.cut off len):=by have:=hc rfl;simpa [xS,aK.mY,e1] using this
     have:=Gi (len:=min len (nm.len-off)) e1 na hc rfl rfl rfl rfl rfl (Nat.min_le_right _ _) hE hD (λa ha=>hN i (by simp[xb.ids]) _ _ hv (iR.of rfl e1 ha))
     rw[e4] at this;have e:((ys.drop off).take (min len (aQ (β:=t'.den) ys-off)):List t'.den)=(ys.drop off).take len:=by
      rcases Nat.le_total len (aQ (β:=t'.den) ys-off) with hl|hl
      ·rw[zeQ hl]
      ·rw[Nat.min_eq_right hl,zen (show(ys.drop off).length<=len by simpa [aQ] using hl),zen (by simp[aQ])]
     rw[e] at this;exact this
   ·cases h
  ·cases h
 ·rename_i t k
  refine .inr ⟨_,_,_,h,kz.le_refl _,λi' nB=>by simp[xb.ids] at nB,(by intro e;cases e),λep ys e=>by simp[aK.mk] at e,λN D w base S Nc D' c hE hR hD hF hN hc _=>?_⟩
  exact⟨_,hc rfl,rfl,rfl,rfl,zd9 _,rfl⟩
 ·rename_i ep i k
  split at h
  ·rename_i hSB
   simp only[zd1] at hSB;have UP:iK (s.h i)=true->k [] [] b=some r->∃x j b',k x j b'=some r/\b.le b'/\UO s (.store ep) (.at_ i)/\((aK.store ep).isVar=true->∃i',xb.at_ i= .at_ i')/\(∀Fk ys,(aK.store ep).mk (λc=>c) x= .store Fk ys->∃i',xb.at_ i= .at_ i'/\SB<=i'/\(s.h i'=some (.store Fk ys)\/iK (s.h i')=true/\ys=[]))/\
     ∀N D w base,jX N D w base s.h->∀Nc D' c,mo (aK.store ep).ks N Nc->(∀c∈(aK.store ep).cs,lB N b' Nc c)->(∀b,D b->D' b)->ly N D' j->NH s N D' (xb.at_ i).ids->((aK.store ep).mY=false->Nc c=xS N (some (.at_ i)) (.store ep))->((aK.store ep).mY=true->xb.at_ i= .at_ c/\∀k,Nc.sub (c-SB) k=N.sub (c-SB) k)->qB Nc D' w base c ((aK.store ep).mk (λc=>c) x):=by
    intro ha hk;refine⟨_,_,_,hk,kz.le_refl _,λi' nB=>?_,(by intro e;cases e),λFk ys e=>?_,λN D w base S Nc D' c hE hR hD hF hN _ hc=>?_⟩
    ·simp only[xb.ids,zfb] at nB
     subst nB;exact .inr ⟨rfl,ha⟩
    ·simp only[aK.mk,fO.store.injEq] at e
     obtain⟨rfl,e⟩:=e;exact⟨i,rfl,hSB, .inr ⟨ha,(eq_of_heq e).symm⟩⟩
    ·obtain⟨h1,h2⟩:=hc rfl
     cases h1;have ox:=S.iK (i-SB) (by rw[show SB+(i-SB)=i by omega];exact ha)
     simp only[aK.mk,qB,jf];exact⟨hSB,λk d hk=>by simp[jW] at hk,λk _=>by rw[h2,ox],λk k' d d' b hk=>by simp[jW] at hk⟩
   split at h
   ·rename_i Fk xs hv
    split at h
    ·rename_i ys xN
     obtain⟨rfl,rfl⟩:=DP xN;refine .inr ⟨_,_,_,h,kz.le_refl _,λi' nB=>?_,(by intro e;cases e),λep ys e=>?_,λN D w base S Nc D' c hE hR hD hF hN _ hc=>?_⟩
     ·simp only[xb.ids,zfb] at nB
      subst nB;exact .inl ⟨_,hv,rfl,λe=>by cases e⟩
     ·simp only[aK.mk,fO.store.injEq] at e
      obtain⟨rfl,e⟩:=e;have e:=eq_of_heq e;subst e;exact⟨i,rfl,hSB, .inl hv⟩
     ·obtain⟨h1,h2⟩:=hc rfl
      cases h1;exact(jf.congr hD (λ_ _=>rfl) (show jf D w base N i (.store _) _ from S.obj i _ hv) λb hO=>⟨rfl,λ_=>hN i (by simp[xb.ids]) _ _ hv hO⟩).uK h2
    ·cases h
   ·rename_i hv;exact .inr (UP (by rw[hv];rfl) h)
   ·rename_i hv;exact .inr (UP (by rw[hv];rfl) h)
   ·cases h
  ·cases h
 ·cases h
def RE (s:St)(l:List (Nat×aK))(y:cT l):Prop:= ∀c ep ys,mR (λc=>c) l y (λ_=>none) c=some (.store ep ys)->SB<=c/\(s.h c=some (.store ep ys)\/iK (s.h c)=true/\ys=[])
theorem Ab {s:St}{f:Option α}: ∀(l:List (Nat×aK)) (b:kz) (k:cT l->List Nat->kz->Option α) (r:α),Hi s f l b k=some r->
  f=some r\/∃y j b',k y j b'=some r/\b.le b'/\(∀e∈l,∃g,b'.look e.1=some g/\UO s e.2 g/\(e.2.isVar=true->∃i,g= .at_ i)/\(e.2.mY=true->g= .at_ e.1->SB<=e.1))/\((∀e∈l,e.2.mY=true->SB<=e.1)->RE s l y)/\
  ∀N D w base,jX N D w base s.h->∀Nc D',mo (Dv l) N Nc->(∀c∈AY l,lB N b' Nc c)->(∀b,D b->D' b)->ly N D' j->NH s N D' (iN l b')->(∀e∈l,e.2.mY=true->SB<=e.1/\∀k,Nc.sub (e.1-SB) k=N.sub (e.1-SB) k)->∀c o,mR (λc=>c) l y (λ_=>none) c=some o->Nc c=ub N b' l c->qB Nc D' w base c o
 | [],b,k,r,h=> .inr ⟨(),[],b,h,kz.le_refl _,λe he=>by simp at he,λ_ c ep ys hc=>by simp[mR] at hc,λN D w base S Nc D' _ _ _ _ _ _ c o ho=>by simp[mR] at ho⟩
 |(ce,pe)::es,b,k,r,h=>by
  unfold Hi at h;split at h
  ·rename_i g hg
   rcases HQ pe g b _ r h with hf|⟨x,i,b',h1,h2,h3,h3v,h3s,h4⟩
   ·exact .inl hf
   rcases Ab es b' _ r h1 with hf|⟨y,j,UM,h5,h6,h7,h7s,h8⟩
   ·exact .inl hf
   have CC:UM.look ce=some g:=NG h6 (NG h2 hg);refine .inr ⟨(x,y),i++j,UM,h5,kz.le_trans h2 h6,List.forall_mem_cons.2 ⟨⟨g,CC,h3,h3v,λkr e=>?_⟩,h7⟩,λHy c ep ys hc=>?_,λN D w base S Nc D' hE hR hD hF hN hS c o ho hc=>?_⟩
   ·subst e
    cases pe with
    |store ep=>obtain⟨i',e1,e2,_⟩:=h3s ep x rfl;cases e1;exact e2
    |var p=>cases kr
    |row t=>cases kr
   ·simp only[mR] at hc
    split at hc
    ·rename_i e
     subst e;simp only[zdT] at hc;obtain⟨i',e1,e2,e3⟩:=h3s ep ys hc;have sB:SB<=c:=by
      refine Hy (c,pe) (zd0 ..) ?_;cases pe<;>simp[aK.mk] at hc
      rfl
     rw[uN sB] at hg;rw[e1] at hg;cases hg;exact⟨sB,e3⟩
    ·exact h7s (λe he=>Hy e (zdZ _ he)) c ep ys hc
   ·simp only[mR] at ho
    simp only[ub] at hc;have hE:mo (pe.ks++Dv es) N Nc:=by simpa only[Dv,zeA] using hE
    by_cases ec:c=ce
    ·rw[if_pos ec] at ho hc
     cases ho;subst ec;rw[CC] at hc;refine h4 N D w base S Nc D' c hE.left (λc hc=>(hR c (by simp[AY,hc])).mono h6) hD hF.left (λi hi=>hN i (by simp only[iN,zeA,CC,zfa];exact .inl hi)) (λ_=>hc) λkr=>?_
     obtain⟨g1,g2⟩:=hS (c,pe) (zd0 ..) kr;rw[uN g1] at CC;cases CC;exact⟨rfl,g2⟩
    ·rw[if_neg ec] at ho hc
     exact h8 N D w base S Nc D' hE.right (λc hc=>hR c (by simp only[AY,zeA,zfa] at hc⊢;exact .inr hc)) hD hF.right (λi hi=>hN i (by simp only[iN,zeA,zfa] at hi⊢;exact .inr hi)) (λe he=>hS e (zdZ _ he)) c o ho hc
  ·cases h
end AM
namespace AM
open Go
variable {α:Type}{P:Program}{base:Nat}
structure wm (sp:jw):Prop where
 cs: ∀c,(c∈AX sp.jP\/c∈AY sp.heap)->c<SB/\∃e∈sp.heap,e.1=c
 ks: ∀g,(g∈Du sp.jP\/g∈Dv sp.heap)->da sp.heap (SB+g)=true
 st: ∀e∈sp.heap,(e.2.mY=true↔SB<=e.1)
theorem uO {sp:jw}(h:sp.closed=true):wm sp:=by
 simp only[jw.closed,zdV,zew,zd1,List.any_eq_true] at h;refine⟨λc hc=>h.1.1 c (List.mem_append.2 hc),λg hg=>h.1.2 g (List.mem_append.2 hg),λe he=>?_⟩;have:=h.2 e he;rw[beq_iff_eq] at this;rw[this];simp
def Bd (N:Names)(D:Nat->Prop)(ro:List Nat)(b:Nat):Prop:=D b\/∃i∈ro,∃nm a,N i=some nm/\nm.base=some a/\a.block=b
structure HR (s:St)(sp:jw)(b:kz)(ro:List Nat)(d:cT sp.heap):Prop where
 bound: ∀e∈sp.heap,∃g,b.look e.1=some g/\UO s e.2 g/\(e.2.isVar=true->∃i,g= .at_ i)
 nodup:nodup (iN sp.heap b)=true
 ro: ∀i∈ro,i∉iN sp.heap b/\∃o,s.h i=some o/\((∃v,o= .var v)\/∃r t xs,o= .row r t xs)
 link:RE s sp.heap d
 st: ∀e∈sp.heap,(e.2.mY=true↔SB<=e.1)
def DQ (b:kz)(c:Nat):List Nat:=match b.look c with|some g=>g.ids|none=> []
theorem RF (l:List (Nat×aK))(b:kz):iN l b=l.flatMap λo=>DQ b o.1:=rfl
theorem Be {l:List (Nat×aK)}{b:kz}{i:Nat}:i∈iN l b↔∃e∈l,i∈DQ b e.1:=by rw[RF,List.mem_flatMap]
theorem Pg {N:Names}{b:kz}{c:Nat}{p:aK}{nm:Nm}{a:Addr}(h:xS N (b.look c) p=some nm)(hb:nm.base=some a): ∃i∈DQ b c,∃mG a',N i=some mG/\mG.base=some a'/\a'.block=a.block:=by
 unfold DQ;unfold xS at h;split at h
 ·cases h
 cases hg:b.look c with
 |none=>rw[hg] at h;cases h
 |some g=>
  rw[hg] at h;cases g with
  |at_ i=>exact⟨i,by simp[xb.ids],nm,a,h,hb,rfl⟩
  |tl i off=>
   simp only[zeJ] at h;obtain⟨mG,h1,rfl⟩:=h;simp only[Nm.shift,zeJ] at hb;obtain⟨a',h2,rfl⟩:=hb;exact⟨i,by simp[xb.ids],mG,a',h1,h2,rfl⟩
  |sl i off len=>
   simp only[zeJ] at h;obtain⟨mG,h1,rfl⟩:=h;simp only[Nm.cut,Nm.shift,zeJ] at hb;obtain⟨a',h2,rfl⟩:=hb;exact⟨i,by simp[xb.ids],mG,a',h1,h2,rfl⟩
  |nil=>
   simp only[zdT] at h;subst h;cases hb
theorem xU {N:Names}{g:Option xb}{p:aK}{nm:Nm}(h:xS N g p=some nm):p.mY=false:=by
 unfold xS at h;split at h
 ·cases h
 ·assumption
theorem tJ {N:Names}{b:kz}{c:Nat}{nm:Nm}: ∀{l:List (Nat×aK)},ub N b l c=some nm->∃e∈l,e.1=c/\xS N (b.look c) e.2=some nm
 | [],h=>by simp[ub] at h
 |e::es,h=>by
  simp only[ub] at h;split at h
  ·rename_i ec
   exact⟨e,zd0 ..,ec.symm,by rw[ec];exact h⟩
  ·obtain⟨e',h1,h2⟩:=tJ h
   exact⟨e',zdZ _ h1,h2⟩
theorem DR {N:Names}{b:kz}{l0:List (Nat×aK)}{c:Nat}(hc:c<SB): ∀{l:List (Nat×aK)},(∀e∈l,e.2.mY=true->SB<=e.1)->(∃e∈l,e.1=c)->lB N b ⟨λp=>match p with| []=>ub N b l|q::p=>(jh N b l0).at_ (q::p)⟩ c
 | [],_,h=>by obtain⟨e,h,_⟩:=h;simp at h
 |e::es,kr,h=>by
  by_cases ec:c=e.1
  ·subst ec
   have uY:e.2.mY=false:=by
    cases hh:e.2.mY with
    |false=>rfl
    |true=>have:=kr e (zd0 ..) hh;omega
   have hl:=C3 (b:=b) (c:=e.1) (by omega)
   unfold lB;cases hg:b.get e.1 with
   |none=>trivial
   |some g=>cases g<;>simp[ub,hl,hg,xS,uY]
  ·have: ∃e'∈es,e'.1=c:=by
    obtain⟨e',h1,h2⟩:=h;rcases List.mem_cons.1 h1 with rfl|h1
    ·exact absurd h2.symm ec
    ·exact⟨e',h1,h2⟩
   have:=DR (N:=N) (b:=b) (l0:=l0) hc (λe he=>kr e (zdZ _ he)) this;unfold lB at this⊢;simp only[ub,if_neg ec];exact this
theorem qE {N:Names}{b:kz}{l:List (Nat×aK)}{c:Nat}(hc:c<SB)(kr: ∀e∈l,e.2.mY=true->SB<=e.1)(h: ∃e∈l,e.1=c):lB N b (jh N b l) c:=by
 have:=DR (N:=N) (b:=b) (l0:=l) hc kr h;have e:(⟨λp=>match p with| []=>ub N b l|q::p=>(jh N b l).at_ (q::p)⟩:Names)=jh N b l:=by
  unfold jh;congr 1
  funext p
  cases p<;>rfl
 rw[e] at this;exact this
theorem uP {b:Nat->Nat}{c:Nat}: ∀{l:List (Nat×aK)} {d:cT l} {h:Nat->Option fO},(∀e∈l,b e.1≠c)->mR b l d h c=h c
 | [],_,_,_=>rfl
 |(ce,pe)::es,d,h,lV=>by
  simp only[mR];rw[if_neg (λe'=>lV (ce,pe) (zd0 ..) e'.symm)];exact uP λe' he'=>lV e' (zdZ _ he')
theorem pR {b:Nat->Nat}{c:Nat}: ∀{l:List (Nat×aK)} {d:cT l} {h:Nat->Option fO},(∃e∈l,b e.1=c)->mR b l d h c≠none
 | [],_,_,h=>by obtain⟨e,h,_⟩:=h;simp at h
 |(ce,pe)::es,d,h,hm=>by
  simp only[mR];by_cases ec:c=b ce
  ·rw[if_pos ec];simp
  ·rw[if_neg ec]
   refine pR ?_;obtain⟨e',h1,h2⟩:=hm;rcases List.mem_cons.1 h1 with rfl|h1
   ·exact absurd h2.symm ec
   ·exact⟨e',h1,h2⟩
theorem nf {bk:Nat->Nat}{j:Nat}{o:fO}: ∀{l:List (Nat×aK)} {d:cT l} {h:Nat->Option fO},mR bk l d h j=some o->
  (∃q∈l,bk q.1=j/\∃x:q.2.den,mR (λc=>c) l d (λ_=>none) q.1=some (q.2.mk (λc=>c) x)/\o=q.2.mk bk x)\/((∀q∈l,bk q.1≠j)/\h j=some o)
 | [],_,h,hj=> .inr ⟨λq hq=>by simp at hq,hj⟩
 |(ce,pe)::es,d,h,hj=>by
  simp only[mR] at hj;by_cases ec:j=bk ce
  ·rw[if_pos ec] at hj
   cases hj;exact .inl ⟨(ce,pe),zd0 ..,ec.symm,d.1,by simp[mR],rfl⟩
  ·rw[if_neg ec] at hj
   rcases nf hj with⟨q,hq,h1,x,h2,h3⟩|⟨h1,h2⟩
   ·refine .inl ⟨q,zdZ _ hq,h1,x,?_,h3⟩
    simp only[mR];rw[if_neg (λe'=>ec (by rw[<-h1,e']))]
    exact h2
   ·exact .inr ⟨List.forall_mem_cons.2 ⟨λe'=>ec e'.symm,h1⟩,h2⟩
theorem nodup_append {a b:List Nat}(h:AM.nodup (a++b)=true):AM.nodup b=true/\∀x∈a,x∉b:=by
 induction a with
 |nil=>exact⟨h,λx hx=>by simp at hx⟩
 |cons x xs ih=>
  simp only[zes,AM.nodup,zdV,zfc,ze2,decide_eq_false_iff_not,zfa,not_or] at h;obtain⟨h1,h2⟩:=ih h.2;refine⟨h1,List.forall_mem_cons.2 ⟨h.1.2,h2⟩⟩
theorem yM {β:Type}{f:β->List Nat}: ∀{l:List β},AM.nodup (l.flatMap f)=true->∀{e e':β} {i:Nat},e∈l->e'∈l->i∈f e->i∈f e'->e=e'
 | [],_,e,_,_,he,_,_,_=>by simp at he
 |x::xs,h,e,e',i,he,he',hi,nB=>by
  rw[zeA] at h;obtain⟨h1,h2⟩:=nodup_append h;rcases List.mem_cons.1 he with q|q<;>rcases List.mem_cons.1 he' with q'|q'
  ·rw[q,q']
  ·exact absurd (List.mem_flatMap.2 ⟨e',q',nB⟩) (h2 _ (q▸hi))
  ·exact absurd (List.mem_flatMap.2 ⟨e,q,hi⟩) (h2 _ (q'▸nB))
  ·exact yM h1 q q' hi nB
theorem yo (b:Nat->Nat): ∀(p:aK) (x:p.den),iK (some (p.mk b x))=false
 | .var _,_=>rfl
 | .row _,_=>rfl
 | .store _,_=>rfl
theorem Ph {N:Names}{i:Nat}{ep:List (Nat×aK)}{b:Nat}: ¬pO N i (.store ep) ([]:List (cT ep)) b:=by
 simp only[pO,jW];rintro⟨k,d,h,_⟩
 simp at h
theorem HR.LG {s:St}{sp:jw}{b:kz}{ro:List Nat}{d:cT sp.heap}(M:HR s sp b ro d){N:Names}{c:Nat}{o:fO}{bl:Nat}(hc:mR (λc=>c) sp.heap d (λ_=>none) c=some o)(ho:iR (jh N b sp.heap) c o bl):
  ∃e∈sp.heap,e.1=c/\∃i∈DQ b c,∃o',s.h i=some o'/\iR N i o' bl:=by
 have key:om (jh N b sp.heap) c bl->∃e∈sp.heap,e.1=c/\∃i∈DQ b c,∃o',s.h i=some o'/\iR N i o' bl:=by
  rintro⟨nm,a,h3,h4,rfl⟩
  obtain⟨e,he,rfl,h5⟩:=tJ h3;obtain⟨i,hi,mG,a',h6,h7,h8⟩:=Pg h5 h4;refine⟨e,he,rfl,i,hi,?_⟩;obtain⟨g,hg,hT,_⟩:=M.bound e he;unfold DQ at hi;rw[hg] at hi;rcases hT i hi with⟨o',g1,_,g2⟩|⟨g1,_⟩
  ·exact⟨o',g1,h8▸iR.of (g2 (xU h5)) h6 h7⟩
  ·rw[xU h5] at g1;cases g1
 cases o with
 |dead=>exact ho.elim
 |void=>exact ho.elim
 |var v=>exact key ho
 |row r t xs=>
  cases r with
  |true=>exact ho.elim
  |false=>exact key ho
 |store ep ys=>
  obtain⟨h1,h2⟩:=M.link c ep ys hc;rcases nf hc with⟨q,hq,h3,x,h4,h5⟩|⟨_,h5⟩
  ·have h3:q.1=c:=h3
   have kr:da sp.heap (SB+(c-SB))=true:=by
    rw[show SB+(c-SB)=c by omega]
    exact fJ.2 ⟨q,hq,h3,(M.st q hq).2 (by omega)⟩
   refine⟨q,hq,h3,c,by unfold DQ;rw[uN h1];simp[xb.ids],?_⟩
   rcases h2 with h2|⟨_,rfl⟩
   ·exact⟨_,h2,(pO.uK (vH kr)).1 ho⟩
   ·exact absurd ho Ph
  ·cases h5
theorem HR.canon {s:St}{sp:jw}{b:kz}{ro:List Nat}{d:cT sp.heap}(M:HR s sp b ro d){N:Names}{bl:Nat}(ho:yX (jh N b sp.heap) (mR (λc=>c) sp.heap d (λ_=>none)) bl): ∃i∈iN sp.heap b,∃o,s.h i=some o/\iR N i o bl:=by
 obtain⟨c,o,h1,h2⟩:=ho;obtain⟨e,he,rfl,i,hi,h3⟩:=M.LG h1 h2;exact⟨i,Be.2 ⟨e,he,hi⟩,h3⟩
theorem HR.cases {s:St}{sp:jw}{b:kz}{ro:List Nat}{d:cT sp.heap}(M:HR s sp b ro d){N:Names}{D:Nat->Prop}{w:World}(S:jX N D w base s.h){i:Nat}(hi:i∈ro){nm:Nm}{a:Addr}(hn:N i=some nm)(hb:nm.base=some a):D a.block\/∃o,s.h i=some o/\iR N i o a.block:=by
 obtain⟨_,o,h1,h2⟩:=M.ro i hi;rcases h2 with⟨v,rfl⟩|⟨r,t,xs,rfl⟩
 ·exact .inr ⟨_,h1,iR.of rfl hn hb⟩
 ·cases r with
  |false=>exact .inr ⟨_,h1,iR.of rfl hn hb⟩
  |true=>
   obtain⟨WU,e1,_,_,_,_,e6⟩:=S.obj i _ h1;rw[hn] at e1;cases e1;rw[hb] at e6;obtain⟨_,_,e7,_⟩:=e6;simp only[if_true] at e7;exact .inl e7
theorem HR.zao {s:St}{sp:jw}{b:kz}{ro:List Nat}{d:cT sp.heap}(M:HR s sp b ro d){N:Names}{D:Nat->Prop}{w:World}(S:jX N D w base s.h):NH s N (Bd N D ro) (iN sp.heap b):=by
 intro i hi o bl ho hr hd;have hnd:=(S.pa ho hr).1;rcases hd with hd|⟨j,hj,mG,a',OS,vl,K9⟩
 ·exact hnd hd
 ·rcases M.cases S hj OS vl with h1|⟨o',h1,h2⟩
  ·exact hnd (K9▸h1)
  ·have:=S.apart i j o o' bl ho h1 hr (K9▸h2)
   subst this;exact(M.ro _ hj).1 hi
theorem Pj {N:Names}{D:Nat->Prop}{w:World}{h:Nat->Option fO}(S:jX N D w base h){i:Nat}{o:fO}{nm:Nm}{a:Addr}(ho:h i=some o)(hd:(∃v,o= .var v)\/∃r t xs,o= .row r t xs)(hn:N i=some nm)(hb:nm.base=some a):a.block<w.heap.size:=by
 have:=S.obj i o ho;rcases hd with⟨v,rfl⟩|⟨r,t,xs,rfl⟩
 ·obtain⟨mG,a',e1,e2,_,_,_,_,_,_,⟨c,ty,e3,_⟩,_⟩:=this
  rw[hn] at e1;cases e1;rw[hb] at e2;cases e2;exact(Array.getElem?_eq_some_iff.1 e3).1
 ·obtain⟨mG,e1,_,_,_,_,e6⟩:=this
  rw[hn] at e1;cases e1;rw[hb] at e6;obtain⟨_,⟨c,ty,fz,e3,_⟩,_⟩:=e6;exact(Array.getElem?_eq_some_iff.1 e3).1
theorem HR.nw {s:St}{sp:jw}{b:kz}{ro:List Nat}{d:cT sp.heap}(M:HR s sp b ro d){N:Names}{D:Nat->Prop}{w:World}(S:jX N D w base s.h)(na: ∀c o,mR (λc=>c) sp.heap d (λ_=>none) c=some o->qB (jh N b sp.heap) (Bd N D ro) w base c o):jX (jh N b sp.heap) (Bd N D ro) w base (mR (λc=>c) sp.heap d (λ_=>none)):=by
 refine⟨na,?_,?_,?_,S.size,λg hg k=>?_⟩
 ·intro c c' o o' bl hc K6 ho mW
  obtain⟨e,he,rfl,q,hq,oq,hoq,hrq⟩:=M.LG hc ho;obtain⟨e',he',rfl,q',uC,oq',zb9,zca⟩:=M.LG K6 mW;have:=S.apart q q' oq oq' bl hoq zb9 hrq zca;subst this;rw[yM (f:=λo:Nat×aK=>DQ b o.1) M.nodup he he' hq uC]
 ·rintro bl (hb|⟨q,hq,nm,a,hn,hb,rfl⟩)
  ·exact S.frozen bl hb
  ·obtain⟨_,o,h8,h9⟩:=M.ro q hq
   exact Pj S h8 h9 hn hb
 ·intro c nm hn
  obtain⟨e,he,hec,_⟩:=tJ hn;exact pR ⟨e,he,hec⟩
 ·refine ze ?_ k
  cases e:da sp.heap (SB+g) with
  |false=>rfl
  |true=>
   exfalso
   obtain⟨q,hq,h1,h2⟩:=fJ.1 e;cases hm:mR (λc=>c) sp.heap d (λ_=>none) (SB+g) with
   |none=>exact pR ⟨q,hq,h1⟩ hm
   |some o=>
    rw[hm] at hg;rcases nf hm with⟨q',_,_,x,_,h5⟩|⟨_,h5⟩
    ·subst h5
     rw[yo] at hg;cases hg
    ·cases h5
theorem pS {sp:jw}{s:St}{b:kz}{k:sp.den->List Nat->kz->Option α}{f:Option α}{r:α}(h:oN sp s b k f=some r)(hc:wm sp):
  f=some r\/∃d ro b',k d ro b'=some r/\b.le b'/\HR s sp b' ro d.2/\∀N D w base,jX N D w base s.h->
   jX (jh N b' sp.heap) (Bd N D ro) w base (mR (λc=>c) sp.heap d.2 (λ_=>none))/\∀y c,cw N D w (s.t y) c->cw (jh N b' sp.heap) (Bd N D ro) w (yW (λc=>c) sp.jP d.1 y) c:=by
 unfold oN at h;rcases Aa _ _ _ _ _ h with h1|⟨x,i,b1,h1,h2,h3⟩
 ·exact .inl h1
 ·rcases Ab _ _ _ _ h1 with hf|⟨y,j,b',h4,h5,h6,h6s,h7⟩
  ·exact .inl hf
  right
  split at h4
  ·rename_i HC
   simp only[zdV,zew,zfc,ze2,decide_eq_false_iff_not] at HC;have M:HR s sp b' (i++j) y:=⟨λe he=>by obtain⟨g,g1,g2,g3,_⟩:=h6 e he;exact⟨g,g1,g2,g3⟩,HC.1,λq hq=>(by
    obtain⟨g1,g2⟩:=HC.2 q hq;refine⟨g1,?_⟩;unfold isObj at g2;split at g2
    ·rename_i v e;exact⟨_,e, .inl ⟨v,rfl⟩⟩
    ·rename_i r t xs e;exact⟨_,e, .inr ⟨r,t,xs,rfl⟩⟩
    ·cases g2),h6s λe he=>(hc.st e he).1,hc.st⟩
   refine⟨(x,y),i++j,b',h4,kz.le_trans h2 h5,M,λN D w base S=>?_⟩;have NI: ∀c,(c∈AX sp.jP\/c∈AY sp.heap)->lB N b' (jh N b' sp.heap) c:=by
    intro c K6;obtain⟨g1,g2⟩:=hc.cs c K6;exact qE g1 (λe he=>(hc.st e he).1) g2
   have hks: ∀l:List Nat,(∀g∈l,da sp.heap (SB+g)=true)->mo l N (jh N b' sp.heap):=λl hl g hg k c nm hn _=>by
    rw[vH (hl g hg)];exact hn
   have hF:ly N (Bd N D (i++j)) (i++j):=λq hq nm a hn hb=> .inr ⟨q,hq,nm,a,hn,hb,rfl⟩;have hD: ∀b,D b->Bd N D (i++j) b:=λb hb=> .inl hb;refine⟨M.nw S λc o ho=>h7 N D w base S _ _ (hks _ λg hg=>hc.ks g (.inr hg)) (λc hc=>NI c (.inr hc)) hD hF.right (M.zao S) (λe he kr=>?_) c o ho rfl,λy c hv=>h3 N D w base S _ _ (hks _ λg hg=>hc.ks g (.inl hg)) (λc hc=>(NI c (.inl hc)).mono h5) hD hF.left y c hv⟩;have sB:=(hc.st e he).1 kr;refine⟨sB,vH ?_⟩;rw[show SB+(e.1-SB)=e.1 by omega]
   exact fJ.2 ⟨e,he,rfl,kr⟩
  ·cases h4
end AM
namespace AM
open Go
variable {α:Type}{P:Program}{base:Nat}
structure HS (O O' D D':Nat->Prop)(w w':World):Prop where
 frozen: ∀b,D b->D' b
 os:w'.os=w.os
 tape:w'.tape=w.tape
 output:w'.output=w.output
 size:w.heap.size<=w'.heap.size
 sQ: ∀b,b<w.heap.size->¬O b->w'.heap[b]?=w.heap[b]?
 own: ∀b,b<w.heap.size->O' b->O b
 Ja: ∀b,D' b->D b\/O b\/w.heap.size<=b
theorem HS.refl (O D:Nat->Prop)(w:World):HS O O D D w w:=⟨λ_ h=>h,rfl,rfl,rfl,zd9 _,λ_ _ _=>rfl,λ_ _ h=>h,λ_ h=> .inl h⟩
theorem HS.trans {O O' O'' D D' D'':Nat->Prop}{w w' Ub:World}(x:HS O O' D D' w w')(y:HS O' O'' D' D'' w' Ub):HS O O'' D D'' w Ub where
 frozen b e:=y.frozen b (x.frozen b e)
 os:=y.os.trans x.os
 tape:=y.tape.trans x.tape
 output:=y.output.trans x.output
 size:=zea x.size y.size
 sQ b hb ho:=by rw[y.sQ b (zeb hb x.size) (λo=>ho (x.own b hb o)),x.sQ b hb ho]
 own b hb o:=x.own b hb (y.own b (zeb hb x.size) o)
 Ja b hb:=by
  rcases y.Ja b hb with h1|h1|h1
  ·exact x.Ja b h1
  ·rcases zec b w.heap.size with h2|h2
   ·exact .inr (.inl (x.own b h2 h1))
   ·exact .inr (.inr h2)
  ·exact .inr (.inr (zea x.size h1))
theorem Ext.b {N N':Names}{D D':Nat->Prop}{w w':World}{h h':Nat->Option fO}(x:Ext N D w h N' D' w' h'):HS (yX N h) (yX N' h') D D' w w':=⟨x.frozen,x.os,x.tape,x.output,x.size,x.sQ,x.own,x.Ja⟩
def yN:Ty->Bool
 | .cons a b=>yN a&&yN b
 | .arr _ t=>yN t
 | .deep _=>false
 |_=>true
theorem vI {N N':Names}{D D':Nat->Prop}{w:World}: ∀(t:Ty) (x:t.den) (g:Nat->Option Value),yN t=true->mo t.ks N N'->iy N D w t x g->iy N' D' w t x g
 | .int _,_,_,_,_,h=>by simp only[iy] at*;exact h
 | .bool,_,_,_,_,h=>by simp only[iy] at*;exact h
 | .str,_,_,_,_,h=>by simp only[iy] at*;exact h
 | .nil,_,_,_,_,_=>by simp only[iy]
 | .cons a b,p,g,hf,hK,h=>by
  simp only[yN,zdV] at hf;exact⟨vI a p.1 g hf.1 hK.left h.1,vI b p.2 _ hf.2 hK.right h.2⟩
 | .arr n t,xs,g,hf,hK,h=>⟨h.1,λi x hx=>vI t x _ (by simpa [yN] using hf) hK (h.2 i x hx)⟩
 | .deep t,xs,g,hf,hK,h=>by simp[yN] at hf
 | .ref g,n,c,_,hK,h=>by
  show xv N' g n 50 (c 0)
  have h:xv N g n 50 (c 0):=h;cases n with
  |zero=>exact h
  |succ k=>obtain⟨nm,a,h1,h2,h3⟩:=h;exact⟨nm,a,hK g (List.mem_singleton.2 rfl) _ _ _ h1 h2,h2,h3⟩
mutual
def cp.flat:cp->Bool
 | .hole t=>yN t
 | .vn _=>false
 | .I1 _=>false
 | .agg ps=>cp.Jn ps
 | .wZ _ ps=>cp.Jn ps
 |_=>true
def cp.Jn:List cp->Bool
 | []=>true
 |p::ps=>p.flat&&cp.Jn ps
end
mutual
def aK.flat:aK->Bool
 | .var p=>p.flat
 | .row t=>yN t
 | .store ep=>NJ ep
def NJ:List (Nat×aK)->Bool
 | []=>true
 |(_,p)::os=>p.flat&&NJ os
end
def jw.flat (e:jw):Bool:=e.jP.all (λo=>o.2.flat)&&e.heap.all (λo=>o.2.flat)
mutual
theorem DS (b b':Nat->Nat): ∀(p:cp) (x:p.den),(p.mk b x).sh=(p.mk b' x).sh
 | .hole t,x=>by simp only[cp.mk]
 | .vn t,x=>by simp only[cp.mk]
 | .const v,x=>by simp only[cp.mk]
 | .ptr c,x=>by simp only[cp.mk,AV.sh]
 | .own c,x=>by simp only[cp.mk,AV.sh]
 | .Fj c,x=>by simp only[cp.mk,AV.sh]
 | .agg ps,x=>by simp only[cp.mk,AV.sh,RG b b' ps x]
 | .kf c p,x=>by simp only[cp.mk,AV.sh]
 | .wZ f ps,x=>by simp only[cp.mk,AV.sh]
 | .uu c n,x=>by simp only[cp.mk,AV.sh]
 | .skip,x=>by simp only[cp.mk]
 | .I1 p,x=>by simp only[cp.mk,AV.sh]
theorem RG (b b':Nat->Nat): ∀(ps:List cp) (x:cp.xa ps),AV.yG (cp.qS b ps x)=AV.yG (cp.qS b' ps x)
 | [],x=>by simp only[cp.qS]
 |p::ps,x=>by simp only[cp.qS,AV.yG,DS b b' p x.1,RG b b' ps x.2]
end
section
variable {Ne N':Names}{De D':Nat->Prop}{w:World}{bk:Nat->Nat}{lt:Bool}
mutual
theorem C4 (hT:(lt=true\/∀b,De b->D' b)): ∀(p:cp) (x:p.den) (g:Nat->Option Value),(∀c∈p.cs,∀nm,Ne c=some nm->N' (bk c)=some nm)->mo p.ks Ne N'->(lt=true->p.flat=true)->aq Ne De w (p.mk (λc=>c) x) g->aq N' D' w (p.mk bk x) g
 | .hole t,x,g,_,hK,hf,h=>by
  simp only[cp.mk] at h⊢;refine(kO t x g).2 ?_;have h:=(kO t x g).1 h;rcases hT with hT|hT
  ·exact vI t x g (by simpa [cp.flat] using hf hT) (by simpa only[cp.ks] using hK) h
  ·exact kv hT (λ_ _=>rfl) t x g (by simpa only[cp.ks] using hK) h
 | .vn t,x,g,_,hK,hf,h=>by
  simp only[cp.mk,aq] at h⊢;obtain⟨a,h1,h2,h3,h4⟩:=h;rcases hT with hT|hT
  ·have:=hf hT
   simp[cp.flat] at this
  ·exact⟨a,h1,h2,hT _ h3,(kO t x _).2 (kv hT (λ_ _=>rfl) t x _ (by simpa only[cp.ks] using hK) ((kO t x _).1 h4))⟩
 | .const v,x,g,_,_,_,h=>by simp only[cp.mk,aq] at h⊢;exact h
 | .skip,x,g,_,_,_,h=>by simp only[cp.mk,aq]
 | .I1 p,x,g,hN,hK,hf,h=>by
  simp only[cp.mk,aq] at h⊢;obtain⟨a,h1,h2,h3,h4⟩:=h;rcases hT with hT|hT
  ·have:=hf hT
   simp[cp.flat] at this
  ·exact⟨a,h1,h2,hT _ h3,C4 (.inr hT) p x _ (by simpa only[cp.cs] using hN) (by simpa only[cp.ks] using hK) (λhl=>by have:=hf hl;simp[cp.flat] at this) h4⟩
 | .ptr c,x,g,hN,_,_,h=>by
  simp only[cp.mk,aq] at h⊢;obtain⟨nm,a,o,h1,h2⟩:=h;exact⟨nm,a,o,hN c (by simp[cp.cs]) nm h1,h2⟩
 | .kf c p,x,g,hN,_,_,h=>by
  simp only[cp.mk,aq] at h⊢;obtain⟨nm,a,o,h1,h2⟩:=h;exact⟨nm,a,o,hN c (by simp[cp.cs]) nm h1,h2⟩
 | .uu c n,x,g,hN,_,_,h=>by
  simp only[cp.mk,aq] at h⊢;obtain⟨nm,a,h1,h2⟩:=h;exact⟨nm,a,hN c (by simp[cp.cs]) nm h1,h2⟩
 | .own c,x,g,hN,_,_,h=>by
  simp only[cp.mk,aq] at h⊢;obtain⟨nm,h1,h2⟩:=h;exact⟨nm,hN c (by simp[cp.cs]) nm h1,h2⟩
 | .Fj c,x,g,hN,_,_,h=>by
  simp only[cp.mk,aq] at h⊢;obtain⟨nm,h1,h2⟩:=h;exact⟨nm,hN c (by simp[cp.cs]) nm h1,h2⟩
 | .agg ps,x,g,hN,hK,hf,h=>by
  simp only[cp.mk,aq] at h⊢;exact(DT hT ps x (by simpa [cp.cs] using hN) (by simpa [cp.ks] using hK) (by simpa [cp.flat] using hf)).1 g h
 | .wZ f ps,x,g,hN,hK,hf,h=>by
  simp only[cp.mk,aq] at h⊢;obtain⟨cs,h1,h2⟩:=h;exact⟨cs,h1,(DT hT ps x (by simpa [cp.cs] using hN) (by simpa [cp.ks] using hK) (by simpa [cp.flat] using hf)).2 _ h2⟩
theorem DT (hT:(lt=true\/∀b,De b->D' b)): ∀(ps:List cp) (x:cp.xa ps),(∀c∈cp.UD ps,∀nm,Ne c=some nm->N' (bk c)=some nm)->mo (cp.Q4 ps) Ne N'->(lt=true->cp.Jn ps=true)->
  (∀g,fg Ne De w (cp.qS (λc=>c) ps x) g->fg N' D' w (cp.qS bk ps x) g)/\∀cs,bF Ne De w (cp.qS (λc=>c) ps x) cs->bF N' D' w (cp.qS bk ps x) cs
 | [],x,_,_,_=>⟨λg _=>by simp only[cp.qS,fg],λcs h=>by simpa only[cp.qS,bF] using h⟩
 |p::ps,x,hN,hK,hf=>by
  have Yg:=λe=>by have:=hf e;simp only[cp.Jn,zdV] at this;exact this
  have hK:mo (p.ks++cp.Q4 ps) Ne N':=by simpa only[cp.Q4] using hK
  have a1:=λg=>C4 hT p x.1 g (λc hc=>hN c (by simp[cp.UD,hc])) hK.left (λe=>(Yg e).1)
  obtain⟨a2,a3⟩:=DT hT ps x.2 (λc hc=>hN c (by simp[cp.UD,hc])) hK.right (λe=>(Yg e).2)
  have hsz:(p.mk bk x.1).size=(p.mk (λc=>c) x.1).size:=by rw[<-kT,DS bk (λc=>c),kT]
  refine⟨λg h=>?_,λcs h=>?_⟩
  ·simp only[cp.qS,fg] at h⊢
   refine⟨a1 g h.1,?_⟩;rw[hsz];exact a2 _ h.2
  ·simp only[cp.qS,bF] at h⊢
   obtain⟨c,tG,e1,e2,e3⟩:=h;exact⟨c,tG,e1,C1 (DS bk (λc=>c) p x.1) e2 a1,a3 _ e3⟩
end
end
theorem lZ (h:Nat->Option fO): ∀(l:List Nat) (j:Nat),rZ h l j=if j∈l then some .dead else h j
 | [],j=>by simp[rZ]
 |i::l,j=>by
  simp only[rZ,lZ h l j,zex];by_cases e:j=i
  ·simp[e]
  ·simp[e]
def RH (o:Option fO):Option fO:=match o with|some (.row _ t xs)=>some (.row true t xs)|_=>some .dead
theorem rp (h:Nat->Option fO): ∀(l:List Nat) (j:Nat),tE h l j=if j∈l then RH (h j) else h j
 | [],j=>by simp[tE]
 |i::l,j=>by
  simp only[tE,rp h l j,zex];by_cases e:j=i
  ·subst e;simp only[true_or,if_true,RH]
   split<;>simp_all
  ·simp[e]
end AM
namespace AM
open Go
variable {α:Type}{P:Program}{base:Nat}
theorem UQ (b b':Nat->Nat)(p:cp)(x:p.den):(p.mk b x).size=(p.mk b' x).size:=by rw[<-kT,DS b b',kT]
theorem tc.back {Ne N':Names}{De D':Nat->Prop}{w:World}{bk:Nat->Nat}{lt:Bool}{c j:Nat}{p:cp}{x:p.den}(hT:lt=true\/∀b,De b->D' b)(hD: ∀b,D' b->De b)(hc: ∀nm,Ne c=some nm->N' j=some nm)(hN: ∀c∈p.cs,∀nm,Ne c=some nm->N' (bk c)=some nm)(hK:mo p.ks Ne N')(hf:lt=true->p.flat=true)
  (h:tc Ne De w base c (p.mk (λc=>c) x)):tc N' D' w base j (p.mk bk x):=by
 obtain⟨nm,a,e1,e2,e3,e4,e5,e6,e7,e8,⟨cc,ty,e9,yj⟩,Np⟩:=h;exact⟨nm,a,hc _ e1,e2,e3,by rw[e4];exact DS _ _ p x,e5,e6,e7,λhd=>e8 (hD _ hd),⟨cc,ty,e9,yj.trans (UQ _ _ p x)⟩,C4 hT p x _ hN hK hf Np⟩
theorem nF.back {Ne N':Names}{De D':Nat->Prop}{w:World}{lt:Bool}{c j:Nat}{t:Ty}{xs:List t.den}(hT:lt=true\/∀b,De b->D' b)(hD: ∀b,D' b->De b)(hc: ∀nm,Ne c=some nm->N' j=some nm)(hK:mo t.ks Ne N')(hf:lt=true->yN t=true)
  (h:nF Ne De w base c false t xs):nF N' D' w base j false t xs:=by
 obtain⟨nm,e1,e2,e3,e4,e5,e6⟩:=h;refine⟨nm,hc _ e1,e2,e3,e4,e5,?_⟩;cases hb:nm.base with
 |none=>rw[hb] at e6;exact e6
 |some a=>
  rw[hb] at e6;obtain⟨f1,⟨cc,ty,fz,g1,g2,g3⟩,f3,f4⟩:=e6;simp only[zdU,if_false] at f3⊢;refine⟨f1,⟨cc,ty,fz,g1,g2,λ_=>g3 rfl⟩,⟨f3.1,λhd=>f3.2 (hD _ hd)⟩,λi y hy=>?_⟩;rcases hT with hT|hT
  ·exact vI t y _ (hf hT) hK (f4 i y hy)
  ·exact kv hT (λ_ _=>rfl) t y _ hK (f4 i y hy)
mutual
theorem jf.back {De D':Nat->Prop}{w:World}{lt:Bool}(hT:lt=true\/∀b,De b->D' b)(hD: ∀b,D' b->De b): ∀{N:Names} {c:Nat} {p:aK} {d:p.den},(lt=true->p.flat=true)->jf De w base N c p d->jf D' w base N c p d
 |N,_, .var p,d,hf,h=>by
  simp only[jf] at*;exact tc.back (bk:=λc=>c) hT hD (λ_ h=>h) (λ_ _ _ h=>h) (λ_ _ _ _ _ h _=>h) (by simpa only[aK.flat] using hf) h
 |N,_, .row t,d,hf,h=>by
  simp only[jf] at*;exact nF.back hT hD (λ_ h=>h) (λ_ _ _ _ _ h _=>h) (by simpa only[aK.flat] using hf) h
 |N,c, .store ep,xs,hf,h=>by
  simp only[jf] at*;exact⟨h.1,λk d hk=>⟨kQ.back hT hD (by simpa only[aK.flat] using hf) (h.2.1 k d hk).1,(h.2.1 k d hk).2⟩,h.2.2.1,h.2.2.2⟩
theorem kQ.back {De D':Nat->Prop}{w:World}{lt:Bool}(hT:lt=true\/∀b,De b->D' b)(hD: ∀b,D' b->De b): ∀{N:Names} {l:List (Nat×aK)} {d:cT l},(lt=true->NJ l=true)->kQ De w base N l d->kQ D' w base N l d
 |_,[],_,_,_=>by simp only[kQ]
 |N,(c,p)::os,d,hf,h=>by
  have Yg:=λe=>by have:=hf e;simp only[NJ,zdV] at this;exact this
  simp only[kQ] at*;exact⟨jf.back hT hD (λe=>(Yg e).1) h.1,kQ.back hT hD (λe=>(Yg e).2) h.2.1,h.2.2⟩
end
theorem RI {Ne N':Names}{De D':Nat->Prop}{w:World}{bk:Nat->Nat}{lt:Bool}{c j:Nat}(hT:lt=true\/∀b,De b->D' b)(hD: ∀b,D' b->De b): ∀(p:aK) (x:p.den),(p.mY=false->∀nm,Ne c=some nm->N' j=some nm)->(∀c∈p.cs,∀nm,Ne c=some nm->N' (bk c)=some nm)->mo p.ks Ne N'->(lt=true->p.flat=true)->
  (p.mY=true->c=j/\∀k,N'.sub (j-SB) k=Ne.sub (j-SB) k)->qB Ne De w base c (p.mk (λc=>c) x)->qB N' D' w base j (p.mk bk x)
 | .var p,x,hc,hN,hK,hf,_,h=>tc.back hT hD (hc rfl) hN hK (by simpa only[aK.flat] using hf) h
 | .row t,x,hc,hN,hK,hf,_,h=>nF.back hT hD (hc rfl) hK (by simpa only[aK.flat] using hf) h
 | .store ep,x,hc,hN,hK,hf,hs,h=>by
  obtain⟨rfl,h2⟩:=hs rfl;exact(jf.back hT hD hf (show jf De w base Ne c (.store ep) x from h)).uK h2
theorem Gj {N:Names}{D:Nat->Prop}{w:World}{id bl:Nat}{o:fO}(h:qB N D w base id o)(hr:o.rw=true): ∃nm,N id=some nm:=by
 cases o with
 |dead=>simp[fO.rw] at hr
 |void=>simp[fO.rw] at hr
 |store _ _=>simp[fO.rw] at hr
 |var v=>obtain⟨nm,a,e1,_⟩:=h;exact⟨nm,e1⟩
 |row ro t xs=>obtain⟨nm,e1,_⟩:=h;exact⟨nm,e1⟩
def UR (pre e:jw):Bool:=e.closed&&e.heap.all λo=>decide (50<=o.1)||(pre.heap.any λq=>decide (q.1=o.1)&&q.2.isVar)
structure Pk (pre e:jw):Prop where
 closed:wm e
 var: ∀q∈e.heap,q.1<50->∃q'∈pre.heap,q'.1=q.1/\q'.2.isVar=true
theorem Gk {pre e:jw}(h:UR pre e=true):Pk pre e:=by
 simp only[UR,zdV,zew] at h;refine⟨uO h.1,λq hq uw=>?_⟩;have:=h.2 q hq;have hn: ¬50<=q.1:=by omega
 simp only[hn,decide_false,zfd,List.any_eq_true,zdV,zd1] at this;exact this
theorem Ac {lt:Bool}{h:Nat->Option fO}{pre:jw}{b:kz}{ro:List Nat}{s:St}{d0:cT pre.heap}(M:HR s pre b ro d0)(hs:s.h=h){j:Nat}{o:fO}(ho:tQ lt h pre b ro j=some o)(hd:o≠ .dead):
  j∉iN pre.heap b/\((h j=some o/\(lt=true\/j∉ro))\/(lt=false/\j∈ro/\∃r t xs,h j=some (.row r t xs)/\o= .row true t xs)):=by
 unfold tQ at ho;cases lt with
 |true=>
  simp only[lZ] at ho;split at ho
  ·cases ho;exact absurd rfl hd
  ·rename_i hj;exact⟨hj, .inl ⟨ho, .inl rfl⟩⟩
 |false=>
  simp only[rp,lZ] at ho;by_cases hj:j∈ro
  ·obtain⟨h1,o',h2,h3⟩:=M.ro j hj
   rw[hs] at h2;rw[if_pos hj,if_neg h1,h2] at ho;rcases h3 with⟨v,rfl⟩|⟨r,t,xs,rfl⟩
   ·simp only[RH,zdT] at ho;exact absurd ho.symm hd
   ·simp only[RH,zdT] at ho
    exact⟨h1, .inr ⟨rfl,hj,r,t,xs,h2,ho.symm⟩⟩
  ·rw[if_neg hj] at ho
   split at ho
   ·cases ho;exact absurd rfl hd
   ·rename_i BU;exact⟨BU, .inl ⟨ho, .inr hj⟩⟩
theorem Gl {lt:Bool}{h:Nat->Option fO}{pre:jw}{b:kz}{ro:List Nat}{j:Nat}(ho:tQ lt h pre b ro j=none):h j=none:=by
 unfold tQ at ho;cases lt with
 |true=>
  simp only[lZ] at ho;split at ho
  ·cases ho
  ·exact ho
 |false=>
  simp only[rp,lZ,RH] at ho;split at ho
  ·split at ho<;>cases ho
  ·split at ho
   ·cases ho
   ·exact ho
theorem Pl {lt:Bool}{h:Nat->Option fO}{pre:jw}{b:kz}{ro:List Nat}{s:St}{d0:cT pre.heap}(M:HR s pre b ro d0)(hs:s.h=h){j:Nat}(hj:h j=some .dead):tQ lt h pre b ro j=some .dead:=by
 unfold tQ;have Ny:j∉ro:=λhr=>by
  obtain⟨_,o,h1,h2⟩:=M.ro j hr;rw[hs,hj] at h1;cases h1;rcases h2 with⟨v,e⟩|⟨r,t,xs,e⟩<;>cases e
 cases lt with
 |true=>
  simp only[lZ];split
  ·rfl
  ·exact hj
 |false=>
  simp only[rp,lZ,if_neg Ny];split
  ·rfl
  ·exact hj
theorem NK {b:kz}{fresh c:Nat}(h:c<50):back b fresh c=match b.get c with|some (.at_ i)=>i|_=>0:=by unfold back;simp only[decide_eq_true h];rfl
theorem DU {b:kz}{fresh c:Nat}(h: ¬c<50)(h': ¬SB<=c):back b fresh c=fresh+(c-50):=by unfold back;simp only[decide_eq_false h,decide_eq_false h']
theorem Jo {c:Nat}(h:SB<=c): ¬c<50:=by unfold SB at h;omega
theorem qk {b:kz}{fresh c:Nat}(h:SB<=c):back b fresh c=c:=by unfold back;simp only[decide_eq_false (Jo h),decide_eq_true h]
open Classical in
theorem Bf {N:Names}{D:Nat->Prop}{w:World}{h:Nat->Option fO}{pre e:jw}{b:kz}{ro:List Nat}{s:St}{d0:cT pre.heap}(hs:s.h=h)(S:jX N D w base h)(M:HR s pre b ro d0)(hex:Pk pre e){fresh:Nat}(gX:oO h fresh pre.heap e.heap=true){lt:Bool}(kW:lt=true->e.flat=true)
  {Ne:Names} {De:Nat->Prop} {w':World} {dh:cT e.heap} {O:Nat->Prop} (hO: ∀bl,O bl->∃i∈iN pre.heap b,∃o,h i=some o/\iR N i o bl)
  (Se:jX Ne De w' base (mR (λc=>c) e.heap dh (λ_=>none))) (x:HS O (yX Ne (mR (λc=>c) e.heap dh (λ_=>none))) (Bd N D ro) De w w') (zap: ∀q∈e.heap,q.1<50->Ne q.1=jh N b pre.heap q.1)
  (Yh: ∀g,da e.heap (SB+g)=true->∀k c nm,(jh N b pre.heap).sub g k c=some nm->nm.row=false->Ne.sub g k c=some nm):
  ∃N' D',jX N' D' w' base (mR (back b fresh) e.heap dh (tQ lt h pre b ro))/\Ext N D w h N' D' w' (mR (back b fresh) e.heap dh (tQ lt h pre b ro))/\
   (∀(p:cp) (y:p.den) g,(∀c∈p.cs,c<SB/\∃q∈e.heap,q.1=c)->(∀g∈p.ks,da e.heap (SB+g)=true)->(lt=true->p.flat=true)->aq Ne De w' (p.mk (λc=>c) y) g->aq N' D' w' (p.mk (back b fresh) y) g)/\
   (∀c,(c<SB/\∃q∈e.heap,q.1=c)->∀nm,Ne c=some nm->N' (back b fresh c)=some nm)/\(∀g,da e.heap (SB+g)=false->∀k,N'.sub g k=N.sub g k)/\(∀b,D' b->De b)/\
   ∀i oi bl,mR (back b fresh) e.heap dh (tQ lt h pre b ro) i=some oi->iR N' i oi bl->(∃c o,mR (λc=>c) e.heap dh (λ_=>none) c=some o/\iR Ne c o bl)\/(h i=some oi/\iR N i oi bl/\i∉iN pre.heap b):=by
 have kr: ∀q∈e.heap,(q.2.mY=true↔SB<=q.1):=hex.closed.st;have qZ: ∀q∈e.heap,50<=q.1->q.1<SB->back b fresh q.1=fresh+(q.1-50)/\h (fresh+(q.1-50))=none:=by
  intro q hq uw kW;unfold oO at gX;rw[zew] at gX;have:=gX q hq;have hn: ¬q.1<50:=by omega
  have OS: ¬SB<=q.1:=by omega
  simp only[hn,OS,decide_false,zfd,zdV,Option.isNone_iff_eq_none] at this;exact⟨DU hn OS,this.2⟩
 have zaq: ∀q∈e.heap,SB<=q.1->da pre.heap q.1=true\/iK (h q.1)=true:=by
  intro q hq sB;unfold oO at gX;rw[zew] at gX;have:=gX q hq;rw[decide_eq_false (Jo sB),decide_eq_true sB] at this;simp only[zfd,zeY,List.any_eq_true,zd1] at this;rcases this with⟨q',uC,h1⟩|h1
  ·exact .inl (fJ.2 ⟨q',uC,h1,(M.st q' uC).2 (by omega)⟩)
  ·exact .inr h1
 have US: ∀q∈e.heap,q.1<50->back b fresh q.1∈iN pre.heap b/\jh N b pre.heap q.1=N (back b fresh q.1)/\∃o,h (back b fresh q.1)=some o/\o.rw=true:=by
  intro q hq uw;obtain⟨q',uC,h1,h2⟩:=hex.var q hq uw;obtain⟨g,hg,hT,h3⟩:=M.bound q' uC;obtain⟨i,rfl⟩:=h3 h2;have kW:q.1<SB:=by unfold SB;omega
  rw[h1] at hg;have qO:b.get q.1=some (.at_ i):=by rw[<-C3 (by omega)];exact hg
  have hb:back b fresh q.1=i:=by rw[NK uw];simp[qO]
  rw[hb];refine⟨Be.2 ⟨q',uC,by unfold DQ;rw[h1,hg];simp[xb.ids]⟩,?_,?_⟩
  ·exact(qE (N:=N) (b:=b) (l:=pre.heap) kW (λe he=>(M.st e he).1) ⟨q',uC,h1⟩).at_ qO
  ·have uY:q'.2.mY=false:=by cases hq2:q'.2<;>simp[hq2,aK.isVar] at h2<;>rfl
   rcases hT i (by simp[xb.ids]) with⟨o,g1,_,g2⟩|⟨g1,_⟩
   ·rw[hs] at g1;exact⟨o,g1,g2 uY⟩
   ·rw[uY] at g1;cases g1
 obtain⟨D',hD1,hD2,hD3,hD4⟩: ∃D':Nat->Prop,(∀b,D b->D' b)/\(∀b,D' b->De b)/\(lt=true\/∀b,De b->D' b)/\(lt=true->∀b,D' b->D b):=by
  cases lt with
  |true=>exact⟨D,λ_ h=>h,λb hb=>x.frozen b (.inl hb), .inl rfl,λ_ _ h=>h⟩
  |false=>exact⟨De,λb hb=>x.frozen b (.inl hb),λ_ h=>h, .inr λ_ h=>h,by intro e;cases e⟩
 have tn: ∀bl,O bl->yX N h bl:=by
  intro bl hb;obtain⟨i,hi,o,h1,h2⟩:=hO bl hb;exact⟨i,o,h1,h2⟩
 have vG: ∀j,h j=none->N j=none:=by
  intro j hj;cases e':N j with
  |none=>rfl
  |some nm=>exact absurd hj (S.named j nm e')
 let N':Names:=⟨λp=>match p with
  | []=>λj=>match N j with|some nm=>some nm|none=>if(∃q∈e.heap,50<=q.1/\q.1<SB/\fresh+(q.1-50)=j) then Ne (j-fresh+50) else none
  |(g,k)::p=>if da e.heap (SB+g)=true then Ne.at_ ((g,k)::p) else N.at_ ((g,k)::p)⟩
 have HT: ∀g,da e.heap (SB+g)=true->∀k,N'.sub g k=Ne.sub g k:=by
  intro g hg k;show(⟨_⟩:Names)=⟨_⟩
  congr 1
  funext p
  show(if da e.heap (SB+g)=true then Ne.at_ ((g,k)::p) else N.at_ ((g,k)::p))=_
  rw[if_pos hg]
 have wu: ∀g,da e.heap (SB+g)=false->∀k,N'.sub g k=N.sub g k:=by
  intro g hg k;show(⟨_⟩:Names)=⟨_⟩
  congr 1
  funext p
  show(if da e.heap (SB+g)=true then Ne.at_ ((g,k)::p) else N.at_ ((g,k)::p))=_
  rw[if_neg (by rw[hg];simp)]
 have hN: ∀j nm,N j=some nm->N' j=some nm:=by
  intro j nm hj;show(match N j with|some nm=>some nm|none=>_)=some nm
  rw[hj]
 have Yi:N.le N':=by
  refine⟨hN,λg k c nm hn hr=>?_⟩;cases hg:da e.heap (SB+g) with
  |false=>rw[wu g hg];exact hn
  |true=>
   rw[HT g hg];obtain⟨q,hq,h1,h2⟩:=fJ.1 hg;rcases zaq q hq (by omega) with h3|h3
   ·rw[h1] at h3
    exact Yh g hg k c nm (by rw[vH h3];exact hn) hr
   ·rw[h1] at h3
    rw[S.iK g h3 k] at hn;cases hn
 have NL: ∀j nm,N' j=some nm->N j=some nm\/(h j=none/\∃q∈e.heap,back b fresh q.1=j/\Ne q.1=some nm):=by
  intro j nm hj;replace hj:(match N j with|some nm=>some nm|none=>if(∃q∈e.heap,50<=q.1/\q.1<SB/\fresh+(q.1-50)=j) then Ne (j-fresh+50) else none)=some nm:=hj
  cases Ug:N j with
  |some mG=>rw[Ug] at hj;exact .inl hj
  |none=>
   rw[Ug] at hj;simp only at hj;split at hj
   ·rename_i hq
    obtain⟨q,hq,uw,kW,rfl⟩:=hq;obtain⟨h1,h2⟩:=qZ q hq uw kW;refine .inr ⟨h2,q,hq,h1,?_⟩;rw[<-hj];congr 1;omega
   ·cases hj
 have hNe: ∀q∈e.heap,q.1<SB->∀nm,Ne q.1=some nm->N' (back b fresh q.1)=some nm:=by
  intro q hq kW nm hn;rcases zec q.1 50 with uw|uw
  ·obtain⟨_,h2,_⟩:=US q hq uw
   rw[zap q hq uw,h2] at hn;exact hN _ _ hn
  ·obtain⟨h1,h2⟩:=qZ q hq uw kW
   show(match N (back b fresh q.1) with|some nm=>some nm|none=>_)=some nm
   rw[h1,vG _ h2];simp only;rw[if_pos ⟨q,hq,uw,kW,rfl⟩,<-hn];congr 1;omega
 have yB: ∀c,(c<SB/\∃q∈e.heap,q.1=c)->∀nm,Ne c=some nm->N' (back b fresh c)=some nm:=by
  rintro c ⟨kW,q,hq,rfl⟩;exact hNe q hq kW
 have hks: ∀l:List Nat,(∀g∈l,da e.heap (SB+g)=true)->mo l Ne N':=λl hl g hg k c nm hn _=>by
  rw[HT g (hl g hg)];exact hn
 have HA: ∀bl,D bl->w'.heap[bl]?=w.heap[bl]?:=λbl hb=>x.sQ bl (S.frozen bl hb) λho=>(S.tT (tn bl ho)).1 hb;have Xb: ∀q∈e.heap,∀(y:q.2.den),mR (λc=>c) e.heap dh (λ_=>none) q.1=some (q.2.mk (λc=>c) y)->∀bl,iR N' (back b fresh q.1) (q.2.mk (back b fresh) y) bl->iR Ne q.1 (q.2.mk (λc=>c) y) bl:=by
  rintro⟨c,p⟩ hq y hm bl ho
  have na:=Se.obj _ _ hm;have key:p.mY=false->(p.mk (λc=>c) y).rw=true->om N' (back b fresh c) bl->om Ne c bl:=by
   rintro uY hr ⟨nm,a,h1,h2,h3⟩
   obtain⟨mG,zar⟩:=Gj (bl:=bl) na hr;have kW:c<SB:=by
    rcases zec c SB with h|h
    ·exact h
    ·rw[(kr _ hq).2 h] at uY;cases uY
   have:=hNe _ hq kW mG zar;rw[h1] at this;cases this;exact⟨nm,a,zar,h2,h3⟩
  cases p with
  |var p=>exact key rfl rfl ho
  |row t=>exact key rfl rfl ho
  |store ep=>
   have sB:=(kr _ hq).1 rfl;simp only at sB;have hg:da e.heap (SB+(c-SB))=true:=by
    rw[show SB+(c-SB)=c by omega]
    exact fJ.2 ⟨_,hq,rfl,rfl⟩
   have ho:pO N' c (.store ep) y bl:=by
    have:=ho;rw[show back b fresh ((c,aK.store ep):Nat×aK).1=c from qk sB] at this
    exact this
   exact(pO.uK (HT _ hg)).1 ho
 have hold: ∀j o bl,h j=some o->iR N j o bl->j∉iN pre.heap b->(lt=true\/j∉ro)->bl<w.heap.size/\¬O bl/\¬D' bl:=by
  intro j o bl hj hr hjr hjo;have hOw:yX N h bl:=⟨j,o,hj,hr⟩;have hnO: ¬O bl:=by
   intro ho;obtain⟨i,hi,o',mW,Ud⟩:=hO _ ho;have:=S.apart i j o' o bl mW hj Ud hr;subst this;exact hjr hi
  refine⟨(S.pa hj hr).2.2,hnO,λhd=>?_⟩;have hnD:=(S.tT hOw).1;rcases hjo with hjo|hjo
  ·exact hnD (hD4 hjo _ hd)
  ·rcases x.Ja _ (hD2 _ hd) with(h1|⟨i,hi,mG,a',h1,h2,h3⟩)|h1|h1
   ·exact hnD h1
   ·rcases M.cases (by rw[hs];exact S) hi h1 h2 with h4|⟨o',h4,h5⟩
    ·exact hnD (h3▸h4)
    ·rw[hs] at h4
     have:=S.apart i j _ o bl h4 hj (h3▸h5) hr;subst this;exact hjo hi
   ·exact hnO h1
   ·have:=(S.pa hj hr).2.2
    omega
 have zcb: ∀g,da e.heap (SB+g)=true->∃o,mR (back b fresh) e.heap dh (tQ lt h pre b ro) (SB+g)=some o/\iK (some o)=false/\h (SB+g)≠some .dead:=by
  intro g hg;obtain⟨q,hq,h1,h2⟩:=fJ.1 hg;have hb:back b fresh q.1=SB+g:=by rw[qk (by omega),h1]
  cases hm:mR (back b fresh) e.heap dh (tQ lt h pre b ro) (SB+g) with
  |none=>exact absurd hm (pR ⟨q,hq,hb⟩)
  |some o=>
   refine⟨o,rfl,?_,?_⟩
   ·rcases nf hm with⟨q',_,_,y,_,rfl⟩|⟨h3,_⟩
    ·exact yo _ _ _
    ·exact absurd hb (h3 q hq)
   ·intro hd
    rcases zaq q hq (by omega) with h3|h3
    ·obtain⟨q',uC,h4,h5⟩:=fJ.1 h3
     obtain⟨gg,hgg,hT,_⟩:=M.bound q' uC;rw[uN (by omega)] at hgg
     cases hgg;rcases hT q'.1 (by simp[xb.ids]) with⟨o',g1,g2,_⟩|⟨_,g1⟩
     ·rw[hs,h4,h1,hd] at g1;cases g1;cases g2
     ·rw[hs,h4,h1,hd] at g1;cases g1
    ·rw[h1,hd] at h3;cases h3
 have Nn: ∀g,h (SB+g)=some .dead->(∀q∈e.heap,back b fresh q.1≠SB+g)/\da e.heap (SB+g)=false:=by
  intro g hd;have uY:da e.heap (SB+g)=false:=by
   cases hg:da e.heap (SB+g) with
   |false=>rfl
   |true=>obtain⟨_,_,_,h3⟩:=zcb g hg;exact absurd hd h3
  refine⟨λq hq hb=>?_,uY⟩;rcases zec q.1 50 with uw|uw
  ·obtain⟨_,_,o,h1,h2⟩:=US q hq uw
   rw[hb,hd] at h1;cases h1;cases h2
  ·rcases zec q.1 SB with kW|sB
   ·obtain⟨h1,h2⟩:=qZ q hq uw kW
    rw[<-h1,hb,hd] at h2;cases h2
   ·rw[qk sB] at hb
    rw[fJ.2 ⟨q,hq,hb,(kr q hq).2 sB⟩] at uY;cases uY
 have zas:Ext N D w h N' D' w' (mR (back b fresh) e.heap dh (tQ lt h pre b ro)):=by
  refine⟨Yi,hD1,x.os,x.tape,x.output,x.size,λbl hb ho=>x.sQ bl hb λh1=>ho (tn bl h1),?_,?_,?_,?_,λg hg=>?_⟩
  ·rintro bl zcc ⟨j,o,hj,hr⟩
   rcases nf hj with⟨q,hq,rfl,y,h1,rfl⟩|⟨hm,h1⟩
   ·exact tn _ (x.own _ zcc ⟨q.1,_,h1,Xb q hq y h1 bl hr⟩)
   ·obtain⟨_,⟨h3,_⟩|⟨_,_,r,t,xs,_,rfl⟩⟩:=Ac M hs h1 (by rintro rfl;exact hr.elim)
    ·refine⟨j,o,h3,?_⟩
     have Ug:N' j=N j:=by
      cases e1:N' j with
      |some nm=>
       rcases NL j nm e1 with h4|⟨h4,_⟩
       ·exact h4.symm
       ·rw[h3] at h4;cases h4
      |none=>
       cases e2:N j with
       |none=>rfl
       |some nm=>rw[hN j nm e2] at e1;cases e1
     by_cases Xc: ∃ep xs,o= .store ep xs
     ·obtain⟨ep,xs,rfl⟩:=Xc
      have e3:=S.tY h3;refine(iR.names Ug (wu _ ?_)).1 hr;rw[e3];cases hg:da e.heap j with
      |false=>rfl
      |true=>
       obtain⟨q,hq,h4,h5⟩:=fJ.1 hg;exact absurd (by rw[qk ((kr q hq).1 h5),h4]) (hm q hq)
     ·cases o with
      |dead=>exact hr.elim
      |void=>exact hr.elim
      |var v=>exact(om.eq Ug).1 hr
      |row r t xs=>
       cases r with
       |true=>exact hr.elim
       |false=>exact(om.eq Ug).1 hr
      |store ep xs=>exact absurd ⟨ep,xs,rfl⟩ Xc
    ·exact hr.elim
  ·intro bl hb
   rcases x.Ja _ (hD2 _ hb) with(h1|⟨i,hi,mG,a',h1,h2,h3⟩)|h1|h1
   ·exact .inl h1
   ·rcases M.cases (by rw[hs];exact S) hi h1 h2 with h4|⟨o',h4,h5⟩
    ·exact .inl (h3▸h4)
    ·rw[hs] at h4
     exact .inr (.inl ⟨i,_,h4,h3▸h5⟩)
   ·exact .inr (.inl (tn _ h1))
   ·exact .inr (.inr h1)
  ·intro j nm hn
   rcases NL j nm hn with h1|⟨h1,_⟩
   ·exact .inl h1
   ·exact .inr h1
  ·intro j hj
   have hm: ∀q∈e.heap,back b fresh q.1≠j:=λq hq e'=>pR (l:=e.heap) (d:=dh) (h:=tQ lt h pre b ro) (b:=back b fresh) ⟨q,hq,e'⟩ hj;rw[uP hm] at hj;exact Gl hj
  ·obtain⟨h1,h2⟩:=Nn g hg
   refine⟨?_,wu g h2⟩;rw[uP h1];exact Pl M hs hg
 have yA: ∀i oi bl,mR (back b fresh) e.heap dh (tQ lt h pre b ro) i=some oi->iR N' i oi bl->
   (∃q∈e.heap,back b fresh q.1=i/\∃o,mR (λc=>c) e.heap dh (λ_=>none) q.1=some o/\iR Ne q.1 o bl)\/
    (h i=some oi/\iR N i oi bl/\bl<w.heap.size/\¬O bl/\i∉iN pre.heap b):=by
   intro i oi bl hi ri;rcases nf hi with⟨q,hq,rfl,y,h1,rfl⟩|⟨hm,h1⟩
   ·exact .inl ⟨q,hq,rfl,_,h1,Xb q hq y h1 bl ri⟩
   ·obtain⟨h2,⟨h3,h4⟩|⟨_,_,r,t,xs,_,rfl⟩⟩:=Ac M hs h1 (by rintro rfl;exact ri.elim)
    ·have hn:iR N i oi bl:=by
      have Ug:N' i=N i:=by
       cases e1:N' i with
       |some nm=>
        rcases NL i nm e1 with h4|⟨h4,_⟩
        ·exact h4.symm
        ·rw[h3] at h4;cases h4
       |none=>
        cases e2:N i with
        |none=>rfl
        |some nm=>rw[hN i nm e2] at e1;cases e1
      by_cases Xc: ∃ep xs,oi= .store ep xs
      ·obtain⟨ep,xs,rfl⟩:=Xc
       have e3:=S.tY h3;refine(iR.names Ug (wu _ ?_)).1 ri;rw[e3];cases hg:da e.heap i with
       |false=>rfl
       |true=>
        obtain⟨q,hq,h4,h5⟩:=fJ.1 hg;exact absurd (by rw[qk ((kr q hq).1 h5),h4]) (hm q hq)
      ·cases oi with
       |dead=>exact ri.elim
       |void=>exact ri.elim
       |var v=>exact(om.eq Ug).1 ri
       |row r t xs=>
        cases r with
        |true=>exact ri.elim
        |false=>exact(om.eq Ug).1 ri
       |store ep xs=>exact absurd ⟨ep,xs,rfl⟩ Xc
     obtain⟨g1,g2,_⟩:=hold i oi bl h3 hn h2 h4;exact .inr ⟨h3,hn,g1,g2,h2⟩
    ·exact ri.elim
 refine⟨N',D',⟨?_,?_,?_,?_,zea S.size x.size,?_⟩,zas,?_,yB,wu,hD2,λi oi bl hi ri=>?_⟩
 ·intro j o hj
  rcases nf hj with⟨q,hq,rfl,y,h1,rfl⟩|⟨hm,h1⟩
  ·refine RI hD3 hD2 q.2 y (λuY=>hNe q hq ?_) (λc hc=>yB c (hex.closed.cs c (.inr (List.mem_flatMap.2 ⟨q,hq,hc⟩)))) (hks _ λg hg=>hex.closed.ks g (.inr (List.mem_flatMap.2 ⟨q,hq,hg⟩))) (λe'=>?_) (λXd=>?_) (Se.obj _ _ h1)
   ·rcases zec q.1 SB with h|h
    ·exact h
    ·rw[(kr q hq).2 h] at uY;cases uY
   ·have:=kW e'
    simp only[jw.flat,zdV,zew] at this;exact this.2 q hq
   ·have sB:=(kr q hq).1 Xd
    rw[qk sB];refine⟨rfl,HT _ ?_⟩;rw[show SB+(q.1-SB)=q.1 by omega]
    exact fJ.2 ⟨q,hq,rfl,Xd⟩
  ·by_cases hd:o= .dead
   ·subst hd;trivial
   obtain⟨h2,⟨h3,h4⟩|⟨h4,h5,r,t,xs,h6,rfl⟩⟩:=Ac M hs h1 hd
   ·refine nO (S.obj j o h3) Yi hD1 HA (λbl hr=>?_) (λep xs eo=>?_)
    ·obtain⟨g1,g2,g3⟩:=hold j o bl h3 hr h2 h4
     exact⟨x.sQ _ g1 g2,λ_=>g3⟩
    ·subst eo
     have e3:=S.tY h3;refine wu _ ?_;rw[e3];cases hg:da e.heap j with
     |false=>rfl
     |true=>
      obtain⟨q,hq,h4,h5⟩:=fJ.1 hg;exact absurd (by rw[qk ((kr q hq).1 h5),h4]) (hm q hq)
   ·obtain⟨nm,e1,e2,e3,e4,e5,e6⟩:=S.obj j _ h6
    refine⟨nm,hN _ _ e1,e2,e3,e4,e5,?_⟩;cases hb:nm.base with
    |none=>rw[hb] at e6;exact e6
    |some a=>
     rw[hb] at e6;obtain⟨f1,⟨cc,ty,fz,f2,f3,_⟩,f4,f5⟩:=e6;have hDa:D' a.block:=by
      rcases hD3 with h7|h7
      ·rw[h4] at h7;cases h7
      ·exact h7 _ (x.frozen _ (.inr ⟨j,h5,nm,a,e1,hb,rfl⟩))
     have vE:w'.heap[a.block]?=w.heap[a.block]?:=by
      refine x.sQ _ (Array.getElem?_eq_some_iff.1 f2).1 λho=>?_;cases r with
      |true=>simp only[if_true] at f4;exact(S.tT (tn _ ho)).1 f4
      |false=>
       obtain⟨i,hi,o',mW,Ud⟩:=hO _ ho;have:=S.apart i j o' _ _ mW h6 Ud (iR.of rfl e1 hb);subst this;exact h2 hi
     refine⟨f1,⟨cc,ty,fz,by rw[vE];exact f2,f3,by intro e';cases e'⟩,by simp only[if_true];exact hDa,λi y hy=>?_⟩
     refine iy.func (kC Yi hD1 HA t y _ (f5 i y hy)) λm=>?_;simp only[aZ,World.cell?,vE]
 ·intro i j oi oj bl hi hj ri rj
  rcases yA i oi bl hi ri with⟨q,hq,rfl,o,k2,k3⟩|⟨k1,k2,k3,k4,_⟩<;>rcases yA j oj bl hj rj with⟨q',uC,rfl,o',k2',k3'⟩|⟨k1',k2',k3',k4',_⟩
  ·rw[Se.apart q.1 q'.1 o o' bl k2 k2' k3 k3']
  ·exact absurd (x.own _ k3' ⟨q.1,o,k2,k3⟩) k4'
  ·exact absurd (x.own _ k3 ⟨q'.1,o',k2',k3'⟩) k4
  ·exact S.apart i j oi oj bl k1 k1' k2 k2'
 ·intro bl hb
  exact Se.frozen bl (hD2 bl hb)
 ·intro j nm hn
  rcases NL j nm hn with h1|⟨_,q,hq,h2,_⟩
  ·intro h2
   exact S.named j nm h1 (zas.live j h2)
  ·exact pR ⟨q,hq,h2⟩
 ·intro g hg
  have Xe: ∀q∈e.heap,back b fresh q.1≠SB+g:=by
   intro q hq hb;cases hm:mR (back b fresh) e.heap dh (tQ lt h pre b ro) (SB+g) with
   |none=>exact pR ⟨q,hq,hb⟩ hm
   |some o=>
    rw[hm] at hg;rcases nf hm with⟨q',_,_,y,_,rfl⟩|⟨h3,_⟩
    ·rw[yo] at hg;cases hg
    ·exact h3 q hq hb
  have uY:da e.heap (SB+g)=false:=by
   cases CC:da e.heap (SB+g) with
   |false=>rfl
   |true=>
    obtain⟨q,hq,h1,h2⟩:=fJ.1 CC;exact absurd (by rw[qk ((kr q hq).1 h2),h1]) (Xe q hq)
  rw[uP Xe] at hg;have UP:iK (h (SB+g))=true:=by
   cases hr:tQ lt h pre b ro (SB+g) with
   |none=>rw[Gl hr];rfl
   |some o=>
    rw[hr] at hg;obtain⟨_,⟨h3,_⟩|⟨_,_,r,t,xs,_,rfl⟩⟩:=Ac M hs hr (by rintro rfl;cases hg)
    ·rw[h3];exact hg
    ·cases hg
  exact λk=>(wu g uY k).trans (S.iK g UP k)
 ·intro p y g hp hk hf hg
  exact C4 hD3 p y g (λc hc=>yB c (hp c hc)) (hks _ hk) hf hg
 ·rcases yA i oi bl hi ri with⟨q,_,_,o,k2,k3⟩|⟨k1,k2,_,_,k5⟩
  ·exact .inl ⟨q.1,o,k2,k3⟩
  ·exact .inr ⟨k1,k2,k5⟩
end AM
namespace AM
open Go
variable {α:Type}{P:Program}{base:Nat}
section
variable {M:Names}{D:Nat->Prop}{w:World}
theorem RJ {c:Nat}: ∀{p:aK} {x:p.den},jf D w base M c p x->qB M D w base c (p.mk (λc=>c) x)
 | .var p,x,h=>by simp only[jf] at h;exact h
 | .row t,x,h=>by simp only[jf] at h;exact h
 | .store ep,x,h=>h
theorem RK {c:Nat}: ∀{p:aK} {x:p.den},qB M D w base c (p.mk (λc=>c) x)->jf D w base M c p x
 | .var p,x,h=>by simp only[jf];exact h
 | .row t,x,h=>by simp only[jf];exact h
 | .store ep,x,h=>h
theorem DV {c b:Nat}: ∀{p:aK} {x:p.den},iR M c (p.mk (λc=>c) x) b↔pO M c p x b
 | .var p,x=>by simp only[pO];exact Iff.rfl
 | .row t,x=>by simp only[pO];exact Iff.rfl
 | .store ep,x=>Iff.rfl
theorem kQ.obj: ∀{l:List (Nat×aK)} {d:cT l},kQ D w base M l d->∀c o,mR (λc=>c) l d (λ_=>none) c=some o->qB M D w base c o
 | [],_,_,c,o,h=>by simp[mR] at h
 |(ce,pe)::os,d,hp,c,o,h=>by
  simp only[kQ] at hp;simp only[mR] at h;split at h
  ·rename_i e
   subst e;cases h;exact RJ hp.1
  ·exact kQ.obj hp.2.1 c o h
theorem pA.of: ∀{l:List (Nat×aK)} {d:cT l} {c b:Nat} {o:fO},mR (λc=>c) l d (λ_=>none) c=some o->iR M c o b->pA M l d b
 | [],_,c,b,o,h,_=>by simp[mR] at h
 |(ce,pe)::os,d,c,b,o,h,ho=>by
  simp only[pA];simp only[mR] at h;split at h
  ·rename_i e
   subst e;cases h;exact .inl (DV.1 ho)
  ·exact .inr (pA.of h ho)
theorem pA.obj: ∀{l:List (Nat×aK)} {d:cT l} {b:Nat},AM.nodup (l.map (·.1))=true->pA M l d b->∃c o,mR (λc=>c) l d (λ_=>none) c=some o/\iR M c o b
 | [],_,b,_,h=>by simp only[pA] at h
 |(ce,pe)::os,d,b,hn,h=>by
  simp only[pA] at h;simp only[zeK,AM.nodup,zdV,zfc,ze2,decide_eq_false_iff_not] at hn;rcases h with h|h
  ·exact⟨ce,pe.mk (λc=>c) d.1,by simp[mR],DV.2 h⟩
  ·obtain⟨c,o,h1,h2⟩:=pA.obj hn.2 h
   refine⟨c,o,?_,h2⟩;simp only[mR];rw[if_neg,h1];rintro rfl
   rcases nf h1 with⟨q,hq,h3,_⟩|⟨_,h3⟩
   ·exact hn.1 (List.mem_map.2 ⟨q,hq,h3⟩)
   ·cases h3
theorem kQ.apart: ∀{l:List (Nat×aK)} {d:cT l},kQ D w base M l d->∀c c' o o' b,mR (λc=>c) l d (λ_=>none) c=some o->mR (λc=>c) l d (λ_=>none) c'=some o'->iR M c o b->iR M c' o' b->c=c'
 | [],_,_,c,c',o,o',b,h,_,_,_=>by simp[mR] at h
 |(ce,pe)::os,d,hp,c,c',o,o',b,h,h',ho,mW=>by
  simp only[kQ] at hp;simp only[mR] at h h';split at h<;>split at h'
  ·rename_i e e';rw[e,e']
  ·rename_i e e'
   subst e;cases h;exact(hp.2.2 b (DV.1 ho) (pA.of h' mW)).elim
  ·rename_i e e'
   subst e';cases h';exact(hp.2.2 b (DV.1 mW) (pA.of h ho)).elim
  ·exact kQ.apart hp.2.1 c c' o o' b h h' ho mW
theorem Jp {l:List (Nat×aK)}{d:cT l}(hp:kQ D w base M l d)(hn:CY M l)(hf: ∀b,D b->b<w.heap.size)(hs:base<=w.heap.size):jX M D w base (mR (λc=>c) l d (λ_=>none)):=by
 refine⟨hp.obj,hp.apart,hf,λc nm hc=>(by obtain⟨e,he,h1,_⟩:=hn.1 c nm hc;exact pR ⟨e,he,h1⟩),hs,λg hg=>hn.2 g λe he h1=>?_⟩
 cases hm:mR (λc=>c) l d (λ_=>none) (SB+g) with
 |none=>exact pR ⟨e,he,h1⟩ hm
 |some o=>
  rw[hm] at hg;rcases nf hm with⟨q',_,_,x,_,rfl⟩|⟨_,h5⟩
  ·rw[yo] at hg;cases hg
  ·cases h5
theorem Jq: ∀{l:List (Nat×aK)} {d:cT l},AM.nodup (l.map (·.1))=true->(∀c o,mR (λc=>c) l d (λ_=>none) c=some o->qB M D w base c o)->(∀c c' o o' b,mR (λc=>c) l d (λ_=>none) c=some o->mR (λc=>c) l d (λ_=>none) c'=some o'->iR M c o b->iR M c' o' b->c=c')->kQ D w base M l d
 | [],_,_,_,_=>by simp only[kQ]
 |(ce,pe)::os,d,hn,h1,h2=>by
  simp only[zeK,AM.nodup,zdV,zfc,ze2,decide_eq_false_iff_not] at hn;have lV: ∀c o,mR (λc=>c) os d.2 (λ_=>none) c=some o->c≠ce/\mR (λc=>c) ((ce,pe)::os) d (λ_=>none) c=some o:=by
   intro c o h;have hc:c≠ce:=by
    rintro rfl
    rcases nf h with⟨q,hq,h3,_⟩|⟨_,h3⟩
    ·exact hn.1 (List.mem_map.2 ⟨q,hq,h3⟩)
    ·cases h3
   refine⟨hc,?_⟩;simp only[mR];rw[if_neg hc,h]
  have O6:mR (λc=>c) ((ce,pe)::os) d (λ_=>none) ce=some (pe.mk (λc=>c) d.1):=by simp[mR]
  simp only[kQ];refine⟨RK (h1 ce _ O6),Jq hn.2 (λc o h=>h1 c o (lV c o h).2) (λc c' o o' b h h'=>h2 c c' o o' b (lV c o h).2 (lV c' o' h').2),λb hb vl=>?_⟩;obtain⟨c,o,h3,h4⟩:=pA.obj hn.2 vl;obtain⟨h5,h6⟩:=lV c o h3;exact h5 (h2 c ce o _ b h6 O6 h4 (DV.2 hb))
theorem xV {l:List (Nat×aK)}{d:cT l}(hn:AM.nodup (l.map (·.1))=true)(UT: ∀c nm,M c=some nm->∃e∈l,e.1=c/\e.2.mY=false)(S:jX M D w base (mR (λc=>c) l d (λ_=>none))):kQ D w base M l d/\CY M l:=by
 refine⟨Jq hn S.obj S.apart,UT,λg hg=>S.iK g ?_⟩;rw[uP hg];rfl
end
section
variable {N N' N2:Names}{D D':Nat->Prop}{w w':World}{ks:List Nat}
theorem Gm (ox: ∀g∈ks,∀k,N.sub g k=Names.nil)(jv: ∀g,g∉ks->∀k c nm,N'.sub g k c=some nm->nm.row=false->N2.sub g k c=some nm){tag n c:Nat}{v v':Option Value}(h:xv N tag n c v)(h':xv N' tag n c v'):xv N2 tag n c v':=by
 cases n with
 |zero=>exact h'
 |succ k=>
  obtain⟨nm,a,h1,_⟩:=h;obtain⟨mG,a',h2,h3,h4⟩:=h';refine⟨mG,a',jv tag (λhm=>?_) _ _ _ h2 h3,h3,h4⟩;rw[ox tag hm] at h1;cases h1
theorem rW (ox: ∀g∈ks,∀k,N.sub g k=Names.nil)(jv: ∀g,g∉ks->∀k c nm,N'.sub g k c=some nm->nm.row=false->N2.sub g k c=some nm): ∀(t:Ty) (x:t.den) (g g':Nat->Option Value),iy N D w t x g->iy N' D' w' t x g'->iy N2 D' w' t x g'
 | .int _,_,_,_,_,h=>by simp only[iy] at*;exact h
 | .bool,_,_,_,_,h=>by simp only[iy] at*;exact h
 | .str,_,_,_,_,h=>by simp only[iy] at*;exact h
 | .nil,_,_,_,_,_=>by simp only[iy]
 | .cons a b,p,g,g',h,h'=>⟨rW ox jv a p.1 _ _ h.1 h'.1,rW ox jv b p.2 _ _ h.2 h'.2⟩
 | .arr n t,xs,g,g',h,h'=>⟨h'.1,λi x hx=>rW ox jv t x _ _ (h.2 i x hx) (h'.2 i x hx)⟩
 | .deep t,xs,g,g',h,h'=>by
  obtain⟨a,cap,h1,h2,h3,h4⟩:=h;obtain⟨a',sA,HU,RL,Rd,Yj⟩:=h';refine⟨a',sA,HU,RL,Rd,λad ha hx=>?_⟩;obtain⟨h5',h6',h7'⟩:=Yj ad ha hx;refine⟨h5',h6',λi x hi=>?_⟩;cases a with
  |none=>rw[h3 rfl] at h2;exact absurd (Nat.le_zero.1 h2) hx
  |some ad0=>exact rW ox jv t x _ _ ((h4 ad0 rfl hx).2.2 i x hi) (h7' i x hi)
 | .ref g,n,c,c',h,h'=>Gm (n:=n) ox jv h h'
theorem Pm {agg:Bool}{size:Nat}{R R' R2:(Nat->Option Value)->Prop}(h: ∀g g',R g->R' g'->R2 g'){v v':Value}(hv:jz agg size R v)(hv':jz agg size R' v'):jz agg size R2 v':=by
 cases agg with
 |true=>
  obtain⟨c,_,_,h3⟩:=hv;obtain⟨c',h1,h2,Rd⟩:=hv';exact⟨c',h1,h2,h _ _ h3 Rd⟩
 |false=>exact h _ _ hv hv'
mutual
theorem wv (ox: ∀g∈ks,∀k,N.sub g k=Names.nil)(kr: ∀i nm,N' i=some nm->N2 i=some nm)(jv: ∀g,g∉ks->∀k c nm,N'.sub g k c=some nm->nm.row=false->N2.sub g k c=some nm): ∀(v:AV) (g g':Nat->Option Value),aq N D w v g->aq N' D' w' v g'->aq N2 D' w' v g'
 | .undef,_,_,_,_=>by simp only[aq]
 | .val v,g,g',_,h=>by simp only[aq] at*;exact h
 | .ptr id p,g,g',_,h=>by
  simp only[aq] at*;obtain⟨nm,a,o,h1,h2⟩:=h;exact⟨nm,a,o,kr _ _ h1,h2⟩
 | .tail id off,g,g',_,h=>by
  simp only[aq] at*;obtain⟨nm,h1,h2⟩:=h;exact⟨nm,kr _ _ h1,h2⟩
 | .slice id p off len,g,g',_,h=>by
  simp only[aq] at*;obtain⟨nm,h1,h2⟩:=h;exact⟨nm,kr _ _ h1,h2⟩
 | .dp t xs,g,g',h,h'=>by simp only[aq] at*;exact rW ox jv _ _ _ _ h h'
 | .tP v,g,g',h,h'=>by
  simp only[aq] at*;obtain⟨_,_,_,_,h4⟩:=h;obtain⟨a,h1,h2,h3,Yj⟩:=h';exact⟨a,h1,h2,h3,wv ox kr jv v _ _ h4 Yj⟩
 | .agg fs,g,g',h,h'=>by simp only[aq] at*;exact B9 ox kr jv fs g g' h h'
 | .arr n t xs,g,g',h,h'=>by simp only[aq] at*;exact rW ox jv _ _ _ _ h h'
 | .AP vs,g,g',h,h'=>by
  simp only[aq] at*;obtain⟨cs,_,h2⟩:=h;obtain⟨tG,HU,RL⟩:=h';exact⟨tG,HU,tu ox kr jv vs _ _ h2 RL⟩
 | .wZ fn vs,g,g',h,h'=>by
  simp only[aq] at*;obtain⟨cs,_,h2⟩:=h;obtain⟨tG,HU,RL⟩:=h';exact⟨tG,HU,tu ox kr jv vs _ _ h2 RL⟩
 | .xm,g,g',_,h=>by simp only[aq] at*;exact h
 | .QJ id p f off,g,g',_,h=>by
  simp only[aq] at*;obtain⟨nm,a,o,h1,h2⟩:=h;exact⟨nm,a,o,kr _ _ h1,h2⟩
 | .Cz fn vs,g,g',h,h'=>by
  simp only[aq] at*;obtain⟨cs,_,h2⟩:=h;obtain⟨tG,HU,RL⟩:=h';exact⟨tG,HU,tu ox kr jv vs _ _ h2 RL⟩
 | .uu id n,g,g',_,h=>by
  simp only[aq] at*;obtain⟨nm,a,h1,h2⟩:=h;exact⟨nm,a,kr _ _ h1,h2⟩
 | .rf _ _ _,g,g',h,h'=>by simp only[aq] at*;exact Gm ox jv h h'
theorem B9 (ox: ∀g∈ks,∀k,N.sub g k=Names.nil)(kr: ∀i nm,N' i=some nm->N2 i=some nm)(jv: ∀g,g∉ks->∀k c nm,N'.sub g k c=some nm->nm.row=false->N2.sub g k c=some nm): ∀(l:List AV) (g g':Nat->Option Value),fg N D w l g->fg N' D' w' l g'->fg N2 D' w' l g'
 | [],_,_,_,_=>by simp only[fg]
 |x::xs,g,g',h,h'=>by
  simp only[fg] at*;exact⟨wv ox kr jv x _ _ h.1 h'.1,B9 ox kr jv xs _ _ h.2 h'.2⟩
theorem tu (ox: ∀g∈ks,∀k,N.sub g k=Names.nil)(kr: ∀i nm,N' i=some nm->N2 i=some nm)(jv: ∀g,g∉ks->∀k c nm,N'.sub g k c=some nm->nm.row=false->N2.sub g k c=some nm): ∀(l:List AV) (cs tG:List Value),bF N D w l cs->bF N' D' w' l tG->bF N2 D' w' l tG
 | [],_,_,_,h=>by simp only[bF] at*;exact h
 |x::xs,cs,tG,h,h'=>by
  simp only[bF] at*;obtain⟨c,cs,rfl,h2,h3⟩:=h;obtain⟨c',tG,rfl,RL,Rd⟩:=h';exact⟨c',tG,rfl,Pm (λg g'=>wv ox kr jv x g g') h2 RL,tu ox kr jv xs _ _ h3 Rd⟩
end
theorem nF.swap (ox: ∀g∈ks,∀k,N.sub g k=Names.nil)(kr: ∀i nm,N' i=some nm->N2 i=some nm)(jv: ∀g,g∉ks->∀k c nm,N'.sub g k c=some nm->nm.row=false->N2.sub g k c=some nm){i:Nat}{ro ro':Bool}{t:Ty}{xs:List t.den}(h:nF N D w base i ro t xs)(h':nF N' D' w' base i ro' t xs):nF N2 D' w' base i ro' t xs:=by
 obtain⟨nm,e1,e2,e3,e4,e5,e6⟩:=h;obtain⟨mG,f1,f2,f3,f4,f5,f6⟩:=h';refine⟨mG,kr _ _ f1,f2,f3,f4,f5,?_⟩;cases vl:mG.base with
 |none=>rw[vl] at f6;exact f6
 |some a'=>
  rw[vl] at f6;obtain⟨g1,g2,g3,g4⟩:=f6;refine⟨g1,g2,g3,λj x hx=>?_⟩;cases hb:nm.base with
  |none=>
   rw[hb] at e6;have:=ym hx;have e6:nm.len=0:=e6;omega
  |some a=>
   rw[hb] at e6;exact rW ox jv t x _ _ (e6.2.2.2 j x hx) (g4 j x hx)
theorem mk_le (kr: ∀i nm,N' i=some nm->N2 i=some nm){bk:Nat->Nat}(p:cp)(x:p.den)(hK:mo p.ks N' N2): ∀g,aq N' D w (p.mk bk x) g->aq N2 D w (p.mk bk x) g:=by
 have key:(∀(p:cp) (x:p.den),mo p.ks N' N2->∀g,aq N' D w (p.mk bk x) g->aq N2 D w (p.mk bk x) g):=by
  intro p;refine cp.rec (motive_1:=λp=> ∀(x:p.den),mo p.ks N' N2->∀g,aq N' D w (p.mk bk x) g->aq N2 D w (p.mk bk x) g)
   (motive_2:=λps=> ∀(x:cp.xa ps),mo (cp.Q4 ps) N' N2->(∀g,fg N' D w (cp.qS bk ps x) g->fg N2 D w (cp.qS bk ps x) g)/\∀cs,bF N' D w (cp.qS bk ps x) cs->bF N2 D w (cp.qS bk ps x) cs) ?_ ?_ ?_ ?_ ?_ ?_ ?_ ?_ ?_ ?_ ?_ ?_ ?_ ?_ p
  ·intro t x hK g h
   simp only[cp.mk] at h⊢;exact(kO t x g).2 (kv (λ_ h=>h) (λ_ _=>rfl) t x g (by simpa only[cp.ks] using hK) ((kO t x g).1 h))
  ·intro v x hK g h;simp only[cp.mk,aq] at h⊢;exact h
  ·intro c x hK g h
   simp only[cp.mk,aq] at h⊢;obtain⟨nm,a,o,h1,h2⟩:=h;exact⟨nm,a,o,kr _ _ h1,h2⟩
  ·intro c x hK g h
   simp only[cp.mk,aq] at h⊢;obtain⟨nm,h1,h2⟩:=h;exact⟨nm,kr _ _ h1,h2⟩
  ·intro c x hK g h
   simp only[cp.mk,aq] at h⊢;obtain⟨nm,h1,h2⟩:=h;exact⟨nm,kr _ _ h1,h2⟩
  ·intro ps ih x hK g h
   simp only[cp.mk,aq] at h⊢;exact(ih x (by simpa only[cp.ks] using hK)).1 g h
  ·intro t x hK g h
   simp only[cp.mk,aq] at h⊢;obtain⟨a,h1,h2,h3,h4⟩:=h;exact⟨a,h1,h2,h3,(kO t x _).2 (kv (λ_ h=>h) (λ_ _=>rfl) t x _ (by simpa only[cp.ks] using hK) ((kO t x _).1 h4))⟩
  ·intro c q x hK g h
   simp only[cp.mk,aq] at h⊢;obtain⟨nm,a,o,h1,h2⟩:=h;exact⟨nm,a,o,kr _ _ h1,h2⟩
  ·intro f ps ih x hK g h
   simp only[cp.mk,aq] at h⊢;obtain⟨cs,h1,h2⟩:=h;exact⟨cs,h1,(ih x (by simpa only[cp.ks] using hK)).2 _ h2⟩
  ·intro c n x hK g h
   simp only[cp.mk,aq] at h⊢;obtain⟨nm,a,h1,h2⟩:=h;exact⟨nm,a,kr _ _ h1,h2⟩
  ·intro x hK g h;simp only[cp.mk,aq]
  ·intro p ih x hK g h
   simp only[cp.mk,aq] at h⊢;obtain⟨a,h1,h2,h3,h4⟩:=h;exact⟨a,h1,h2,h3,ih x (by simpa only[cp.ks] using hK) _ h4⟩
  ·intro x hK
   exact⟨λg _=>by simp only[cp.qS,fg],λcs h=>by simpa only[cp.qS,bF] using h⟩
  ·intro p ps qP Uh x hK
   have hK:mo (p.ks++cp.Q4 ps) N' N2:=by simpa only[cp.Q4] using hK
   have a1:=qP x.1 hK.left;obtain⟨a2,a3⟩:=Uh x.2 hK.right;refine⟨λg h=>?_,λcs h=>?_⟩
   ·simp only[cp.qS,fg] at h⊢
    exact⟨a1 g h.1,a2 _ h.2⟩
   ·simp only[cp.qS,bF] at h⊢
    obtain⟨c,tG,e1,e2,e3⟩:=h;exact⟨c,tG,e1,xy a1 e2,a3 _ e3⟩
 exact key p x hK
end
end AM
namespace AM
open Go
variable {α:Type}{P:Program}{base:Nat}
structure LH (ep:List (Nat×aK)):Prop where
 closed:wm ⟨[],ep⟩
 ids: ∀q∈ep,q.2.mY=false->50<=q.1/\q.1<90
 nodup:AM.nodup (ep.map (·.1))=true
theorem Gn {ep:List (Nat×aK)}(h:OO ep=true):LH ep:=by
 simp only[OO,zdV,zew] at h;refine⟨uO h.1.1,λq hq hs=>?_,h.2⟩;have:=h.1.2 q hq;rw[hs] at this;simpa using this
theorem Ad (N:Names)(D:Nat->Prop):Bd N D []=D:=by
 funext b
 simp[Bd]
theorem Gp {ep:List (Nat×aK)}(uv:LH ep){g:Nat}:g∈xt ep↔da ep (SB+g)=true:=by
 unfold xt;rw[List.mem_filterMap,fJ];constructor
 ·rintro⟨e,he,h⟩
  cases h2:e.2 with
  |var p=>rw[h2] at h;cases h
  |row t=>rw[h2] at h;cases h
  |store Fk=>
   rw[h2] at h;simp only[zdT] at h;have:=(uv.closed.st e he).1 (by rw[h2];rfl)
   exact⟨e,he,by omega,by rw[h2];rfl⟩
 ·rintro⟨e,he,h1,h2⟩
  refine⟨e,he,?_⟩;cases h3:e.2 with
  |var p=>rw[h3] at h2;cases h2
  |row t=>rw[h3] at h2;cases h2
  |store Fk=>simp only[zdT];omega
theorem Ae (g:Nat)(ep:List (Nat×aK)):iN [(SB+g,aK.store ep)] []=[SB+g]:=by
 unfold iN;simp only[zeA,List.flatMap_nil,zfe];rw[uN (zff SB g)];rfl
theorem wx (g:Nat):SB+g-SB=g:=by omega
theorem LI {N:Names}{D:Nat->Prop}{w:World}{st:St}{g n off:Nat}{ep:List (Nat×aK)}{xs:List (cT ep)}{d:cT ep}(S:jX N D w base st.h)(hs:st.h (SB+g)=some (.store ep xs))(hd:jW (β:=cT ep) xs n=some d)(uv:LH ep)(hf:oO st.h off [] ep=true):
  ∃N1 D1,jX N1 D1 w base (tS st g off ep d).h/\Ext N D w st.h N1 D1 w (tS st g off ep d).h/\(∀c,(c<SB/\∃q∈ep,q.1=c)->∀nm,N.sub g n c=some nm->N1 (back [] off c)=some nm)/\(∀g',da ep (SB+g')=false->∀k,N1.sub g' k=N.sub g' k)/\(∀b,D1 b->D b)/\
   ∀i oi bl,(tS st g off ep d).h i=some oi->iR N1 i oi bl->pA (N.sub g n) ep d bl\/(st.h i=some oi/\iR N i oi bl/\i≠SB+g):=by
 have na:jf D w base N (SB+g) (.store ep) xs:=S.obj _ _ hs;simp only[jf,wx] at na;obtain⟨p1,p2⟩:=na.2.1 n d hd;have hng:da ep (SB+g)=false:=by
  cases h:da ep (SB+g) with
  |false=>rfl
  |true=>
   obtain⟨q,hq,h1,h2⟩:=fJ.1 h;unfold oO at hf;rw[zew] at hf;have:=hf q hq;rw[h1,decide_eq_false (Jo (zff SB g)),decide_eq_true (zff SB g)] at this;simp[hs,iK] at this
 have M:HR st ⟨[],[(SB+g, .store ep)]⟩ [] [] (xs,()):=by
  refine⟨λe he=>?_,by show AM.nodup (iN [(SB+g,aK.store ep)] [])=true;rw[Ae];simp[AM.nodup],λi hi=>by simp at hi,λc Fk ys hc=>?_,λe he=>?_⟩
  ·obtain rfl:=List.mem_singleton.1 he
   refine⟨.at_ (SB+g),uN (zff SB g),λi hi=>?_,by intro h;cases h⟩
   simp only[xb.ids,zfb] at hi;subst hi;exact .inl ⟨_,hs,rfl,by intro h;cases h⟩
  ·simp only[mR] at hc
   split at hc
   ·rename_i e
    subst e;simp only[aK.mk,zdT] at hc;rw[<-hc];exact⟨zff SB g, .inl hs⟩
   ·cases hc
  ·obtain rfl:=List.mem_singleton.1 he
   exact⟨λ_=>zff SB g,λ_=>rfl⟩
 have hex:Pk ⟨[],[(SB+g, .store ep)]⟩ ⟨[],ep⟩:=⟨uv.closed,λq hq uw=>by
  exfalso
  cases kr:q.2.mY with
  |true=>have:=(uv.closed.st q hq).1 kr;exact Jo this uw
  |false=>have:=(uv.ids q hq kr).1;omega⟩
 have xF:oO st.h off [(SB+g, .store ep)] ep=true:=by
  unfold oO at hf⊢;rw[zew] at hf⊢;intro q hq;have h1:=hf q hq;simp only[zeY] at h1⊢;rcases h1 with h1|h1
  ·exact .inl h1
  ·right
   by_cases sB:SB<=q.1
   ·simp only[decide_eq_true sB] at h1⊢
    simp only[List.any_nil,zfd] at h1;simp[h1]
   ·simp only[decide_eq_false sB] at h1⊢
    exact h1
 obtain⟨N1,D1,r1,r2,_,r4,r5,r7,r6⟩:=Bf (h:=st.h) (pre:=⟨[],[(SB+g, .store ep)]⟩) (e:=⟨[],ep⟩) (b:=[]) (ro:=[]) (s:=st) rfl S M hex xF (lt:=false) (by intro h;cases h) (Ne:=N.sub g n) (De:=D) (w':=w) (dh:=d) (O:=pA (N.sub g n) ep d)
  (λbl hb=>⟨SB+g,by show SB+g∈iN [(SB+g,aK.store ep)] [];rw[Ae];simp,_,hs,by
   show pO N (SB+g) (.store ep) xs bl
   simp only[pO,wx];exact⟨n,d,hd,hb⟩⟩)
  (Jp p1 p2 S.frozen S.size)
  ⟨λb hb=>by rw[Ad] at hb;exact hb,rfl,rfl,rfl,zd9 _,λ_ _ _=>rfl,λb _ ho=>by obtain⟨c,o,h1,h2⟩:=ho;exact pA.of h1 h2,λb hb=> .inl (by rw[Ad];exact hb)⟩
  (λq hq uw=>by
   obtain⟨_,uC,h1,h2⟩:=hex.var q hq uw;obtain rfl:=List.mem_singleton.1 uC;cases h2)
  (λg' CC k c nm hn _=>by
   have:da [(SB+g,aK.store ep)] (SB+g')=false:=by
    cases h:da [(SB+g,aK.store ep)] (SB+g') with
    |false=>rfl
    |true=>
     obtain⟨q,hq,h1,_⟩:=fJ.1 h;obtain rfl:=List.mem_singleton.1 hq;have h1:SB+g=SB+g':=h1;rw[<-h1,hng] at CC;cases CC
   rw[ze this] at hn;cases hn)
 have vw:mR (back [] off) ep d (tQ false st.h ⟨[],[(SB+g, .store ep)]⟩ [] [])=(tS st g off ep d).h:=by
  unfold tQ tS;simp only[tE];rw[Ae]
 have vw:mR (back [] off) (jw.mk [] ep).heap d (tQ false st.h ⟨[],[(SB+g, .store ep)]⟩ [] [])=(tS st g off ep d).h:=vw;rw[vw] at r1 r2 r6;refine⟨N1,D1,r1,r2,r4,r5,r7,λi oi bl h1 h2=>?_⟩;rcases r6 i oi bl h1 h2 with⟨c,o,h3,h4⟩|⟨h3,h4,h5⟩
 ·exact .inl (pA.of h3 h4)
 ·refine .inr ⟨h3,h4,λe=>h5 ?_⟩
  show i∈iN [(SB+g,aK.store ep)] []
  rw[Ae,e];simp
theorem Names.ext {N N':Names}(h: ∀p,N.at_ p=N'.at_ p):N=N':=by
 cases N;cases N';congr 1
 exact funext h
theorem HV {N' N2:Names}{ks l:List Nat}(h:WO ks l=true)(jv: ∀g,g∉ks->∀k c nm,N'.sub g k c=some nm->nm.row=false->N2.sub g k c=some nm):mo l N' N2:=by
 intro g hg;unfold WO at h;rw[zew] at h;have:=h g hg;exact jv g (by simpa using this)
theorem DW {h0 h':Nat->Option fO}{N N':Names}{D D':Nat->Prop}{w w':World}(S0:jX N D w base h0)(X:Ext N D w h0 N' D' w' h')(S':jX N' D' w' base h'){ep:List (Nat×aK)}(uv:LH ep){s':St}(Xd:s'.h=h'){b:kz}{d':cT ep}(M:HR s' ⟨[],ep⟩ b [] d')(Sc:jX (jh N' b ep) D' w' base (mR (λc=>c) ep d' (λ_=>none)))
  {g n:Nat} {zs:List (cT ep)} (hz:jW (β:=cT ep) zs n=some d') (hg:da ep (SB+g)=false)
  (hE: ∀k dk,k≠n->jW (β:=cT ep) zs k=some dk->(kQ D' w' base (N'.sub g k) ep dk/\CY (N'.sub g k) ep)/\∀bl,pA (N'.sub g k) ep dk bl->(∀j o,j≠SB+g->h' j=some o->¬iR N' j o bl)/\(bl<w.heap.size->yX N h0 bl))
  (hEE: ∀k k' dk Ui bl,k≠n->k'≠n->jW (β:=cT ep) zs k=some dk->jW (β:=cT ep) zs k'=some Ui->pA (N'.sub g k) ep dk bl->pA (N'.sub g k') ep Ui bl->k=k')
  (hlen: ∀k,aQ (β:=cT ep) zs<=k->N'.sub g k=Names.nil) (ox: ∀l,da ep (SB+l)=true->∀k,N.sub l k=Names.nil)
  (US: ∀c nm,N'.sub g n c=some nm->nm.row=false->jh N' b ep c=some nm) (Yk:h0 (SB+g)≠some .dead) (Pn:SB+g∉iN ep b)
  (Yl: ∀i o,h' i=some o->i∉iN ep b->i≠SB+g->da ep i=false->o= .dead\/(∃(p:aK) (bk:Nat->Nat) (y:p.den),o=p.mk bk y/\p.mY=false/\WO (xt ep) p.ks=true)\/∃o0,h0 i=some o0/\(o=o0\/∃r t xs,o0= .row r t xs/\o= .row true t xs)):
  ∃N2:Names,(∀i,N2 i=N' i)/\(∀g',g'∉xt ep->∀k c nm,N'.sub g' k c=some nm->nm.row=false->N2.sub g' k c=some nm)/\N2.sub g n=jh N' b ep/\jX N2 D' w' base (tR h' ep (iN ep b) g (.store ep zs))/\Ext N D w h0 N2 D' w' (tR h' ep (iN ep b) g (.store ep zs)):=by
 let N2:Names:=⟨λp=>match p with
  | []=>N'.at_ []
  |(g',k)::p=>if g'=g/\k=n then(jh N' b ep).at_ p else if da ep (SB+g')=true then λ_=>none else N'.at_ ((g',k)::p)⟩
 have kr: ∀i,N2 i=N' i:=λ_=>rfl;have hn:N2.sub g n=jh N' b ep:=by
  refine Names.ext λp=>?_;show(if g=g/\n=n then(jh N' b ep).at_ p else if da ep (SB+g)=true then(λ_=>none) else N'.at_ ((g,n)::p))=_
  rw[if_pos ⟨rfl,rfl⟩]
 have hA: ∀g' k,¬(g'=g/\k=n)->da ep (SB+g')=false->N2.sub g' k=N'.sub g' k:=by
  intro g' k h1 h2;show(⟨_⟩:Names)=⟨_⟩
  congr 1
  funext p
  show(if g'=g/\k=n then _ else if da ep (SB+g')=true then _ else N'.at_ ((g',k)::p))=_
  rw[if_neg h1,if_neg (by rw[h2];simp)]
 have hB: ∀g',da ep (SB+g')=true->∀k,N2.sub g' k=Names.nil:=by
  intro g' h1 k;have lV:g'≠g:=by rintro rfl;rw[hg] at h1;cases h1
  show(⟨_⟩:Names)=⟨_⟩
  congr 1
  funext p
  show(if g'=g/\k=n then(jh N' b ep).at_ p else if da ep (SB+g')=true then(λ_=>none) else N'.at_ ((g',k)::p))=λ_=>none
  rw[if_neg (λh=>lV h.1),if_pos h1]
 have jv: ∀g',g'∉xt ep->∀k c nm,N'.sub g' k c=some nm->nm.row=false->N2.sub g' k c=some nm:=by
  intro g' CC k c nm h1 h2;by_cases he:g'=g/\k=n
  ·obtain⟨rfl,rfl⟩:=he
   rw[hn];exact US c nm h1 h2
  ·rw[hA g' k he]
   ·exact h1
   ·cases h:da ep (SB+g') with
    |false=>rfl
    |true=>exact absurd ((Gp uv).2 h) CC
 have NM: ∀i nm,N' i=some nm->N2 i=some nm:=λi nm h=>by rw[kr];exact h
 have NN: ∀l∈xt ep,∀k,N.sub l k=Names.nil:=λl hl=>ox l ((Gp uv).1 hl);have qZ: ∀bl,pA (jh N' b ep) ep d' bl->∃i∈iN ep b,∃o,h' i=some o/\iR N' i o bl:=by
  intro bl ho;obtain⟨c,o,h1,h2⟩:=pA.obj uv.nodup ho;obtain⟨i,h3,o',h4,h5⟩:=M.canon (sp:=⟨[],ep⟩) ⟨c,o,h1,h2⟩;exact⟨i,h3,o',by rw[<-Xd];exact h4,h5⟩
 have hzn:n<aQ (β:=cT ep) zs:=(List.getElem?_eq_some_iff.1 hz).1;have key: ∀i oi bl,tR h' ep (iN ep b) g (.store ep zs) i=some oi->iR N2 i oi bl->
   (i=SB+g/\((∃j∈iN ep b,∃o,h' j=some o/\iR N' j o bl)\/∃k dk,k≠n/\jW (β:=cT ep) zs k=some dk/\pA (N'.sub g k) ep dk bl))\/(i≠SB+g/\i∉iN ep b/\h' i=some oi/\iR N' i oi bl):=by
  intro i oi bl hi ho;unfold tR at hi;split at hi
  ·rename_i e
   subst e;cases hi;have ho:pO N2 (SB+g) (.store ep) zs bl:=ho;simp only[pO,wx] at ho;obtain⟨k,dk,h1,h2⟩:=ho;left
   refine⟨rfl,?_⟩;by_cases hk:k=n
   ·subst hk
    rw[hz] at h1;cases h1;rw[hn] at h2;exact .inl (qZ bl h2)
   ·rw[hA g k (λh=>hk h.2) hg] at h2
    exact .inr ⟨k,dk,hk,h1,h2⟩
  ·rename_i lV
   split at hi
   ·cases hi;exact ho.elim
   ·rename_i uY
    split at hi
    ·cases hi;exact ho.elim
    ·rename_i Fc
     refine .inr ⟨lV,by simpa using Fc,hi,?_⟩
     by_cases Xc: ∃Fk xs,oi= .store Fk xs
     ·obtain⟨Fk,xs,rfl⟩:=Xc
      have e3:=S'.tY hi;refine(iR.names (kr i) λk=>hA _ k (λh=>lV ?_) (by rw[e3];exact uY)).1 ho
      rw[<-e3,h.1]
     ·cases oi with
      |dead=>exact ho.elim
      |void=>exact ho.elim
      |var v=>exact ho
      |row r t xs=>cases r<;>exact ho
      |store Fk xs=>exact absurd ⟨Fk,xs,rfl⟩ Xc
 refine⟨N2,kr,jv,hn,⟨λi o hi=>?_,λi j oi oj bl hi hj ri rj=>?_,S'.frozen,λi nm hi=>?_,S'.size,λg' CC k=>?_⟩,
  ⟨⟨λi nm hi=>X.names.st i nm hi,λg' k c nm h1 h2=>?_⟩,X.frozen,X.os,X.tape,X.output,X.size,X.sQ,λbl kW ho=>?_,X.Ja,λi nm hi=>X.fresh i nm hi,λi hi=>?_,λg' CC=>?_⟩⟩
 ·unfold tR at hi
  split at hi
  ·rename_i e
   subst e;cases hi;simp only[qB,jf,wx];refine⟨zff SB g,λk dk hk=>?_,λk hk=>?_,λk k' dk Ui bl hk th ho mW=>?_⟩
   ·by_cases Uj:k=n
    ·subst Uj
     rw[hz] at hk;cases hk;rw[hn];exact xV uv.nodup (λc nm hc=>by obtain⟨e,he,h1,h2⟩:=tJ hc;exact⟨e,he,h1,xU h2⟩) Sc
    ·rw[hA g k (λh=>Uj h.2) hg]
     exact(hE k dk Uj hk).1
   ·rw[hA g k (λh=>by omega) hg]
    exact hlen k hk
   ·by_cases Uj:k=n<;>by_cases Po:k'=n
    ·rw[Uj,Po]
    ·exfalso
     subst Uj;rw[hz] at hk;cases hk;rw[hn] at ho;rw[hA g k' (λh=>Po h.2) hg] at mW;obtain⟨i,h1,o,h2,h3⟩:=qZ bl ho;exact((hE k' Ui Po th).2 bl mW).1 i o (λe=>Pn (e▸h1)) h2 h3
    ·exfalso
     subst Po;rw[hz] at th;cases th;rw[hn] at mW;rw[hA g k (λh=>Uj h.2) hg] at ho;obtain⟨i,h1,o,h2,h3⟩:=qZ bl mW;exact((hE k dk Uj hk).2 bl ho).1 i o (λe=>Pn (e▸h1)) h2 h3
    ·rw[hA g k (λh=>Uj h.2) hg] at ho
     rw[hA g k' (λh=>Po h.2) hg] at mW;exact hEE k k' dk Ui bl Uj Po hk th ho mW
  ·rename_i lV
   split at hi
   ·cases hi;trivial
   ·rename_i uY
    split at hi
    ·cases hi;trivial
    ·rename_i Fc
     have na:=S'.obj i o hi;rcases Yl i o hi (by simpa using Fc) lV uY with rfl|⟨p,bk,y,rfl,h1,h2⟩|⟨o0,h1,h2⟩
     ·trivial
     ·cases p with
      |var p=>
       obtain⟨nm,a,e1,e2,e3,e4,e5,e6,e7,e8,e9,yj⟩:=na;exact⟨nm,a,e1,e2,e3,e4,e5,e6,e7,e8,e9,mk_le NM p y (HV h2 jv) _ yj⟩
      |row t=>
       obtain⟨nm,e1,e2,e3,e4,e5,e6⟩:=na;refine⟨nm,e1,e2,e3,e4,e5,?_⟩;cases hb:nm.base with
       |none=>rw[hb] at e6;exact e6
       |some a=>
        rw[hb] at e6;obtain⟨f1,f2,f3,f4⟩:=e6;exact⟨f1,f2,f3,λj x hx=>kv (λ_ h=>h) (λ_ _=>rfl) t x _ (HV h2 jv) (f4 j x hx)⟩
      |store Fk=>cases h1
     ·have RM:=S0.obj i o0 h1
      rcases h2 with rfl|⟨r,t,xs,rfl,rfl⟩
      ·cases o with
       |dead=>trivial
       |void=>trivial
       |var v=>
        obtain⟨nm0,a0,_,_,_,_,_,_,_,_,_,XY⟩:=RM;obtain⟨nm,a,e1,e2,e3,e4,e5,e6,e7,e8,e9,yj⟩:=na;exact⟨nm,a,e1,e2,e3,e4,e5,e6,e7,e8,e9,wv NN NM jv v _ _ XY yj⟩
       |row r t xs=>exact nF.swap NN NM jv (show nF N D w base i r t xs from RM) na
       |store Fk xs=>
        have e3:=S'.tY hi;refine(show jf D' w' base N' i (.store Fk) xs from na).uK λk=>hA _ k (λh=>lV ?_) (by rw[e3];exact uY)
        rw[<-e3,h.1]
      ·exact nF.swap NN NM jv (show nF N D w base i r t xs from RM) na
 ·rcases key i oi bl hi ri with⟨rfl,h1⟩|⟨h1,h2,h3,h4⟩<;>rcases key j oj bl hj rj with⟨rfl,HU⟩|⟨HU,RL,Rd,Yj⟩
  ·rfl
  ·exfalso
   rcases h1 with⟨q,hq,o,h5,h6⟩|⟨k,dk,h5,h6,h7⟩
   ·exact RL (S'.apart q j o oj bl h5 Rd h6 Yj▸hq)
   ·exact((hE k dk h5 h6).2 bl h7).1 j oj HU Rd Yj
  ·exfalso
   rcases HU with⟨q,hq,o,h5,h6⟩|⟨k,dk,h5,h6,h7⟩
   ·exact h2 (S'.apart q i o oi bl h5 h3 h6 h4▸hq)
   ·exact((hE k dk h5 h6).2 bl h7).1 i oi h1 h3 h4
  ·exact S'.apart i j oi oj bl h3 Rd h4 Yj
 ·have:=S'.named i nm hi
  unfold tR;split
  ·simp
  ·split
   ·simp
   ·split
    ·simp
    ·exact this
 ·unfold tR at CC
  split at CC
  ·cases CC
  ·rename_i lV
   split at CC
   ·rename_i hs;exact hB g' hs k
   ·rename_i uY
    split at CC
    ·cases CC
    ·rw[hA g' k (λh=>lV (by rw[h.1])) uY]
     exact S'.iK g' CC k
 ·have h3:=X.names.sub g' k c nm h1 h2
  by_cases hm:g'∈xt ep
  ·rw[NN g' hm] at h1;cases h1
  ·exact jv g' hm k c nm h3 h2
 ·obtain⟨i,o,hi,hr⟩:=ho
  rcases key i o bl hi hr with⟨_,⟨q,hq,o',h5,h6⟩|⟨k,dk,h5,h6,h7⟩⟩|⟨_,_,h3,h4⟩
  ·exact X.own bl kW ⟨q,o',h5,h6⟩
  ·exact((hE k dk h5 h6).2 bl h7).2 kW
  ·exact X.own bl kW ⟨i,o,h3,h4⟩
 ·unfold tR at hi
  split at hi
  ·cases hi
  ·split at hi
   ·cases hi
   ·split at hi
    ·cases hi
    ·exact X.live i hi
 ·obtain⟨h1,h2⟩:=X.pJ g' CC
  have lV:g'≠g:=by rintro rfl;exact Yk CC
  have uY:da ep (SB+g')=false:=by
   cases h:da ep (SB+g') with
   |false=>rfl
   |true=>
    exfalso
    obtain⟨q,hq,h3,h4⟩:=fJ.1 h;obtain⟨t,ht,hT,_⟩:=M.bound q hq;rw[h3,uN (zff SB g')] at ht;cases ht;rcases hT (SB+g') (by simp[xb.ids]) with⟨o',g1,g2,_⟩|⟨_,g1⟩
    ·rw[Xd,h1] at g1;cases g1;cases g2
    ·rw[Xd,h1] at g1;cases g1
  refine⟨?_,λk=>(hA g' k (λh=>lV h.1) uY).trans (h2 k)⟩;unfold tR;rw[if_neg (by omega),uY]
  simp only;split
  ·rfl
  ·exact h1
end AM
namespace AM
open Go
variable {α:Type}{P:Program}{base:Nat}
def wR:(es:List jw)->gT es->((e:jw)->Nat->e.den->Prop)->Prop
 | [],d,_=>nomatch d
 | [e],d,Q=>Q e 0 d
 |e::e'::es,d,Q=>match d with
  | .inl d=>Q e 0 d
  | .inr d=>wR (e'::es) d λe n d'=>Q e (n+1) d'
theorem xW: ∀(es:List jw) (x:gT es) (k:(e:jw)->Nat->e.den->Option α) (r:α),Hj es x k=some r->∃e n d',e∈es/\k e n d'=some r/\∀Q,wR es x Q->Q e n d'
 | [],x,_,_,_=>nomatch x
 | [e],x,k,r,h=>⟨e,0,x,zd0 ..,h,λQ hQ=>hQ⟩
 |e::e'::es, .inl d,k,r,h=>⟨e,0,d,zd0 ..,h,λQ hQ=>hQ⟩
 |e::e'::es, .inr d,k,r,h=>by
  obtain⟨e1,n,d',h1,h2,h3⟩:=xW (e'::es) d _ r h;exact⟨e1,n+1,d',zdZ _ h1,h2,λQ hQ=>h3 (λe n d'=>Q e (n+1) d') hQ⟩
theorem uc: ∀(es:List jw) (x:gT es) {Q Q':(e:jw)->Nat->e.den->Prop},(∀e n d,e∈es->Q e n d->Q' e n d)->wR es x Q->wR es x Q'
 | [],x,_,_,_,_=>nomatch x
 | [e],x,_,_,h,hq=>h e 0 x (zd0 ..) hq
 |e::e'::es, .inl d,_,_,h,hq=>h e 0 d (zd0 ..) hq
 |e::e'::es, .inr d,Q,Q',h,hq=>uc (e'::es) d (Q:=λe n d'=>Q e (n+1) d') (Q':=λe n d'=>Q' e (n+1) d') (λe n d he=>h e (n+1) d (zdZ _ he)) hq
def RN (s:St)(b:kz)(e:jw)(d:e.den):Prop:= ∃ro b',b.le b'/\HR s e b' ro d.2/\∀N D w base,jX N D w base s.h->
 jX (jh N b' e.heap) (Bd N D ro) w base (mR (λc=>c) e.heap d.2 (λ_=>none))/\∀y c,cw N D w (s.t y) c->cw (jh N b' e.heap) (Bd N D ro) w (yW (λc=>c) e.jP d.1 y) c
theorem rq {sp:jw}{s:St}{b:kz}{k:sp.den->Option α}{f:Option α}{r:α}(h:oN sp s b (λd _ _=>k d) f=some r)(hc:wm sp):f=some r\/∃d,k d=some r/\RN s b sp d:=by
 rcases pS h hc with h1|⟨d,ro,b',h1,h2,h3,h4⟩
 ·exact .inl h1
 ·exact .inr ⟨d,h1,ro,b',h2,h3,h4⟩
theorem zf {s:St}{b:kz}: ∀(es:List jw) (k:gT es->Option α) (r:α),Ds s b es k=some r->(∀e∈es,wm e)->∃x,k x=some r/\wR es x λe _ d'=>RN s b e d'
 | [],k,r,h,_=>by simp[Ds] at h
 | [e],k,r,h,hc=>by
  unfold Ds at h;rcases rq h (hc e (zd0 ..)) with h1|⟨d,h1,h2⟩
  ·cases h1
  ·exact⟨d,h1,h2⟩
 |e::e'::es,k,r,h,hc=>by
  unfold Ds at h;rcases rq (k:=λd=>k (.inl d)) h (hc e (zd0 ..)) with h1|⟨d,h1,h2⟩
  ·obtain⟨x,h3,h4⟩:=zf (e'::es) _ r h1 λe he=>hc e (zdZ _ he)
   exact⟨.inr x,h3,h4⟩
  ·exact⟨.inl d,h1,h2⟩
def VarId (pre:jw)(c:Nat):Prop:= ∃q∈pre.heap,q.1=c/\q.2.isVar=true
theorem yp {c:Nat}(uw:c<50): ∀(l:List (Nat×aK)),(∃q∈l,q.1=c/\q.2.isVar=true)->kz.get (l.filterMap λo=>match o.2 with| .var _=>(match decide (o.1<50) with|true=>some (o.1, .at_ o.1)|false=>none)|_=>none) c=some (.at_ c)
 | [],h=>by obtain⟨q,hq,_⟩:=h;simp at hq
 |(i, .row t)::l,h=>by
  have: ∃q∈l,q.1=c/\q.2.isVar=true:=by
   obtain⟨q,hq,h1,h2⟩:=h;rcases List.mem_cons.1 hq with rfl|hq
   ·simp[aK.isVar] at h2
   ·exact⟨q,hq,h1,h2⟩
  simp only[zfg];exact yp uw l this
 |(i, .store t)::l,h=>by
  have: ∃q∈l,q.1=c/\q.2.isVar=true:=by
   obtain⟨q,hq,h1,h2⟩:=h;rcases List.mem_cons.1 hq with rfl|hq
   ·simp[aK.isVar] at h2
   ·exact⟨q,hq,h1,h2⟩
  simp only[zfg];exact yp uw l this
 |(i, .var p)::l,h=>by
  by_cases e:i=c
  ·subst e
   simp only[zfg,decide_eq_true uw,kz.get];simp
  ·have: ∃q∈l,q.1=c/\q.2.isVar=true:=by
    obtain⟨q,hq,h1,h2⟩:=h;rcases List.mem_cons.1 hq with rfl|hq
    ·exact absurd h1 e
    ·exact⟨q,hq,h1,h2⟩
   have ih:=yp uw l this;simp only[zfg];cases hd:decide (i<50) with
   |true=>simp only[kz.get];rw[if_neg e];exact ih
   |false=>exact ih
theorem Af {off c:Nat}: ∀(l:List (Nat×aK)),(∃q∈l,q.1=c/\q.2.isVar=true)->(Z7 off l).get c=some (.at_ (off+(c-50)))
 | [],h=>by obtain⟨q,hq,_⟩:=h;simp at hq
 |(i, .row t)::l,h=>by
  have: ∃q∈l,q.1=c/\q.2.isVar=true:=by
   obtain⟨q,hq,h1,h2⟩:=h;rcases List.mem_cons.1 hq with rfl|hq
   ·simp[aK.isVar] at h2
   ·exact⟨q,hq,h1,h2⟩
  have ih:=Af (off:=off) l this;unfold Z7 at ih⊢;simp only[zfg];exact ih
 |(i, .store t)::l,h=>by
  have: ∃q∈l,q.1=c/\q.2.isVar=true:=by
   obtain⟨q,hq,h1,h2⟩:=h;rcases List.mem_cons.1 hq with rfl|hq
   ·simp[aK.isVar] at h2
   ·exact⟨q,hq,h1,h2⟩
  have ih:=Af (off:=off) l this;unfold Z7 at ih⊢;simp only[zfg];exact ih
 |(i, .var p)::l,h=>by
  unfold Z7;simp only[zfg,kz.get];by_cases e:i=c
  ·rw[if_pos e,e]
  ·rw[if_neg e]
   have: ∃q∈l,q.1=c/\q.2.isVar=true:=by
    obtain⟨q,hq,h1,h2⟩:=h;rcases List.mem_cons.1 hq with rfl|hq
    ·exact absurd h1 e
    ·exact⟨q,hq,h1,h2⟩
   exact Af (off:=off) l this
structure uZ (base:Nat)(pre:jw)(N:Names)(D O:Nat->Prop)(w:World)(e:jw)(Ne:Names)(De:Nat->Prop)(w':World)(d:e.den):Prop where
 nw:jX Ne De w' base (mR (λc=>c) e.heap d.2 (λ_=>none))
 ext:HS O (yX Ne (mR (λc=>c) e.heap d.2 (λ_=>none))) D De w w'
 sQ: ∀c,c<50->VarId pre c->(∃q∈e.heap,q.1=c)->Ne c=N c
 NO: ∀g,da pre.heap (SB+g)=true->da e.heap (SB+g)=true->∀k c nm,N.sub g k c=some nm->nm.row=false->Ne.sub g k c=some nm
theorem Jr {N:Names}{D:Nat->Prop}{w:World}{pre:jw}{d:cT pre.heap}(S:jX N D w base (mR (λc=>c) pre.heap d (λ_=>none)))(kr: ∀e∈pre.heap,(e.2.mY=true↔SB<=e.1)){c:Nat}(h:VarId pre c): ∃nm,N c=some nm:=by
 obtain⟨q,hq,h1,hv⟩:=h;have kW: ¬SB<=c:=λh=>by
  have:=(kr q hq).2 (by omega)
  cases hq2:q.2<;>rw[hq2] at this hv<;>simp[aK.isVar,aK.mY] at this hv
 have:=pR (b:=λc=>c) (l:=pre.heap) (d:=d) (h:=λ_=>none) ⟨q,hq,h1⟩;cases e:mR (λc=>c) pre.heap d (λ_=>none) c with
 |none=>exact absurd e this
 |some o=>
  rcases nf e with⟨q',uC,h3,y,_,h4⟩|⟨_,h2⟩
  ·have uY:q'.2.mY=false:=by
    cases hh:q'.2.mY with
    |false=>rfl
    |true=>have:=(kr q' uC).1 hh;have h3:q'.1=c:=h3;omega
   have Fc:o.rw=true:=by
    subst h4;obtain⟨qc,qp⟩:=q';cases qp with
    |var p=>rfl
    |row t=>rfl
    |store ep=>cases uY
   exact Gj (bl:=0) (S.obj c _ e) Fc
  ·cases h2
theorem yq {pre e:jw}(kr: ∀e∈pre.heap,(e.2.mY=true↔SB<=e.1)){N N':Names}{D D':Nat->Prop}{w w':World}{d:cT pre.heap}{s:St}{h':Nat->Option fO}{d':e.den}(S:jX N D w base (mR (λc=>c) pre.heap d (λ_=>none)))(S':jX N' D' w' base h')(x:Ext N D w (mR (λc=>c) pre.heap d (λ_=>none)) N' D' w' h')
  (hs:s.h=h') (t:RN s (BO pre) e d'): ∃Ne De,uZ base pre N D (yX N (mR (λc=>c) pre.heap d (λ_=>none))) w e Ne De w' d'/\∀y c,cw N' D' w' (s.t y) c->cw Ne De w' (yW (λc=>c) e.jP d'.1 y) c:=by
 obtain⟨ro,b',hle,M,ht⟩:=t;obtain⟨h1,h2⟩:=ht N' D' w' base (by rw[hs];exact S')
 refine⟨_,_,⟨h1,⟨λb hb=> .inl (x.frozen b hb),x.os,x.tape,x.output,x.size,x.sQ,?_,?_⟩,?_,?_⟩,h2⟩
 ·intro bl kW ho
  obtain⟨i,hi,o,g1,g2⟩:=M.canon ho;rw[hs] at g1;exact x.own bl kW ⟨i,o,g1,g2⟩
 ·rintro bl (hb|⟨i,zat,nm,a,g1,g2,g3⟩)
  ·exact x.Ja bl hb
  ·rcases M.cases (by rw[hs];exact S') zat g1 g2 with h4|⟨o',h4,h5⟩
   ·exact x.Ja bl (g3▸h4)
   ·rw[hs] at h4
    rcases zec bl w'.heap.size with kW|sB
    ·rcases zec bl w.heap.size with kW|sB
     ·exact .inr (.inl (x.own bl kW ⟨i,_,h4,g3▸h5⟩))
     ·exact .inr (.inr sB)
    ·exact .inr (.inr (zea x.size sB))
 ·intro c uw hc he
  have hk:(BO pre).get c=some (.at_ c):=yp uw pre.heap hc;rw[(qE (N:=N') (b:=b') (by unfold SB;omega) (λe he=>(M.st e he).1) he).at_ (hle _ _ hk)]
  obtain⟨nm,UT⟩:=Jr S kr hc;rw[UT,x.names c nm UT]
 ·intro g _ hg k c nm h3 h4
  rw[vH hg];exact x.names.sub g k c nm h3 h4
def al.ok (sp:al):Bool:=sp.pre.closed&&sp.je.all λe=>UR sp.pre e&& (!sp.zG||e.flat)
theorem al.xX {sp:al}(h:sp.ok=true):wm sp.pre:=by
 simp only[al.ok,zdV] at h;exact uO h.1
theorem al.Gq {sp:al}(h:sp.ok=true){e:jw}(he:e∈sp.je):Pk sp.pre e/\(sp.zG=true->e.flat=true):=by
 simp only[al.ok,zdV,zew] at h;have:=h.2 e he;refine⟨Gk this.1,λhl=>?_⟩;have h2:=this.2;rw[hl] at h2;simpa using h2
theorem UU {pre e:jw}{s:St}{b:kz}{ro:List Nat}{d:cT pre.heap}(h:Pk pre e)(M:HR s pre b ro d)(fresh:Nat){q:Nat×aK}(hq:q∈e.heap)(uw:q.1<50):back b fresh q.1∈iN pre.heap b:=by
 obtain⟨q',uC,h1,h2⟩:=h.var q hq uw;obtain⟨g,hg,_,h3⟩:=M.bound q' uC;obtain⟨i,rfl⟩:=h3 h2;have kW: ¬SB<=q.1:=by unfold SB;omega
 rw[h1] at hg;have qO:b.get q.1=some (.at_ i):=by rw[<-C3 kW];exact hg
 have hb:back b fresh q.1=i:=by rw[NK uw];simp[qO]
 rw[hb];exact Be.2 ⟨q',uC,by unfold DQ;rw[h1,hg];simp[xb.ids]⟩
theorem Js {N:Names}{b:kz}{pre e:jw}{Ne:Names}(h: ∀g,da pre.heap (SB+g)=true->da e.heap (SB+g)=true->∀k c nm,(jh N b pre.heap).sub g k c=some nm->nm.row=false->Ne.sub g k c=some nm):
  ∀g,da e.heap (SB+g)=true->∀k c nm,(jh N b pre.heap).sub g k c=some nm->nm.row=false->Ne.sub g k c=some nm:=by
 intro g hg k c nm hn hr;cases hp:da pre.heap (SB+g) with
 |true=>exact h g hp hg k c nm hn hr
 |false=>rw[ze hp] at hn;cases hn
structure Pp (N N':Names)(D D':Nat->Prop)(w:World)(u u':AV):Prop where
 sh:u'.sh=u.sh
 rel: ∀g,aq N D w u g->aq N' D' w u' g
theorem Pp.val {N N':Names}{D D':Nat->Prop}{w:World}{u u':AV}(h:Pp N N' D D' w u u'){v:Value}(hv:cw N D w u v):cw N' D' w u' v:=C1 h.sh hv h.rel
theorem DX {N N':Names}{D D':Nat->Prop}{w:World}{bk:Nat->Nat}{y:Nat}: ∀{l:List (Nat×cp)} {d:wN l},(∀o∈l,∀x:o.2.den,Pp N N' D D' w (o.2.mk (λc=>c) x) (o.2.mk bk x))->Pp N N' D D' w (yW (λc=>c) l d y) (yW bk l d y)
 | [],_,_=>⟨rfl,λg h=>h⟩
 |o::os,d,h=>by
  simp only[yW];by_cases e:y=o.1
  ·rw[if_pos e,if_pos e];exact h o (zd0 ..) d.1
  ·rw[if_neg e,if_neg e];exact DX λo' mW=>h o' (zdZ _ mW)
theorem Gr {N N':Names}{D D':Nat->Prop}{w:World}{β:Type}{f f':β->AV}: ∀{l:List β} {cs:List Value},(∀o∈l,Pp N N' D D' w (f o) (f' o))->bF N D w (l.map f) cs->bF N' D' w (l.map f') cs
 | [],cs,_,h=>by simpa only[List.map_nil,bF] using h
 |o::os,cs,h,hr=>by
  simp only[zeK,bF] at hr⊢;obtain⟨c,tG,rfl,h1,h2⟩:=hr;exact⟨c,tG,rfl,(h o (zd0 ..)).val h1,Gr (λo ho=>h o (zdZ _ ho)) h2⟩
theorem RO {N N':Names}{D D':Nat->Prop}{w:World}{β:Type}{f f':β->AV}: ∀{l:List β} {v:Value},(∀o∈l,Pp N N' D D' w (f o) (f' o))->cw N D w (qV (l.map f)) v->cw N' D' w (qV (l.map f')) v
 | [],v,_,h=>by
  simp only[List.map_nil,qV] at h⊢;obtain⟨cs,h1,h2⟩:=lM.1 h;exact lM.2 ⟨cs,h1,by simpa only[bF] using h2⟩
 | [o],v,h,hv=>(h o (zd0 ..)).val hv
 |o::o'::os,v,h,hv=>by
  simp only[zeK,qV] at hv⊢;obtain⟨cs,h1,h2⟩:=lM.1 hv;exact lM.2 ⟨cs,h1,Gr (l:=o::o'::os) h h2⟩
def ru (P:Program)(base:Nat)(f:FuncId)(sp:al)(F:sp.pre.den->Option (gT sp.je)):Prop:=
 (∃fn,P.funcs[f]?=some fn/\fn.body.isNone=false/\(fn.name== "runtime.NumGoroutine")=false)/\
 ∀d r,F d=some r->∀N D w (lN:List Value),jX N D w base (mR (λc=>c) sp.pre.heap d.2 (λ_=>none))->lN.length=sp.pre.jP.length->(∀y,cw N D w (yW (λc=>c) sp.pre.jP d.1 y) (lN.getD y Go.undef))->
  Calls P f lN.toArray w λe w'=>match e with
   | .returned v=>wR sp.je r λe _ d'=> ∃Ne De,uZ base sp.pre N D (yX N (mR (λc=>c) sp.pre.heap d.2 (λ_=>none))) w e Ne De w' d'/\cw Ne De w' (qV (e.jP.map λo=>yW (λc=>c) e.jP d'.1 o.1)) v
   |_=>False
theorem rv {N:Names}{D:Nat->Prop}{w:World}: ∀{l:List AV} {cs:List Value},bF N D w l cs->cs.length=l.length
 | [],cs,h=>by simp only[bF] at h;simp[h]
 |x::xs,cs,h=>by
  simp only[bF] at h;obtain⟨c,tG,rfl,_,h2⟩:=h;simp[rv h2]
structure Shaped (st:St)(e:jw)(ids:List Nat)(av:AV)(fe:St):Prop where
 res: ∃(bk:Nat->Nat) (d:wN e.jP),av=qV (e.jP.map λo=>yW bk e.jP d o.1)
 heap: ∀i o,fe.h i=some o->(∃q∈e.heap.zip ids,q.2=i/\∃(bk:Nat->Nat) (y:q.1.2.den),o=q.1.2.mk bk y)\/o= .dead\/∃o0,st.h i=some o0/\(o=o0\/∃r t xs,o0= .row r t xs/\o= .row true t xs)
theorem zip_map {β:Type}{f:β->Nat}: ∀{l:List β} {q:β},q∈l->(q,f q)∈l.zip (l.map f)
 | [],_,h=>by simp at h
 |x::xs,q,h=>by
  rcases List.mem_cons.1 h with rfl|h
  ·simp
  ·simp only[zeK,List.zip_cons_cons,zex]
   exact .inr (zip_map h)
theorem xY {sp:al}{F:sp.pre.den->Option (gT sp.je)}{f:FuncId}{args:List AV}{st:St}{W:List Nat}{fresh:Nat}{k:jw->List Nat->AV->St->Option α}{fail:Option α}{r:α}(h:Dt sp F args st W fresh k fail=some r)(mh:sp.ok=true)(hF:ru P base f sp F)(xc:fresh%100=0):
  fail=some r\/∃e ids av fe,k e ids av fe=some r/\xO P base W f args st fresh av fe/\Shaped st e ids av fe:=by
 unfold Dt at h;split at h
 ·cases h
 ·rename_i hlen
  simp only[zd1] at hlen;rcases pS h (al.xX mh) with h1|⟨d,ro,b,h1,_,M,ht⟩
  ·exact .inl h1
  right
  split at h1
  ·cases h1
  ·rename_i x hx
   split at h1
   ·cases h1
   ·rename_i Ye
    obtain⟨e,n,d',he,h2,h3⟩:=xW _ _ _ _ h1;split at h2
    ·cases h2
    ·rename_i gX
     rw[zdV] at gX;obtain⟨gX,kr⟩:=gX;obtain⟨hex,kW⟩:=al.Gq mh he;rw[zew] at Ye;refine⟨e,_,_,_,h2,⟨hF.1,rfl,rfl,rfl,λid pJ hdiv=>?_,λN D w S lN nz=>?_⟩,⟨back b fresh,d'.1,rfl⟩,λi o hi=>?_⟩
     ·have KG:id∉iN sp.pre.heap b:=λh'=>pJ (by have:=Ye id (List.mem_append.2 (.inl h'));simpa using this)
      have zau:sp.zG=true\/id∉ro:=by
       cases hl:sp.zG with
       |true=>exact .inl rfl
       |false=>exact .inr λh'=>pJ (by have:=Ye id (List.mem_append.2 (.inr (by rw[hl];exact h')));simpa using this)
      show mR (back b fresh) e.heap d'.2 (tQ sp.zG st.h sp.pre b ro) id=st.h id
      rw[uP]
      ·unfold tQ
       cases hl:sp.zG with
       |true=>simp only[lZ,if_neg KG]
       |false=>
        rw[hl] at zau;have:id∉ro:=by simpa using zau
        simp only[rp,lZ,if_neg KG,if_neg this]
      ·intro q hq e'
       rcases zec q.1 50 with uw|uw
       ·exact KG (e'▸UU hex M fresh hq uw)
       ·unfold oO at gX
        rw[zew] at gX;have:=gX q hq;have hn: ¬q.1<50:=by omega
        by_cases sB:SB<=q.1
        ·rw[qk sB] at e'
         rw[zew] at kr;have:=kr q hq;simp only[decide_eq_true sB,zdQ,zfd] at this;exact pJ (by rw[<-e'];simpa using this)
        ·simp only[hn,sB,decide_false,zfd,zdV,zd1] at this
         rw[DU hn sB] at e';omega
     ·obtain⟨S1,T1⟩:=ht N D w base S
      have hl:=rv nz;refine(hF.2 d x hx _ _ w lN S1 (by omega) λy=>T1 y _ ?_).mono λen w' Pq=>?_
      ·show cw N D w ((args[y]?).getD .undef) (lN.getD y Go.undef)
       cases ha:args[y]? with
       |none=>simp only[Option.getD_none];exact pb
       |some u=>
        obtain⟨c,hc,hv⟩:=sv _ _ _ _ nz ha;rw[zd3,hc];exact hv
      ·cases en with
       |panicked c=>exact Pq.elim
       |outgrown=>exact Pq.elim
       |returned v=>
        obtain⟨Ne,De,post,hv⟩:=h3 _ Pq;obtain⟨N',D',S',X',tr,_⟩:=Bf (s:={t:=λi=>(args[i]?).getD .undef,h:=st.h,ep:=0,nt:=0}) rfl S M hex gX kW (λbl hb=>M.canon hb) post.nw post.ext (λq hq uw=>post.sQ q.1 uw (hex.var q hq uw) ⟨q,hq,rfl⟩) (Js post.NO);refine⟨N',D',X',S',RO (λo ho=>DX λo' mW y=>⟨DS _ _ _ _,λg hg=>?_⟩) hv⟩;refine tr o'.2 y g (λc hc=>hex.closed.cs c (.inl (List.mem_flatMap.2 ⟨o',mW,hc⟩))) (λg hg=>hex.closed.ks g (.inl (List.mem_flatMap.2 ⟨o',mW,hg⟩))) (λe'=>?_) hg;have:=kW e';simp only[jw.flat,zdV,zew] at this;exact this.1 o' mW
     ·rcases nf hi with⟨q,hq,h4,y,_,h5⟩|⟨_,h4⟩
      ·exact .inl ⟨(q,back b fresh q.1),zip_map (f:=λo:Nat×aK=>back b fresh o.1) hq,h4,_,y,h5⟩
      ·by_cases hd:o= .dead
       ·exact .inr (.inl hd)
       obtain⟨_,⟨h6,_⟩|⟨_,_,r,t,xs,h6,h7⟩⟩:=Ac M rfl h4 hd
       ·exact .inr (.inr ⟨o,h6, .inl rfl⟩)
       ·exact .inr (.inr ⟨_,h6, .inr ⟨r,t,xs,rfl,h7⟩⟩)
end AM
namespace AM
open Go
variable {α:Type}{P:Program}{base:Nat}
theorem Ca: ∀{args:List AV} {ps:List (Nat×cp)} {j0 j g n c:Nat},xu args ps j0=some (j,g,n,c)->j0<=j/\args[j-j0]?=some (.rf g n c)
 | [],ps,j0,j,g,n,c,h=>by cases ps<;>simp[xu] at h
 |v::vs,[],j0,j,g,n,c,h=>by cases v<;>simp[xu] at h
 |v::vs,(q,p)::ps,j0,j,g,n,c,h=>by
  have tail:xu vs ps (j0+1)=some (j,g,n,c)->j0<=j/\(v::vs)[j-j0]?=some (.rf g n c):=by
   intro h1;obtain⟨h2,h3⟩:=Ca h1;refine⟨by omega,?_⟩
   rw[show j-j0=(j-(j0+1))+1 by omega]
   simpa using h3
  cases v<;>cases p<;>simp only[xu] at h<;>first
   |exact tail h
   |(simp only[zdT,Prod.mk.injEq] at h;obtain⟨rfl,rfl,rfl,rfl⟩:=h;exact⟨zd9 _,by simp⟩)
theorem Cb {N:Names}{D:Nat->Prop}{w:World}: ∀{vs:List AV} {cs:List Value} {i:Nat} {u:AV} {c:Value},bF N D w vs cs->cs[i]?=some c->cw N D w u c->bF N D w (vs.set i u) cs
 | [],cs,i,u,c,h,_,_=>by simpa using h
 |v::vs,cs,0,u,c,h,hc,hu=>by
  simp only[bF,List.set_cons_zero] at h⊢;obtain⟨c',tG,rfl,h1,h2⟩:=h;simp at hc;subst hc;exact⟨_,_,rfl,hu,h2⟩
 |v::vs,cs,i+1,u,c,h,hc,hu=>by
  simp only[bF,List.set_cons_succ] at h⊢;obtain⟨c',tG,rfl,h1,h2⟩:=h;exact⟨_,_,rfl,h1,Cb h2 (by simpa using hc) hu⟩
theorem RP (t:Ty)(x:t.den)(us:List AV):enc t x≠ .AP us:=by
 cases t<;>simp only[enc]<;>try (intro h;cases h;done)
 split<;>(intro h;cases h)
theorem RQ (bk:Nat->Nat)(p:cp)(x:p.den)(us:List AV):p.mk bk x≠ .AP us:=by
 cases p<;>simp only[cp.mk]<;>first|exact RP _ _ _|(intro h;cases h)
theorem DY (bk:Nat->Nat)(y:Nat)(us:List AV): ∀(l:List (Nat×cp)) (d:wN l),yW bk l d y≠ .AP us
 | [],_=>by simp only[yW];intro h;cases h
 |o::os,d=>by
  simp only[yW];split
  ·exact RQ _ _ _ _
  ·exact DY bk y us os d.2
theorem Pr (f:AV->AV){vs:List AV}(h: ∀v∈vs,∀us,v≠ .AP us):WQ f (qV vs)=qV (vs.map f):=by
 match vs,h with
 | [],_=>rfl
 | [v],h=>
  have:=h v (by simp)
  simp only[qV,zeK,List.map_nil];cases v<;>first|rfl|exact absurd rfl (this _)
 |a::b::l,_=>rfl
theorem RR {vs:List AV}(h: ∀v∈vs,∀us,v≠ .AP us):XO (qV vs)=vs:=by
 match vs,h with
 | [],_=>rfl
 | [v],h=>
  have:=h v (by simp)
  simp only[qV];cases v<;>first|rfl|exact absurd rfl (this _)
 |a::b::l,_=>rfl
theorem Jt {N N':Names}{D D':Nat->Prop}{w:World}: ∀{vs us:List AV} {v:Value},vs.length=us.length->(∀(i:Nat) a b,vs[i]?=some a->us[i]?=some b->∀c,cw N D w a c->cw N' D' w b c)->cw N D w (qV vs) v->cw N' D' w (qV us) v:=by
 intro vs us v hl h hv;have each: ∀(vs us:List AV) (cs:List Value),vs.length=us.length->(∀(i:Nat) a b,vs[i]?=some a->us[i]?=some b->∀c,cw N D w a c->cw N' D' w b c)->bF N D w vs cs->bF N' D' w us cs:=by
  intro vs;induction vs with
  |nil=>
   intro us cs hl _ hr;cases us with
   |nil=>simpa only[bF] using hr
   |cons _ _=>simp at hl
  |cons a vs ih=>
   intro us cs hl h hr;cases us with
   |nil=>simp at hl
   |cons b us=>
    simp only[bF] at hr⊢;obtain⟨c,tG,rfl,h1,h2⟩:=hr;exact⟨c,tG,rfl,h 0 a b rfl rfl c h1,ih us tG (by simpa using hl) (λi a b ha hb=>h (i+1) a b (by simpa using ha) (by simpa using hb)) h2⟩
 match vs,us,hl with
 | [],[],_=>
  simp only[qV] at hv⊢;obtain⟨cs,h1,h2⟩:=lM.1 hv;exact lM.2 ⟨cs,h1,each [] [] _ rfl (by simp) h2⟩
 | [a],[b],_=>exact h 0 a b rfl rfl v hv
 |a::a'::vs,b::b'::us,hl=>
  simp only[qV] at hv⊢;obtain⟨cs,h1,h2⟩:=lM.1 hv;exact lM.2 ⟨cs,h1,each _ _ _ hl h h2⟩
 | [],_::_,h=>simp at h
 |_::_,[],h=>simp at h
 | [_],_::_::_,h=>simp at h
 |_::_::_,[_],h=>simp at h
theorem HW {N' N2:Names}{D:Nat->Prop}{w:World}{ks:List Nat}{bk:Nat->Nat}(kr: ∀i nm,N' i=some nm->N2 i=some nm)(jv: ∀g,g∉ks->∀k c nm,N'.sub g k c=some nm->nm.row=false->N2.sub g k c=some nm){y:Nat}: ∀(l:List (Nat×cp)) (d:wN l),(∀o∈l,WO ks o.2.ks=true)->∀c,cw N' D w (yW bk l d y) c->cw N2 D w (yW bk l d y) c
 | [],_,_,c,_=>by simp only[yW];exact pb
 |o::os,d,h,c,hv=>by
  simp only[yW] at hv⊢;split
  ·rename_i e
   rw[if_pos e] at hv;exact xy (λg hg=>mk_le kr o.2 d.1 (HV (h o (zd0 ..)) jv) g hg) hv
  ·rename_i e
   rw[if_neg e] at hv;exact HW kr jv os d.2 (λo ho=>h o (zdZ _ ho)) c hv
theorem zg {ep:List (Nat×aK)}{c:Nat}(h:F4 ep c=true): ∃q∈ep,q.1=c/\q.2.isVar=true:=by
 unfold F4 at h;rw[List.any_eq_true] at h;obtain⟨q,hq,h⟩:=h;rw[zdV] at h;refine⟨q,hq,by simpa using h.1,?_⟩
 have h2:=h.2;unfold aK.isVar;exact h2
theorem vJ {p:aK}(h:p.isVar=true):p.mY=false:=by cases p<;>simp[aK.isVar] at h;rfl
theorem LH.Bg {ep:List (Nat×aK)}(uv:LH ep){q:Nat×aK}(hq:q∈ep)(h:q.2.mY=false):50<=q.1/\q.1<SB:=by
 have:=uv.ids q hq h;exact⟨this.1,by unfold SB;omega⟩
theorem Ju {off c:Nat}(h:50<=c)(h':c<SB):back [] off c=off+(c-50):=DU (by omega) (by omega)
theorem Jv {st wQ:St}{e:jw}{ids:List Nat}{av:AV}(yz:Shaped st e ids av wQ){ep:List (Nat×aK)}{rw:List Nat}(Ag:AW e ids rw (xt ep)=true){i:Nat}{o:fO}(hi:wQ.h i=some o)(Fc:i∉rw):
  o= .dead\/(∃(p:aK) (bk:Nat->Nat) (y:p.den),o=p.mk bk y/\p.mY=false/\WO (xt ep) p.ks=true)\/∃o0,st.h i=some o0/\(o=o0\/∃r t xs,o0= .row r t xs/\o= .row true t xs):=by
 rcases yz.heap i o hi with⟨q,hq,h1,bk,y,rfl⟩|h1|h1
 ·right;left
  unfold AW at Ag;rw[zdV,zew,zew] at Ag;have:=Ag.2 q hq;rw[zeY,zdV] at this;rcases this with h2|⟨h2,h3⟩
  ·rw[h1] at h2
   exact absurd (by simpa using h2) Fc
  ·refine⟨q.1.2,bk,y,rfl,?_,h2⟩
   cases hp:q.1.2 with
   |var p=>rfl
   |row t=>rfl
   |store Fk=>rw[hp] at h3;cases h3
 ·exact .inl h1
 ·exact .inr (.inr h1)
theorem DZ {e:jw}{ids rw ks:List Nat}(h:AW e ids rw ks=true): ∀o∈e.jP,WO ks o.2.ks=true:=by
 unfold AW at h;rw[zdV,zew] at h;exact h.1
theorem Jw {W:List Nat}{fresh:Nat}{l:List Nat}(h:inW W fresh l=true){i:Nat}(hi:i∈l):i∈W\/i/100=fresh/100:=by
 unfold inW at h;rw[zew] at h;simpa using h i hi
theorem RS {N' N2:Names}{D':Nat->Prop}{w':World}{g n off:Nat}{ep:List (Nat×aK)}{b:kz}(uv:LH ep)(kr: ∀i,N2 i=N' i)(hn:N2.sub g n=jh N' b ep)(hle:kz.le (Z7 off ep) b)(mI: ∀i,(∃q∈ep,q.2.isVar=true/\i=off+(q.1-50))->∀nm,N' i=some nm->nm.row=false){u:AV}{v:Value}(hu:cw N' D' w' u v)(hu2:cw N2 D' w' u v):cw N2 D' w' (KZ g (n+1) off ep u) v:=by
 unfold KZ;split
 ·rename_i i
  split
  ·rename_i hc
   rw[zdV] at hc;obtain⟨q,hq,h1,h2⟩:=zg hc.2;have kW:=uv.Bg hq (vJ h2);have nV:off<=i:=by simpa using hc.1
   have hi:i=off+(q.1-50):=by omega
   obtain⟨nm,a,o,e1,e2,e3,e4⟩:=ju.1 hu;have hr:=mI i ⟨q,hq,h2,hi⟩ nm e1;have ho:o=0:=by
    have:nm.off []=some 0:=by simp[Nm.off,hr,fG]
    rw[this] at e3;cases e3;rfl
   subst ho;have UW:jh N' b ep (i-off+50)=some nm:=by
    rw[<-h1,(qE (N:=N') (b:=b) kW.2 (λe he=>(uv.closed.st e he).1) ⟨q,hq,rfl⟩).at_ (hle _ _ (Af ep ⟨q,hq,rfl,h2⟩)),<-hi];exact e1
   unfold cw;simp only[AV.isAgg,jz,aq,xv];exact⟨nm,a,by rw[hn];exact UW,hr,e2,by rw[e4]⟩
  ·exact hu2
 ·exact hu2
theorem D0 {M:Names}{D:Nat->Prop}{w:World}: ∀{l:List (Nat×aK)} {d:cT l},kQ D w base M l d->∀{q:Nat×aK},q∈l->q.2.isVar=true->∃v,tc M D w base q.1 v
 | [],_,_,q,hq,_=>by simp at hq
 |(c,p)::os,d,h,q,hq,hv=>by
  simp only[kQ] at h;rcases List.mem_cons.1 hq with rfl|hq
  ·cases p with
   |var p=>have h1:=h.1;simp only[jf] at h1;exact⟨_,h1⟩
   |row t=>cases hv
   |store e=>cases hv
  ·exact D0 h.2.1 hq hv
theorem Jx {M:Names}{D:Nat->Prop}{w:World}: ∀{l:List (Nat×aK)} {d:cT l},kQ D w base M l d->∀{c:Nat} {t:Ty},(c,aK.row t)∈l->AM.nodup (l.map (·.1))=true->∃nm,M c=some nm/\nm.row=true/\True
 | [],_,_,q,_,hq,_=>by simp at hq
 |(c,p)::os,d,h,c',t,hq,hn=>by
  simp only[kQ] at h;simp only[zeK,AM.nodup,zdV] at hn;rcases List.mem_cons.1 hq with e|hq
  ·cases e
   have h1:=h.1;simp only[jf] at h1;obtain⟨nm,e1,e2,_⟩:=h1;exact⟨nm,e1,e2,trivial⟩
  ·exact Jx h.2.1 hq hn.2
theorem UX {ep:List (Nat×aK)}{xs:List (cT ep)}{n k:Nat}{d:cT ep}(h:k≠n):jW (β:=cT ep) (I8 xs n d) k=jW (β:=cT ep) xs k:=zer (Ne.symm h)
theorem UY {ep:List (Nat×aK)}{xs:List (cT ep)}{n:Nat}{d:cT ep}(h:n<xs.length):jW (β:=cT ep) (I8 xs n d) n=some d:=by simp[I8,jW,h]
theorem RT {ep:List (Nat×aK)}{xs:List (cT ep)}{n:Nat}{d:cT ep}:aQ (β:=cT ep) (I8 xs n d)=aQ (β:=cT ep) xs:=by simp[I8,aQ]
theorem LJ {sp:al}{F:sp.pre.den->Option (gT sp.je)}{f:FuncId}{args:List AV}{st:St}{W:List Nat}{fresh:Nat}{k:AV->St->Option α}{fail:Option α}{r:α}(mh:sp.ok=true)(hF:ru P base f sp F)(xc:fresh%100=0){j g n c:Nat}{ep:List (Nat×aK)}{xs:List (cT ep)}{d:cT ep}
  (RU:args[j]?=some (.rf g (n+1) c)) (hs:st.h (SB+g)=some (.store ep xs)) (hd:jW (β:=cT ep) xs n=some d) (uv:OO ep=true) (hf:oO st.h (fresh+60) [] ep=true) (hWg:W.contains (SB+g)=true) (hWe:ep.all (λo=>W.contains (back [] (fresh+60) o.1))=true) (hc:F4 ep c=true)
  (h:Dt sp F (args.set j (.ptr (back [] (fresh+60) c) [])) (tS st g (fresh+60) ep d) W fresh (λe ids av fe=>XP W fresh g n (fresh+60) ep xs e ids av fe k) fail=some r):
  fail=some r\/∃av fe,k av fe=some r/\xO P base W f args st fresh av fe:=by
 rcases xY h mh hF xc with h1|⟨e,ids,av,wQ,h1,rJ,yz⟩
 ·exact .inl h1
 right
 have uv:=Gn uv;unfold XP at h1;rcases pS h1 uv.closed with h2|⟨dd,ro,b,h2,hle,M,Ym⟩
 ·cases h2
 split at h2
 ·cases h2
 rename_i Jy;simp only[zdV,zfc,ze2,decide_eq_false_iff_not,zeo] at Jy;obtain⟨⟨⟨⟨Ny,Ag⟩,Pn⟩,Xf⟩,Yn⟩:=Jy;subst Ny;rw[zew] at hWe Xf;have IS: ∀q∈ep,SB<=q.1->iK (st.h q.1)=true:=by
  intro q hq sB;unfold oO at hf;rw[zew] at hf;have:=hf q hq;rw[decide_eq_false (Jo sB),decide_eq_true sB] at this;simpa using this
 have hfn: ∀q∈ep,q.1<SB->50<=q.1->st.h (fresh+60+(q.1-50))=none:=by
  intro q hq kW uw;unfold oO at hf;rw[zew] at hf;have:=hf q hq;rw[decide_eq_false (show¬q.1<50 by omega),decide_eq_false (show¬SB<=q.1 by omega)] at this
  simp only[zfd,zdV,Option.isNone_iff_eq_none] at this;exact this.2
 have Ps:da ep (SB+g)=false:=by
  cases h:da ep (SB+g) with
  |false=>rfl
  |true=>
   obtain⟨q,hq,h1,_⟩:=fJ.1 h;have:=IS q hq (by omega)
   rw[h1,hs] at this;cases this
 have UZ: ∀q∈ep,back [] (fresh+60) q.1≠SB+g:=by
  intro q hq hb;cases kr:q.2.mY with
  |true=>
   have sB:=(uv.closed.st q hq).1 kr;rw[qk sB] at hb;rw[fJ.2 ⟨q,hq,hb,kr⟩] at Ps;cases Ps
  |false=>
   obtain⟨g1,g2⟩:=uv.Bg hq kr;rw[Ju g1 g2] at hb;have:=hfn q hq g2 g1;rw[hb,hs] at this;cases this
 have Nn:(tS st g (fresh+60) ep d).h (SB+g)=some .dead:=by
  show mR (back [] (fresh+60)) ep d (rZ st.h [SB+g]) (SB+g)=_
  rw[uP UZ,lZ];simp
 refine⟨_,_,h2,rJ.1,rJ.2.1,rJ.2.2.1,rJ.2.2.2.1,λid pJ hdiv=>?_,λN D w S lN nz=>?_⟩
 ·have uY:da ep id=false:=by
   cases h:da ep id with
   |false=>rfl
   |true=>
    obtain⟨q,hq,h1,h2⟩:=fJ.1 h;have:=hWe q hq;rw[qk ((uv.closed.st q hq).1 h2),h1] at this;exact absurd (by simpa using this) pJ
  have hng:id≠SB+g:=by
   rintro rfl
   exact pJ (by simpa using hWg)
  have KG:(iN ep b).contains id=false:=by
   cases h:(iN ep b).contains id with
   |false=>rfl
   |true=>
    rcases Jw Yn (show id∈iN ep b by simpa using h) with h1|h1
    ·exact absurd h1 pJ
    ·exact absurd h1 hdiv
  show tR wQ.h ep (iN ep b) g _ id=st.h id
  unfold tR;rw[if_neg hng,uY,KG];simp only[zdU,if_false];rw[rJ.2.2.2.2.1 id pJ hdiv];show mR (back [] (fresh+60)) ep d (rZ st.h [SB+g]) id=st.h id
  rw[uP (λq hq e=>pJ (by have:=hWe q hq;rw[e] at this;simpa using this)),lZ]
  simp[hng]
 ·obtain⟨N1,D1,S1,X1,r4,r5,r7,r6⟩:=LI S hs hd uv hf
  obtain⟨cv,hcj,hvj⟩:=sv _ _ _ _ nz RU;unfold cw at hvj;simp only[AV.isAgg,jz,aq,xv] at hvj;obtain⟨nm,a,e1,e2,e3,e4⟩:=hvj;simp only[zdT] at e4;obtain⟨qc,hqc,zcd,zce⟩:=zg hc;have zdE:=uv.Bg hqc (vJ zce);have hargs1:bF N1 D1 w (args.set j (.ptr (back [] (fresh+60) c) [])) lN:=
   Cb (pz X1.names X1.frozen (X1.Jb S) _ _ nz) hcj (ju.2 ⟨nm,a,0,r4 c ⟨by omega,qc,hqc,zcd⟩ nm e1,e3,by simp[Nm.off,e2,fG],e4⟩)
  refine(rJ.2.2.2.2.2 N1 D1 w S1 lN hargs1).mono λen w' Pq=>?_;cases en with
  |panicked c=>exact Pq.elim
  |outgrown=>exact Pq.elim
  |returned v=>
   obtain⟨N',D',X2,S',hv⟩:=Pq;have X:=X1.trans X2;obtain⟨Sc,_⟩:=Ym N' D' w' base S';rw[Ad] at Sc;have U0: ∀k,N'.sub g k=N.sub g k:=λk=>((X2.pJ g Nn).2 k).trans (r5 g Ps k);have na:jf D w base N (SB+g) (.store ep) xs:=S.obj _ _ hs;simp only[jf,wx] at na;have RV:=xV (l:=ep) (d:=dd.2) uv.nodup (λc nm hc=>by obtain⟨e,he,h1,h2⟩:=tJ hc;exact⟨e,he,h1,xU h2⟩) Sc
   have hxn:n<xs.length:=(List.getElem?_eq_some_iff.1 hd).1;have hzk: ∀k dk,k≠n->jW (β:=cT ep) (I8 xs n dd.2) k=some dk->jW (β:=cT ep) xs k=some dk:=λk dk hk h=>(UX hk).symm.trans h;have RW: ∀k dk,k≠n->jW (β:=cT ep) xs k=some dk->∀bl,pA (N.sub g k) ep dk bl->¬yX N1 (tS st g (fresh+60) ep d).h bl/\yX N st.h bl/\F6 D w base bl:=by
    intro k dk hk hx bl ho;have hO:iR N (SB+g) (.store ep xs) bl:=by
     show pO N (SB+g) (.store ep) xs bl
     simp only[pO,wx];exact⟨k,dk,hx,ho⟩
    refine⟨?_,⟨SB+g,_,hs,hO⟩,S.pa hs hO⟩;rintro⟨i,oi,h1,h2⟩
    rcases r6 i oi bl h1 h2 with h3|⟨h3,h4,h5⟩
    ·exact hk (na.2.2.2 k n dk d bl hx hd ho h3)
    ·exact h5 (S.apart i (SB+g) oi _ bl h3 hs h4 hO)
   have Xg: ∀q∈ep,q.2.isVar=true->jh N' b ep q.1=N' (fresh+60+(q.1-50)):=λq hq hv=>
    (qE (N:=N') (b:=b) (uv.Bg hq (vJ hv)).2 (λe he=>(uv.closed.st e he).1) ⟨q,hq,rfl⟩).at_ (hle _ _ (Af ep ⟨q,hq,rfl,hv⟩))
   obtain⟨N2,t1,t2,t3,t4,t5⟩:=DW S X S' uv (s':=wQ) rfl M Sc (g:=g) (n:=n) (zs:=I8 xs n dd.2) (UY hxn) Ps
    (λk dk hk hz=>by
     have hx:=hzk k dk hk hz;rw[U0];obtain⟨p1,p2⟩:=na.2.1 k dk hx;refine⟨⟨kQ.congr X.frozen (X.Jb S) p1 λbl ho=>?_,p2⟩,λbl ho=>⟨λj' o hj mW tn=>?_,λ_=>(RW k dk hk hx bl ho).2.1⟩⟩
     ·obtain⟨q1,_,q3⟩:=RW k dk hk hx bl ho
      refine⟨X2.sQ bl q3.2.2 q1,λhnd K4=>?_⟩;rcases X2.Ja bl K4 with h3|h3|h3
      ·exact hnd (r7 bl h3)
      ·exact q1 h3
      ·have:=q3.2.2;omega
     ·obtain⟨q1,_,q3⟩:=RW k dk hk hx bl ho
      exact q1 (X2.own bl q3.2.2 ⟨j',o,mW,tn⟩))
    (λk k' dk Ui bl hk th hz Uf ho mW=>by
     rw[U0] at ho mW;exact na.2.2.2 k k' dk Ui bl (hzk k dk hk hz) (hzk k' Ui th Uf) ho mW)
    (λk hk=>by
     rw[U0];exact na.2.2.1 k (RT▸hk))
    (λl hl k=>by
     obtain⟨q,hq,h3,_⟩:=fJ.1 hl;refine S.iK l ?_ k;rw[<-h3];exact IS q hq (by omega))
    (λc nm hc hr=>by
     rw[U0] at hc;obtain⟨q,hq,h3,h4⟩:=(na.2.1 n d hd).2.1 c nm hc;have hv:q.2.isVar=true:=by
      obtain⟨q1,qp⟩:=q;cases qp with
      |var p=>rfl
      |store e=>cases h4
      |row t=>
       exfalso
       have:=Jx (na.2.1 n d hd).1 hq uv.nodup;obtain⟨mG,f1,f2,_⟩:=this;have h3:q1=c:=h3;rw[h3,hc] at f1;cases f1;rw[hr] at f2;cases f2
     rw[<-h3,Xg q hq hv];have kW:=uv.Bg hq (vJ hv);have:=X2.names _ _ (r4 c ⟨by omega,q,hq,h3⟩ nm hc)
     rw[<-h3,Ju kW.1 kW.2] at this;exact this)
    (by rw[hs];intro h;cases h) Pn
    (λi o hi Fc lV uY=>by
     rcases Jv yz Ag hi Fc with h3|h3|⟨o0,h3,h4⟩
     ·exact .inl h3
     ·exact .inr (.inl h3)
     ·have h3:mR (back [] (fresh+60)) ep d (rZ st.h [SB+g]) i=some o0:=h3
      rcases nf h3 with⟨q,hq,h5,y,_,_⟩|⟨_,h5⟩
      ·left
       have:=Xf q hq;rw[h5] at this;simp only[zeY] at this;rcases this with(h6|h6)|h6
       ·rw[qk ((uv.closed.st q hq).1 h6)] at h5
        rw[fJ.2 ⟨q,hq,h5,h6⟩] at uY;cases uY
       ·exact absurd (by simpa using h6) Fc
       ·rw[hi] at h6
        cases o<;>simp[Q5] at h6
        rfl
      ·rw[lZ] at h5
       split at h5
       ·rename_i h6;exact absurd (by simpa using h6) lV
       ·exact .inr (.inr ⟨o0,h5,h4⟩))
   refine⟨N2,D',t5,t4,?_⟩;obtain⟨bk,ds,hav⟩:=yz.res;subst hav;rw[Pr _ (λv hv us=>by
    obtain⟨o,_,rfl⟩:=List.mem_map.1 hv;exact DY _ _ _ _ _)]
   refine Jt (by simp) (λi a b' ha hb c' hvc=>?_) hv
   rw[zeT,ha] at hb;simp only[zd2,zdT] at hb;subst hb;rw[zeT] at ha;cases ho:e.jP[i]? with
   |none=>rw[ho] at ha;cases ha
   |some o=>
    rw[ho] at ha;simp only[zd2,zdT] at ha;subst ha;refine RS uv t1 t3 hle (λi' ⟨q,hq,hqv,nB⟩ nm UT=>?_) hvc (HW (λi nm h=>by rw[t1];exact h) t2 e.jP ds (DZ Ag) c' hvc)
    obtain⟨v',mG,a',f1,f2,f3,_⟩:=D0 RV.1 hq hqv;rw[Xg q hq hqv,<-nB,UT] at f1;cases f1;exact f3
theorem HX {ep:List (Nat×aK)}{o:Option fO}{k:List (cT ep)->Option α}{r:α}(h:storeAt ep o k=some r): ∃xs,k xs=some r/\(o=some (.store ep xs)\/iK o=true/\xs=[]):=by
 unfold storeAt at h;split at h
 ·split at h
  ·rename_i Fk xs ys hc
   obtain⟨rfl,rfl⟩:=DP hc;exact⟨_,h, .inl rfl⟩
  ·cases h
 ·exact⟨_,h, .inr ⟨rfl,rfl⟩⟩
 ·exact⟨_,h, .inr ⟨rfl,rfl⟩⟩
 ·cases h
theorem RX {ep:List (Nat×aK)}{xs:List (cT ep)}{d:cT ep}:jW (β:=cT ep) (BN xs d) (K0 xs)=some d:=by simp[BN,jW,K0]
theorem D5 {ep:List (Nat×aK)}{xs:List (cT ep)}{d dk:cT ep}{k:Nat}(hk:k≠K0 xs)(h:jW (β:=cT ep) (BN xs d) k=some dk):jW (β:=cT ep) xs k=some dk:=by
 simp only[BN,jW,K0] at*;have kW:=(List.getElem?_eq_some_iff.1 h).1;simp at kW;rw[zeD (by omega)] at h
 exact h
theorem Pt {sp:al}{F:sp.pre.den->Option (gT sp.je)}{f:FuncId}{args:List AV}{st:St}{W:List Nat}{fresh:Nat}{k:AV->St->Option α}{fail:Option α}{r:α}(mh:sp.ok=true)(hF:ru P base f sp F)(xc:fresh%100=0){i g:Nat}{ep:List (Nat×aK)}
  (hWg:W.contains (SB+g)=true) (hWe:ep.all (λo=>W.contains o.1)=true) (uv:OO ep=true) (UP:ep.all (λo=>!o.2.mY||iK (st.h o.1))=true)
  (h:Dt sp F args st W fresh (λe ids av fe=>XQ W fresh i g ep e ids av fe k) fail=some r):
  fail=some r\/∃av fe,k av fe=some r/\xO P base W f args st fresh av fe:=by
 rcases xY h mh hF xc with h1|⟨e,ids,av,wQ,h1,rJ,yz⟩
 ·exact .inl h1
 right
 have uv:=Gn uv;unfold XQ at h1;split at h1
 ·rename_i j hj
  obtain⟨xs,h1,Ll⟩:=HX h1;rcases pS h1 uv.closed with h2|⟨dd,ro,b,h2,hle,M,Ym⟩
  ·cases h2
  split at h2
  ·cases h2
  rename_i Jy;simp only[zdV,zfc,ze2,decide_eq_false_iff_not,zeo] at Jy;obtain⟨⟨⟨⟨⟨Ny,Ag⟩,Pn⟩,zcf⟩,Ps⟩,Yn⟩:=Jy;subst Ny;rw[zew] at hWe UP;refine⟨_,_,h2,rJ.1,rJ.2.1,rJ.2.2.1,rJ.2.2.2.1,λid pJ hdiv=>?_,λN D w S lN nz=>?_⟩
  ·have uY:da ep id=false:=by
    cases h:da ep id with
    |false=>rfl
    |true=>
     obtain⟨q,hq,h1,h2⟩:=fJ.1 h;have:=hWe q hq;rw[h1] at this;exact absurd (by simpa using this) pJ
   have hng:id≠SB+g:=by
    rintro rfl
    exact pJ (by simpa using hWg)
   have KG:(iN ep b).contains id=false:=by
    cases h:(iN ep b).contains id with
    |false=>rfl
    |true=>
     rcases Jw Yn (show id∈iN ep b by simpa using h) with h1|h1
     ·exact absurd h1 pJ
     ·exact absurd h1 hdiv
   show tR wQ.h ep (iN ep b) g _ id=st.h id
   unfold tR;rw[if_neg hng,uY,KG];simp only[zdU,if_false];exact rJ.2.2.2.2.1 id pJ hdiv
  ·refine(rJ.2.2.2.2.2 N D w S lN nz).mono λen w' Pq=>?_
   cases en with
   |panicked c=>exact Pq.elim
   |outgrown=>exact Pq.elim
   |returned v=>
    obtain⟨N',D',X,S',hv⟩:=Pq;obtain⟨Sc,_⟩:=Ym N' D' w' base S';rw[Ad] at Sc;have RV:=xV (l:=ep) (d:=dd.2) uv.nodup (λc nm hc=>by obtain⟨e,he,h1,h2⟩:=tJ hc;exact⟨e,he,h1,xU h2⟩) Sc
    have na:jf D' w' base N' (SB+g) (.store ep) xs:=by
     rcases Ll with h3|⟨h3,rfl⟩
     ·exact S'.obj _ _ h3
     ·simp only[jf,wx]
      exact⟨zff SB g,λk d hk=>by simp[jW] at hk,λk _=>S'.iK g h3 k,λk k' d d' b hk=>by simp[jW] at hk⟩
    simp only[jf,wx] at na;have tn: ∀k dk bl,jW (β:=cT ep) xs k=some dk->pA (N'.sub g k) ep dk bl->wQ.h (SB+g)=some (.store ep xs)/\iR N' (SB+g) (.store ep xs) bl:=by
     intro k dk bl hx ho;rcases Ll with h3|⟨h3,rfl⟩
     ·refine⟨h3,?_⟩
      show pO N' (SB+g) (.store ep) xs bl
      simp only[pO,wx];exact⟨k,dk,hx,ho⟩
     ·simp[jW] at hx
    obtain⟨q50,Yo,uw,Xh⟩:=zg zcf;have UW:jh N' b ep 50=N' j:=by
     have:=(qE (N:=N') (b:=b) (uv.Bg Yo (vJ Xh)).2 (λe he=>(uv.closed.st e he).1) ⟨q50,Yo,rfl⟩);rw[uw] at this;exact this.at_ (hle 50 (.at_ j) (by simp[kz.get]))
    obtain⟨N2,t1,t2,t3,t4,t5⟩:=DW S X S' uv (s':=wQ) rfl M Sc (g:=g) (n:=K0 xs) (zs:=BN xs dd.2) RX Ps
     (λk dk hk hz=>by
      have hx:=D5 hk hz;refine⟨na.2.1 k dk hx,λbl ho=>?_⟩;obtain⟨h3,h4⟩:=tn k dk bl hx ho;exact⟨λj' o BU mW zav=>BU (S'.apart j' (SB+g) o _ bl mW h3 zav h4),λkW=>X.own bl kW ⟨SB+g,_,h3,h4⟩⟩)
     (λk k' dk Ui bl hk th hz Uf ho mW=>na.2.2.2 k k' dk Ui bl (D5 hk hz) (D5 th Uf) ho mW)
     (λk hk=>na.2.2.1 k (by
      have:(BN xs dd.2).length<=k:=hk;simp only[BN,zdW] at this;simp only[aQ];omega))
     (λl hl k=>by
      obtain⟨q,hq,h3,h4⟩:=fJ.1 hl;refine S.iK l ?_ k;have:=UP q hq;rw[h4,h3] at this;simpa using this)
     (λc nm hc hr=>by
      rw[na.2.2.1 (K0 xs) (zd9 _)] at hc;cases hc)
     (λhd=>by
      have:=(X.pJ g hd).1;rcases Ll with h3|⟨h3,_⟩
      ·rw[this] at h3;cases h3
      ·rw[this] at h3;cases h3)
     Pn (λi' o hi Fc _ _=>Jv yz Ag hi Fc)
    refine⟨N2,D',t5,t4,?_⟩;obtain⟨bk,ds,hav⟩:=yz.res;subst hav;have RC: ∀v∈e.jP.map (λo=>yW bk e.jP ds o.1),∀us,v≠ .AP us:=λv hv us=>by
     obtain⟨o,_,rfl⟩:=List.mem_map.1 hv;exact DY _ _ _ _ _
    unfold WR;rw[RR RC] at hj⊢;refine Jt (by simp) (λi' a b' ha hb c' hvc=>?_) hv
    by_cases Uc:i'=i
    ·subst Uc
     rw[hj] at ha;cases ha;have kW:i'<(e.jP.map (λo=>yW bk e.jP ds o.1)).length:=(List.getElem?_eq_some_iff.1 hj).1;rw[List.getElem?_set_self kW] at hb;cases hb;obtain⟨nm,a,o,e1,e2,e3,e4⟩:=ju.1 hvc;obtain⟨v',mG,a',f1,f2,f3,_⟩:=D0 RV.1 Yo Xh;rw[uw,UW,e1] at f1;cases f1;have ho:o=0:=by
      have:nm.off []=some 0:=by simp[Nm.off,f3,fG]
      rw[this] at e3;cases e3;rfl
     subst ho;unfold cw;simp only[AV.isAgg,jz,aq,xv];exact⟨nm,a,by rw[t3,UW];exact e1,f3,e2,by rw[e4]⟩
    ·rw[zer (Ne.symm Uc)] at hb
     rw[ha] at hb;cases hb;rw[zeT] at ha;cases ho:e.jP[i']? with
     |none=>rw[ho] at ha;cases ha
     |some o=>
      rw[ho] at ha;simp only[zd2,zdT] at ha;subst ha;exact HW (λi nm h=>by rw[t1];exact h) t2 e.jP ds (DZ Ag) c' hvc
 ·exact⟨_,_,h1,rJ⟩
 ·cases h1
def Ah (P:Program)(base:Nat)(f:FuncId)(oP:oZ):Prop:=oP.sp.ok=true/\ru P base f oP.sp oP.f
theorem Jz {oP:oZ}{f:FuncId}{args:List AV}{st:St}{W:List Nat}{fresh:Nat}{k:AV->St->Option α}{fail:Option α}{r:α}(hc:Ah P base f oP)(xc:fresh%100=0)(h:Q7 oP args st W fresh k fail=some r):
  fail=some r\/∃av fe,k av fe=some r/\xO P base W f args st fresh av fe:=by
 unfold Q7 at h;split at h
 ·split at h
  ·rcases xY h hc.1 hc.2 xc with h1|⟨e,ids,av,wQ,h1,rJ,_⟩
   ·exact .inl h1
   ·exact .inr ⟨av,wQ,h1,rJ⟩
  ·split at h
   ·rename_i hw
    simp only[zdV] at hw;exact Pt hc.1 hc.2 xc hw.1.1.1 hw.1.1.2 hw.1.2 hw.2 h
   ·cases h
 ·rename_i j g n c RU
  split at h
  ·rename_i ep xs hs
   split at h
   ·cases h
   ·rename_i n'
    split at h
    ·cases h
    ·rename_i d hd
     split at h
     ·cases h
     ·rename_i hw
      simp only[zdV] at hw;have:=(Ca RU).2;rw[Nat.sub_zero] at this;exact LJ hc.1 hc.2 xc this hs hd hw.1.1.1.1 hw.1.1.1.2 hw.1.1.2 hw.1.2 hw.2 h
  ·cases h
theorem wy {f:FuncId}{args:List AV}{st:St}{W:List Nat}{fresh:Nat}{k:AV->St->Option α}{r:α}(xc:fresh%100=0): ∀(cs:List oZ),(∀c∈cs,Ah P base f c)->AZ args st W fresh k cs=some r->∃av fe,k av fe=some r/\xO P base W f args st fresh av fe
 | [],_,h=>by simp[AZ] at h
 |c::cs,hc,h=>by
  unfold AZ at h;rcases Jz (hc c (zd0 ..)) xc h with h1|h1
  ·exact wy xc cs (λc' K6=>hc c' (zdZ _ K6)) h1
  ·exact h1
end AM
namespace AM
open Go
variable {α:Type}{P:Program}{base:Nat}
noncomputable def D6 (P:Program)(tmps:Array Value):ResultVar->Sem Value
 | .tmp t=>pure (tmps.getD t Go.undef)
 | .cell a t=>do loadVar t (<-asAddr (tmps.getD a Go.undef))
def LK:List Value->Value
 | [v]=>v
 |vs=> .tuple vs.toArray
theorem LL (fn:Func)(tmps:Array Value)(w:World){vs:List Value}(h:(fn.results.toList.mapM (D6 P tmps)).run P w= .ok vs w):(results fn tmps).run P w= .ok (LK vs) w:=by
 have e:results fn tmps=(do let vs<-fn.results.mapM (D6 P tmps);pure (if h:vs.size=1 then vs[0] else .tuple vs)):=rfl
 rw[e,<-Array.toArray_toList (xs:=fn.results),List.mapM_toArray];simp only[zee,Sem.run_map,h,zef,zeg];match vs with
 | []=>rfl
 | [v]=>rfl
 |a::b::l=>simp[LK]
theorem sY {st:St}: ∀(l:List ResultVar) (k:List AV->Option α) (r:α),tF P st l k=some r->
  ∃vs,k vs=some r/\vs.length=l.length/\∀N D w a,kx N D w base st a->∃cs,(l.mapM (D6 P a.tmps)).run P w= .ok cs w/\bF N D w vs cs
 | [],k,r,h=>⟨[],h,rfl,λN D w a s=>⟨[],by simp,by simp only[bF]⟩⟩
 | .tmp t::l,k,r,h=>by
  unfold tF at h;obtain⟨vs,h1,h2,h3⟩:=sY l _ r h;refine⟨_,h1,by simp[h2],λN D w a s=>?_⟩
  obtain⟨cs,g1,g2⟩:=h3 N D w a s;refine⟨a.tmps.getD t Go.undef::cs,?_,?_⟩
  ·simp only[List.mapM_cons,D6,zee,zeg,zef,g1]
  ·simp only[bF]
   exact⟨_,_,rfl,s.tmps t,g2⟩
 | .cell x t::l,k,r,h=>by
  unfold tF at h;split at h
  ·rename_i i p hx
   obtain⟨u,h0,_,qO⟩:=pB h;split at h0
   ·rename_i lq
    obtain⟨vs,h1,h2,h3⟩:=sY l _ r h0;refine⟨_,h1,by simp[h2],λN D w a s=>?_⟩
    obtain⟨cs,g1,g2⟩:=h3 N D w a s;have hv:=s.tmps x;rw[hx] at hv;obtain⟨nm,ad,o,e1,e2,e3,e4⟩:=ju.1 hv;obtain⟨f1,f2,_⟩:=qO N D w base s.nw nm ad o e1 e2 e3;obtain⟨c,q1,q2⟩:=Dy (P:=P) (N:=N) (D:=D) (w:=w) (ad:=Addr.at_ ad o) (v:=u) rfl lq (mA f2 λj=>by simp[aZ,Addr.at_,zd8])
    simp only[Instr.loadAt,Instr.sureAddr,zee,zeg,zef] at q1;refine⟨c::cs,?_,?_⟩
    ·simp only[List.mapM_cons,D6,zee,e4,asAddr,zeg,zef,q1,g1]
    ·simp only[bF]
     exact⟨_,_,rfl,q2,g2⟩
   ·cases h0
  ·cases h
theorem LM {N:Names}{D:Nat->Prop}{w:World}{l:List (Nat×cp)}{f:Nat->AV}{cs:List Value}(hl:l.map (·.1)=List.range cs.length)(h: ∀y,cw N D w (f y) (cs.getD y Go.undef)):bF N D w (l.map λo=>f o.1) cs:=by
 have e:(l.map λo=>f o.1)=(List.range cs.length).map f:=by rw[<-hl,List.map_map];rfl
 rw[e];clear e hl;have key: ∀(cs:List Value) (g:Nat->AV),(∀y,cw N D w (g y) (cs.getD y Go.undef))->bF N D w ((List.range cs.length).map g) cs:=by
  intro cs;induction cs with
  |nil=>intro g _;simp only[zdY,List.range_zero,List.map_nil,bF]
  |cons c cs ih=>
   intro g hg;simp only[zdX,List.range_succ_eq_map,zeK,List.map_map,bF];exact⟨c,cs,rfl,(by have:=hg 0;exact this),ih (g∘Nat.succ) λy=>by simpa using hg (y+1)⟩
 exact key cs f h
theorem Pu {N:Names}{D:Nat->Prop}{w:World}{l:List (Nat×cp)}{f:Nat->AV}{cs:List Value}(hl:l.map (·.1)=List.range cs.length)(h: ∀y,cw N D w (f y) (cs.getD y Go.undef)):cw N D w (qV (l.map λo=>f o.1)) (LK cs):=by
 have he:=LM hl h;have hlen:=rv he;match l,cs,he,hlen with
 | [],[],he,_=>exact lM.2 ⟨_,rfl,he⟩
 | [o],[v],he,_=>
  simp only[zeK,List.map_nil,bF] at he;obtain⟨c,tG,e,h1,_⟩:=he;cases e;exact h1
 |o::o'::os,c::c'::cs,he,_=>exact lM.2 ⟨_,rfl,he⟩
 | [],_::_,_,h=>simp at h
 |_::_,[],_,h=>simp at h
 | [_],_::_::_,_,h=>simp at h
 |_::_::_,[_],_,h=>simp at h
structure JA (P:Program)(f:FuncId)(fn:Func)(sp:al):Prop where
 here:P.funcs[f]?=some fn
 name:(fn.name== "runtime.NumGoroutine")=false
 ok:sp.ok=true
 nt:sp.pre.jP.length<=fn.ntmps
 res: ∀e∈sp.je,e.jP.map (·.1)=List.range fn.results.size
 body: ∃c,fn.body=some c/\nb fn c/\pD c
theorem RY {f:FuncId}{fn:Func}{sp:al}{F:sp.pre.den->Option (gT sp.je)}{env:Env (gT sp.je)}(hi:JA P f fn sp)(hm:P.follows .mixedOrders=true)(he:sC P base env)(hl:xQ P base fn env)(hF: ∀d,qh P sp env fn d=F d):ru P base f sp F:=by
 obtain⟨c,hb,LN,LP⟩:=hi.body;refine⟨⟨fn,hi.here,by simp[hb],hi.name⟩,λd r hr N D w lN S hlen nz=>?_⟩
 have hex:exec P env 100000 [.code c] (sp.pre.st fn.ntmps d) (Q8 P sp fn)=some r:=by
  rw[<-hr,<-hF];simp[qh,hb]
 have hg:Good fn [.code c]:=⟨by simpa [Item.ok] using LN,by simpa [Item.Yf] using LP,by simp,by intro _ _ _ _ _ e;cases e⟩
 refine calls_of_wp hi.here hb ?_;have s:kx N D w base (sp.pre.st fn.ntmps d) {tmps:=lN.toArray++Array.replicate (fn.ntmps-lN.toArray.size) Go.undef,defers:=[]}:=by
  refine⟨S,λy=>?_,?_,rfl⟩
  ·have e:(lN.toArray++Array.replicate (fn.ntmps-lN.toArray.size) Go.undef).getD y Go.undef=lN.getD y Go.undef:=by
    rw[ze6,zd3,Array.getElem?_append];split
    ·simp
    ·rename_i hy
     rw[Array.getElem?_replicate,List.getElem?_eq_none (by simpa using hy)]
     split<;>rfl
   rw[e];exact nz y
  ·have:=hi.nt
   simp only[Array.size_append,List.size_toArray,Array.size_replicate,jw.st];omega
 refine DO he hl hm _ _ _ _ _ hex hg N D w _ (bodyPost P fn _) s λout fe hK N' D' w' a' s' x'=>?_;have Xi:Q8 P sp fn .norm fe=some r->a'.defers=[]/\∃v,(results fn a'.tmps).run P w'= .ok v w'/\wR sp.je r λe _ d'=> ∃Ne De,uZ base sp.pre N D (yX N (mR (λc=>c) sp.pre.heap d.2 (λ_=>none))) w e Ne De w' d'/\cw Ne De w' (qV (e.jP.map λo=>yW (λc=>c) e.jP d'.1 o.1)) v:=by
  intro hK;unfold Q8 at hK;simp only at hK;obtain⟨vs,h1,h2,h3⟩:=sY (base:=base) _ _ _ hK;obtain⟨cs,g1,g2⟩:=h3 N' D' w' a' s';obtain⟨x,hx,JB⟩:=zf _ _ _ h1 λe he=>(al.Gq hi.ok he).1.closed;cases hx;refine⟨s'.defers,_,LL fn a'.tmps w' g1,uc _ _ (λe n d' tq ht=>?_) JB⟩;obtain⟨Ne,De,post,D7⟩:=yq (al.xX hi.ok).st (d:=d.2) (s:={fe with t:=λi=>(vs[i]?).getD .undef}) S s'.nw x' rfl ht;refine⟨Ne,De,post,?_⟩;have IV:=rv g2;refine Pu (f:=λy=>yW (λc=>c) e.jP d'.1 y) (by rw[hi.res e tq,IV,h2];simp) λy=>D7 y _ ?_
  show cw N' D' w' ((vs[y]?).getD .undef) (cs.getD y Go.undef)
  cases ha:vs[y]? with
  |none=>simp only[Option.getD_none];exact pb
  |some u=>
   obtain⟨c',K6,hv⟩:=sv _ _ _ _ g2 ha;rw[zd3,K6];exact hv
 cases out with
 |norm=>exact Xi hK
 |ret=>exact Xi hK
 |exit id=>simp[Q8] at hK
end AM
namespace AM
open Go
variable {α:Type}{P:Program}{base:Nat}
theorem JC {a b:Out}(h:Ni a b=true):a=b:=by
 cases a<;>cases b<;>simp[Ni] at h<;>first|rfl|(subst h;rfl)
theorem Ai {s:St}{b:kz}{o:Out}: ∀(es:List jw) (outs:List Out) (k:gT es->Option α) (r:α),qX s b o es outs k=some r->(∀e∈es,wm e)->∃x,k x=some r/\wR es x λe n d'=>RN s b e d'/\(outs[n]?).getD .norm=o
 | [],outs,k,r,h,_=>by simp[qX] at h
 | [e],[],k,r,h,hc=>by simp[qX] at h
 | [e],o'::outs,k,r,h,hc=>by
  unfold qX at h;simp only at h;split at h
  ·rename_i ho
   rcases rq h (hc e (zd0 ..)) with h1|⟨d,h1,h2⟩
   ·cases h1
   ·exact⟨d,h1,h2,by simp[JC ho]⟩
  ·cases h
 |e::e'::es,[],k,r,h,hc=>by simp[qX] at h
 |e::e'::es,o'::outs,k,r,h,hc=>by
  unfold qX at h;simp only at h;have Xj:qX s b o (e'::es) outs (λd=>k (.inr d))=some r->∃x,k x=some r/\wR (e::e'::es) x λe n d'=>RN s b e d'/\((o'::outs)[n]?).getD .norm=o:=by
   intro h1;obtain⟨x,h3,h4⟩:=Ai (e'::es) outs _ r h1 λe he=>hc e (zdZ _ he);exact⟨.inr x,h3,by simpa [wR] using h4⟩
  split at h
  ·rename_i ho
   rcases rq (k:=λd=>k (.inl d)) h (hc e (zd0 ..)) with h1|⟨d,h1,h2⟩
   ·exact Xj h1
   ·exact⟨.inl d,h1,h2,by simp[JC ho]⟩
  ·exact Xj h
def Gs (base:Nat)(sp:bO)(N:Names)(D O:Nat->Prop)(w:World)(x:gT sp.je)(e:Exit)(a':Act)(w':World):Prop:=
 e≠ .normal/\wR sp.je x λe' n d'=>e=z5 ((sp.outs[n]?).getD .norm)/\∃Ne De,uZ base sp.pre N D O w e' Ne De w' d'/\kx Ne De w' base (e'.st sp.nt d') a'
def D8 (base:Nat)(sp:bO)(N:Names)(D O:Nat->Prop)(w:World):sp.pre.den⊕gT sp.je->Exit->Act->World->Prop
 | .inl d',e,a',w'=>e= .normal/\∃Ne De,uZ base sp.pre N D O w sp.pre Ne De w' d'/\kx Ne De w' base (sp.pre.st sp.nt d') a'
 | .inr x,e,a',w'=>Gs base sp N D O w x e a' w'
def nC (P:Program)(base:Nat)(fn:Func)(id:Nat)(sp:bO)(F:sp.pre.den->Option (sp.pre.den⊕gT sp.je)):Prop:=
 ∀d r,F d=some r->∀N D w a,kx N D w base (sp.pre.st sp.nt d) a->(qW id fn).wp P (D8 base sp N D (yX N (mR (λc=>c) sp.pre.heap d.2 (λ_=>none))) w r) a w
def bO.ok (sp:bO):Bool:=sp.pre.closed&&sp.je.all λe=>UR sp.pre e
theorem bO.Gq {sp:bO}(h:sp.ok=true){e:jw}(he:e∈sp.je):Pk sp.pre e:=by
 simp only[bO.ok,zdV,zew] at h;exact Gk (h.2 e he)
theorem bO.xX {sp:bO}(h:sp.ok=true):wm sp.pre:=by
 simp only[bO.ok,zdV] at h;exact uO h.1
theorem RZ {fn:Func}{id:Nat}{sp:bO}{F:sp.pre.den->Option (sp.pre.den⊕gT sp.je)}{env:Env (sp.pre.den⊕gT sp.je)}(mh:sp.ok=true)(LN:nb fn (qW id fn))(LP:pD (qW id fn))(hm:P.follows .mixedOrders=true)(he:sC P base env)(hl:xQ P base fn env)
  (hF: ∀d,vq P sp env fn id d=F d):nC P base fn id sp F:=by
 intro d r hr N D w a s;have hex:exec P env 100000 [.code (qW id fn)] (sp.pre.st sp.nt d) (Q9 sp)=some r:=by
  rw[<-hr,<-hF];rfl
 have hg:Good fn [.code (qW id fn)]:=⟨by simpa [Item.ok] using LN,by simpa [Item.Yf] using LP,by simp,by intro _ _ _ _ _ e;cases e⟩
 refine DO he hl hm _ _ _ _ _ hex hg N D w _ (D8 base sp N D (yX N (mR (λc=>c) sp.pre.heap d.2 (λ_=>none))) w r) s λout fe hK N' D' w' a' s' x'=>?_;unfold Q9 at hK;split at hK
 ·cases hK
 ·rename_i RC
  simp only[zd1] at RC;have zaw: ∀o,o≠ .norm->qX fe (BO sp.pre) o sp.je sp.outs (λd=>some (.inr d))=some r->D8 base sp N D (yX N (mR (λc=>c) sp.pre.heap d.2 (λ_=>none))) w r (z5 o) a' w':=by
   intro o ho h1;obtain⟨x,hx,JB⟩:=Ai _ _ _ _ h1 λe he=>(bO.Gq mh he).closed;cases hx;refine⟨by cases o<;>simp[z5] at ho⊢,uc _ _ (λe n d' tq ht=>?_) JB⟩
   obtain⟨ht,jv⟩:=ht;obtain⟨Ne,De,post,D7⟩:=yq (bO.xX mh).st (d:=d.2) s.nw s'.nw x' rfl ht;exact⟨by rw[jv],Ne,De,post,post.nw,λy=>D7 y _ (s'.tmps y),by rw[s'.nt,RC];rfl,s'.defers⟩
  cases out with
  |ret=>exact zaw .ret (by intro e;cases e) hK
  |exit id=>exact zaw (.exit id) (by intro e;cases e) hK
  |norm=>
   rcases rq (k:=λd=>some (Sum.inl d)) (show oN sp.pre fe (BO sp.pre) (λd _ _=>some (Sum.inl d)) none=some r from hK) (bO.xX mh) with h1|⟨d',h1,ht⟩
   ·cases h1
   ·cases h1
    obtain⟨Ne,De,post,D7⟩:=yq (bO.xX mh).st (d:=d.2) s.nw s'.nw x' rfl ht;exact⟨rfl,Ne,De,post,post.nw,λy=>D7 y _ (s'.tmps y),by rw[s'.nt,RC];rfl,s'.defers⟩
theorem Cc {c:Code}{Q Q':Exit->Act->World->Prop}(h: ∀e a w,Q e a w->Q' e a w): ∀(n:Nat) (a:Act) (w:World),Code.rounds P c Q n a w->Code.rounds P c Q' n a w
 |0,_,_,h'=>h'.elim
 |n+1,a,w,h'=>by
  refine wp_mono h' λe a' w' hq=>?_;cases e with
  |normal=>exact Cc h n a' w' hq
  |exit id=>exact h _ _ _ hq
  |goto l=>exact h _ _ _ hq
  |ret=>exact h _ _ _ hq
  |panic ch=>exact h _ _ _ hq
  |outgrown=>exact h _ _ _ hq
theorem uZ.trans {pre e:jw}{N N1 Ne:Names}{D D1 De O O1:Nat->Prop}{w w1 w':World}{d1:pre.den}{d:e.den}(hO:O1=yX N1 (mR (λc=>c) pre.heap d1.2 (λ_=>none)))(h1:uZ base pre N D O w pre N1 D1 w1 d1)(h2:uZ base pre N1 D1 O1 w1 e Ne De w' d):uZ base pre N D O w e Ne De w' d:=by
 subst hO;refine⟨h2.nw,h1.ext.trans h2.ext,λc uw hc he=>?_,λg hg he k c nm h3 h4=>h2.NO g hg he k c nm (h1.NO g hg hg k c nm h3 h4) h4⟩;rw[h2.sQ c uw hc he];obtain⟨q,hq,h3,_⟩:=id hc;exact h1.sQ c uw hc ⟨q,hq,h3⟩
theorem Gs.trans {sp:bO}{N N1:Names}{D D1 O O1:Nat->Prop}{w w1:World}{d1:sp.pre.den}(hO:O1=yX N1 (mR (λc=>c) sp.pre.heap d1.2 (λ_=>none)))(h1:uZ base sp.pre N D O w sp.pre N1 D1 w1 d1){x:gT sp.je}{e:Exit}{a':Act}{w':World}(h2:Gs base sp N1 D1 O1 w1 x e a' w'):Gs base sp N D O w x e a' w':=by
 refine⟨h2.1,uc _ _ (λe' n d' _ hq=>?_) h2.2⟩;obtain⟨g1,Ne,De,g2,g3⟩:=hq;exact⟨g1,Ne,De,h1.trans hO g2,g3⟩
theorem D9 {fn:Func}{id:Nat}{sp:bO}{F:sp.pre.den->Option (sp.pre.den⊕gT sp.je)}(hR:nC P base fn id sp F): ∀(n:Nat) (d:sp.pre.den) (x:gT sp.je),iter F n d=some x->∀N D w a,kx N D w base (sp.pre.st sp.nt d) a->
  Code.rounds P (qW id fn) (Gs base sp N D (yX N (mR (λc=>c) sp.pre.heap d.2 (λ_=>none))) w x) n a w
 |0,d,x,h,_,_,_,_,_=>by simp[iter] at h
 |n+1,d,x,h,N,D,w,a,s=>by
  simp only[iter] at h;split at h
  ·cases h
  ·rename_i y hy
   cases h;refine wp_mono (hR d _ hy N D w a s) λe a' w' hq=>?_;have lV:=hq.1;cases e with
   |normal=>exact absurd rfl lV
   |exit id=>exact hq
   |goto l=>exact hq
   |ret=>exact hq
   |panic ch=>exact hq
   |outgrown=>exact hq
  ·rename_i d1 hd
   refine wp_mono (hR d _ hd N D w a s) λe a' w' hq=>?_;obtain⟨rfl,N1,D1,post,s1⟩:=hq;exact Cc (λe a2 w2 h2=>Gs.trans rfl post h2) n a' w' (D9 hR n d1 x h N1 D1 w' a' s1)
theorem HY {fn:Func}{id:Nat}{sp:bO}{F:sp.pre.den->Option (sp.pre.den⊕gT sp.je)}(mh:sp.ok=true)(hR:nC P base fn id sp F){st:St}{k:Out->St->Option α}{fail:Option α}{r:α}(h:K1 sp F st k fail=some r):
  fail=some r\/∃out fe,k out fe=some r/\Rw P base fn id st out fe:=by
 unfold K1 at h;split at h
 ·cases h
 ·rename_i RC
  simp only[zd1] at RC;rcases pS h (bO.xX mh) with h1|⟨d,ro,b,h1,_,M,ht⟩
  ·exact .inl h1
  ·right
   split at h1
   ·cases h1
   ·rename_i x hx
    obtain⟨e,n,d',he,h2,h3⟩:=xW _ _ _ _ h1;split at h2
    ·cases h2
    ·rename_i gX
     have hex:=bO.Gq mh he;refine⟨_,_,h2,λN D w a s=>?_⟩;obtain⟨m,hm⟩:=oY.1 hx;obtain⟨S1,T1⟩:=ht N D w base s.nw;have s1:kx (jh N b sp.pre.heap) (Bd N D ro) w base (sp.pre.st sp.nt d) a:=⟨S1,λy=>T1 y _ (s.tmps y),by rw[s.nt,RC];rfl,s.defers⟩
     refine wp_mono (wp_loop_rounds m (D9 hR m d x hm _ _ w a s1)) λen a' w' Pq=>?_;obtain⟨jv,Ne,De,post,se⟩:=h3 _ Pq.2;obtain⟨N',D',S',X',tr,_⟩:=Bf (s:=st) rfl s.nw M hex gX (lt:=false) (by intro e';cases e') (λbl hb=>M.canon hb) post.nw post.ext (λq hq uw=>post.sQ q.1 uw (hex.var q hq uw) ⟨q,hq,rfl⟩) (Js post.NO)
     refine⟨jv,N',D',⟨S',λy=>?_,by rw[se.nt];exact RC.symm,se.defers⟩,X'⟩
     exact(DX λo' mW z=>⟨DS _ _ _ _,λg hg=>tr o'.2 z g (λc hc=>hex.closed.cs c (.inl (List.mem_flatMap.2 ⟨o',mW,hc⟩))) (λg hg=>hex.closed.ks g (.inl (List.mem_flatMap.2 ⟨o',mW,hg⟩))) (by intro e';cases e') hg⟩).val (se.tmps y)
def pE (P:Program)(base:Nat)(calls:List (Nat×List oZ)):Prop:= ∀p∈calls,∀c∈p.2,Ah P base p.1 c
def oy (P:Program)(base:Nat)(fn:Func)(loops:List (Nat×List uU)):Prop:= ∀p∈loops,∀l∈p.2,l.sp.ok=true/\nC P base fn p.1 l.sp l.f
theorem vK {β:Type}{n:Nat}{x:β}: ∀{l:List (Nat×β)},uI n l=some x->(n,x)∈l
 | [],h=>by simp[uI] at h
 |p::l,h=>by
  simp only[uI] at h;split at h
  ·rename_i e
   cases h;subst e;exact zd0 ..
  ·exact zdZ _ (vK h)
theorem Bh {calls:List (Nat×List oZ)}{loops:List (Nat×List uU)}(h:pE P base calls):sC P base (rH (α:=α) calls loops):=by
 intro f args st fresh k r xc hc;simp only[rH] at hc⊢;cases hf:uI f calls with
 |none=>rw[hf] at hc;cases hc
 |some c=>
  rw[hf] at hc;exact wy xc c (h _ (vK hf)) hc
theorem Bi {fn:Func}{calls:List (Nat×List oZ)}{loops:List (Nat×List uU)}(h:oy P base fn loops):xQ P base fn (rH (α:=α) calls loops):=by
 intro id st k r hc;simp only[rH] at hc;cases hf:uI id loops with
 |none=>rw[hf] at hc;cases hc
 |some ls=>
  rw[hf] at hc;have hls:=h _ (vK hf);simp only at hls hc;clear hf h;induction ls with
  |nil=>simp[CX] at hc
  |cons l ls ih=>
   unfold CX at hc;obtain⟨g1,g2⟩:=hls l (zd0 ..);rcases HY g1 g2 hc with h1|h1
   ·exact ih h1 λl hl=>hls l (zdZ _ hl)
   ·exact h1
end AM
namespace AM
open Go
variable {α:Type}{P:Program}{base:Nat}
def oQ:Code->List Nat
 | .seq a b=>oQ a++oQ b
 | .cond _ a b=>oQ a++oQ b
 | .block _ c=>oQ c
 | .scope c=>oQ c
 | .loop c=>(mn c).toList++oQ c
 |_=> []
def pL:Code->Bool
 | .seq a b=>pL a&&pL b
 | .cond _ a b=>pL a&&pL b
 | .block _ c=>pL c
 | .scope c=>pL c
 | .loop c=>pL c
 | .region _ ops draw=>!draw||sU ops
 |_=>true
theorem sG: ∀(c:Code),pL c=true->pD c
 | .seq a b,h=>by simp only[pL,zdV] at h;exact⟨sG a h.1,sG b h.2⟩
 | .cond _ a b,h=>by simp only[pL,zdV] at h;exact⟨sG a h.1,sG b h.2⟩
 | .block _ c,h=>sG c h
 | .scope c,h=>sG c h
 | .region _ ops draw,h=>by
  intro hd;subst hd;simpa [pL] using h
 | .loop _,_=>trivial
 | .skip,_=>trivial
 | .exit _,_=>trivial
 | .ret,_=>trivial
 | .label _,_=>trivial
 | .goto _,_=>trivial
 | .rangeFunc _ _ _ _,_=>trivial
 | .refuse _,_=>trivial
theorem kg {id:Nat}: ∀(c:Code) {c':Code},dm id c=some c'->id∈oQ c
 | .seq a b,c',h=>by
  simp only[dm] at h;split at h
  ·exact zd4 _ (kg a ‹_›)
  ·exact zd5 _ (kg b h)
 | .cond _ a b,c',h=>by
  simp only[dm] at h;split at h
  ·exact zd4 _ (kg a ‹_›)
  ·exact zd5 _ (kg b h)
 | .block _ c,_,h=>by simp only[dm] at h;exact kg c h
 | .scope c,_,h=>by simp only[dm] at h;exact kg c h
 | .loop c,_,h=>by
  simp only[dm] at h;split at h
  ·rename_i e;exact zd4 _ (by rw[e];simp)
  ·exact zd5 _ (kg c h)
 | .region _ _ _,_,h=>by simp[dm] at h
 | .skip,_,h=>by simp[dm] at h
 | .exit _,_,h=>by simp[dm] at h
 | .ret,_,h=>by simp[dm] at h
 | .label _,_,h=>by simp[dm] at h
 | .goto _,_,h=>by simp[dm] at h
 | .rangeFunc _ _ _ _,_,h=>by simp[dm] at h
 | .refuse _,_,h=>by simp[dm] at h
theorem Ea {a b:List Nat}(h:AM.nodup (a++b)=true):AM.nodup a=true:=by
 induction a with
 |nil=>rfl
 |cons x xs ih=>
  simp only[zes,AM.nodup,zdV,zfc,ze2,decide_eq_false_iff_not,zfa,not_or] at h⊢;exact⟨h.1.1,ih h.2⟩
theorem qF {fn:Func}: ∀(c:Code),(∀id c',dm id c=some c'->qW id fn=c')->AM.nodup (oQ c)=true->nb fn c
 | .seq a b,H,h=>by
  simp only[oQ] at h;obtain⟨h1,h2⟩:=nodup_append h;refine⟨qF a (λid c' e=>H id c' (by simp only[dm,e])) (Ea h),qF b (λid c' e=>H id c' ?_) h1⟩
  have hn:dm id a=none:=by
   cases ha:dm id a with
   |none=>rfl
   |some x=>exact absurd (kg b e) (h2 id (kg a ha))
  simp only[dm,hn,e]
 | .cond o a b,H,h=>by
  simp only[oQ] at h;obtain⟨h1,h2⟩:=nodup_append h;refine⟨qF a (λid c' e=>H id c' (by simp only[dm,e])) (Ea h),qF b (λid c' e=>H id c' ?_) h1⟩
  have hn:dm id a=none:=by
   cases ha:dm id a with
   |none=>rfl
   |some x=>exact absurd (kg b e) (h2 id (kg a ha))
  simp only[dm,hn,e]
 | .block i c,H,h=>qF c (λid c' e=>H id c' (by simpa only[dm] using e)) h
 | .scope c,H,h=>qF c (λid c' e=>H id c' (by simpa only[dm] using e)) h
 | .loop c,H,h=>by
  simp only[oQ] at h;obtain⟨h1,h2⟩:=nodup_append h;refine⟨λid e=>H id c (by simp only[dm,e,if_true]),qF c (λid c' e=>H id c' ?_) h1⟩
  have lV: ¬mn c=some id:=λe'=>h2 id (by rw[e'];simp) (kg c e)
  simp only[dm,if_neg lV,e]
 | .region _ _ _,_,_=>trivial
 | .skip,_,_=>trivial
 | .exit _,_,_=>trivial
 | .ret,_,_=>trivial
 | .label _,_,_=>trivial
 | .goto _,_,_=>trivial
 | .rangeFunc _ _ _ _,_,_=>trivial
 | .refuse _,_,_=>trivial
theorem JD {fn:Func}{c:Code}(hb:fn.body=some c)(h:AM.nodup (oQ c)=true):nb fn c:=
 qF c (λid c' e=>by simp only[qW,hb,e,ze7]) h
theorem uQ {fn:Func}{id:Nat}: ∀(c:Code) {c':Code},dm id c=some c'->nb fn c->pL c=true->nb fn c'/\pL c'=true
 | .seq a b,c',h,hl,hd=>by
  simp only[pL,zdV] at hd;simp only[dm] at h;split at h
  ·rename_i x e
   cases h;exact uQ a e hl.1 hd.1
  ·exact uQ b h hl.2 hd.2
 | .cond _ a b,c',h,hl,hd=>by
  simp only[pL,zdV] at hd;simp only[dm] at h;split at h
  ·rename_i x e
   cases h;exact uQ a e hl.1 hd.1
  ·exact uQ b h hl.2 hd.2
 | .block _ c,_,h,hl,hd=>by simp only[dm] at h;exact uQ c h hl hd
 | .scope c,_,h,hl,hd=>by simp only[dm] at h;exact uQ c h hl hd
 | .loop c,_,h,hl,hd=>by
  simp only[dm] at h;split at h
  ·cases h;exact⟨hl.2,hd⟩
  ·exact uQ c h hl.2 hd
 | .region _ _ _,_,h,_,_=>by simp[dm] at h
 | .skip,_,h,_,_=>by simp[dm] at h
 | .exit _,_,h,_,_=>by simp[dm] at h
 | .ret,_,h,_,_=>by simp[dm] at h
 | .label _,_,h,_,_=>by simp[dm] at h
 | .goto _,_,h,_,_=>by simp[dm] at h
 | .rangeFunc _ _ _ _,_,h,_,_=>by simp[dm] at h
 | .refuse _,_,h,_,_=>by simp[dm] at h
def Aj (fn:Func):Bool:=match fn.body with|some c=>AM.nodup (oQ c)&&pL c|none=>false
theorem LQ {fn:Func}(h:Aj fn=true): ∃c,fn.body=some c/\nb fn c/\pD c:=by
 unfold Aj at h;split at h
 ·rename_i c hc
  simp only[zdV] at h;exact⟨c,hc,JD hc h.1,sG c h.2⟩
 ·cases h
theorem Gt {fn:Func}(h:Aj fn=true)(id:Nat):nb fn (qW id fn)/\pD (qW id fn):=by
 unfold Aj at h;split at h
 ·rename_i c hc
  simp only[zdV] at h;unfold qW;rw[hc];simp only;cases hf:dm id c with
  |none=>exact⟨trivial,trivial⟩
  |some c'=>
   obtain⟨h1,h2⟩:=uQ c hf (JD hc h.1) h.2;exact⟨h1,sG _ h2⟩
 ·cases h
def Bj:List Nat->List Nat->Bool
 | [],[]=>true
 |a::l,b::m=>decide (a=b)&&Bj l m
 |_,_=>false
theorem Gu: ∀{l m:List Nat},Bj l m=true->l=m
 | [],[],_=>rfl
 |a::l,b::m,h=>by
  simp only[Bj,zdV,zd1] at h;rw[h.1,Gu h.2]
 | [],_::_,h=>by simp[Bj] at h
 |_::_,[],h=>by simp[Bj] at h
def R0 (fn:Func)(sp:al):Bool:=sp.ok&&decide (sp.pre.jP.length<=fn.ntmps)&& (sp.je.all λe=>Bj (e.jP.map (·.1)) (List.range fn.results.size))&&Aj fn
theorem JA.of {f:FuncId}{fn:Func}{sp:al}(h1:P.funcs[f]?=some fn)(h2:(fn.name== "runtime.NumGoroutine")=false)(h3:R0 fn sp=true):JA P f fn sp:=by
 simp only[R0,zdV,zd1,zew] at h3;exact⟨h1,h2,h3.1.1.1,h3.1.1.2,λe he=>Gu (h3.1.2 e he),LQ h3.2⟩
theorem Ak {f:FuncId}{fn:Func}{sp:al}{F:sp.pre.den->Option (gT sp.je)}{calls:List (Nat×List oZ)}{loops:List (Nat×List uU)}(h1:P.funcs[f]?=some fn)(h2:(fn.name== "runtime.NumGoroutine")=false)(h3:R0 fn sp=true)
  (hm:P.follows .mixedOrders=true) (hc:pE P base calls) (hl:oy P base fn loops) (hF: ∀d,qh P sp (rH calls loops) fn d=F d):ru P base f sp F:=
 RY (JA.of h1 h2 h3) hm (Bh hc) (Bi hl) hF
theorem Am {fn:Func}{id:Nat}{sp:bO}{F:sp.pre.den->Option (sp.pre.den⊕gT sp.je)}{calls:List (Nat×List oZ)}{loops:List (Nat×List uU)}(mh:sp.ok=true)(hb:Aj fn=true)
  (hm:P.follows .mixedOrders=true) (hc:pE P base calls) (hl:oy P base fn loops) (hF: ∀d,vq P sp (rH calls loops) fn id d=F d):nC P base fn id sp F:=
 RZ mh (Gt hb id).1 (Gt hb id).2 hm (Bh hc) (Bi hl) hF
theorem ae:pE P base []:=λp hp=>by simp at hp
theorem db {i:Nat}{cs:List oZ}{l:List (Nat×List oZ)}(h1: ∀c∈cs,Ah P base i c)(h:pE P base l):pE P base ((i,cs)::l):=List.forall_mem_cons.2 ⟨h1,h⟩
theorem lF {i:Nat}{c:oZ}{cs:List oZ}(h1:c.sp.ok=true)(h2:ru P base i c.sp c.f)(h: ∀y∈cs,Ah P base i y): ∀y∈c::cs,Ah P base i y:=List.forall_mem_cons.2 ⟨⟨h1,h2⟩,h⟩
theorem nX {i:Nat}: ∀y∈([]:List oZ),Ah P base i y:=λp hp=>by simp at hp
theorem af {fn:Func}:oy P base fn []:=λp hp=>by simp at hp
theorem l7 {fn:Func}{i:Nat}{ls:List uU}{l:List (Nat×List uU)}(h1: ∀x∈ls,x.sp.ok=true/\nC P base fn i x.sp x.f)(h:oy P base fn l):oy P base fn ((i,ls)::l):=List.forall_mem_cons.2 ⟨h1,h⟩
theorem zax {fn:Func}{i:Nat}{x:uU}{ls:List uU}(h1:x.sp.ok=true)(h2:nC P base fn i x.sp x.f)(h: ∀y∈ls,y.sp.ok=true/\nC P base fn i y.sp y.f): ∀y∈x::ls,y.sp.ok=true/\nC P base fn i y.sp y.f:=List.forall_mem_cons.2 ⟨⟨h1,h2⟩,h⟩
theorem CD {fn:Func}{i:Nat}: ∀y∈([]:List uU),y.sp.ok=true/\nC P base fn i y.sp y.f:=λp hp=>by simp at hp
end AM
namespace AM
open Go
variable {α:Type}{P:Program}{base:Nat}
inductive Prim where
 |load (k:IntKind) (p:List Step)
 |add (k:IntKind) (p:List Step)
 |swap (k:IntKind) (p:List Step)
 |once (pd pm:List Step)
def Ao (st:St)(i:Nat)(q p:List Step)(off:Nat)(kd:IntKind)(k:Int->Option α):Option α:=
 st.get i q λu=>match decide (fG p u.sh=some off) with
  |true=>st.get i (q++p) λv=>(match v with
   | .val (.int k' x)=>(match decide (k'=kd) with|true=>k x|false=>none)
   |_=>none)
  |false=>none
def C5:AV->Option (FuncId×List AV)
 | .wZ (.func g) cs=>some (g,cs)
 | .Cz (.func g) cs=>some (g,cs)
 |_=>none
noncomputable def HZ (calls:List (Nat×List oZ))(pr:Prim)(args:List AV)(st:St)(fresh:Nat)(K:AV->St->Option α):Option α:=match pr,args with
 | .load kd p,[.ptr i q]=>Ao st i q p 0 kd λx=>K (.val (.int kd x)) st
 | .add kd p,[.ptr i q, .val (.int k' y)]=>(match decide (k'=kd) with
  |true=>Ao st i q p 0 kd λx=>st.store i (q++p) (.val (.int kd (wr kd (x+y)))) λfe=>K (.val (.int kd (wr kd (x+y)))) fe
  |false=>none)
 | .swap kd p,[.ptr i q, .val (.int k' y)]=>(match decide (k'=kd) with
  |true=>Ao st i q p 0 kd λx=>st.store i (q++p) (.val (.int kd y)) λfe=>K (.val (.int kd x)) fe
  |false=>none)
 | .once pd pm,[.ptr i q,cv]=>(match C5 cv with
  |none=>none
  |some (g,cs)=>Ao st i q pd 0 .u32 λd=>(match aa (d=0) with
  |false=>K (.AP []) st
  |true=>Ao st i q pm 1 .i32 λm=>(match aa (m=0) with
   |false=>none
   |true=>match st.store i (q++pm) (.val (.int .i32 1)) some,uI g calls with
    |some wQ,some c=>AZ cs wQ (OP cs wQ fresh c).2 fresh (λav HL=>(match av with
     | .AP []=>Ao HL i q pd 0 .u32 λ_=>Ao HL i q pm 1 .i32 λm2=>(match aa (m2=1) with
      |true=>HL.store i (q++pd) (.val (.int .u32 1)) λst3=>st3.store i (q++pm) (.val (.int .i32 0)) λst4=>K (.AP []) st4
      |false=>none)
     |_=>none)) c
    |_,_=>none)))
 |_,_=>none
noncomputable def H0 (calls:List (Nat×List oZ))(pr:Prim)(args:List AV)(st:St)(fresh:Nat):List Nat×List Nat:=match pr,args with
 | .load _ _,[.ptr i _]=>([i],[])
 | .add _ _,[.ptr i _,_]=>([],[i])
 | .swap _ _,[.ptr i _,_]=>([],[i])
 | .once _ pm,[.ptr i q,cv]=>(match C5 cv with
  |none=>([],[i])
  |some (g,cs)=>(match st.store i (q++pm) (.val (.int .i32 1)) some,uI g calls with
   |some wQ,some c=>((OP cs wQ fresh c).1,i::(OP cs wQ fresh c).2)
   |_,_=>([],[i])))
 |_,_=>([],[])
noncomputable def zh (vL:List (Nat×Prim))(calls:List (Nat×List oZ))(loops:List (Nat×List uU)):Env α where
 call f args st fresh k:=match uI f vL with
  |some pr=>HZ calls pr args st fresh k
  |none=>(rH calls loops).call f args st fresh k
 loop id st k:=(rH calls loops).loop id st k
 fp f args st fresh:=match uI f vL with
  |some pr=>H0 calls pr args st fresh
  |none=>(rH (α:=α) calls loops).fp f args st fresh
def R1 (P:Program)(f:FuncId):Prop:= ∃fn,P.funcs[f]?=some fn/\fn.body.isNone=false/\(fn.name== "runtime.NumGoroutine")=false
def zay (P:Program)(f:FuncId)(k:IntKind):Prop:=R1 P f/\∀(b o:Nat) (x:Int) (w:World),w.cell? ⟨b,o,none⟩=some (.int k x)->Calls P f #[.pointer (some ⟨b,o,none⟩)] w λe w'=>e= .returned (.int k x)/\w'=w
def zaz (P:Program)(f:FuncId)(k:IntKind):Prop:=R1 P f/\∀(b o:Nat) (x y:Int) (w:World),w.cell? ⟨b,o,none⟩=some (.int k x)->w.frozen? ⟨b,o,none⟩=false->
 Calls P f #[.pointer (some ⟨b,o,none⟩), .int k y] w λe w'=>e= .returned (.int k (k.wrap (x+y)))/\w'=w.setCell ⟨b,o,none⟩ (.int k (k.wrap (x+y)))
def Xk (P:Program)(f:FuncId):Prop:=R1 P f/\
 (∀(a:Addr) (d:Int),¬d=0->∀(fv:Value) (w:World),w.cell? a=some (.int .u32 d)->Calls P f #[.pointer (some a),fv] w λe w'=>e= .returned (.tuple #[])/\w'=w)/\
 (∀(b off:Nat) (g:FuncId) (first sH:Array Value) (Eb:World->Prop) (w:World),(∀w:World,(callFunc g (first++sH)).run P w= .ok (.enter g (first++sH)) w)->
  w.cell? ⟨b,off,none⟩=some (.int .u32 0)->w.cell? ⟨b,off+1,none⟩=some (.int .i32 0)->w.frozen? ⟨b,off+1,none⟩=false->
  (Calls P g (first++sH) (w.setCell ⟨b,off+1,none⟩ (.int .i32 1)) λe w'=>e= .returned (.tuple #[])/\Eb w'/\(∃x,w'.cell? ⟨b,off,none⟩=some x)/\w'.frozen? ⟨b,off,none⟩=false/\w'.cell? ⟨b,off+1,none⟩=some (.int .i32 1)/\w'.frozen? ⟨b,off+1,none⟩=false)->
  Calls P f #[.pointer (some ⟨b,off,none⟩), .func (.func g) first sH] w λe w'=>e= .returned (.tuple #[])/\∃w1,Eb w1/\w'=(w1.drew.setCell ⟨b,off,none⟩ (.int .u32 1)).setCell ⟨b,off+1,none⟩ (.int .i32 0))
theorem yr: ∀(q p:List Step) (sh t:Sh) (o o':Nat),fG q sh=some o->zC q sh=some t->fG p t=some o'->fG (q++p) sh=some (o+o')
 | [],p,sh,t,o,o',h1,h2,h3=>by
  simp only[fG,zdT] at h1;simp only[zC,zdT] at h2;subst h1;subst h2;rw[zeN,h3,zeC]
 | .ir n::q,p, .agg l,t,o,o',h1,h2,h3=>by
  simp only[zes,fG,zC] at h1 h2⊢;cases hl:l[n]? with
  |none=>simp[hl] at h1
  |some s=>
   simp only[hl] at h1 h2⊢;cases hq:fG q s with
   |none=>simp[hq] at h1
   |some o1=>
    simp only[hq,zd2,zdT] at h1;rw[yr q p s t o1 o' hq h2 h3];simp only[zd2,zdT];omega
 | .idx i::q,p, .arr n e,t,o,o',h1,h2,h3=>by
  simp only[zes,fG,zC] at h1 h2⊢;split at h1
  ·rename_i hi
   rw[if_pos hi];cases hq:fG q e with
   |none=>simp[hq] at h1
   |some o1=>
    simp only[hq,zd2,zdT] at h1;rw[yr q p e t o1 o' hq h2 h3];simp only[zd2,zdT];omega
  ·cases h1
 | .ir n::q,p, .one,t,o,o',h1,h2,h3=>by simp[fG] at h1
 | .ir n::q,p, .arr _ _,t,o,o',h1,h2,h3=>by simp[fG] at h1
 | .idx i::q,p, .one,t,o,o',h1,h2,h3=>by simp[fG] at h1
 | .idx i::q,p, .agg _,t,o,o',h1,h2,h3=>by simp[fG] at h1
theorem U1 {N:Names}{D:Nat->Prop}{w:World}{s:St}(S:jX N D w base s.h){i:Nat}{q p:List Step}{t:Sh}{nm:Nm}{o o':Nat}(hn:N i=some nm)(hs:s.shape i q=some t)(ho:nm.off q=some o)(hp:fG p t=some o'):nm.off (q++p)=some (o+o'):=by
 unfold St.shape at hs;split at hs
 ·rename_i v hv
  obtain⟨mG,a,e1,_,e3,e4,_⟩:=S.obj i _ hv;rw[hn] at e1;cases e1;have key: ∀x:List Step,nm.off x=fG x nm.sh:=λx=>by unfold Nm.off;split<;>simp[e3]
  rw[key] at ho⊢;rw[e4] at ho⊢;exact yr q p _ t o o' ho hs hp
 ·rename_i ro ty xs hv
  obtain⟨mG,e1,e2,e3,_⟩:=S.obj i _ hv;rw[hn] at e1;cases e1;split at hs
  ·rename_i j q'
   simp only[zes,Nm.off,e2,if_true] at ho⊢;split at ho
   ·rename_i hj
    rw[if_pos hj];cases hq:fG q' nm.sh with
    |none=>simp[hq] at ho
    |some o1=>
     simp only[hq,zd2,zdT] at ho;rw[yr q' p nm.sh t o1 o' hq (by rw[e3];exact hs) hp]
     simp only[zd2,zdT];omega
   ·cases ho
  ·cases hs
 ·cases hs
theorem sI {st:St}{i:Nat}{q p:List Step}{off:Nat}{kd:IntKind}{k:Int->Option α}{r:α}(h:Ao st i q p off kd k=some r):
  ∃x,k x=some r/\∀N D w,jX N D w base st.h->∀nm a o,N i=some nm->nm.base=some a->nm.off q=some o->a.spot=none/\nm.off (q++p)=some (o+off)/\w.cell? ⟨a.block,a.off+o+off,none⟩=some (.int kd x):=by
 unfold Ao at h;obtain⟨u,h1,h2,_⟩:=pB h;split at h1
 ·rename_i nV
  simp only[zd1] at nV;obtain⟨v,h4,h5,h6⟩:=pB h1;split at h4
  ·rename_i k' x
   split at h4
   ·rename_i hk
    simp only[zd1] at hk;subst hk;refine⟨x,h4,λN D w S nm a o hn hb ho=>?_⟩;have ho2:=U1 S hn h2 ho nV;obtain⟨g1,g2,_⟩:=h6 N D w base S nm a _ hn hb ho2;refine⟨g1,ho2,?_⟩;simp only[aq,aZ] at g2;rw[show a.off+(o+off+0)=a.off+o+off by omega] at g2
    exact g2
   ·cases h4
  ·cases h4
 ·cases h1
theorem JE {N:Names}{D:Nat->Prop}{w:World}(k:IntKind)(x:Int):cw N D w (.val (.int k x)) (.int k x):=ek.2 rfl
theorem Pv (k:IntKind)(x:Int):(AV.val (.int k x)).size=1:=rfl
theorem C6 {s:St}{i:Nat}{p:List Step}{kd:IntKind}{x:Int}{k:St->Option α}{r:α}(h:s.store i p (.val (.int kd x)) k=some r):
  ∃s',k s'=some r/\s'.t=s.t/\s'.nt=s.nt/\s'.ep=s.ep/\(∀j,j≠i->s'.h j=s.h j)/\∀N D w,jX N D w base s.h->∀nm a o,N i=some nm->nm.base=some a->nm.off p=some o->
   w.frozen? ⟨a.block,a.off+o,none⟩=false/\(∃y,w.cell? ⟨a.block,a.off+o,none⟩=some y)/\∃D',jX N D' (w.setCell ⟨a.block,a.off+o,none⟩ (.int kd x)) base s'.h/\Ext N D w s.h N D' (w.setCell ⟨a.block,a.off+o,none⟩ (.int kd x)) s'.h:=by
 obtain⟨s',h1,h2,h3,h4,h5,h6⟩:=xE h rfl;refine⟨s',h1,h2,h3,h4,λj hj=>h5 j hj (by simp[AV.ids]),λN D w S nm a o hn hb ho=>?_⟩
 obtain⟨g1,⟨cs,ty,fz,g2,g3,g4⟩,D',g5,g6⟩:=h6 N D w base S nm a o (.int kd x) hn hb ho (JE kd x);rw[Pv] at g4;have hc:=iZ g2 (o:=a.off+o) (by omega)
 refine⟨wb g2 g3 (by omega),Option.isSome_iff_exists.1 hc,D',?_⟩
 exact⟨g5,g6⟩
theorem H2 {N:Names}{D:Nat->Prop}{w:World}{i:Nat}{q:List Step}{l:List AV}{lN:List Value}(h:bF N D w (.ptr i q::l) lN): ∃nm a o rest,N i=some nm/\nm.base=some a/\nm.off q=some o/\lN= .pointer (some ⟨a.block,a.off+o,none⟩)::rest/\bF N D w l rest:=by
 simp only[bF] at h;obtain⟨c,cs,rfl,h1,h2⟩:=h;obtain⟨nm,a,o,g1,g2,g3,g4⟩:=ju.1 h1;exact⟨nm,a,o,cs,g1,g2,g3,by rw[g4];rfl,h2⟩
def H3 (P:Program)(base:Nat)(calls:List (Nat×List oZ))(f:FuncId)(pr:Prim):Prop:= ∀(α:Type) (args:List AV) (st:St) (fresh:Nat) (k:AV->St->Option α) (r:α),fresh%100=0->HZ calls pr args st fresh k=some r->
 ∃av fe,k av fe=some r/\xO P base (H0 calls pr args st fresh).2 f args st fresh av fe
theorem U2 {N:Names}{D:Nat->Prop}{w:World}{k:IntKind}{y:Int}{rest:List Value}(h:bF N D w [.val (.int k y)] rest):rest=[.int k y]:=by
 simp only[bF] at h;obtain⟨c,cs,rfl,h1,rfl⟩:=h;rw[ek.1 h1]
theorem R3 {calls:List (Nat×List oZ)}{f:FuncId}{kd:IntKind}{p:List Step}(hw:zaz P f kd):H3 P base calls f (.add kd p):=by
 intro α args st fresh k r _ h;unfold HZ at h;split at h<;>first|(rename_i heq;cases heq)|skip
 all_goals first|cases h|skip
 rename_i i q k' y;split at h
 ·rename_i hk
  simp only[zd1] at hk;subst hk;obtain⟨x,h1,h2⟩:=sI (base:=base) h;obtain⟨fe,h3,h4,h5,h6,h7,h8⟩:=C6 (base:=base) h1;refine⟨_,_,h3,hw.1,h4,h5,h6,λj hj _=>h7 j (λe=>hj (by subst e;simp[H0])),λN D w S lN hc=>?_⟩
  obtain⟨nm,a,o,rest,g1,g2,g3,rfl,g5⟩:=H2 hc;rw[U2 g5];obtain⟨_,nV,JF⟩:=h2 N D w S nm a o g1 g2 g3;rw[zeM] at nV JF;obtain⟨z1,_,D',z2,z3⟩:=h8 N D w S nm a o g1 g2 nV;refine(hw.2 _ _ _ _ _ JF z1).mono λe w' he=>?_;obtain⟨rfl,rfl⟩:=he;rw[<-pI];exact⟨N,D',z3,z2,JE _ _⟩
 ·cases h
end AM
namespace AM
open Go
variable {α:Type}{P:Program}{base:Nat}
theorem jX.drew {N:Names}{D:Nat->Prop}{w:World}{h:Nat->Option fO}(S:jX N D w base h):jX N D w.drew base h/\Ext N D w h N D w.drew h:=
 ⟨⟨λi o hi=>nO (S.obj i o hi) (Names.le_refl _) (λ_ h=>h) (λ_ _=>rfl) (λ_ _=>⟨rfl,λh=>h⟩) (λ_ _ _ _=>rfl),S.apart,S.frozen,S.named,S.size,S.iK⟩,
  Names.le_refl _,λ_ h=>h,rfl,rfl,rfl,zd9 _,λ_ _ _=>rfl,λ_ _ h=>h,λ_ h=> .inl h,λ_ _ h=> .inl h,λ_ h=>h,λ_ h=>⟨h,λ_=>rfl⟩⟩
theorem JG {N:Names}{D:Nat->Prop}{w:World}{cv:AV}{g:FuncId}{cs:List AV}{c:Value}(h:C5 cv=some (g,cs))(hv:cw N D w cv c): ∃first sH:Array Value,c= .func (.func g) first sH/\bF N D w cs (first++sH).toList:=by
 unfold C5 at h;split at h
 ·cases h
  unfold cw at hv;simp only[AV.isAgg,jz,aq] at hv;obtain⟨cc,q1,q2⟩:=hv;simp only[zdT] at q1;exact⟨#[],cc,q1,by simpa using q2⟩
 ·cases h
  unfold cw at hv;simp only[AV.isAgg,jz,aq] at hv;obtain⟨cc,q1,q2⟩:=hv;simp only[zdT] at q1;exact⟨cc,#[],q1,by simpa using q2⟩
 ·cases h
theorem Gv {calls:List (Nat×List oZ)}{f:FuncId}{pd pm:List Step}(hw:Xk P f)(yB:pE P base calls):H3 P base calls f (.once pd pm):=by
 intro α args st fresh k r xc h;unfold HZ at h;split at h<;>first|(rename_i heq;cases heq)|skip
 all_goals first|cases h|skip
 rename_i i q cv;split at h
 ·cases h
 rename_i g cs hcv;obtain⟨d,h1,h2⟩:=sI (base:=base) h;split at h1
 ·rename_i hd
  have hd0: ¬d=0:=λe=>by rw[kR.2 e] at hd;cases hd
  refine⟨_,_,h1,hw.1,rfl,rfl,rfl,λ_ _ _=>rfl,λN D w S lN hc=>?_⟩;obtain⟨nm,a,o,rest,g1,g2,g3,rfl,g5⟩:=H2 hc;obtain⟨c1,Yp,rfl,_,hr⟩: ∃c1 Yp,rest=c1::Yp/\cw N D w cv c1/\bF N D w [] Yp:=by unfold bF at g5;exact g5
  simp only[bF] at hr;subst hr;obtain⟨_,_,JF⟩:=h2 N D w S nm a o g1 g2 g3;rw[zeM] at JF;refine(hw.2.1 _ d hd0 c1 w JF).mono λe w' he=>?_;obtain⟨rfl,rfl⟩:=he;exact⟨N,D,Ext.refl _ _ _ _,S,lM.2 ⟨#[],rfl,by simp only[bF]⟩⟩
 ·rename_i hd
  have hd0:=kR.1 hd;subst hd0;obtain⟨m,h3,h4⟩:=sI (base:=base) h1;split at h3
  ·cases h3
  rename_i hm;have hm0:=kR.1 hm;subst hm0;split at h3
  ·rename_i wQ c zaA hc
   obtain⟨s',e1,t1,t2,t3,t4,t5⟩:=C6 (base:=base) zaA;cases e1;obtain⟨av,HL,h5,rJ⟩:=wy xc c (yB _ (vK hc)) h3;obtain⟨⟨fn,f1,f2,f3⟩,c1,c2,c3,c4,c5⟩:=rJ;split at h5
   ·obtain⟨d2,h6,h7⟩:=sI (base:=base) h5
    obtain⟨m2,h8,h9⟩:=sI (base:=base) h6;split at h8
    ·rename_i hm2
     have zcg:=kR.1 hm2;subst zcg;obtain⟨st3,F7,u1,u2,u3,u4,u5⟩:=C6 (base:=base) h8;obtain⟨st4,Nl,v1,v2,v3,v4,v5⟩:=C6 (base:=base) F7;refine⟨_,_,Nl,hw.1,by rw[v1,u1,c1,t1],by rw[v2,u2,c2,t2],by rw[v3,u3,c3,t3],λj hj XU=>?_,λN D w S lN hcr=>?_⟩
     ·simp only[H0,hcv,zaA,hc,zex,not_or] at hj
      rw[v4 j hj.1,u4 j hj.1,c4 j hj.2 XU,t4 j hj.1]
     ·obtain⟨nm,a,o,rest,g1,g2,g3,rfl,g5⟩:=H2 hcr
      obtain⟨cl,Yp,rfl,IV,hr⟩: ∃c1 Yp,rest=c1::Yp/\cw N D w cv c1/\bF N D w [] Yp:=by unfold bF at g5;exact g5
      simp only[bF] at hr;subst hr;obtain⟨first,sH,rfl,q2⟩:=JG hcv IV;obtain⟨_,zaB,RD⟩:=h2 N D w S nm a o g1 g2 g3;obtain⟨_,zaC,hcm⟩:=h4 N D w S nm a o g1 g2 g3;rw[zeM] at zaB RD;obtain⟨z1,_,D1,S1,X1⟩:=t5 N D w S nm a (o+1) g1 g2 zaC;rw[<-zd8] at z1 S1 X1;have hg: ∀w:World,(callFunc g (first++sH)).run P w= .ok (.enter g (first++sH)) w:=by
       intro w;simp only[callFunc,zee,run_program,zef,f1,f3,f2,zdU,if_false,zeg]
      have hq2:bF N D1 (w.setCell ⟨a.block,a.off+o+1,none⟩ (.int .i32 1)) cs (first++sH).toList:=pz X1.names X1.frozen (X1.Jb S) _ _ q2;have yk:=c5 N D1 _ S1 (first++sH).toList hq2;refine(hw.2.2 a.block (a.off+o) g first sH (λw1=> ∃N' D',Ext N D w st.h N' D' w1 HL.h/\jX N' D' w1 base HL.h) w hg RD hcm z1 (yk.mono λe w1 he=>?_)).mono λe w' he=>?_
      ·cases e with
       |returned v=>
        obtain⟨N',D',x2,s2,hv⟩:=he;obtain⟨l,rfl,hl⟩:=lM.1 hv;simp only[bF] at hl;obtain rfl:l= #[]:=by apply Array.ext';simpa using hl
        have U3:=x2.names i nm g1;obtain⟨_,Ec,zaD⟩:=h7 N' D' w1 s2 nm a o U3 g2 g3;obtain⟨_,LR,zch⟩:=h9 N' D' w1 s2 nm a o U3 g2 g3;rw[zeM] at Ec zaD;obtain⟨y1,_,D3,S3,X3⟩:=u5 N' D' w1 s2 nm a o U3 g2 Ec;refine⟨rfl,⟨N',D',X1.trans x2,s2⟩,⟨_,zaD⟩,y1,zch,?_⟩;obtain⟨y2,_,_⟩:=v5 N' D3 _ S3 nm a (o+1) U3 g2 LR;rw[<-zd8] at y2;rw[World.frozen?_setCell] at y2;exact y2
       |panicked c=>exact he.elim
       |outgrown=>exact he.elim
      ·obtain⟨rfl,w1,⟨N',D',x2,s2⟩,rfl⟩:=he
       have U3:=x2.names i nm g1;obtain⟨_,Ec,_⟩:=h7 N' D' w1 s2 nm a o U3 g2 g3;obtain⟨_,LR,_⟩:=h9 N' D' w1 s2 nm a o U3 g2 g3;rw[zeM] at Ec;obtain⟨s3,x3⟩:=s2.drew;obtain⟨_,_,D3,S3,X3⟩:=u5 N' D' _ s3 nm a o U3 g2 Ec;obtain⟨_,_,D4,S4,X4⟩:=v5 N' D3 _ S3 nm a (o+1) U3 g2 LR;rw[<-zd8] at S4 X4;exact⟨N',D4,((x2.trans x3).trans X3).trans X4,S4,lM.2 ⟨#[],rfl,by simp only[bF]⟩⟩
    ·cases h8
   ·cases h5
  ·cases h3
def Ap (P:Program)(base:Nat)(calls:List (Nat×List oZ))(vL:List (Nat×Prim)):Prop:= ∀p∈vL,H3 P base calls p.1 p.2
theorem LS {vL:List (Nat×Prim)}{calls:List (Nat×List oZ)}{loops:List (Nat×List uU)}(hp:Ap P base calls vL)(h:pE P base calls):sC P base (zh (α:=α) vL calls loops):=by
 intro f args st fresh k r xc hc;simp only[zh] at hc⊢;cases hf:uI f vL with
 |none=>rw[hf] at hc;exact Bh h f args st fresh k r xc hc
 |some pr=>rw[hf] at hc;exact hp _ (vK hf) α args st fresh k r xc hc
theorem LU {fn:Func}{vL:List (Nat×Prim)}{calls:List (Nat×List oZ)}{loops:List (Nat×List uU)}(h:oy P base fn loops):xQ P base fn (zh (α:=α) vL calls loops):=λid st k r hc=>Bi (calls:=calls) h id st k r hc
theorem Ed {f:FuncId}{fn:Func}{sp:al}{F:sp.pre.den->Option (gT sp.je)}{vL:List (Nat×Prim)}{calls:List (Nat×List oZ)}{loops:List (Nat×List uU)}(h1:P.funcs[f]?=some fn)(h2:(fn.name== "runtime.NumGoroutine")=false)(h3:R0 fn sp=true)
  (hm:P.follows .mixedOrders=true) (hp:Ap P base calls vL) (hc:pE P base calls) (hl:oy P base fn loops) (hF: ∀d,qh P sp (zh vL calls loops) fn d=F d):ru P base f sp F:=
 RY (JA.of h1 h2 h3) hm (LS hp hc) (LU hl) hF
theorem Bl {calls:List (Nat×List oZ)}:Ap P base calls []:=λp hp=>by simp at hp
theorem zi {calls:List (Nat×List oZ)}{p:Nat×Prim}{l:List (Nat×Prim)}(h1:H3 P base calls p.1 p.2)(h:Ap P base calls l):Ap P base calls (p::l):=List.forall_mem_cons.2 ⟨h1,h⟩
end AM
