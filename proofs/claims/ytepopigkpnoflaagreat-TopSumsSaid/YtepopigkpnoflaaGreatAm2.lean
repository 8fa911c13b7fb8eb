/- An abstract machine over programs of the model, and its soundness: what it tells of a function, the model's machine does, continued. Conditions: none. -/
import Derived.Laws.Tables
import Derived.Great.BuildSlice
import Derived.Laws.StructEq
import Derived.ChangeKeysEq
import Derived.Orders
import Derived.LoopN
import Derived.Test.YtepopigkpnoflaaGreatAm1
set_option linter.unusedVariables false
set_option linter.unusedSimpArgs false
namespace AM
open Go
variable {α:Type}{P:Program}{base:Nat}
theorem R8 {dst ty pos after guard}{x:Operand}{args:Array Operand}{tys:Array TypeId}{t:TypeId}{Bo:List TypeId}{st:St}{k:AV->St->Option α}{r:α}(ha:args.toList=[x])(ht:tys.toList=t::Bo)
  (h:(match st.ev x with| .val (.slice none 0 0)=>(match np P t with|true=>k (.val (.int .i64 0)) st|false=>none)|_=>none)=some r):ow P base ⟨dst, .call ⟨.builtin .cap,args,tys⟩,ty,pos,after,guard⟩ st k r:=by
 have nH:args= #[x]:=by cases args;simp at ha;subst ha;rfl
 have Ah:tys[0]?=some t:=by cases tys;simp at ht;subst ht;simp
 subst nH;split at h
 ·rename_i e1
  split at h
  ·rename_i hs
   obtain⟨e,hu⟩:=sv hs;refine⟨_,_,h,lE.pure λN D w a s=>⟨.int .i64 0,?_,eE.2 rfl⟩⟩;simp[execOp,resolve,invoke,builtin,Builtin.cap_,Ah,s.s8 e1,run_underlying hu,goInt]
  ·cases h
 ·cases h
theorem R9 {dst ty pos after guard}{x y:Operand}{args:Array Operand}{tys:Array TypeId}{st:St}{k:AV->St->Option α}{r:α}(ha:args.toList=[x,y])
  (h:(match st.ev x,st.ev y with| .val (.int ka a), .val (.int kb b)=>(if ka=kb then k (.val (.int ka (sZ a b))) st else none)|_,_=>none)=some r):ow P base ⟨dst, .call ⟨.builtin .min,args,tys⟩,ty,pos,after,guard⟩ st k r:=by
 have nH:args= #[x,y]:=by cases args;simp at ha;subst ha;rfl
 subst nH;split at h
 ·rename_i ka a kb b e1 e2
  split at h
  ·rename_i hk
   subst hk;refine⟨_,_,h,lE.pure λN D w act s=>⟨.int ka (sZ a b),?_,eE.2 rfl⟩⟩;by_cases hc:b<a<;>simp[execOp,resolve,invoke,builtin,Builtin.min_,Builtin.min2,s.s8 e1,s.s8 e2,sZ,k0,hc]
  ·cases h
 ·cases h
theorem Sa {dst ty pos after guard}{x y:Operand}{args:Array Operand}{tys:Array TypeId}{st:St}{k:AV->St->Option α}{r:α}(ha:args.toList=[x,y])
  (h:(match st.ev x,st.ev y with| .val (.int ka a), .val (.int kb b)=>(if ka=kb then k (.val (.int ka (imax a b))) st else none)|_,_=>none)=some r):ow P base ⟨dst, .call ⟨.builtin .max,args,tys⟩,ty,pos,after,guard⟩ st k r:=by
 have nH:args= #[x,y]:=by cases args;simp at ha;subst ha;rfl
 subst nH;split at h
 ·rename_i ka a kb b e1 e2
  split at h
  ·rename_i hk
   subst hk;refine⟨_,_,h,lE.pure λN D w act s=>⟨.int ka (imax a b),?_,eE.2 rfl⟩⟩;by_cases hc:b>a<;>simp[execOp,resolve,invoke,builtin,Builtin.max_,Builtin.max2,s.s8 e1,s.s8 e2,imax,k0,hc]
  ·cases h
 ·cases h
theorem Ee: ∀(l:List Int) (r:ByteArray),l.foldl (λr n=>r.push (UInt8.ofNat n.toNat)) r=⟨r.data++(l.map λn=>n.toNat.toUInt8).toArray⟩
 | [],r=>by simp
 |n::l,r=>by
  simp only[zeP];rw[Ee l];simp[ByteArray.push]
theorem Sb (b:ByteArray):(b.data.toList.map λc=>((c.toNat:Nat):Int)).length=b.size:=by simp
theorem Gf (b:ByteArray)(c:Nat)(h:b.size<=c):(bytesRow b c).size=c:=by
 have e:b.data.size=b.size:=rfl;simp[bytesRow,e];omega
theorem Mb (w:World)(ba:Addr)(xs:List Int)(cap:Nat)(h:xs.length≠0->ba.spot=none/\∀j y,xs[j]?=some y->w.cell? ⟨ba.block,ba.off+j,none⟩=some (.int .u8 y)):
  (Conv.bytesToString (.slice (some ba) xs.length cap)).run P w= .ok (.string (uO xs)) w:=by
 have uk:(loadCells ba xs.length).run P w= .ok (xs.map (Value.int .u8)).toArray w:=by
  have:=run_loadCells_list (P:=P) w ba (xs.map (Value.int .u8)) λj v hv=>by
   rw[zeM,zeC] at hv;obtain⟨y,hy,rfl⟩:=hv;have mb:xs.length≠0:=by
    have:=(List.getElem?_eq_some_iff.1 hy).1;omega
   obtain⟨f1,f2⟩:=h mb;have:=f2 j y hy;obtain⟨bb,oo,sp⟩:=ba;simp only at f1;subst f1;rw[oH];exact this
  rwa [zeQ] at this
 rw[run_bytesToString w ba _ cap _ uk,Ee];simp[uO]
theorem Mc {w:World}{b:Nat}{c:Array Value}{ty:TypeId}{fz:Nat×Nat}(h:w.heap[b]?=some (.cells c ty fz)):
  (w.freeze ⟨b,c.size,none⟩ 1).heap[b]?=some (.cells c ty (if fz.1==fz.2 then(c.size,c.size+1) else(min fz.1 c.size,max fz.2 (c.size+1))))/\∀b',b'≠b->(w.freeze ⟨b,c.size,none⟩ 1).heap[b']?=w.heap[b']?:=by
 constructor
 ·simp[World.freeze,zem,h]
 ·intro b' hb
  simp[World.freeze,zem];intro e;exact absurd e.symm hb
theorem H7 {dst ty pos after guard}{src dt:TypeId}{x:Operand}{st:St}{id:Nat}(oT:id=name st.ep (dst.getD 999) 0){k:AV->St->Option α}{r:α}(h:Bc P st id src dt (st.ev x) k=some r):ow P base ⟨dst, .convert src dt x,ty,pos,after,guard⟩ st k r:=by
 unfold Bc at h;split at h
 ·rename_i ki n e1
  split at h
  ·rename_i ks kd h1 h2
   refine⟨_,_,h,lE.pure λN D w a s=>⟨_,?_,eE.2 rfl⟩⟩;simp[execOp,s.s8 e1,Go.convert,run_underlying h1,run_underlying h2,Conv.intToInt,pU]
  ·cases h
 ·rename_i b e1
  split at h
  ·rename_i h1 h2
   refine⟨_,_,h,lE.pure λN D w a s=>⟨_,?_,eE.2 rfl⟩⟩;simp[execOp,s.s8 e1,Go.convert,run_underlying h1,run_underlying h2]
  ·rename_i e h1 h2
   split at h
   ·rename_i h3
    obtain⟨h4,h5⟩:=Ak h;refine⟨_,_,h5,rfl,rfl,rfl,λj _ hj=>by
     have:j≠id:=λe=>by subst e;subst oT;simp[qI,makes,ru] at hj
     simp[St.set,this],λN D w a s=>?_⟩
    have jT:=run_bytes_of_string (P:=P) w src dt e b h1 h2 h3;have rZ:=grownCap_ge w b.size 0 e;have hl:aM (β:=(Ty.int .u8).den) (b.data.toList.map λc=>((c.toNat:Nat):Int))=b.size:=by
     exact Sb b
    obtain⟨N',n1,n2,n3⟩:=s.nG.H3 (t:= .int .u8) (xs:=(b.data.toList.map λc=>((c.toNat:Nat):Int))) h4 w.drew (bytesRow b (grownCap w b.size 0 e)) e ((bytesRow b (grownCap w b.size 0 e)).size,(bytesRow b (grownCap w b.size 0 e)).size+1) (grownCap w b.size 0 e) rfl rfl rfl rfl (by rw[hl];exact rZ)
     (by rw[Gf _ _ rZ];simp[Ty.size]) (.inr ⟨zd2 _,rfl⟩) ((GL b).congr λj hj=>by
      rw[hl] at hj;simp only[Ty.size,zeO] at hj;have Ch:j<b.data.size:=hj;rw[bytesRow_at b _ j Ch];simp only[zeM,Array.getElem?_toList,zeo Ch,zdV])
    rw[hl] at n3;refine⟨N',D,_,_, .inl ?_,by rw[St.tz];exact n2,by rw[St.tz];exact n1,n3⟩
    simp only[execOp,s.s8 e1,zd7,jT,zd8,zd9]
   ·cases h
  ·cases h
 ·split at h
  ·rename_i e h1 h2
   split at h
   ·rename_i h3
    obtain⟨xs,ids,h4,h5⟩:=uU h;refine⟨_,_,h4,lE.pure λN D w a s=>⟨_,?_,eE.2 rfl⟩⟩;obtain⟨ba,cap,g1,g2,g3,g4⟩:=h5 N D w base s.nG _ (s.F6 x);simp only[execOp,g1,zd7,run_convert_bytes_string w src dt e ba _ cap h1 h3 h2];cases ba with
    |none=>
     have:=g3 rfl;have L5:xs=[]:=zef (by simp only[aM] at g2;omega)
     subst L5;simp[Conv.bytesToString,uO];rfl
    |some ba=>
     have hb:=Mb (P:=P) w ba xs cap λmb=>⟨(g4 ba rfl mb).1,λj y hy=>by
      have h9:aX w ba (j*1+0)=some (.int .u8 y):=(g4 ba rfl mb).2 j y hy;simpa [aX] using h9⟩
     exact(congrArg (λq:Result Value=>q.andThen λa w'=>(pure (Next.value a):Sem Next).run P w') hb)
   ·cases h
  ·rename_i e0 e h1 h2
   split at h
   ·rename_i j off h3 Md hv
    simp only[zdU] at Md;subst Md;split at h
    ·rename_i xs ho
     split at h
     ·rename_i lj
      simp only[zdU] at lj;refine⟨_,_,h,rfl,rfl,rfl,λ_ _ _=>rfl,λN D w a s=>?_⟩;have hr:=s.uI hv;have Lr:=hr;unfold cp at hr;simp only[AV.isAgg,jJ,an] at hr;obtain⟨nm,n1,n2,n3,n4,n5⟩:=hr;obtain⟨mN,o1,o2,o3,o4,o5,o6⟩:=s.nG.obj j _ ho;rw[n1] at o1;cases o1;cases hb:nm.base with
      |none=>
       rw[hb] at n5;have:=n5.1;simp only[aM] at o4;omega
      |some ad=>
       rw[hb] at n5 o6;obtain⟨v,rm,g1,g2,a2,cap,g3,g4,g5,g6⟩:=n5;simp only[aM] at o4;have ha2:a2=Addr.at_ ad (off*nm.sh.size):=by
        rcases g6 with g6|g6
        ·exact g6
        ·omega
       subst ha2;simp only[zdM] at g1;obtain⟨p1,⟨c,ty,fz,p2,p3,p4⟩,p5,p6⟩:=o6;obtain⟨z1,z2⟩:=Mc p2;have jT:(Go.convert src src (a.eval x)).run P w= .ok (a.eval x) (w.freeze ⟨ad.block,c.size,none⟩ 1):=by
        have yS:w.shape? ad.block=some (ty,c.size):=by unfold World.shape?;rw[p2]
        rw[g1,g3];rw[h1] at h2;cases h2;simp[Go.convert,run_underlying h1,run_underlying h3,markStringish,yS,Addr.at_]
       have zcC:kC st.h j (.row false (.int .u8) xs)=st.h:=by
        funext i
        simp only[kC];split
        ·rename_i e;subst e;exact ho.symm
        ·rfl
       have uk: ∀jj,aX (w.freeze ⟨ad.block,c.size,none⟩ 1) ad jj=aX w ad jj:=λjj=>by
        simp only[aX,World.cell?,z1,p2]
       obtain⟨W1,W2⟩:=s.nG.write (w':=w.freeze ⟨ad.block,c.size,none⟩ 1) (o':= .row false (.int .u8) xs) ho rfl n1 hb (by simp[World.freeze]) (by simp[World.freeze]) (by simp[World.freeze]) (by simp[World.freeze]) z2 (by
        refine⟨nm,n1,n2,o3,o4,o5,?_⟩;rw[hb];refine⟨p1,⟨c,ty,_,z1,p3,λOl=>?_⟩,p5,λi y hy=>?_⟩
        ·right
         refine⟨?_,rfl⟩;rcases(p4 Ol).imp_right And.left with e|e
         ·rw[e];simp
         ·obtain⟨lo,hi⟩:=fz
          simp only at e⊢;split
          ·exact zd2 _
          ·simp only;omega
        ·have hD: ∀b,D b->(w.freeze ⟨ad.block,c.size,none⟩ 1).heap[b]?=w.heap[b]?:=λb vC=>z2 b λe=>by
          subst e;simp at p5;exact p5.2 vC
         have h9:=kK (Names.le_refl _) (λ_ h=>h) hD (.int .u8) y _ (p6 i y hy);have e:(λjj=>aX (w.freeze ⟨ad.block,c.size,none⟩ 1) ad (i*(Ty.int .u8).size+jj))=λjj=>aX w ad (i*(Ty.int .u8).size+jj):=by funext jj;exact uk _
         rw[e];exact h9)
       rw[zcC] at W1 W2;refine⟨N,D,_,a.eval x, .inl ?_,W2,W1,?_⟩
       ·simp only[execOp,zd7,jT,zd8,zd9]
       ·exact W2.val s.nG (by rw[<-hv];exact s.F6 x)
     ·cases h
    ·cases h
   ·cases h
  ·cases h
end AM
namespace AM
open Go
def part (h:Nat->Option gi)(F:Nat->Bool):Nat->Option gi:=λid=>if F id then h id else some .dead
def join (h h':Nat->Option gi)(W:Nat->Bool):Nat->Option gi:=λid=>if W id then h' id else h id
section
variable {N N':Names}{D D':Nat->Prop}{w w':World}{base:Nat}{h h':Nat->Option gi}{F W:Nat->Bool}
theorem Am {id b:Nat}{o:gi}(e:AM.part h F id=some o)(hr:jd N id o b):F id=true/\h id=some o:=by
 unfold AM.part at e;split at e
 ·exact⟨‹_›,e⟩
 ·cases e;exact hr.elim
theorem Ef {b:Nat}(ho:zr N (AM.part h F) b):zr N h b:=by
 obtain⟨id,o,h1,h2⟩:=ho;exact⟨id,o,(Am h1 h2).2,h2⟩
theorem kp.part (S:kp N D w base h)(F:Nat->Bool):kp N D w base (AM.part h F):=by
 refine⟨λid o e=>?_,λi j oi oj b hi hj ri rj=>S.apart i j oi oj b (Am hi ri).2 (Am hj rj).2 ri rj,S.frozen,λid nm hn=>?_,S.size,λg hg=>?_⟩
 ·unfold AM.part at e
  split at e
  ·exact S.obj id o e
  ·cases e;trivial
 ·unfold AM.part
  split
  ·exact S.named id nm hn
  ·simp
 ·unfold AM.part at hg
  split at hg
  ·exact S.iS g hg
  ·cases hg
theorem Bq (S:kp N D w base h){id b:Nat}{o:gi}(ho:h id=some o)(hr:jd N id o b)(hF:F id=false):
  ¬zr N (AM.part h F) b/\b<w.heap.size/\¬D b:=by
 refine⟨λhO=>?_,(S.px ho hr).2.2,(S.px ho hr).1⟩;obtain⟨id2,o2,h1,h2⟩:=hO;obtain⟨h6,h7⟩:=Am h1 h2;have:=S.apart id id2 o o2 b ho h7 hr h2;subst this;rw[hF] at h6;cases h6
theorem kp.um (S:kp N D w base h){id:Nat}{ep:List (Nat×aG)}{xs:List (cS ep)}(ho:h id=some (.store ep xs)):SB+(id-SB)=id:=by
 have:=S.obj id _ ho;simp only[qK,jr] at this;omega
theorem kp.join (S:kp N D w base h)(x:Ext N D w (AM.part h F) N' D' w' h')(S':kp N' D' w' base h')(hW: ∀id,W id=true->F id=true)(Jr: ∀id,F id=true->W id=false->h' id=AM.part h F id):
  kp N' D' w' base (AM.join h h' W)/\Ext N D w h N' D' w' (AM.join h h' W):=by
 have xF: ∀id,F id=true->AM.join h h' W id=h' id:=by
  intro id hF;unfold AM.join;cases hw:W id with
  |true=>simp
  |false=>rw[Jr id hF hw];simp[AM.part,hF]
 have jD: ∀id,F id=false->AM.join h h' W id=h id:=by
  intro id hF;unfold AM.join;cases hw:W id with
  |true=>rw[hW id hw] at hF;cases hF
  |false=>simp
 have vR: ∀id,F id=false->∀nm,N' id=some nm->N id=some nm:=by
  intro id hF nm hn;rcases x.fresh id nm hn with h1|h1
  ·exact h1
  ·unfold AM.part at h1;simp[hF] at h1
 have Me: ∀id,F id=false->N' id=N id:=by
  intro id hF;cases e:N' id with
  |some nm=>exact(vR id hF nm e).symm
  |none=>
   cases e':N id with
   |none=>rfl
   |some nm=>rw[x.names id nm e'] at e;cases e
 have Af: ∀g,F (SB+g)=false->∀k,N'.sub g k=N.sub g k:=λg hF=>(x.oT g (by simp[AM.part,hF])).2
 have hold: ∀id o b,F id=false->h id=some o->(jd N' id o b↔jd N id o b):=by
  intro id o b hF ho;by_cases kf: ∃ep xs,o= .store ep xs
  ·obtain⟨ep,xs,rfl⟩:=kf
   have e:=S.um ho;exact jd.names (Me id hF) (Af _ (by rw[e];exact hF))
  ·cases o with
   |dead=>exact Iff.rfl
   |void=>exact Iff.rfl
   |var v=>exact oG.eq (Me id hF)
   |row ro t xs=>
    cases ro with
    |true=>exact Iff.rfl
    |false=>exact oG.eq (Me id hF)
   |store ep xs=>exact absurd ⟨ep,xs,rfl⟩ kf
 have zaK: ∀b,b<w.heap.size->zr N' (AM.join h h' W) b->zr N h b:=by
  rintro b lj ⟨id,o,h1,h2⟩
  cases hF:F id with
  |true=>
   rw[xF id hF] at h1;exact Ef (x.own b lj ⟨id,o,h1,h2⟩)
  |false=>
   rw[jD id hF] at h1;exact⟨id,o,h1,(hold id o b hF h1).1 h2⟩
 have H8:=x.JH (S.part F);refine⟨⟨λid o e=>?_,?_,S'.frozen,λid nm hn=>?_,S'.size,λg hg=>?_⟩,⟨x.names,x.frozen,x.os,x.tape,x.output,x.size,λb hb ho=>x.s7 b hb (λna=>ho (Ef na)),zaK,λb hb=>?_,λi nm hn=>?_,λi hi=>?_,λg hg=>?_⟩⟩
 ·cases hF:F id with
  |true=>rw[xF id hF] at e;exact S'.obj id o e
  |false=>
   rw[jD id hF] at e;refine oc (S.obj id o e) x.names x.frozen H8 (λb hO=>?_) (λep xs eo=>?_)
   ·obtain⟨g1,g2,g3⟩:=Bq (F:=F) S e hO hF
    refine⟨x.s7 _ g2 g1,λ_ hd=>?_⟩;rcases x.JG _ hd with h1|h1|h1
    ·exact g3 h1
    ·exact g1 h1
    ·omega
   ·subst eo
    have e':=S.um e;exact Af _ (by rw[e'];exact hF)
 ·intro i j oi oj b hi hj ri rj
  cases YL:F i<;>cases YM:F j
  ·rw[jD i YL] at hi
   rw[jD j YM] at hj;exact S.apart i j oi oj b hi hj ((hold i oi b YL hi).1 ri) ((hold j oj b YM hj).1 rj)
  ·exfalso
   rw[jD i YL] at hi;rw[xF j YM] at hj;obtain⟨g1,g2,g3⟩:=Bq (F:=F) S hi ((hold i oi b YL hi).1 ri) YL;exact g1 (x.own _ g2 ⟨j,oj,hj,rj⟩)
  ·exfalso
   rw[xF i YL] at hi;rw[jD j YM] at hj;obtain⟨g1,g2,g3⟩:=Bq (F:=F) S hj ((hold j oj b YM hj).1 rj) YM;exact g1 (x.own _ g2 ⟨i,oi,hi,ri⟩)
  ·rw[xF i YL] at hi
   rw[xF j YM] at hj;exact S'.apart i j oi oj b hi hj ri rj
 ·cases hF:F id with
  |true=>rw[xF id hF];exact S'.named id nm hn
  |false=>rw[jD id hF];exact S.named id nm (vR id hF nm hn)
 ·cases hF:F (SB+g) with
  |true=>rw[xF _ hF] at hg;exact S'.iS g hg
  |false=>
   rw[jD _ hF] at hg;exact λk=>(Af g hF k).trans (S.iS g hg k)
 ·rcases x.JG b hb with h1|h1|h1
  ·exact .inl h1
  ·exact .inr (.inl (Ef h1))
  ·exact .inr (.inr h1)
 ·rcases x.fresh i nm hn with h1|h1
  ·exact .inl h1
  ·right
   unfold AM.part at h1;split at h1
   ·exact h1
   ·cases h1
 ·cases hF:F i with
  |true=>
   rw[xF i hF] at hi;have:=x.live i hi;simpa [AM.part,hF] using this
  |false=>rw[jD i hF] at hi;exact hi
 ·cases hF:F (SB+g) with
  |true=>
   rw[xF _ hF];exact x.oT g (by simp[AM.part,hF,hg])
  |false=>
   rw[jD _ hF];exact⟨hg,Af g hF⟩
end
end AM
namespace AM
open Go
variable {α:Type}{P:Program}{base:Nat}
def Br:List AV->List (Nat×AV)->List AV->Prop
 |l,[],l'=>l'=l
 |l,(i,u)::ps,l'=>(∃v,l[i]?=some v/\u.size=v.size)/\Br (l.set i u) ps l'
def GN (N:Names)(D:Nat->Prop)(w:World):List (Nat×AV)->List (Nat×Value)->Prop
 | [],cs=>cs=[]
 |p::ps,cs=> ∃c tS,cs=(p.1,c)::tS/\c.cells.size=p.2.size/\an N D w p.2 (c.cells[·]?)/\GN N D w ps tS
theorem GO (off:Nat): ∀(l:List Value) (k:Nat) (cells:Array Value),off+k+l.length<=cells.size->
  ((l.zipIdx k).foldl (λcs (c,j)=>cs.setIfInBounds (off+j) c) cells).size=cells.size/\
  ∀j,((l.zipIdx k).foldl (λcs (c,j)=>cs.setIfInBounds (off+j) c) cells)[j]?=if off+k<=j/\j<off+k+l.length then l[j-(off+k)]? else cells[j]?
 | [],k,cells,_=>⟨rfl,λj=>by simp;intro h1 h2;omega⟩
 |c::l,k,cells,h=>by
  simp only[List.zipIdx_cons,zeP];simp only[zdQ] at h;obtain⟨h1,h2⟩:=GO off l (k+1) (cells.setIfInBounds (off+k) c) (by simp;omega)
  refine⟨by rw[h1];simp,λj=>?_⟩
  rw[h2 j];by_cases e:j=off+k
  ·subst e
   rw[if_neg (by omega),if_pos (by simp)]
   simp[show off+k<cells.size by omega]
  ·by_cases e2:off+(k+1)<=j/\j<off+(k+1)+l.length
   ·rw[if_pos e2,if_pos (by simp only[zdQ];omega),show j-(off+k)=(j-(off+(k+1)))+1 by omega,List.getElem?_cons_succ]
   ·rw[if_neg e2,if_neg (by simp only[zdQ];omega),Array.getElem?_setIfInBounds_ne (by omega)]
theorem GP: ∀(l:List AV) (i:Nat) (v u:AV),l[i]?=some v->u.size=v.size->AV.dK (l.set i u)=AV.dK l/\(∀j,AV.dK ((l.set i u).take j)=AV.dK (l.take j))/\∀(j:Nat) (v':AV),(l.set i u)[j]?=some v'->∃v'',l[j]?=some v''/\v'.size=v''.size
 | [],i,v,u,h,_=>by simp at h
 |x::xs,0,v,u,h,e=>by
  simp at h;subst h;refine⟨by simp[AV.dK,e],λj=>?_,λj v' hj=>?_⟩
  ·cases j<;>simp[AV.dK,e]
  ·cases j with
   |zero=>simp at hj;subst hj;exact⟨x,rfl,e⟩
   |succ j=>exact⟨v',by simpa using hj,rfl⟩
 |x::xs,i+1,v,u,h,e=>by
  obtain⟨h1,h2,h3⟩:=GP xs i v u (by simpa using h) e
  refine⟨by simp[AV.dK,h1],λj=>?_,λj v' hj=>?_⟩
  ·cases j with
   |zero=>simp[AV.dK]
   |succ j=>simp[AV.dK,h2 j]
  ·cases j with
   |zero=>simp at hj;subst hj;exact⟨x,rfl,rfl⟩
   |succ j=>simpa using h3 j v' (by simpa using hj)
theorem wI {N:Names}{D:Nat->Prop}{w:World}{place:Nat->Option (Nat×Nat)}: ∀(ps:List (Nat×AV)) (l l':List AV) (cs:List (Nat×Value)) (cells:Array Value),Br l ps l'->GN N D w ps cs->cells.size=AV.dK l->fE N D w l (cells[·]?)->
  (∀(i:Nat) (v:AV),l[i]?=some v->place i=some (AV.dK (l.take i),v.size))->∃lI,Instr.fill place cells cs=some lI/\lI.size=AV.dK l'/\AV.dK l'=AV.dK l/\fE N D w l' (lI[·]?)
 | [],l,l',cs,cells,hf,hp,hs,hr,hpl=>by
  simp only[Br] at hf;simp only[GN] at hp;subst hf;subst hp;exact⟨cells,rfl,hs,rfl,hr⟩
 |(i,u)::ps,l,l',cs,cells,hf,hp,hs,hr,hpl=>by
  obtain⟨⟨v,hv,hu⟩,hf⟩:=hf;obtain⟨c,tS,rfl,hc,hrc,hp⟩:=hp;simp only at hc hrc;have hle:=vf l i v hv;obtain⟨p1,p2⟩:=GO (AV.dK (l.take i)) c.cells.toList 0 cells (by simp;omega)
  obtain⟨q1,q2,q3⟩:=GP l i v u hv hu;have hz:c.cells.zipIdx.foldl (λcs (c,j)=>cs.setIfInBounds (AV.dK (l.take i)+j) c) cells=(c.cells.toList.zipIdx 0).foldl (λcs (c,j)=>cs.setIfInBounds (AV.dK (l.take i)+j) c) cells:=by
   rw[<-Array.foldl_toList,Array.toList_zipIdx]
  obtain⟨lI,r1,r2,r3,r4⟩:=wI (place:=place) ps (l.set i u) l' tS ((c.cells.toList.zipIdx 0).foldl (λcs (c,j)=>cs.setIfInBounds (AV.dK (l.take i)+j) c) cells) hf hp (by rw[p1,hs,q1]) (by
   refine zt l i v u (cells[·]?) _ hv hu hr (λj hj=>?_) (ke u _ _ (λj hj=>?_) hrc)
   ·simp only[p2]
    rw[if_neg (by simp only[Array.length_toList];omega)]
   ·simp only[p2]
    rw[if_pos (by simp only[Array.length_toList];omega)]
    simp) (λj v' hj=>by
   obtain⟨v'',g1,g2⟩:=q3 j v' hj;rw[hpl j v'' g1,q2 j,g2])
  refine⟨lI,?_,r2,r3.trans q1,r4⟩;unfold Instr.fill;rw[hpl i v hv];simp only;rw[if_neg (by simp only[zeR,zdU,not_or];constructor<;>omega),hz]
  exact r1
theorem H9 {v u:AV}(h:v.lD u=true):u.size=v.size:=by rw[<-la,<-wC v u h,la]
theorem Ao: ∀(ps:List (Nat×AV)) (l l':List AV),zY l ps=some l'->Br l ps l'/\∀p∈ps,p.2.nF=true
 | [],l,l',h=>by
  simp only[zY,zdM] at h;exact⟨h.symm,λp hp=>by simp at hp⟩
 |(i,u)::ps,l,l',h=>by
  simp only[zY] at h;split at h
  ·rename_i v hv
   split at h
   ·rename_i hs
    simp only[zdO] at hs;obtain⟨h1,h2⟩:=Ao ps _ l' h;exact⟨⟨⟨v,hv,H9 hs.1⟩,h1⟩,List.forall_mem_cons.2 ⟨hs.2,h2⟩⟩
   ·cases h
  ·cases h
theorem Cn {sz:Nat}: ∀(ps:List (Nat×AV)) (l l':List AV),(∀v∈l,v.size=sz)->DM sz l ps=some l'->Br l ps l'/\(∀p∈ps,p.2.nF=true)/\l'.length=l.length/\(∀v∈l',v.size=sz)
 | [],l,l',hl,h=>by
  simp only[DM,zdM] at h;subst h;exact⟨rfl,(λp hp=>by simp at hp),rfl,hl⟩
 |(i,u)::ps,l,l',hl,h=>by
  simp only[DM] at h;split at h
  ·rename_i hs
   simp only[zdO,zdU] at hs;obtain⟨h1,h2,h3,h4⟩:=Cn ps _ l' (λv hv=>by
    rcases zeS hv with hv|rfl
    ·exact hl v hv
    ·exact hs.2) h
   refine⟨⟨⟨l[i]'hs.1.1,zdL _,?_⟩,h1⟩,List.forall_mem_cons.2 ⟨hs.1.2,h2⟩,by rw[h3];simp,h4⟩
   exact hs.2.trans (hl _ (zeT _)).symm
  ·cases h
theorem Ap {N:Names}{D:Nat->Prop}{w:World}{st:St}{a:Act}(s:kI N D w base st a): ∀(ps:List (Nat×Operand)),(∀p∈ps,(st.ev p.2).nF=true)->GN N D w (ps.map λp=>(p.1,st.ev p.2)) (ps.map λp=>(p.1,a.eval p.2))
 | [],_=>rfl
 |p::ps,h=>by
  obtain⟨h1,h2,_⟩:=uh (h p (zdT ..)) (s.F6 p.2);exact⟨_,_,rfl,h1,h2,Ap s ps λp hp=>h p (zdS _ hp)⟩
theorem yd {N:Names}{D:Nat->Prop}{w:World}{t:Ty}: ∀(xs:List t.den) (g:Nat->Option Value),fE N D w (xs.map (enc t)) g↔eC N D w t xs g
 | [],g=>by simp only[List.map_nil,fE,true_iff];exact eC.nil
 |x::xs,g=>by
  simp only[zeD,fE];rw[kV,yd xs,nO];constructor
  ·rintro⟨h1,h2⟩ i y hy
   cases i with
   |zero=>
    simp only[ko,zei,zdM] at hy;subst hy;exact iI.func h1 λj=>by simp
   |succ i=>
    exact iI.func (h2 i y (by simpa [ko] using hy)) λj=>congrArg g (by rw[zd0];omega)
  ·intro h
   refine⟨iI.func (h 0 x rfl) λj=>by simp,λi y hy=>?_⟩
   exact iI.func (h (i+1) y (by simpa [ko] using hy)) λj=>congrArg g (by rw[zd0];omega)
theorem wJ {t:Ty}: ∀(xs:List t.den),AV.dK (xs.map (enc t))=xs.length*t.size
 | []=>by simp[AV.dK]
 |x::xs=>by simp only[zeD,AV.dK,nO,wJ xs,zdQ,zd0];omega
theorem Aq {s:St}{t:Ty}: ∀(ps:List (Nat×AV)) (xs:List t.den) (k:List t.den->Option α) (r:α),Dr s t xs ps k=some r->
  ∃Cm us,k Cm=some r/\Br (xs.map (enc t)) us (Cm.map (enc t))/\Cm.length=xs.length/\(∀p∈ps,p.2.nF=true)/\∀N D w base,kp N D w base s.h->∀cs,GN N D w ps cs->GN N D w us cs
 | [],xs,k,r,h=>⟨xs,[],h,rfl,rfl,(λp hp=>by simp at hp),λ_ _ _ _ _ cs hp=>hp⟩
 |(i,u)::ps,xs,k,r,h=>by
  simp only[Dr] at h;obtain⟨hsz,x,ids,h1,h2⟩:=mP t u _ r h;split at h1
  ·split at h1
   ·rename_i hi
    simp only[zdO,zdU] at hi;obtain⟨Cm,us,g1,g2,g3,g4,g5⟩:=Aq ps _ k r h1;refine⟨Cm,(i,enc t x)::us,g1,⟨⟨enc t (xs[i]'hi.1),by simp[hi.1],by rw[nO,nO]⟩,by rw[<-List.map_set];exact g2⟩,by rw[g3];simp,List.forall_mem_cons.2 ⟨hi.2,g4⟩,λN D w base S cs hp=>?_⟩
    obtain⟨c,tS,rfl,c1,c2,c3⟩:=hp;exact⟨c,tS,rfl,by rw[c1,nO,hsz],(kV t x _).2 (h2 N D w base S _ c2 D (λ_ h=>h) (by intro q hq;simp at hq)),g5 N D w base S tS c3⟩
   ·cases h1
  ·cases h1
theorem ye: ∀(fl:List Field) (off:Nat) (fs:List AV),tP P fl off fs=true->∃Bs,fl.mapM (λf=>(P.info? f.type).map λi=>(f.offset,i.size))=some Bs/\∀(i:Nat) (v:AV),fs[i]?=some v->Bs[i]?=some (off+AV.dK (fs.take i),v.size)
 | [],off,[],_=>⟨[],rfl,λi v h=>by simp at h⟩
 |f::fl,off,v::vs,h=>by
  simp only[tP,zdO,zdU] at h;obtain⟨⟨⟨h1,h2⟩,h3⟩,h4⟩:=h;obtain⟨Bs,g1,g2⟩:=ye fl _ vs h4;obtain⟨i,hi⟩:=Option.isSome_iff_exists.1 h3;have hsz:i.size=v.size:=by rw[<-h2];simp[Program.cellsOf,hi]
  refine⟨(f.offset,i.size)::Bs,by simp[List.mapM_cons,hi,g1],λj u hj=>?_⟩
  cases j with
  |zero=>simp at hj;subst hj;simp[AV.dK,h1,hsz]
  |succ j=>
   simp only[List.getElem?_cons_succ] at hj⊢;rw[g2 j u hj];simp[AV.dK,zd1]
 | [],_,_::_,h=>by simp[tP] at h
 |_::_,_,[],h=>by simp[tP] at h
theorem Mf {dst ty pos after guard}{t:TypeId}{parts:Array (Nat×Operand)}{st:St}{k:AV->St->Option α}{r:α}(h:HH P st t (parts.toList.map λp=>(p.1,st.ev p.2)) k=some r):ow P base ⟨dst, .build t parts,ty,pos,after,guard⟩ st k r:=by
 unfold HH at h;obtain⟨v,i,z,h,hi,hz,_,_,g1,g2⟩:=rX h;split at h
 ·rename_i fl fs hu _ _
  split at h
  ·rename_i lB
   split at h
   ·rename_i fs' zaL
    obtain⟨h1,h2⟩:=Ao _ _ _ zaL;obtain⟨Bs,p1,p2⟩:=ye _ _ _ lB;refine⟨_,_,h,lE.pure λN D w a s=>?_⟩;have hp:=Ap s parts.toList λp hp=>h2 (p.1,st.ev p.2) (List.mem_map_of_mem hp);obtain⟨lI,r1,r2,r3,r4⟩:=wI _ _ _ _ z.cells h1 hp g1 (by have:=g2 N D w;simpa only[an] using this) (place:=(Bs.toArray[·]?)) λj u hj=>by simp only[List.getElem?_toArray];rw[p2 j u hj,zev]
    refine⟨.agg lI,?_,xQ.2 ⟨lI,rfl,r2,r4⟩⟩;have hb:P.built t (parts.map λp=>(p.1,a.eval p.2)).toList=some lI:=by
     simp only[Program.built,hi,hu,hz,p1,Array.toList_map];exact r1
    simp only[execOp,zd7,run_build w t _ lI hb,zd8,zd9]
   ·cases h
  ·cases h
 ·rename_i m e n te xs hu _ _
  split at h
  ·rename_i hc
   simp only[zdO,zdU] at hc;obtain⟨⟨rfl,PR⟩,hie⟩:=hc;obtain⟨ie,hie⟩:=Option.isSome_iff_exists.1 hie;have zcD:ie.size=te.size:=by rw[<-PR];simp[Program.cellsOf,hie]
   obtain⟨Cm,us,q1,q2,q3,q4,q5⟩:=Aq _ _ _ _ h;refine⟨_,_,q1,lE.pure λN D w a s=>?_⟩;have hp:=q5 N D w base s.nG _ (Ap s parts.toList λp hp=>q4 (p.1,st.ev p.2) (List.mem_map_of_mem hp));have Sd:=g2 N D w;simp only[an,iI] at Sd;have hlen:List.length (α:=te.den) xs=m:=Sd.1;obtain⟨lI,r1,r2,r3,r4⟩:=wI _ _ _ _ z.cells q2 hp (by rw[g1,wJ,hlen];rfl) ((yd xs _).2 Sd.2) (place:=λi=>some (i*ie.size,ie.size)) λj u hj=>by
    rw[zeM] at hj;obtain⟨y,hy,rfl⟩:=Option.map_eq_some_iff.1 hj;have hjl:=(List.getElem?_eq_some_iff.1 hy).1;rw[<-List.map_take,wJ,nO,zcD,zea,zeJ (by omega)]
   refine⟨.agg lI,?_,vI.2 ⟨lI,rfl,?_,?_⟩⟩
   ·have hb:P.built t (parts.map λp=>(p.1,a.eval p.2)).toList=some lI:=by
     simp only[Program.built,hi,hu,hz,hie,Array.toList_map];exact r1
    simp only[execOp,zd7,run_build w t _ lI hb,zd8,zd9]
   ·rw[r2,wJ,q3,hlen]
   ·exact⟨by show List.length (α:=te.den) Cm=m;rw[q3,hlen],(yd Cm _).1 r4⟩
  ·cases h
 ·cases h
theorem Co: ∀(ids:List Nat) (s s':St),s.freeze ids=some s'->∀j,j∉ids->s'.h j=s.h j
 | [],s,s',h,j,_=>by simp only[St.freeze,zdM] at h;subst h;rfl
 |i::l,s,s',h,j,hj=>by
  simp only[St.freeze] at h;simp only[zeq,not_or] at hj;split at h
  ·rw[Co l _ s' h j hj.2]
   simp[St.set,hj.1]
  ·cases h
theorem Cp {s:St}{t:Ty}: ∀(l:List AV) (k:List t.den->List Nat->Option α) (r:α),elems s t l k=some r->
  ∃xs ids,k xs ids=some r/\xs.length=l.length/\∀N D w base,kp N D w base s.h->∀D',(∀b,D b->D' b)->lF N D' ids->∀g,fE N D w l g->eC N D' w t xs g
 | [],k,r,h=>⟨[],[],h,rfl,λN D w base S D' _ _ g _=>eC.nil⟩
 |v::vs,k,r,h=>by
  simp only[elems] at h;obtain⟨hsz,x,ids,h1,h2⟩:=mP t v _ r h;obtain⟨xs,Yx,h3,h4,h5⟩:=Cp vs _ r h1;refine⟨x::xs,ids++Yx,h3,by simp[h4],λN D w base S D' hD hF g hg=>?_⟩
  simp only[fE] at hg;have a1:=h2 N D w base S g hg.1 D' hD hF.left;have a2:=h5 N D w base S D' hD hF.right _ hg.2;intro i y hy;cases i with
  |zero=>
   simp only[ko,zei,zdM] at hy;subst hy;exact iI.func a1 λj=>by simp
  |succ i=>
   exact iI.func (a2 i y (by simpa [ko] using hy)) λj=>congrArg g (by rw[hsz,zd0];omega)
theorem vT {N:Names}{D:Nat->Prop}{w:World}{v:AV}{z:Array Value}(hz:z.size=v.size)(hr:an N D w v (z[·]?)): ∀(n:Nat) (g:Nat->Option Value),(∀j,j<n*v.size->g j=z[j%v.size]?)->fE N D w (List.replicate n v) g
 |0,g,_=>by simp only[zeU,fE]
 |n+1,g,hg=>by
  simp only[zes,fE];refine⟨ke v _ _ (λj hj=>?_) hr,vT hz hr n _ λj hj=>?_⟩
  ·rw[hg j (by rw[zd0];omega),Nat.mod_eq_of_lt hj]
  ·rw[hg (v.size+j) (by rw[zd0];omega),Nat.add_mod_left]
theorem qw (v:AV): ∀n,AV.dK (List.replicate n v)=n*v.size
 |0=>by simp[AV.dK]
 |n+1=>by simp only[zes,AV.dK,qw v n,zd0];omega
theorem JQ {sz:Nat}: ∀(l:List AV),(∀v∈l,v.size=sz)->AV.dK l=l.length*sz
 | [],_=>by simp[AV.dK]
 |v::l,h=>by
  simp only[AV.dK,zdQ,zd0];rw[h v (zdT ..),JQ l λv hv=>h v (zdS _ hv)];omega
theorem C6 {dst ty pos after guard}{t:TypeId}{len:Nat}{parts:Array (Nat×Operand)}{st:St}{id:Nat}(oT:id=name st.ep (dst.getD 999) 0){k:AV->St->Option α}{r:α}(h:wz P st id t len (parts.toList.map λp=>(p.1,st.ev p.2)) k=some r):ow P base ⟨dst, .buildSlice t len parts,ty,pos,after,guard⟩ st k r:=by
 unfold wz at h;split at h
 ·rename_i e te he
  obtain⟨hu,Og,hsz,hb,i,hi,vO,R6,_⟩:=qB he;obtain⟨v,i',z,h,nM,hz,YH,zy,uJ,hzr⟩:=rX h;rw[hi] at nM;cases nM;have zcE:z.cells.size=te.size:=by
   have:=tT 12 e te v Og YH;rw[<-zy] at this;rw[<-ni te,<-this];simp
  have hvs:v.size=te.size:=by rw[<-uJ,zcE]
  split at h
  ·cases h
  ·rename_i l uK
   obtain⟨f1,f2,f3,f4⟩:=Cn _ _ _ (λu hu=>by rw[List.eq_of_mem_replicate hu,hvs]) uK
   have uk: ∀N D w a,kI N D w base st a->∃lI,Instr.fill (λi'=>some (i'*i.size,i.size)) ((Array.range (len*i.size)).map (z.cells[·%z.cells.size]!)) (parts.toList.map λp=>(p.1,a.eval p.2))=some lI/\lI.size=AV.dK l/\AV.dK l=AV.dK (List.replicate len v)/\fE N D w l (lI[·]?):=by
    intro N D w a s;have hp:=Ap s parts.toList λp hp=>f2 (p.1,st.ev p.2) (List.mem_map_of_mem hp);refine wI _ _ _ _ _ f1 hp (by rw[qw,hvs,vO];simp) (vT uJ (hzr N D w) len _ λj hj=>?_) λq u hq=>?_
    ·have hp0:0<v.size:=by
      rcases zd6 v.size with q|q
      ·rw[q] at hj;omega
      ·exact q
     have hm:j%v.size<z.cells.size:=by rw[uJ];exact Nat.mod_lt _ hp0
     rw[hvs,<-vO] at hj;simp only[Array.getElem?_map,Array.getElem?_range,hj,if_true,zdV];rw[uJ,getElem!_pos z.cells _ hm,zeo hm]
    ·have hql:=(List.getElem?_eq_some_iff.1 hq).1
     have hu':=List.eq_of_mem_replicate (zeH hq);subst hu';rw[List.take_replicate,qw,zeJ (by simp at hql;omega),hvs,vO]
   have zaM:HI st id len te.size l k=some r->ow P base ⟨dst, .buildSlice t len parts,ty,pos,after,guard⟩ st k r:=by
    intro h1;unfold HI at h1;split at h1;rotate_left
    ·cases h1
    rename_i Ia;simp only[zdU] at Ia;obtain⟨Vr,_⟩:=Ia;have vU:st.h id=none:=by
     unfold St.new at h1;split at h1
     ·assumption
     ·cases h1
    have uK:st.new id (.var (.agg l)) (λs=>some s)=some (st.set id (.var (.agg l))):=by unfold St.new;rw[vU]
    have g1:k (.uD id len) (st.set id (.var (.agg l)))=some r:=by unfold St.new at h1;rw[vU] at h1;exact h1
    obtain⟨s',q0,g2,g3,g4,Jr,g5⟩:=HZ uK;simp only[zdM] at q0;subst q0;refine⟨_,_,g1,g2,g3,g4,λj _ hn=>Jr j (λe=>by subst e;subst oT;simp[qI,makes,ru] at hn),λN D w a s=>?_⟩
    obtain⟨lI,r1,r2,r3,r4⟩:=uk N D w a s;obtain⟨N',n1,n2,n3⟩:=g5 N D w base s.nG lI e (by simpa [AV.size] using r2) (by simp only[an];exact r4)
    refine⟨N',D,_, .slice (some ⟨w.heap.size,0,none⟩) len len, .inl ?_,n2,n1,?_⟩
    ·have hpm:(parts.map λp=>(p.1,a.eval p.2)).toList=parts.toList.map λp=>(p.1,a.eval p.2):=by simp
     have:=run_buildSlice (P:=P) w t e len (parts.map λp=>(p.1,a.eval p.2)) lI i z hu hi hz (by rw[vO];omega) (by rw[vO];omega) (by rw[hpm];exact r1)
     simp only[execOp,zd7,this,zd8,zd9]
    ·unfold cp at n3⊢
     simp only[AV.isAgg,jJ,an] at n3⊢;obtain⟨nm,ad,o,q1,q2,q3,q4⟩:=n3;have FY:nm.row=false:=by
      cases hr:nm.row with
      |false=>rfl
      |true=>simp[Nm.off,hr] at q3
     simp only[Nm.off,FY,fX,zdN,if_false,zdM] at q3;subst q3;refine⟨nm,ad,q1,q2,FY,?_⟩;simp only[zdM,Value.pointer.injEq,Addr.at_,zeF,Addr.mk.injEq] at q4;obtain⟨q5,q6,_⟩:=q4;have FZ:ad.spot=none:=by
      obtain⟨mN,ad',e1,e2,_,_,e5,_⟩:=n1.obj id (.var (.agg l)) (by simp[St.set])
      rw[q1] at e1;cases e1;rw[q2] at e2;cases e2;exact e5
     obtain⟨b,off,sp⟩:=ad;simp only at q5 q6 FZ;rw[q5,q6,FZ]
   split at h
   ·exact zaM h
   obtain⟨xs,ids,h1,XD,mO⟩:=Cp _ _ _ h;split at h1;rotate_left
   ·exact zaM h1
   ·rename_i s1 zdv
    split at h1;rotate_left
    ·cases h1
    rename_i s1 hfz;obtain⟨z1,z2,z3,z4⟩:=wE _ _ _ hfz;split at h1
    ·rename_i Ia
     simp only[zdO,zdU,zep,zeV] at Ia;obtain⟨s',g1,g2,g3,g4,Jr,g5⟩:=Oi h1;refine⟨_,_,g1,by rw[g2,z1],by rw[g3,z2],by rw[g4,z3],λj hj hn=>?_,λN D w a s=>?_⟩
     ·rw[Jr j (λe=>by subst e;subst oT;simp[qI,makes,ru] at hn)]
      refine Co _ _ _ hfz j λCh=>hj ?_;have:=Ia.2 j Ch;simp only[N0];rw[List.flatMap_map] at this;exact this
     ·obtain⟨D1,y1,y2,y3,y4⟩:=z4 N D w base s.nG
      have hlen:List.length (α:=te.den) xs=len:=by rw[XD,f3];simp
      obtain⟨lI,r1,r2,r3,r4⟩:=uk N D w a s;have yV:lI.size=len*te.size:=by rw[r2,r3,qw,hvs]
      obtain⟨N',n1,n2,n3⟩:=g5 N D1 w base y3 w lI e (0,0) len rfl rfl rfl rfl (by show List.length (α:=te.den) xs<=len;omega) (by omega) (.inl rfl) (mO N D w base s.nG D1 y1 y2 _ r4)
      refine⟨N',D1,_,_, .inl ?_,y4.trans n2,n1,n3⟩;have hpm:(parts.map λp=>(p.1,a.eval p.2)).toList=parts.toList.map λp=>(p.1,a.eval p.2):=by simp
      have PN:aM (β:=te.den) xs=len:=hlen;rw[PN];by_cases Vr:len*i.size=0
      ·have oI:Instr.fill (λi'=>some (i'*i.size,i.size)) #[] (parts.toList.map λp=>(p.1,a.eval p.2))=some lI:=by
        rw[<-r1];congr 1;rw[Vr];simp
       simp only[execOp,zd7];have PR:P.cellsOf e=i.size:=by rw[vO,hsz]
       simp only[Instr.buildSlice,zd7,run_underlying hu,zd8,run_sizeOf w hi,PR,Vr,Nat.not_lt_zero,gt_iff_lt,if_false,if_true,zd9];have he0:(Array.range 0).map ((#[]:Array Value)[·% (#[]:Array Value).size]!)= #[]:=by simp
       have hpe:(parts.map λx=>(x.1,a.eval x.2)).toList=parts.toList.map λp=>(p.1,a.eval p.2):=by simp
       rw[he0,hpe,oI];simp[newRow]
      ·have:=run_buildSlice (P:=P) w t e len (parts.map λp=>(p.1,a.eval p.2)) lI i z hu hi hz (by rw[vO];omega) Vr (by rw[hpm];exact r1)
       simp only[execOp,zd7,this,zd8,zd9]
    ·cases h1
 ·cases h
end AM
namespace AM
open Go
variable {α:Type}{P:Program}{base:Nat}
theorem Sf {e:TypeId}{k:IntKind}(h:vG P 12 e=some (.int k)):P.underlying e=some (.int k):=by
 unfold vG at h;split at h
 ·rename_i k' hu
  simp only[zdM,Ty.int.injEq] at h;rw[hu,h]
 ·simp at h
 ·simp at h
 ·rename_i fs hu
  exfalso
  cases hl:fs.toList with
  |nil=>rw[hl] at h;simp at h
  |cons f fl=>
   rw[hl] at h;simp only[zeB] at h;split at h<;>simp at h
 ·simp only[zeC] at h
  obtain⟨_,_,h⟩:=h;cases h
 ·simp only[zeC] at h
  obtain⟨_,_,h⟩:=h;cases h
 ·simp at h
 ·cases h
theorem Cq {e:TypeId}{k:IntKind}(hu:P.underlying e=some (.int k))(hf: ∀x:Int,sD P e (enc (.int k) x)=true)(hc:P.cellsOf e=1){D:Nat}(hD:1<=D){w:World}{cx cy:Array Value}: ∀(xs ys:List Int) (s:Nat),xs.length=ys.length->(∀i x,xs[i]?=some x->cx[s+i]?=some (.int k x))->(∀i y,ys[i]?=some y->cy[s+i]?=some (.int k y))->
  (Op.eqItems D e (P.cellsOf e) cx cy (List.range' s xs.length)).run P w= .ok ((xs.zip ys).all λp=>aj p.1 p.2) w
 | [],ys,s,hl,_,_=>by simp[Op.eqItems]
 |x::xs,[],s,hl,_,_=>by simp at hl
 |x::xs,y::ys,s,hl,hx,hy=>by
  obtain⟨D',rfl⟩: ∃D',D=D'+1:=⟨D-1,by omega⟩
  have hpx:(Go.part e cx (s*1)).run P w= .ok (.int k x) w:=by
   obtain⟨c,h1,h2⟩:=ui (P:=P) (N:=Names.nil) (D:=λ_=>False) (w:=w) (cs:=cx) (off:=s*1) (hf x) (by
    have:=hx 0 x rfl;simp only[enc,an];rw[zeO,<-this])
   have:c= .int k x:=by simpa [enc] using eE.1 h2
   rw[h1,this]
  have hpy:(Go.part e cy (s*1)).run P w= .ok (.int k y) w:=by
   obtain⟨c,h1,h2⟩:=ui (P:=P) (N:=Names.nil) (D:=λ_=>False) (w:=w) (cs:=cy) (off:=s*1) (hf y) (by
    have:=hy 0 y rfl;simp only[enc,an];rw[zeO,<-this])
   have:c= .int k y:=by simpa [enc] using eE.1 h2
   rw[h1,this]
  have ih:=Cq hu hf hc hD (w:=w) (cx:=cx) (cy:=cy) xs ys (s+1) (by simpa using hl) (λi z hz=>by rw[show s+1+i=s+(i+1) by omega];exact hx (i+1) z (by simpa using hz)) (λi z hz=>by rw[show s+1+i=s+(i+1) by omega];exact hy (i+1) z (by simpa using hz))
  rw[hc] at ih⊢;simp only[zdQ,List.range'_succ,Op.eqItems,zd7,hpx,hpy,zd8,run_equalIn_int w D' e k k x y hu,List.zip_cons_cons,List.all_cons];have hxy:(x==y)=aj x y:=by simp only[aj,k0];rfl
  rw[hxy];cases aj x y with
  |false=>simp
  |true=>simpa using ih
def XE (P:Program)(d:Nat):Prop:= ∀(t:TypeId) (x y:AV) (b:Bool),US P d t x y=some b->∀D,d<=D->∀N Dd w vx vy,cp N Dd w x vx->cp N Dd w y vy->(Op.equalIn D t vx vy).run P w= .ok b w
theorem Sg {d:Nat}(hA:XE P d): ∀(fs:List Field) (off:Nat) (xs ys:List AV) (b:Bool),US.LC P d fs off xs ys=some b->∀D,d<=D->∀N Dd w (cx cy:Array Value),fE N Dd w xs (λj=>cx[off+j]?)->fE N Dd w ys (λj=>cy[off+j]?)->(Op.eqFields D cx cy fs).run P w= .ok b w:=by
 intro fs;induction fs with
 |nil=>
  intro off xs ys b h D hD N Dd w cx cy hx hy;cases xs<;>cases ys<;>simp[US.LC] at h
  subst h;simp[Op.eqFields]
 |cons f fs ih=>
  intro off xs ys b h D hD N Dd w cx cy hx hy;cases xs with
  |nil=>simp[US.LC] at h
  |cons x xs=>
   cases ys with
   |nil=>simp[US.LC] at h
   |cons y ys=>
    simp only[US.LC] at h;split at h
    ·cases h
    ·rename_i hn
     simp only[not_or,Decidable.not_not] at hn;split at h
     ·cases h
     ·rename_i lB
      simp only[zdO,zdU] at lB;split at h
      ·rename_i a b' ha hb
       cases h;simp only[fE] at hx hy;obtain⟨c1,p1,v1⟩:=ui (P:=P) (N:=N) (D:=Dd) (w:=w) (cs:=cx) (off:=off) lB.1.1 hx.1;obtain⟨c2,p2,v2⟩:=ui (P:=P) (N:=N) (D:=Dd) (w:=w) (cs:=cy) (off:=off) lB.1.2 hy.1;have h1:=hA f.type x y a ha D hD N Dd w c1 c2 v1 v2;have h2:=ih (off+x.size) xs ys b' hb D hD N Dd w cx cy (by have:=hx.2;simpa only[zd1] using this) (by have:=hy.2;rw[<-lB.2] at this;simpa only[zd1] using this)
       simp only[Op.eqFields,hn.1,ne_eq,not_false_eq_true,if_true,zd7,hn.2,p1,p2,zd8,h1];cases a with
       |false=>simp
       |true=>simpa using h2
      ·cases h
theorem Om: ∀d:Nat,XE P d
 |0=>λt x y b h=>by simp[US] at h
 |d+1=>by
  intro t x y b h D hD N Dd w vx vy hx hy;obtain⟨D',rfl⟩: ∃D',D=D'+1:=⟨D-1,by omega⟩
  unfold US at h;split at h
  ·rename_i k ka a kb c hu
   split at h
   ·rename_i hk
    obtain⟨rfl,rfl⟩:=hk;cases h;rw[eE.1 hx,eE.1 hy,run_equalIn_int w D' t _ _ a c hu];simp only[aj,k0];rfl
   ·cases h
  ·rename_i a c hu
   cases h;rw[eE.1 hx,eE.1 hy,run_equalIn_bool' w D' t a c hu];rfl
  ·rename_i a c hu
   cases h;rw[eE.1 hx,eE.1 hy,run_equalIn_string w D' t a c hu];rfl
  ·rename_i fs xs ys hu
   split at h
   ·cases h
   ·rename_i kf
    obtain⟨cx,rfl,_,hcx⟩:=xQ.1 hx;obtain⟨cy,rfl,_,hcy⟩:=xQ.1 hy;have hfo:P.fieldsOf t=fs:=by simp[Program.fieldsOf,hu]
    rw[run_equalIn_struct w D' t cx cy (by rw[hfo];exact hu) kf,hfo]
    exact Sg (Om d) fs.toList 0 xs ys b h D' (by omega) N Dd w cx cy (by simpa using hcx) (by simpa using hcy)
  ·rename_i n e m t' xs m' t'' ys hu
   split at h
   ·rename_i te ys' Og yf
    obtain⟨rfl,rfl⟩:=iU yf;split at h
    ·rename_i hc
     obtain⟨rfl,rfl,rfl,hint,hd,PR,hie⟩:=hc;cases h;obtain⟨cx,rfl,_,hcx⟩:=vI.1 hx;obtain⟨cy,rfl,_,hcy⟩:=vI.1 hy;obtain⟨i,hi⟩:=Option.isSome_iff_exists.1 hie;rw[run_equalIn_array w D' cx cy hu hi];cases te with
     |int k=>
      have h1:List.length (α:=Int) xs=m':=hcx.1;have h2:List.length (α:=Int) ys'=m':=hcy.1;have:=Cq (P:=P) (e:=e) (k:=k) (D:=D') (w:=w) (cx:=cx) (cy:=cy) (Sf Og) (λx=>D9 Og (by rw[PR];rfl) x) PR (by omega) xs ys' 0 (by rw[h1,h2]) (λi x hx=>by
       have:=hcx.2 i x hx;simp only[iI,Ty.size,zeO,zeF] at this;rw[zev];exact this) (λi x hx=>by
       have:=hcy.2 i x hx;simp only[iI,Ty.size,zeO,zeF] at this;rw[zev];exact this)
      rw[h1] at this;rw[List.range_eq_range'];exact this
     |_=>simp[NX] at hint
    ·cases h
   ·cases h
  ·cases h
theorem PV {op:BinOp}{t:TypeId}{x y:Operand}{st:St}{b:Bool}(h:Vi P t (st.ev x) (st.ev y)=some b): ∀N D w a,kI N D w base st a->(op= .eql\/op= .neq)->(do eqGuard op t x y (a.eval x) (a.eval y);Go.binOp op t (a.eval x) (a.eval y):Sem Value).run P w= .ok (.bool (Ad op b)) w:=by
 intro N D w a s vD;unfold Vi at h;split at h
 ·rename_i FX
  simp only[zdO] at FX;obtain⟨FX,zcF⟩:=FX;split at h
  ·cases h
  ·rename_i hg
   have hx:=s.F6 x;have hy:=s.F6 y;have jT:=Om (P:=P) 12 t _ _ b h 10000 (by omega) N D w _ _ hx hy
   have hvx: ∃cx,a.eval x= .agg cx:=by
    unfold cp at hx;rw[FX] at hx;obtain⟨c,h1,_⟩:=hx;exact⟨c,h1⟩
   have hvy: ∃cy,a.eval y= .agg cy:=by
    unfold cp at hy;rw[zcF] at hy;obtain⟨c,h1,_⟩:=hy;exact⟨c,h1⟩
   obtain⟨cx,ex⟩:=hvx;obtain⟨cy,ey⟩:=hvy;rw[ex,ey] at jT⊢;rw[zd7,run_eqGuard_agg w op t x y cx cy hg,zd8];rcases vD with rfl|rfl
   ·rw[run_eql_struct w t cx cy,jT];rfl
   ·rw[run_neq_struct w t cx cy,jT];rfl
 ·cases h
end AM
namespace AM
open Go
variable {α:Type}{P:Program}{base:Nat}
theorem R4.first {N:Names}{w:World}{t:Ty}{ys:List t.den}{D:Nat->Prop}{c:Value}(h:R4 N D w t ys c){n:Nat}(hn:n<=aM (β:=t.den) ys): ∃cs:List Value,cs.length=n*t.size/\eC N D w t (ys.take n:List t.den) (cs[·]?)/\(∀v∈cs,v.oneCell'=true)/\
  (Builtin.firstCells t.size n c).run P w= .ok cs.toArray w/\(Builtin.lenOf c).run P w= .ok (aM (β:=t.den) ys) w:=by
 obtain⟨a,cap,rfl,h1,h2,h3⟩:=h;have htk:aM (β:=t.den) (ys.take n)=n:=by simp only[aM,zea];simp only[aM] at hn;omega
 by_cases h0:aM (β:=t.den) ys=0
 ·have XB:n=0:=by omega
  subst XB;refine⟨[],by simp,by simpa using eC.nil,by simp,?_,yc _ _ _ _⟩
  cases a with
  |none=>exact run_firstCells_none (P:=P) w _ _ _ _
  |some a=>exact run_firstCells_some (P:=P) w t.size 0 a _ cap [] (by simp) (by simp)
 ·cases a with
  |none=>have:=h2 rfl;omega
  |some a=>
   obtain⟨f1,f2⟩:=h3 a rfl h0;obtain⟨cs,g1,g2,g3,g4⟩:=(f2.take n).cells;rw[htk] at g1;refine⟨cs,g1,g3,g4,?_,yc _ _ _ _⟩;refine run_firstCells_some (P:=P) w t.size n a _ cap cs g1 λj v hv=>?_;obtain⟨b,o,sp⟩:=a;simp only at f1;subst f1;rw[oH];exact g2 j v hv
theorem Ib {w:World}{b o:Nat}{v:Value}(h:w.cell? ⟨b,o,none⟩=some v):w.setCell ⟨b,o,none⟩ v=w:=by
 have e:(w.setCell ⟨b,o,none⟩ v).heap=w.heap:=by
  apply Array.ext_getElem?;intro i;simp only[World.setCell,zem];by_cases hi:b=i
  ·subst hi
   unfold World.cell? at h;split at h
   ·rename_i c el fz hb
    simp only[zeW,zdN,if_false] at h;simp only at hb;rw[hb];simp only[if_true,zdV,zeW,zdN,if_false];have:c.setIfInBounds o v=c:=by
     apply Array.ext_getElem?;intro j;rw[Array.getElem?_setIfInBounds];split
     ·rename_i hj;subst hj
      split
      ·exact h.symm
      ·rename_i lj;rw[Array.getElem?_eq_none (by omega)] at h;cases h
     ·rfl
    rw[this]
   ·cases h
  ·rw[if_neg hi]
 have e2:w.setCell ⟨b,o,none⟩ v={w with heap:=(w.setCell ⟨b,o,none⟩ v).heap}:=rfl;rw[e2,e]
theorem s9 (b:Nat): ∀(xs ys:List Value) (o:Nat) (w:World),w.setCells b o (xs++ys)=(w.setCells b o xs).setCells b (o+xs.length) ys
 | [],ys,o,w=>rfl
 |x::xs,ys,o,w=>by
  simp only[zel,World.setCells,zdQ];rw[s9 b xs ys,show o+1+xs.length=o+(xs.length+1) by omega]
theorem vg (b:Nat): ∀(xs:List Value) (o:Nat) (w:World),(∀j v,xs[j]?=some v->w.cell? ⟨b,o+j,none⟩=some v)->w.setCells b o xs=w
 | [],o,w,_=>rfl
 |x::xs,o,w,h=>by
  rw[World.setCells,Ib (by simpa using h 0 x rfl)]
  exact vg b xs (o+1) w λj v hv=>by
   have:=h (j+1) v (by simpa using hv)
   rwa [show o+1+j=o+(j+1) by omega]
theorem Ic {b o:Nat}{w:World}{pre cs suf:List Value}(h1: ∀j v,pre[j]?=some v->w.cell? ⟨b,o+j,none⟩=some v)(h2: ∀j v,suf[j]?=some v->w.cell? ⟨b,o+pre.length+cs.length+j,none⟩=some v):
  w.setCells b o (pre++(cs++suf))=w.setCells b (o+pre.length) cs:=by
 rw[s9,vg b pre o w h1,s9];refine vg b suf _ _ λj v hv=>?_;rw[World.cell?_setCells_out _ _ _ _ _ (λ_ _=>by simp only;omega)]
 exact h2 j v hv
theorem Ie {dst rt pos after guard}{x y:Operand}{args:Array Operand}{tys:Array TypeId}{tx e:TypeId}{te:Ty}{Bo:List TypeId}{st:St}{k:AV->St->Option α}{r:α}(ha:args.toList=[x,y])(ht:tys.toList=tx::Bo)(he:zX P tx=some (e,te))
  {ys xs:List te.den} {q n off len:Nat} {p:List Step} (hx:st.ev x= .slice q p off len) (mO:(p.isEmpty&&zV st q)=false) (Eb: ∀N D w base,kp N D w base st.h->∀c,cp N D w (st.ev y) c->R4 N D w te ys c)
  (yS:st.shape q p=some (.arr n (sC te))) (qU: ∀N D w base,kp N D w base st.h->∀nm a o,N q=some nm->nm.base=some a->nm.off p=some o->a.spot=none/\an N D w (.arr n te xs) (λj=>aX w a (o+j)))
  (h:st.store q p (.arr n te (xs.take off++(ys.take len++xs.drop (off+min ys.length len)))) (λs=>k (.val (.int .i64 ((min ys.length len:Nat):Int))) s)=some r):ow P base ⟨dst, .call ⟨.builtin .copy,args,tys⟩,rt,pos,after,guard⟩ st k r:=by
 obtain⟨hu,Og,hsz,hb1,i,hi,vO,R6,_⟩:=qB he;have nH:args= #[x,y]:=by cases args;simp at ha;subst ha;rfl
 have Ah:tys[0]?=some tx:=by
  have:tys.toList[0]?=some tx:=by rw[ht];rfl
  simpa using this
 subst nH;obtain⟨s',h1,h2,h3,h4,h5,h6⟩:=xW h rfl;refine⟨_,_,h1,h2,h3,h4,λj hj _=>h5 j (λe'=>hj (by simp[N0,hx,vH,e'])) (by simp[AV.ids]),λN D w a s=>?_⟩
 have hv:=s.uI hx;have hy:=Eb N D w base s.nG _ (s.F6 y);unfold cp at hv;simp only[AV.isAgg,jJ,an] at hv;obtain⟨nm,g1,hv⟩:=hv;have Lo:=xS mO yS s.nG g1;generalize hn:min (aM (β:=te.den) ys) len=m;have PE:min (List.length (α:=te.den) ys) len=m:=hn;cases hb:nm.base with
 |none=>rw[hb] at hv;rw[Lo] at hv;cases hv.1
 |some ad=>
  rw[hb] at hv;simp only at hv;rw[if_neg (by rw[Lo];simp)] at hv
  obtain⟨o,n',e',u,room,i1,i2,i3,i4,i5,a',sK,rfl,i6,rfl,i7⟩:=hv;simp only[zdM] at i4;have Lp:=Bl yS s.nG g1;rw[i2] at Lp;simp only[zdM,Sh.arr.injEq] at Lp;obtain⟨rfl,rfl⟩:=Lp;rw[iT] at i7;obtain⟨j1,j2⟩:=qU N D w base s.nG nm ad o g1 hb i1;simp only[an,iI] at j2;obtain⟨hlen,zaN⟩:=j2;have zaO:eC N D w te xs (λj=>aX w ad (o+j)):=zaN;have zdr:List.length (α:=te.den) xs=n':=hlen;obtain⟨W,w1,w2,w3,w4⟩:=zaO.cells;obtain⟨cs,c1,c2,c3,c4,c5⟩:=hy.first (P:=P) (n:=m) (by omega)
  have hml:m<=len:=by omega
  have hW:W.length=n'*te.size:=by rw[w1];congr 1
  have nJ:off*te.size+m*te.size<=n'*te.size:=by rw[<-zd0];exact zdZ _ (by omega)
  have hyt:ys.take len=ys.take m:=by
   rcases Nat.le_total (List.length (α:=te.den) ys) len with hle|hle
   ·rw[zeg hle,zeg (by omega)]
   ·have:m=len:=by omega
    rw[this]
  have Js:aM (β:=te.den) (ys.take m)=m:=by simp only[aM,zea];simp only[aM] at hn;omega
  have htx:aM (β:=te.den) (xs.take off)=off:=by simp only[aM,zea];omega
  have PW:(W.take (off*te.size)).length=off*te.size:=by rw[zea];omega
  have hval:cp N D w (.arr n' te (xs.take off++(ys.take len++xs.drop (off+min ys.length len)))) (.agg (W.take (off*te.size)++(cs++W.drop ((off+m)*te.size))).toArray):=by
   rw[hyt,PE];refine vI.2 ⟨_,rfl,?_,?_,?_⟩
   ·simp only[List.size_toArray,zdP,PW,c1,zeb,hW,zd0];omega
   ·show List.length (α:=te.den) _=n'
    simp only[zdP,zea,zeb];simp only[aM] at Js hn;omega
   ·have key:eC N D w te (xs.take off++(ys.take m++xs.drop (off+m)):List te.den) ((W.take (off*te.size)++(cs++W.drop ((off+m)*te.size)))[·]?):=by
     refine eC.rv ((w3.take off).congr λj hj=>?_) (by rw[PW,htx]) (eC.rv c2 (by rw[c1,Js]) ((w3.drop (off+m)).congr λj hj=>?_))
     ·rw[htx] at hj
      rw[zec,if_pos hj]
     ·rw[zed]
    exact key.congr λj hj=>by simp
  obtain⟨k1,⟨C,LY,fz,k2,k3,k4⟩,D',k5,k6⟩:=h6 N D w base s.nG nm ad o _ g1 hb i1 hval;have uk:(Value.agg (W.take (off*te.size)++(cs++W.drop ((off+m)*te.size))).toArray).cells.toList=W.take (off*te.size)++(cs++W.drop ((off+m)*te.size)):=by simp[Value.cells]
  have YN:w.setCells ad.block (ad.off+o) (W.take (off*te.size)++(cs++W.drop ((off+m)*te.size)))=w.setCells ad.block (ad.off+o+off*te.size) cs:=by
   have:=Ic (b:=ad.block) (o:=ad.off+o) (w:=w) (pre:=W.take (off*te.size)) (cs:=cs) (suf:=W.drop ((off+m)*te.size)) (λj v hj=>?_) (λj v hj=>?_)
   ·rw[PW] at this;exact this
   ·rw[zec] at hj
    split at hj
    ·have:=w2 j v hj
     simpa only[aX,zd1] using this
    ·cases hj
   ·rw[zed] at hj
    have:=w2 _ v hj;simp only[aX] at this;rw[<-this,PW,c1];congr 2
    rw[zd0];omega
  rw[uk,YN] at k5 k6;have kf:(storeCells a' cs).run P w= .ok () (w.setCells ad.block (ad.off+o+off*te.size) cs):=by
   by_cases hc:cs=[]
   ·subst hc;rfl
   ·have mb:sK≠0:=by
     intro e0;have:m=0:=by omega
     rw[this,zeu] at c1;exact hc (zef c1)
    rcases i7 with rfl|i7
    ·have:=pA (P:=P) (w:=w) (b:=ad.block) (o:=ad.off+(o+off*te.size)) k2 k3 (by rw[c1];have k4':ad.off+o+n'*te.size<=C.size:=k4;omega) c3
     simpa only[Addr.at_,zd1] using this
    ·exact absurd i7 mb
  have hmm:min (aM (β:=te.den) ys) len=m:=hn;refine⟨N,D',_,_, .inl ?_,k6,k5,eE.2 rfl⟩;simp only[execOp,resolve,invoke,builtin,Builtin.copy_,zd7,zd8,zd9];simp[Ah,i4,run_underlying hu,c5,run_sizeOf w hi,<-hsz,hmm,c4,kf,goInt]
theorem PX {dst rt pos after guard}{x y:Operand}{args:Array Operand}{tys:Array TypeId}{tx:TypeId}{Bo:List TypeId}{st:St}{k:AV->St->Option α}{r:α}(ha:args.toList=[x,y])(ht:tys.toList=tx::Bo)
  (h:LF P st tx (st.ev x) (st.ev y) k=some r):ow P base ⟨dst, .call ⟨.builtin .copy,args,tys⟩,rt,pos,after,guard⟩ st k r:=by
 unfold LF at h;split at h
 ·rename_i e te he
  obtain⟨hu,Og,hsz,hb1,i,hi,vO,R6,_⟩:=qB he;obtain⟨ys,ids,h,Eb⟩:=uU h;split at h
  ·rename_i q off hx
   split at h
   ·rename_i t' xs ho
    split at h
    ·cases h
    ·rename_i h0
     simp only[zdU] at h0;subst h0;split at h
     ·rename_i Cm yf
      obtain⟨rfl,rfl⟩:=iU yf;have nH:args= #[x,y]:=by cases args;simp at ha;subst ha;rfl
      have Ah:tys[0]?=some tx:=by
       have:tys.toList[0]?=some tx:=by rw[ht];rfl
       simpa using this
      subst nH;refine⟨_,_,h,rfl,rfl,rfl,λj hj _=>?_,λN D w a s=>?_⟩
      ·have Ch:j≠q:=by
        intro e';apply hj;simp[N0,hx,vH,e']
       simp[St.set,Ch]
      ·have hv:=s.uI hx
       have hy:=Eb N D w base s.nG _ (s.F6 y);unfold cp at hv;simp only[AV.isAgg,jJ,an] at hv;obtain⟨nm,g1,g2,g3,g4,g5⟩:=hv;obtain⟨mN,i1,i2,i3,i4,i5,i6⟩:=s.nG.obj q _ ho;rw[g1] at i1;cases i1;generalize hn:min (aM (β:=t'.den) ys) (aM (β:=t'.den) Cm)=n;have PE:min (List.length (α:=t'.den) ys) (List.length (α:=t'.den) Cm)=n:=hn;have zaP:(ys.take (List.length (α:=t'.den) Cm)++Cm.drop (List.length (α:=t'.den) ys):List t'.den)=ys.take n++Cm.drop n:=by
        rcases Nat.le_total (List.length (α:=t'.den) ys) (List.length (α:=t'.den) Cm) with hle|hle
        ·have:n=List.length (α:=t'.den) ys:=by omega
         rw[this,zeg hle,zeX]
        ·have:n=List.length (α:=t'.den) Cm:=by omega
         rw[this,List.drop_of_length_le hle,List.drop_of_length_le (zd2 _)]
       obtain⟨cs,c1,c2,c3,c4,c5⟩:=hy.first (P:=P) (n:=n) (by omega)
       rw[zaP];have PN:aM (β:=t'.den) (ys.take n++Cm.drop n)=nm.len:=by
        rw[i4];simp only[aM,zdP,zea,zeb];simp only[aM] at hn;omega
       have YO: ∀m,m=aM (β:=t'.den) Cm->Nat.min (aM (β:=t'.den) ys) m=n:=λm hm=>by rw[hm];exact hn
       cases hb:nm.base with
       |none=>
        rw[hb] at g5;obtain⟨g5,g6⟩:=g5;simp only[zdM] at g6;have HU:aM (β:=t'.den) Cm=0:=by omega
        have XB:n=0:=by omega
        have L5:Cm=[]:=zef HU;subst XB;subst L5;have vR:(kC st.h q (.row false t' (ys.take 0++([]:List t'.den).drop 0:List t'.den)))=st.h:=by simpa using yb ho
        refine⟨N,D,w,_, .inl ?_,?_,?_,eE.2 rfl⟩
        ·have yV:cs=[]:=zef (by rw[c1];simp)
         subst yV;simp only[execOp,resolve,invoke,builtin,Builtin.copy_,zd7,zd8,zd9];simp[Ah,g6,run_underlying hu,c5,run_sizeOf w hi,<-hsz,c4,goInt]
        ·rw[St.tz,vR];exact Ext.refl _ _ _ _
        ·rw[St.tz,vR];exact s.nG
       |some ad=>
        rw[hb] at g5 i6;obtain⟨v,room,g6,g7,a',sK,rfl,g8,rfl,g9⟩:=g5;simp only[zdM] at g6;obtain⟨j1,⟨C,LY,fz,j2,j3,j4⟩,j5,j6⟩:=i6;replace j4:=j4 rfl
        simp only[zdN,if_false] at j5;have mO:eC N D w t' Cm (aX w ad):=j6;have Ga:cs.length<=nm.cap*t'.size:=by rw[c1];exact zdZ _ (by omega)
        have kf:(storeCells a' cs).run P w= .ok () (w.setCells ad.block ad.off cs):=by
         by_cases hc:cs=[]
         ·subst hc;rfl
         ·have mb:sK≠0:=by
           intro e0;have:n=0:=by omega
           rw[this,zeu] at c1;exact hc (zef c1)
          rcases g9 with rfl|g9
          ·simp only[zeu,Addr.at_,zeF]
           exact pA j2 (j4.imp_right And.left) (by omega) c3
          ·exact absurd g9 mb
        obtain⟨o1,o2,o3⟩:=ll ad.block cs ad.off w;obtain⟨C',f1,f2⟩:=js ad.block cs ad.off w C LY fz j2;have UW:=jO ad.block cs ad.off w;have one:=kL ad.block cs ad.off w;have hD: ∀b,D b->(w.setCells ad.block ad.off cs).heap[b]?=w.heap[b]?:=λb vC=>one b (λe=>j5.2 (e▸vC));have Lr:=mO.mono (λ_ h=>h) hD;have key:=s.nG.write (o':= .row false t' (ys.take n++Cm.drop n:List t'.den)) ho rfl g1 hb o1 o2 o3 UW one (by
         refine⟨nm,g1,i2,i3,PN.symm,i5,?_⟩;rw[hb];show _/\_/\_/\_
         refine⟨j1,⟨C',LY,fz,f1,by rw[f2];exact j3,λ_=>by rw[f2];exact j4⟩,by simp only[zdN,if_false];exact j5,?_⟩
         have Js:aM (β:=t'.den) (ys.take n)=n:=by simp only[aM,zea];simp only[aM] at hn;omega
         have hB:eC N D (w.setCells ad.block ad.off cs) t' (ys.take n:List t'.den) (aX (w.setCells ad.block ad.off cs) ad):=by
          refine(c2.mono (λ_ h=>h) hD).congr λj hj=>?_;rw[Js,<-c1] at hj;have:=World.cell?_setCells_in ad.block cs ad.off w (λj hj=>jk j2 (by omega)) j hj
          simp only[aX];rw[this];simp
         have hC:eC N D (w.setCells ad.block ad.off cs) t' (Cm.drop n:List t'.den) (λj=>aX (w.setCells ad.block ad.off cs) ad (n*t'.size+j)):=by
          refine(Lr.drop _).congr λj hj=>?_;simp only[aX];refine(World.cell?_setCells_out _ _ _ _ _ (λ_ _=>?_)).symm;right
          simp only;rw[c1];omega
         exact eC.append hB (by rw[Js];exact hC))
        refine⟨N,D,_,_, .inl ?_,by rw[St.tz];exact key.2,by rw[St.tz];exact key.1,eE.2 rfl⟩
        have hm:=YO nm.len (by omega)
        have hm2:min (aM (β:=t'.den) ys) nm.len=n:=hm;simp only[execOp,resolve,invoke,builtin,Builtin.copy_,zd7,zd8,zd9];simp[Ah,g6,run_underlying hu,c5,run_sizeOf w hi,<-hsz,hm2,c4,kf,goInt]
     ·cases h
   ·cases h
  ·rename_i q p off len hx
   split at h
   ·cases h
   rename_i mO;obtain⟨u,h,yS,qU⟩:=pN h;split at h
   ·rename_i n t' xs
    split at h
    ·rename_i Cm yf
     obtain⟨rfl,rfl⟩:=iU yf;exact Ie ha ht he hx (by simpa using mO) Eb (by simpa [AV.sh] using yS) (λN D w base S nm a o h1 h2 h3=>by obtain⟨q1,q2,_⟩:=qU N D w base S nm a o h1 h2 h3;exact⟨q1,q2⟩) h
    ·cases h
   ·cases h
  ·cases h
 ·cases h
end AM
namespace AM
open Go
variable {α:Type}{P:Program}{base:Nat}
theorem Dx {β γ:Type}{f:β->γ}{l:List β}{a b:γ}(h:l.map f=[a,b]): ∃x y,l=[x,y]/\f x=a/\f y=b:=by
 match l,h with
 | [x,y],h=>simp at h;exact⟨x,y,rfl,h.1,h.2⟩
theorem Ig {β γ:Type}{f:β->γ}{l:List β}{a:γ}(h:l.map f=[a]): ∃x,l=[x]/\f x=a:=by
 match l,h with
 | [x],h=>simp at h;exact⟨x,rfl,h⟩
theorem Ih {dst rt pos after guard}{b:Builtin}{args:Array Operand}{tys:Array TypeId}{st:St}{k:AV->St->Option α}{r:α}
  (h:Bd P st (name st.ep (dst.getD 999) 0) b (args.toList.map st.ev) tys.toList k=some r):ow P base ⟨dst, .call ⟨.builtin b,args,tys⟩,rt,pos,after,guard⟩ st k r:=by
 generalize ha:args.toList.map st.ev=l at h;generalize ht:tys.toList=tl at h;unfold Bd at h;split at h
 ·rename_i x t Bo
  obtain⟨x',hx,rfl⟩:=Ig ha;exact R1 hx ht h
 ·rename_i x t Bo
  obtain⟨x',hx,rfl⟩:=Ig ha;exact R8 hx ht h
 ·rename_i x y _
  obtain⟨x',y',hx,rfl,rfl⟩:=Dx ha;exact R9 hx h
 ·rename_i x y _
  obtain⟨x',y',hx,rfl,rfl⟩:=Dx ha;exact Sa hx h
 ·rename_i x y tx ty _
  obtain⟨x',y',hx,rfl,rfl⟩:=Dx ha;exact JP rfl hx ht h
 ·rename_i x y tx _
  obtain⟨x',y',hx,rfl,rfl⟩:=Dx ha;exact PX hx ht h
 ·rename_i x tx _
  obtain⟨x',hx,rfl⟩:=Ig ha;exact Ma hx ht h
 ·cases h
theorem PY {st:St}{o:Oper}{k:AV->St->Option α}{r:α}(h:aop P st o k=some r):ow P base o st k r:=by
 obtain⟨dst,op,ty,pos,after,guard⟩:=o;unfold aop at h;simp only at h;split at h
 ·exact PH h
 ·exact JK h
 ·exact Gb h
 ·exact D5 h
 ·exact L1 h
 ·exact PG h
 ·exact LX h
 ·exact PI h
 ·exact RY h (λb hb N D w a s vD=>PV hb N D w a s vD)
 ·exact PJ h
 ·exact H7 rfl h
 ·exact H0 h
 ·exact LZ rfl h
 ·exact RZ rfl h
 ·exact Mf h
 ·exact C6 rfl h
 ·exact Ea rfl h
 ·exact D7 h
 ·exact L2 h
 ·exact L4 h
 ·exact JN h
 ·exact Gc h
 ·exact Ih h
 ·cases h
end AM
namespace AM
open Go
variable {α:Type}{P:Program}{base:Nat}
def yg (P:Program)(base:Nat)(W:List Nat)(f:FuncId)(args:List AV)(st:St)(fresh:Nat)(av:AV)(fy:St):Prop:=
 (∃fn,P.funcs[f]?=some fn/\fn.body.isNone=false/\(fn.name== "runtime.NumGoroutine")=false)/\
 fy.t=st.t/\fy.nt=st.nt/\fy.ep=st.ep/\(∀id,id∉W->id/100≠fresh/100->fy.h id=st.h id)/\
 ∀N D w,kp N D w base st.h->∀lG:List Value,bB N D w args lG->Calls P f lG.toArray w λe w'=>match e with
  | .returned v=> ∃N' D',Ext N D w st.h N' D' w' fy.h/\kp N' D' w' base fy.h/\cp N' D' w' av v
  |_=>False
def sL (P:Program)(base:Nat)(env:Env α):Prop:= ∀f args st fresh k r,fresh%100=0->env.call f args st fresh k=some r->∃av fy,k av fy=some r/\yg P base (env.fp f args st fresh).2 f args st fresh av fy
def Eg (P:Program)(base:Nat)(W:List Nat)(o:Oper)(st:St)(av:AV)(fy:St):Prop:=
 fy.t=st.t/\fy.nt=st.nt/\fy.ep=st.ep/\(∀id,id∉W->qI st.ep o id=false->fy.h id=st.h id)/\
 ∀N D w a,kI N D w base st a->∀(next:Act->World->Prop) (Q:Exit->Act->World->Prop),
  (∀N' D' w' v,Ext N D w st.h N' D' w' fy.h->kp N' D' w' base fy.h->cp N' D' w' av v->next (a.put o.dst v) w')->o.wp P a w next Q
theorem PZ {st fy:St}{o:Oper}{av:AV}(h:lE P base o st av fy):Eg P base (N0 st o) o st av fy:=by
 obtain⟨h1,h2,h3,h4,h5⟩:=h;refine⟨h1,h2,h3,h4,λN D w a s next Q hn=>?_⟩;obtain⟨N',D',w',v,jT,hx,hs,hv⟩:=h5 N D w a s;unfold Oper.wp;rcases jT with jT|⟨jT,rfl⟩
 ·rw[jT,Oper.upon_value];exact hn N' D' w' v hx hs hv
 ·rw[jT,Oper.upon_skip];exact hn N' D' w' _ hx hs hv
theorem Cr {st fy:St}{av:AV}{dst ty pos after guard}{fo:Operand}{args:Array Operand}{tys:Array TypeId}{f:FuncId}{cs:List AV}{W:List Nat}
  (hf:(∃first captured,st.ev fo= .val (.func (.func f) first captured)/\first.size+captured.size=0/\cs=[])\/st.ev fo= .xq (.func f) cs)
  (h:yg P base W f (args.toList.map st.ev++cs) st (name st.ep (dst.getD 999) 0) av fy):Eg P base W ⟨dst, .call ⟨.value fo,args,tys⟩,ty,pos,after,guard⟩ st av fy:=by
 obtain⟨⟨fn,g1,g2,g3⟩,h1,h2,h3,h4,h5⟩:=h;refine⟨h1,h2,h3,λid hi hn=>h4 id hi λe=>?_,λN D w a s next Q hn=>?_⟩
 ·rw[ru] at e
  simp[qI,makes,e] at hn
 ·have nH:bB N D w (args.toList.map st.ev) (args.map a.eval).toList:=by
   have:=uT s args.toList;simpa using this
  have YP: ∃lG:List Value,bB N D w (args.toList.map st.ev++cs) lG/\(execOp a.eval ⟨dst, .call ⟨.value fo,args,tys⟩,ty,pos,after,guard⟩).run P w= .ok (.enter f lG.toArray) w:=by
   have P0: ∀xs:Array Value,(callFunc f xs).run P w= .ok (.enter f xs) w:=by
    intro xs;simp only[callFunc,zd7,run_program,zd8,g1,g3,g2,zdN,if_false,zd9]
   rcases hf with⟨first,captured,e1,e2,rfl⟩|e1
   ·have YQ:first= #[]:=zeE (by omega)
    have Ga:captured= #[]:=zeE (by omega)
    subst YQ;subst Ga;refine⟨(args.map a.eval).toList,by simpa using nH,?_⟩
    simp[execOp,resolve,s.s8 e1,Deferred.ofValue,invoke,P0];apply Array.ext';simp
   ·have hv:=s.uI e1
    unfold cp at hv;simp only[AV.isAgg,jJ,an] at hv;obtain⟨cc,h6,h7⟩:=hv;simp only[zdM] at h6;refine⟨(args.map a.eval).toList++cc.toList,?_,?_⟩
    ·have app: ∀(l:List AV) (c:List Value),bB N D w l c->bB N D w (l++cs) (c++cc.toList):=by
      intro l;induction l with
      |nil=>intro c hc;simp only[bB] at hc;subst hc;simpa using h7
      |cons x xs ih=>
       intro c hc;simp only[bB] at hc;obtain⟨c1,c2,rfl,q1,q2⟩:=hc;simp only[zel,bB];exact⟨c1,c2++cc.toList,rfl,q1,ih c2 q2⟩
     exact app _ _ nH
    ·simp[execOp,resolve,h6,Deferred.ofValue,invoke,P0]
  obtain⟨lG,k1,k2⟩:=YP;unfold Oper.wp;rw[k2,Oper.upon_enter];refine(h5 N D w s.nG lG k1).mono λe w' he=>?_;cases e with
  |returned v=>
   obtain⟨N',D',q1,q2,q3⟩:=he;exact hn N' D' w' v q1 q2 q3
  |panicked c=>exact he.elim
  |outgrown=>exact he.elim
theorem JR (a b:Nat):name a b 0%100=0:=by unfold name;omega
theorem yh {env:Env α}(he:sL P base env){st:St}{o:Oper}{k:AV->St->Option α}{r:α}(h:JD P env st o k=some r): ∃av fy,k av fy=some r/\Eg P base (yR env st o).2 o st av fy:=by
 obtain⟨dst,op,ty,pos,after,guard⟩:=o;unfold JD at h;simp only at h;split at h
 ·rename_i fo args tys
  split at h
  ·rename_i f first captured e1
   split at h
   ·rename_i hs
    obtain⟨av,fy,h1,h2⟩:=he _ _ _ _ _ _ (JR _ _) h;refine⟨av,fy,h1,?_⟩;simp only[yR,e1];exact Cr (cs:=[]) (.inl ⟨first,captured,e1,hs,rfl⟩) (by simpa using h2)
   ·cases h
  ·rename_i f cs e1
   obtain⟨av,fy,h1,h2⟩:=he _ _ _ _ _ _ (JR _ _) h;refine⟨av,fy,h1,?_⟩;simp only[yR,e1];exact Cr (.inr e1) h2
  ·cases h
 ·rename_i uH
  obtain⟨av,fy,h1,h2⟩:=PY (base:=base) h;refine⟨av,fy,h1,?_⟩;have e:(yR env st ⟨dst,op,ty,pos,after,guard⟩).2=N0 st ⟨dst,op,ty,pos,after,guard⟩:=by
   unfold yR;simp only;split<;>first|rfl|skip
   all_goals (rename_i e1;exact absurd rfl (uH _ _ _))
  rw[e];exact PZ h2
end AM
namespace AM
open Go
variable {α:Type}{P:Program}{base:Nat}
def Ar:Out->Exit
 | .norm=> .normal| .ret=> .ret| .exit id=> .exit id
def qe (P:Program):List Item->(Exit->Act->World->Prop)->Exit->Act->World->Prop
 | [],Q=>Q
 | .code c::k,Q=>Exit.then (c.wp P (qe P k Q)) (qe P k Q)
 | .NZ id::k,Q=>Exit.inBlock id (qe P k Q)
 |_::k,Q=>qe P k Q
def Item.clean:Item->Bool
 | .code _| .NZ _=>true
 |_=>false
theorem tU (Q:Exit->Act->World->Prop): ∀(k:List Item) (a:Act) (w:World),qe P k Q .ret a w=Q .ret a w
 | [],_,_=>rfl
 | .code c::k,a,w=>by simp only[qe,Exit.then];exact tU Q k a w
 | .NZ id::k,a,w=>by simp only[qe,Exit.inBlock];exact tU Q k a w
 | .ops _ _::k,a,w=>by simp only[qe];exact tU Q k a w
 | .zZ _ _ _ _::k,a,w=>by simp only[qe];exact tU Q k a w
theorem uo (Q:Exit->Act->World->Prop)(id:Nat): ∀(k:List Item) (a:Act) (w:World),qe P k Q (.exit id) a w=match AM.unwind id k with|some k'=>qe P k' Q .normal a w|none=>Q (.exit id) a w
 | [],_,_=>rfl
 | .code c::k,a,w=>by simp only[qe,Exit.then,AM.unwind];exact uo Q id k a w
 | .NZ i::k,a,w=>by
  simp only[qe,Exit.inBlock,AM.unwind];by_cases e:i=id
  ·subst e;simp
  ·rw[if_neg (λe'=>e e'.symm),if_neg e];exact uo Q id k a w
 | .ops _ _::k,a,w=>by simp only[qe,AM.unwind];exact uo Q id k a w
 | .zZ _ _ _ _::k,a,w=>by simp only[qe,AM.unwind];exact uo Q id k a w
def nr (fn:Func):Code->Prop
 | .seq a b=>nr fn a/\nr fn b
 | .cond _ a b=>nr fn a/\nr fn b
 | .block _ c=>nr fn c
 | .scope c=>nr fn c
 | .loop c=>(∀id,mw c=some id->rh id fn=c)/\nr fn c
 |_=>True
def Item.ok (fn:Func):Item->Prop
 | .code c=>nr fn c
 |_=>True
def Si (P:Program)(base:Nat)(fn:Func)(id:Nat)(st:St)(out:Out)(fy:St):Prop:=
 ∀N D w a,kI N D w base st a->(Code.loop (rh id fn)).wp P (λe a' w'=>e=Ar out/\∃N' D',kI N' D' w' base fy a'/\Ext N D w st.h N' D' w' fy.h) a w
def yi (P:Program)(base:Nat)(fn:Func)(env:Env α):Prop:= ∀id st k r,env.loop id st k=some r->∃out fy,k out fy=some r/\Si P base fn id st out fy
def zaQ (P:Program)(todo:List Item)(Q:Exit->Act->World->Prop)(a:Act)(w:World):Prop:=match todo with
 | .ops all rest::k=> ∀i,i<=all.size->rest=all.toList.drop i->wpOps P all (qe P k Q) (List.range' i (all.size-i)) a w
 |todo=>qe P todo Q .normal a w
theorem kI.XF {N:Names}{D:Nat->Prop}{w:World}{st:St}{a:Act}(s:kI N D w base st a)(e:Nat):kI N D w base {st with ep:=e} a:=⟨s.nG,s.tmps,s.nt,s.defers⟩
theorem pO {k:List Item}(hk: ∀x∈k,x.clean=true){Q:Exit->Act->World->Prop}{a:Act}{w:World}(h:zaQ P k Q a w):qe P k Q .normal a w:=by
 cases k with
 |nil=>exact h
 |cons x k=>
  cases x with
  |ops all rest=>have:=hk _ (zdT ..);simp[Item.clean] at this
  |zZ all i rest DR=>have:=hk _ (zdT ..);simp[Item.clean] at this
  |code c=>exact h
  |NZ id=>exact h
end AM
namespace AM
open Go
variable {α:Type}{P:Program}{base:Nat}
theorem kI.refine {N:Names}{D:Nat->Prop}{w:World}{st:St}{a:Act}(s:kI N D w base st a)(slot:Nat){u:AV}(hu:cp N D w u (a.tmps.getD slot Go.undef)):kI N D w base (st.put (some slot) u) a:=by
 refine⟨by rw[St.Cd];exact s.nG,λx=>?_,by rw[St.HS];exact s.nt,s.defers⟩
 simp only[St.put];split
 ·by_cases e:x=slot
  ·subst e;simp only[if_true];exact hu
  ·simp only[if_neg e];exact s.tmps x
 ·exact s.tmps x
structure xh (base:Nat)(st xi:St):Prop where
 h:xi.h=st.h
 nt:xi.nt=st.nt
 ep:xi.ep=st.ep
 rel: ∀N D w a,kI N D w base st a->kI N D w base xi a
theorem xh.refl (base:Nat)(st:St):xh base st st:=⟨rfl,rfl,rfl,λ_ _ _ _ h=>h⟩
theorem xh.put {st:St}{slot:Nat}{v:Value}(e:st.t slot= .val v):xh base st (st.put (some slot) (.val v)):=
 ⟨St.Cd _ _ _,St.HS _ _ _,St.RT _ _ _,λN D w a s=>s.refine slot (by have:=s.tmps slot;rwa [e] at this)⟩
theorem pB {N:Names}{D:Nat->Prop}{w:World}{st:St}{a:Act}(s:kI N D w base st a){all:Array Oper}{j slot:Nat}{b:Bool}(hj:(all[j]?).bind (·.dst)=some slot)(e:st.t slot= .val (.bool b)):yielded all a.tmps j=some b:=by
 have h1:=s.tmps slot;rw[e] at h1;replace h1:=eE.1 h1
 simp only[yielded,hj,zdF];cases h2:a.tmps[slot]? with
 |none=>simp[h2,Go.undef] at h1
 |some v=>simp[h2] at h1;subst h1;rfl
theorem Cs {N:Names}{D:Nat->Prop}{w:World}{st:St}{a:Act}(s:kI N D w base st a){all:Array Oper}{j slot:Nat}{c:Array Value}(hj:(all[j]?).bind (·.dst)=some slot)(e:st.t slot= .val (.tuple c)):yielded all a.tmps j=none:=by
 have h1:=s.tmps slot;rw[e] at h1;replace h1:=eE.1 h1
 simp only[yielded,hj,zdF];cases h2:a.tmps[slot]? with
 |none=>rfl
 |some v=>simp[h2] at h1;subst h1;rfl
theorem Ii {all:Array Oper}{o:Oper}{st:St}{next skip:St->Option α}{r:α}(h:guarded all o st next skip=some r):
  (∃xi,next xi=some r/\xh base st xi/\∀N D w a,kI N D w base st a->Region.wanted o (yielded all a.tmps)=true)\/
  (∃xi,skip (xi.put o.dst (.val Go.undef))=some r/\xh base st xi/\∀N D w a,kI N D w base st a->Region.wanted o (yielded all a.tmps)=false):=by
 unfold guarded at h;split at h
 ·rename_i hg
  exact .inl ⟨st,h,xh.refl _ _,λN D w a s=>by simp[Region.wanted,hg]⟩
 ·rename_i j want hg
  split at h
  ·cases h
  ·rename_i slot hj
   split at h
   ·rename_i b hb
    cases b<;>cases want<;>simp only at h
    ·exact .inl ⟨_,h,xh.put hb,λN D w a s=>by simp[Region.wanted,hg,pB s hj hb]⟩
    ·exact .inr ⟨_,h,xh.put hb,λN D w a s=>by simp[Region.wanted,hg,pB s hj hb]⟩
    ·exact .inr ⟨_,h,xh.put hb,λN D w a s=>by simp[Region.wanted,hg,pB s hj hb]⟩
    ·exact .inl ⟨_,h,xh.put hb,λN D w a s=>by simp[Region.wanted,hg,pB s hj hb]⟩
   ·rename_i c hc
    exact .inr ⟨st,h,xh.refl _ _,λN D w a s=>by simp[Region.wanted,hg,Cs s hj hc]⟩
   ·cases h
end AM
namespace AM
open Go
variable {α:Type}{P:Program}{base:Nat}
theorem Sj {st:St}{slot:Nat}{v:AV}(e:st.t slot=v):st.put (some slot) v=st:=by
 simp only[St.put];split
 ·have:(λx=>if x=slot then v else st.t x)=st.t:=by
   funext x
   by_cases h:x=slot
   ·subst h;simp[e]
   ·simp[h]
  rw[this]
 ·rfl
theorem Gg {all:Array Oper}{o:Oper}{st:St}{next skip:St->Option α}{r:α}(h:guarded all o st next skip=some r):
  (next st=some r/\∀T:St,(∀x∈o.looksAt all,T.t x=st.t x)->∀N D w a,kI N D w base T a->Region.wanted o (yielded all a.tmps)=true)\/
  (skip (st.put o.dst (.val Go.undef))=some r/\∀T:St,(∀x∈o.looksAt all,T.t x=st.t x)->∀N D w a,kI N D w base T a->Region.wanted o (yielded all a.tmps)=false):=by
 unfold guarded at h;split at h
 ·rename_i hg
  exact .inl ⟨h,λT _ N D w a s=>by simp[Region.wanted,hg]⟩
 ·rename_i j want hg
  split at h
  ·cases h
  ·rename_i slot hj
   have tJ:slot∈o.looksAt all:=by simp[Oper.looksAt,hg,hj]
   split at h
   ·rename_i b hb
    cases b<;>cases want<;>simp only[Sj hb] at h
    ·exact .inl ⟨h,λT hT N D w a s=>by simp[Region.wanted,hg,pB s hj ((hT slot tJ).trans hb)]⟩
    ·exact .inr ⟨h,λT hT N D w a s=>by simp[Region.wanted,hg,pB s hj ((hT slot tJ).trans hb)]⟩
    ·exact .inr ⟨h,λT hT N D w a s=>by simp[Region.wanted,hg,pB s hj ((hT slot tJ).trans hb)]⟩
    ·exact .inl ⟨h,λT hT N D w a s=>by simp[Region.wanted,hg,pB s hj ((hT slot tJ).trans hb)]⟩
   ·rename_i c hc
    exact .inr ⟨h,λT hT N D w a s=>by simp[Region.wanted,hg,Cs s hj ((hT slot tJ).trans hc)]⟩
   ·cases h
theorem JS {N:Names}{D:Nat->Prop}{w:World}{h:Nat->Option gi}(S:kp N D w base h){v:AV}{c:Value}(hv:cp N D w v c):cp N D w (HM h v) c:=by
 unfold HM;split
 ·rename_i i p f off
  split
  ·rename_i fs hs
   split
   ·rename_i hd
    simp only[zdU] at hd;unfold cp at hv;simp only[AV.isAgg,jJ,an] at hv;obtain⟨nm,a,o,h1,h2,h3,h4⟩:=hv;have yS:=oe (s:=⟨λ_=> .undef,h,0,0⟩) hs S h1;refine jC.2 ⟨nm,a,_,h1,h2,tI h3 yS hd.2,?_⟩;simp only[zdM] at h4;rw[h4,hd.1]
   ·exact hv
  ·exact hv
 ·exact hv
theorem kI.norm {N:Names}{D:Nat->Prop}{w:World}{st:St}{a:Act}(s:kI N D w base st a):kI N D w base (rR st) a:=⟨s.nG,λx=>JS s.nG (s.tmps x),s.nt,s.defers⟩
structure sY where
 dst:Option Tmp
 av:AV
 W:Nat->Bool
 h:Nat->Option gi
def sY.ap (E:sY)(st:St):St:=St.put {st with h:=λid=>if E.W id then E.h id else st.h id} E.dst E.av
theorem sY.Vs (E:sY)(st:St)(id:Nat):(E.ap st).h id=if E.W id then E.h id else st.h id:=by unfold sY.ap;rw[St.Cd]
theorem sY.XG (E:sY)(st:St):(E.ap st).nt=st.nt:=by unfold sY.ap;rw[St.HS]
theorem sY.XH (E:sY)(st:St):(E.ap st).ep=st.ep:=by unfold sY.ap;rw[St.RT]
theorem sY.P1 (E:sY)(st:St)(x:Nat):(E.ap st).t x=if E.dst=some x/\x<st.nt then E.av else st.t x:=by
 unfold sY.ap;cases hd:E.dst with
 |none=>simp[St.put]
 |some d=>
  simp only[St.put,zdM];by_cases h1:d<st.nt
  ·rw[if_pos h1]
   by_cases h2:x=d
   ·subst h2;simp[h1]
   ·simp[h2,Ne.symm h2]
  ·rw[if_neg h1]
   by_cases h2:d=x
   ·subst h2;simp[h1]
   ·simp[h2]
def lP (E:Nat->sY)(X:Nat->Bool)(S0:St):Nat->St
 |0=>S0
 |n+1=>if X n then(E n).ap (lP E X S0 n) else lP E X S0 n
theorem sw (E:Nat->sY)(X:Nat->Bool)(S0:St): ∀n,(lP E X S0 n).nt=S0.nt
 |0=>rfl
 |n+1=>by simp only[lP];split<;>simp[sY.XG,sw E X S0 n]
theorem yD (E:Nat->sY)(X:Nat->Bool)(S0:St): ∀n,(lP E X S0 n).ep=S0.ep
 |0=>rfl
 |n+1=>by simp only[lP];split<;>simp[sY.XH,yD E X S0 n]
theorem wK {E:Nat->sY}{X Y:Nat->Bool}{S0:St}{x:Nat}: ∀n,(∀j,j<n->X j≠Y j->(E j).dst≠some x)->(lP E X S0 n).t x=(lP E Y S0 n).t x
 |0,_=>rfl
 |n+1,h=>by
  have ih:=wK (S0:=S0) n λj hj=>h j (by omega)
  simp only[lP];cases hx:X n<;>cases hy:Y n<;>simp only[if_true,if_false,zdN,sY.P1,sw]
  ·exact ih
  ·rw[if_neg (λe=>h n (by omega) (by rw[hx,hy];simp) e.1)];exact ih
  ·rw[if_neg (λe=>h n (by omega) (by rw[hx,hy];simp) e.1)];exact ih
  ·split
   ·rfl
   ·exact ih
theorem wL {E:Nat->sY}{X Y:Nat->Bool}{S0:St}{id:Nat}: ∀n,(∀j,j<n->X j≠Y j->(E j).W id=false)->(lP E X S0 n).h id=(lP E Y S0 n).h id
 |0,_=>rfl
 |n+1,h=>by
  have ih:=wL (S0:=S0) n λj hj=>h j (by omega)
  simp only[lP];cases hx:X n<;>cases hy:Y n<;>simp only[if_true,if_false,zdN,sY.Vs]
  ·exact ih
  ·rw[h n (by omega) (by rw[hx,hy];simp)];simpa using ih
  ·rw[h n (by omega) (by rw[hx,hy];simp)];simpa using ih
  ·split
   ·rfl
   ·exact ih
theorem Cu {E:Nat->sY}{X:Nat->Bool}{S0:St}{x i:Nat}(hX:X i=true)(hd:(E i).dst=some x): ∀n,i<n->(∀j,i<j->j<n->X j=true->(E j).dst≠some x)->(lP E X S0 n).t x=if x<S0.nt then(E i).av else S0.t x
 |0,h,_=>by omega
 |n+1,h,hl=>by
  have base:x<S0.nt\/¬x<S0.nt:=zd5 x S0.nt|>.imp id Nat.not_lt.2
  by_cases e:i=n
  ·subst e
   simp only[lP,hX,if_true,sY.P1,hd,true_and,sw];rcases base with hb|hb
   ·simp[hb]
   ·simp only[hb,if_false]
    have out: ∀m,(lP E X S0 m).t x=S0.t x:=by
     intro m;induction m with
     |zero=>rfl
     |succ m ih=>
      simp only[lP];split
      ·rw[sY.P1,sw,if_neg (λq=>hb q.2)];exact ih
      ·exact ih
    exact out i
  ·have ih:=Cu (S0:=S0) hX hd n (by omega) λj h1 h2 h3=>hl j h1 (by omega) h3
   simp only[lP];split
   ·rename_i hn
    rw[sY.P1,if_neg (λq=>hl n (by omega) (by omega) hn q.1)];exact ih
   ·exact ih
theorem Cv {E:Nat->sY}{X:Nat->Bool}{S0:St}{id i:Nat}(hX:X i=true)(hd:(E i).W id=true): ∀n,i<n->(∀j,i<j->j<n->X j=true->(E j).W id=false)->(lP E X S0 n).h id=(E i).h id
 |0,h,_=>by omega
 |n+1,h,hl=>by
  by_cases e:i=n
  ·subst e
   simp only[lP,hX,if_true,sY.Vs,hd]
  ·have ih:=Cv (S0:=S0) hX hd n (by omega) λj h1 h2 h3=>hl j h1 (by omega) h3
   simp only[lP];split
   ·rename_i hn
    rw[sY.Vs,hl n (by omega) (by omega) hn];simpa using ih
   ·exact ih
end AM
namespace AM
open Go
def Cw (o:Oper)(acc:Array Nat):Nat:=o.after.foldl (λs e=>if Region.binds .any e then s|||2^e.on|||acc.getD e.on 0 else s) 0
def ry (l:List Oper)(acc:Array Nat):Array Nat:=l.foldl (λacc o=>acc.push (Cw o acc)) acc
theorem GQ (ops:Array Oper):Region.before ops=ry ops.toList #[]:=by
 unfold Region.before ry;rw[<-Array.foldl_toList];rfl
theorem zz: ∀(l:List Oper) (acc:Array Nat),(ry l acc).size=acc.size+l.length
 | [],acc=>by simp[ry]
 |o::l,acc=>by
  have:=zz l (acc.push (Cw o acc));simp only[ry,zeP] at this⊢;rw[this];simp;omega
theorem Bt: ∀(l:List Oper) (acc:Array Nat) (j:Nat),j<acc.size->(ry l acc)[j]?=acc[j]?
 | [],acc,j,_=>by simp[ry]
 |o::l,acc,j,h=>by
  have:=Bt l (acc.push (Cw o acc)) j (by simp;omega)
  simp only[ry,zeP] at this⊢;rw[this,zer,if_neg (by omega)]
theorem GR: ∀(l:List Oper) (acc:Array Nat) (j:Nat) (o:Oper),l[j]?=some o->(ry l acc)[acc.size+j]?=some (Cw o (ry (l.take j) acc))
 | [],acc,j,o,h=>by simp at h
 |o'::l,acc,0,o,h=>by
  simp only[zei,zdM] at h;subst h;have:=Bt l (acc.push (Cw o' acc)) acc.size (by simp)
  simp only[ry,zeP,zeF,List.take_zero,List.foldl_nil] at this⊢;rw[this];simp
 |o'::l,acc,j+1,o,h=>by
  have:=GR l (acc.push (Cw o' acc)) j o (by simpa using h)
  simp only[ry,zeP,Array.size_push,List.take_succ_cons] at this⊢;rw[show acc.size+(j+1)=acc.size+1+j by omega,this]
theorem Mg (l:List Oper)(j e:Nat)(he:e<j)(hj:j<=l.length):(ry (l.take j) #[]).getD e 0=(ry l #[]).getD e 0:=by
 have h1:ry l #[]=ry (l.drop j) (ry (l.take j) #[]):=by
  unfold ry;rw[<-List.foldl_append,zeY]
 have h2:=Bt (l.drop j) (ry (l.take j) #[]) e (by rw[zz];simp;omega)
 rw[h1,zeZ,zeZ,h2]
theorem P2 {o:Oper}{acc:Array Nat}{i:Nat}(h:(Cw o acc).testBit i=true): ∃e∈o.after,Region.binds .any e=true/\(i=e.on\/(acc.getD e.on 0).testBit i=true):=by
 unfold Cw at h;rw[<-Array.foldl_toList] at h;have key: ∀(l:List Edge) (s:Nat),(l.foldl (λs e=>if Region.binds .any e then s|||2^e.on|||acc.getD e.on 0 else s) s).testBit i=true->s.testBit i=true\/∃e∈l,Region.binds .any e=true/\(i=e.on\/(acc.getD e.on 0).testBit i=true):=by
  intro l;induction l with
  |nil=>intro s h;exact .inl h
  |cons e l ih=>
   intro s h;simp only[zeP] at h;rcases ih _ h with h1|⟨e',h1,h2⟩
   ·split at h1
    ·rename_i hb
     simp only[Nat.testBit_or,zeR] at h1;rcases h1 with(h1|h1)|h1
     ·exact .inl h1
     ·rw[Nat.testBit_two_pow] at h1
      exact .inr ⟨e,zdT ..,hb, .inl (of_decide_eq_true h1).symm⟩
     ·exact .inr ⟨e,zdT ..,hb, .inr h1⟩
    ·exact .inl h1
   ·exact .inr ⟨e',zdS _ h1,h2⟩
 rcases key _ _ h with h1|⟨e,h1,h2⟩
 ·simp at h1
 ·exact⟨e,by simpa using h1,h2⟩
def sa (ops:Array Oper):Bool:=(List.range ops.size).all λj=>match ops[j]? with|some o=>o.after.all λe=>!Region.binds .any e||decide (e.on<j)|none=>true
theorem yj {ops:Array Oper}(h:sa ops=true){j:Nat}{o:Oper}(ho:ops[j]?=some o){e:Edge}(he:e∈o.after)(hb:Region.binds .any e=true):e.on<j:=by
 have hj:j<ops.size:=(Array.getElem?_eq_some_iff.1 ho).1;have:=List.all_eq_true.1 h j (by simpa using hj)
 simp only[ho] at this;have:=Array.all_eq_true_iff_forall_mem.1 this e he;simpa [hb] using this
theorem ze {ops:Array Oper}(hE:sa ops=true){X:Nat->Prop}(hX: ∀j o,ops[j]?=some o->X j->∀e∈o.after,Region.binds .any e=true->X e.on): ∀(j i:Nat),X j->((Region.before ops).getD j 0).testBit i=true->X i:=by
 intro j;induction j using Nat.strongRecOn with
 |_ j ih=>
  intro i hj hb;rw[GQ] at hb;cases ho:ops.toList[j]? with
  |none=>
   have hsz:ops.toList.length<=j:=List.getElem?_eq_none_iff.1 ho;rw[zeZ,Array.getElem?_eq_none (by rw[zz];simp at hsz⊢;omega)] at hb
   simp at hb
  |some o=>
   have na:ops[j]?=some o:=by simpa using ho
   have h1:=GR ops.toList #[] j o ho;simp only[List.size_toArray,zdR,zev] at h1;rw[zeZ,h1,ze0] at hb;obtain⟨e,he,XI,hc⟩:=P2 hb;have lj:=yj hE na he XI;have hXe:=hX j o na hj e he XI;rcases hc with rfl|hc
   ·exact hXe
   ·have hjl:j<=ops.toList.length:=Nat.le_of_lt (List.getElem?_eq_some_iff.1 ho).1
    rw[Mg _ _ _ lj hjl,<-GQ] at hc;exact ih e.on lj i hXe hc
end AM
namespace AM
open Go
variable {α:Type}{P:Program}{base:Nat}
structure Ij (P:Program)(base:Nat)(ops:Array Oper)(o:Oper)(S:St)(E:sY)(F:Option Fp):Prop where
 dst:E.dst=o.dst
 run:match F with
  |none=>E.av= .val Go.undef/\(∀id,E.W id=false)/\∀T:St,(∀x∈o.looksAt ops,T.t x=S.t x)->∀N D w a,kI N D w base T a->Region.wanted o (yielded ops a.tmps)=false
  |some f=>f.2=keyOf S.ep o/\(∀id,E.W id=(f.1.2.contains id||qI S.ep o id))/\(∀T:St,(∀x∈o.looksAt ops,T.t x=S.t x)->∀N D w a,kI N D w base T a->Region.wanted o (yielded ops a.tmps)=true)/\
    ∃fy,Eg P base f.1.2 o (xe S o f.1) E.av fy/\∀id,E.W id=true->E.h id=fy.h id
theorem Eg.zcG {W W':List Nat}{o:Oper}{st:St}{av:AV}{fy:St}(h:Eg P base W o st av fy)(hW: ∀i∈W,i∈W'):Eg P base W' o st av fy:=
 ⟨h.1,h.2.1,h.2.2.1,λid hi hn=>h.2.2.2.1 id (λh'=>hi (hW id h')) hn,h.2.2.2.2⟩
theorem Sk {env:Env α}(he:sL P base env){ops:Array Oper}: ∀(n i:Nat) (rest:List Oper) (DR:List (Nat×Fp)) (k:List Item) (st:St) (K:Out->St->Option α) (r:α),
  exec P env n (.zZ ops i rest DR::k) st K=some r->i<=ops.size->rest=ops.toList.drop i->
  ∃m Mh,m<n/\exec P env m k (rR Mh) K=some r/\∃(E:Nat->sY) (S:Nat->St) (F:Nat->Option Fp),S i=st/\S ops.size=Mh/\
   (∀j o,i<=j->ops[j]?=some o->S (j+1)=(E j).ap (S j)/\Ij P base ops o (S j) (E j) (F j))/\
   (∀j f,i<=j->F j=some f->(∀q g,(q,g)∈DR->((Region.before ops).getD j 0).testBit q=true\/zb g f=false)/\∀q g,i<=q->q<j->F q=some g->((Region.before ops).getD j 0).testBit q=true\/zb g f=false):=by
 intro n;induction n with
 |zero=>intro i rest DR k st K r h;simp[exec] at h
 |succ n ih=>
  intro i rest DR k st K r h hi As;unfold exec at h;cases rest with
  |nil=>
   have hsz:i=ops.size:=by
    have:=congrArg List.length As;simp at this;omega
   subst hsz;refine⟨n,st,ze1 n,h,λ_=>⟨none, .undef,λ_=>false,λ_=>none⟩,λ_=>st,λ_=>none,rfl,rfl,λj o hj ho=>?_,λj f _ hf=>by cases hf⟩
   have:=(Array.getElem?_eq_some_iff.1 ho).1;omega
  |cons o rest=>
   have lj:i<ops.size:=by
    have:=congrArg List.length As;simp at this;omega
   have Vt:ops[i]?=some o:=by
    have h1:(ops.toList.drop i)[0]?=some o:=by rw[<-As];rfl
    rw[zed] at h1;simpa using h1
   have Ik:rest=ops.toList.drop (i+1):=by
    have h1:(ops.toList.drop i).tail=rest:=by rw[<-As];rfl
    rw[<-h1,List.tail_drop]
   simp only at h;have mb: ∀j,i+1<=j->j≠i:=λj hj=>by omega
   have Il: ∀(E0:sY) (F0:Option Fp) (Sl:List (Nat×Fp)) (Im:St),Im=E0.ap st->Ij P base ops o st E0 F0->exec P env n (.zZ ops (i+1) rest Sl::k) Im K=some r->
     (∀p,p∈DR->p∈Sl)->(∀f,F0=some f->(i,f)∈Sl/\∀q g,(q,g)∈DR->((Region.before ops).getD i 0).testBit q=true\/zb g f=false)->
     ∃m Mh,m<n+1/\exec P env m k (rR Mh) K=some r/\∃(E:Nat->sY) (S:Nat->St) (F:Nat->Option Fp),S i=st/\S ops.size=Mh/\
      (∀j o,i<=j->ops[j]?=some o->S (j+1)=(E j).ap (S j)/\Ij P base ops o (S j) (E j) (F j))/\
      (∀j f,i<=j->F j=some f->(∀q g,(q,g)∈DR->((Region.before ops).getD j 0).testBit q=true\/zb g f=false)/\∀q g,i<=q->q<j->F q=some g->((Region.before ops).getD j 0).testBit q=true\/zb g f=false):=by
    intro E0 F0 Sl Im e2 hs hx Af hF0;obtain⟨m,Mh,g1,g2,E',S',F',g3,g4,g5,g6⟩:=ih (i+1) rest Sl k Im K r hx lj Ik;refine⟨m,Mh,Nat.lt_succ_of_lt g1,g2,λj=>if j=i then E0 else E' j,λj=>if j=i then st else S' j,λj=>if j=i then F0 else F' j,by simp,?_,λj o' hj na=>?_,λj f hj hf=>?_⟩
    ·simp only[if_neg (show ops.size≠i by omega)];exact g4
    ·by_cases e:j=i
     ·subst e
      rw[Vt] at na;cases na;simp only[if_true,if_neg (show j+1≠j by omega)]
      exact⟨by rw[g3,e2],hs⟩
     ·simp only[if_neg e,if_neg (show j+1≠i by omega)]
      exact g5 j o' (by omega) na
    ·by_cases e:j=i
     ·subst e
      simp only[if_true] at hf;exact⟨(hF0 f hf).2,λq g h1 h2=>by omega⟩
     ·simp only[if_neg e] at hf
      obtain⟨h1,h2⟩:=g6 j f (by omega) hf
      refine⟨λq g hq=>h1 q g (Af _ hq),λq g h3 h4 h5=>?_⟩;by_cases e3:q=i
      ·subst e3
       simp only[if_true] at h5;exact h1 q g (hF0 g h5).1
      ·simp only[if_neg e3] at h5
       exact h2 q g (by omega) h4 h5
   rcases Gg (base:=base) h with⟨h1,hw⟩|⟨h1,hw⟩
   ·split at h1
    ·rename_i YR
     split at h1
     ·cases h1
     ·rename_i H6
      obtain⟨av,fy,h2,Mi⟩:=yh he h1;refine Il ⟨o.dst,av,λid=>(yR env (rR st) o).2.contains id||qI st.ep o id,fy.h⟩ (some (yR env (rR st) o,keyOf st.ep o)) _ _ rfl ⟨rfl,rfl,λ_=>rfl,hw,fy,Mi.zcG (λi hi=>?_),λ_ _=>rfl⟩ h2 (λp hp=>zdS _ hp) (λf hf=>?_)
      ·have:=List.all_eq_true.1 H6 i hi
       simpa using this
      ·cases hf
       refine⟨zdT ..,λq g hq=>?_⟩;have:=List.all_eq_true.1 YR (q,g) hq;simpa using this
    ·split at h1
     ·rename_i t0 x0 f0 vD
      split at h1
      ·rename_i YR
       obtain⟨av,fy,h2,Mi⟩:=yh he h1;have hW:(yR env (xe st o ([],[])) o).2=[]:=by
        unfold yR;rw[vD];simp only[N0,vD]
       rw[hW] at Mi;refine Il ⟨o.dst,av,λid=>([]:List Nat).contains id||qI st.ep o id,fy.h⟩ (some (([],[]),keyOf st.ep o)) _ _ rfl ⟨rfl,rfl,λ_=>rfl,hw,fy,Mi,λ_ _=>rfl⟩ h2 (λp hp=>zdS _ hp) (λf hf=>?_)
       cases hf;refine⟨zdT ..,λq g hq=>?_⟩;have:=List.all_eq_true.1 YR (q,g) hq;simpa using this
      ·cases h1
     ·cases h1
   ·refine Il ⟨o.dst, .val Go.undef,λ_=>false,λ_=>none⟩ none DR _ ?_ ⟨rfl,rfl,λ_=>rfl,hw⟩ h1 (λp hp=>hp) (λf hf=>by cases hf)
    simp[sY.ap]
end AM
namespace AM
open Go
variable {α:Type}{P:Program}{base:Nat}
def ta (ops:Array Oper):Bool:=sa ops&& (List.range ops.size).all λj=>(List.range j).all λi=>((Region.before ops).getD j 0).testBit i||(match ops[i]?,ops[j]? with|some x,some y=>x.apart ops y|_,_=>true)
theorem pC {ops:Array Oper}(h:ta ops=true):sa ops=true/\∀i j x y,i<j->ops[i]?=some x->ops[j]?=some y->((Region.before ops).getD j 0).testBit i=true\/x.apart ops y=true:=by
 simp only[ta,zdO] at h;refine⟨h.1,λi j x y hij hx hy=>?_⟩;have hj:j<ops.size:=(Array.getElem?_eq_some_iff.1 hy).1;have:=List.all_eq_true.1 h.2 j (by simpa using hj)
 have:=List.all_eq_true.1 this i (by simpa using hij)
 simpa [hx,hy] using this
theorem Mj {a b:Fp}(h:zb a b=false):(∀id∈a.1.2,id∉b.1.1/\id∉b.1.2)/\(∀id∈b.1.2,id∉a.1.1)/\(∀k,a.2=some k->∀id,id∈b.1.1\/id∈b.1.2->id/100≠k)/\(∀k,b.2=some k->∀id,id∈a.1.1\/id∈a.1.2->id/100≠k)/\∀k,a.2=some k->b.2≠some k:=by
 simp only[zb,Bool.or_eq_false_iff] at h;obtain⟨⟨⟨⟨h1,h2⟩,h3⟩,h4⟩,h5⟩:=h;refine⟨λid hi=>?_,λid hi=>?_,λk hk id hi=>?_,λk hk id hi=>?_,λk hk tC=>?_⟩
 ·have:=List.any_eq_false.1 h1 id hi
  simpa using this
 ·have:=List.any_eq_false.1 h2 id hi
  simpa using this
 ·rw[hk] at h3
  have:=List.any_eq_false.1 h3 id (by simpa using hi)
  simpa using this
 ·rw[hk] at h4
  have:=List.any_eq_false.1 h4 id (by simpa using hi)
  simpa using this
 ·rw[hk,tC] at h5;simp at h5
theorem zA {E:Nat->sY}{X Y:Nat->Bool}{S0:St}: ∀n,(∀j,j<n->X j=Y j)->lP E X S0 n=lP E Y S0 n
 |0,_=>rfl
 |n+1,h=>by
  have ih:=zA (S0:=S0) (E:=E) n λj hj=>h j (by omega)
  simp only[lP,h n (by omega),ih]
theorem Io {E:Nat->sY}{S0:St}{i:Nat}: ∀n,i<=n->lP E (λj=>decide (j<i)) S0 n=lP E (λ_=>true) S0 i
 |0,h=>by
  have:i=0:=by omega
  subst this;rfl
 |n+1,h=>by
  by_cases e:i=n+1
  ·subst e;exact zA _ λj hj=>by simpa using hj
  ·have ih:=Io (S0:=S0) (E:=E) n (show i<=n by omega)
   simp only[lP];rw[if_neg (by simp;omega)];exact ih
theorem Sn {E:Nat->sY}{X:Nat->Bool}{S0:St}{i n:Nat}(hi:i<n)(hX:X i=false)(ht: ∀j,i<j->j<n->X j=true->∀x,(E i).dst=some x->(E j).dst≠some x)(hh: ∀j,i<j->j<n->X j=true->∀id,(E i).W id=true->(E j).W id=false):
  lP E (λj=>X j||decide (j=i)) S0 n=(E i).ap (lP E X S0 n):=by
 have mb: ∀j,X j≠(X j||decide (j=i))->j=i:=by
  intro j h;by_cases e:j=i
  ·exact e
  ·simp[e] at h
 have e1: ∀a b:St,a.t=b.t->a.h=b.h->a.ep=b.ep->a.nt=b.nt->a=b:=by
  intro a b h1 h2 h3 h4;cases a;cases b;simp_all
 apply e1
 ·funext x
  rw[sY.P1,sw];by_cases hd:(E i).dst=some x
  ·have So:=Cu (E:=E) (X:=λj=>X j||decide (j=i)) (S0:=S0) (x:=x) (i:=i) (by simp) hd n hi λj h1 h2 h3=>ht j h1 h2 (by
    have hji:j≠i:=by omega
    simpa [hji] using h3) x hd
   rw[So];by_cases hb:x<S0.nt
   ·simp[hd,hb]
   ·simp only[hb,hd,and_false,if_false]
    have out: ∀m,(lP E X S0 m).t x=S0.t x:=by
     intro m;induction m with
     |zero=>rfl
     |succ m ih=>
      simp only[lP];split
      ·rw[sY.P1,sw,if_neg (λq=>hb q.2)];exact ih
      ·exact ih
    exact(out n).symm
  ·rw[if_neg (λq=>hd q.1)]
   refine(wK n λj _ hj=>?_).symm;rw[mb j hj];exact hd
 ·funext id
  rw[sY.Vs];cases hd:(E i).W id with
  |true=>
   have So:=Cv (E:=E) (X:=λj=>X j||decide (j=i)) (S0:=S0) (id:=id) (i:=i) (by simp) hd n hi λj h1 h2 h3=>hh j h1 h2 (by
    have hji:j≠i:=by omega
    simpa [hji] using h3) id hd
   rw[So];simp
  |false=>
   simp only[zdN,if_false];refine(wL n λj _ hj=>?_).symm;rw[mb j hj];exact hd
 ·rw[yD,sY.XH,yD]
 ·rw[sw,sY.XG,sw]
end AM
namespace AM
open Go
variable {α:Type}{P:Program}{base:Nat}
theorem Ip {o:Oper}{ops:Array Oper}{x:Nat}(h:x∈RJ o):x∈o.looksAt ops:=zdX _ h
structure lQ (P:Program)(base:Nat)(ops:Array Oper)(E:Nat->sY)(S:Nat->St)(F:Nat->Option Fp):Prop where
 step: ∀j o,ops[j]?=some o->S (j+1)=(E j).ap (S j)/\Ij P base ops o (S j) (E j) (F j)
 pair: ∀q j f g,q<j->F j=some f->F q=some g->((Region.before ops).getD j 0).testBit q=true\/zb g f=false
theorem lQ.P3 {ops:Array Oper}{E:Nat->sY}{S:Nat->St}{F:Nat->Option Fp}(R:lQ P base ops E S F): ∀j,j<=ops.size->S j=lP E (λ_=>true) (S 0) j
 |0,_=>rfl
 |j+1,h=>by
  rw[(R.step j ops[j] (zeo (by omega))).1,R.P3 j (by omega)]
  simp[lP]
theorem lQ.ep {ops:Array Oper}{E:Nat->sY}{S:Nat->St}{F:Nat->Option Fp}(R:lQ P base ops E S F){j:Nat}(h:j<=ops.size):(S j).ep=(S 0).ep:=by rw[R.P3 j h,yD]
theorem lQ.nt {ops:Array Oper}{E:Nat->sY}{S:Nat->St}{F:Nat->Option Fp}(R:lQ P base ops E S F){j:Nat}(h:j<=ops.size):(S j).nt=(S 0).nt:=by rw[R.P3 j h,sw]
structure tc (ops:Array Oper)(X:Nat->Bool)(i:Nat)(o:Oper):Prop where
 op:ops[i]?=some o
 not:X i=false
 closed: ∀j o,ops[j]?=some o->X j=true->∀e∈o.after,Region.binds .any e=true->X e.on=true
 ready: ∀e∈o.after,Region.binds .any e=true->X e.on=true
theorem tc.before {ops:Array Oper}(hE:sa ops=true){X:Nat->Bool}{i:Nat}{o:Oper}(h:tc ops X i o){j:Nat}(hj:((Region.before ops).getD i 0).testBit j=true):X j=true\/j=i:=by
 refine ze hE (X:=λq=>X q=true\/q=i) (λq o' ho hq e he hb=>?_) i j (.inr rfl) hj;rcases hq with hq|rfl
 ·exact .inl (h.closed q o' ho hq e he hb)
 ·rw[h.op] at ho;cases ho;exact .inl (h.ready e he hb)
theorem tc.after {ops:Array Oper}(hE:sa ops=true){X:Nat->Bool}{i:Nat}{o:Oper}(h:tc ops X i o){j:Nat}(hX:X j=true):((Region.before ops).getD j 0).testBit i=false:=by
 cases e:((Region.before ops).getD j 0).testBit i with
 |false=>rfl
 |true=>
  have:=ze hE (X:=λq=>X q=true) (λq o' ho hq e he hb=>h.closed q o' ho hq e he hb) j i hX e;rw[h.not] at this;cases this
section
variable {ops:Array Oper}{E:Nat->sY}{S:Nat->St}{F:Nat->Option Fp}
theorem tc.unordered (hD:ta ops=true){X:Nat->Bool}{i:Nat}{o:Oper}(h:tc ops X i o){j:Nat}(hj:X j≠decide (j<i)):j≠i/\(j<i->((Region.before ops).getD i 0).testBit j=false)/\(i<j->((Region.before ops).getD j 0).testBit i=false):=by
 have hE:=(pC hD).1;have mb:j≠i:=by intro e;subst e;simp[h.not] at hj
 refine⟨mb,λlj=>?_,λlj=>?_⟩
 ·cases e:((Region.before ops).getD i 0).testBit j with
  |false=>rfl
  |true=>
   rcases h.before hE e with h1|h1
   ·simp[h1,lj] at hj
   ·exact absurd h1 mb
 ·have hX:X j=true:=by
   cases e:X j with
   |true=>rfl
   |false=>simp[e,Nat.not_lt.2 (Nat.le_of_lt lj)] at hj
  exact h.after hE hX
theorem lQ.jX (R:lQ P base ops E S F)(hD:ta ops=true){X:Nat->Bool}{i:Nat}{o:Oper}(h:tc ops X i o){x:Nat}(hx:x∈o.looksAt ops):(lP E X (S 0) ops.size).t x=(S i).t x:=by
 have hi:i<ops.size:=(Array.getElem?_eq_some_iff.1 h.op).1;rw[R.P3 i (by omega),<-Io ops.size (show i<=ops.size by omega)]
 refine wK _ λj hj mb hd=>?_;obtain⟨h1,h2,h3⟩:=h.unordered hD mb;have hoj:=zeo hj;rw[(R.step j _ hoj).2.dst] at hd;rcases Nat.lt_or_gt_of_ne h1 with lj|lj
 ·rcases(pC hD).2 j i _ _ lj hoj h.op with q|q
  ·rw[h2 lj] at q;cases q
  ·exact(Oper.apart_spec q).1 x hd hx
 ·rcases(pC hD).2 i j _ _ lj h.op hoj with q|q
  ·rw[h3 lj] at q;cases q
  ·exact(Oper.apart_spec q).2.2 x hd hx
def Fp.all (f:Fp)(id:Nat):Prop:=id∈f.1.1\/id∈f.1.2\/f.2=some (id/100)
def Fp.out (f:Fp)(id:Nat):Prop:=id∈f.1.2\/f.2=some (id/100)
theorem Bu {a b:Fp}(h:zb a b=false){id:Nat}:(a.out id->¬b.all id)/\(b.out id->¬a.all id):=by
 obtain⟨h1,h2,h3,h4,h5⟩:=Mj h;constructor
 ·rintro(ha|ha) (hb|hb|hb)
  ·exact(h1 id ha).1 hb
  ·exact(h1 id ha).2 hb
  ·exact h4 _ hb id (.inr ha) rfl
  ·exact h3 _ ha id (.inl hb) rfl
  ·exact h3 _ ha id (.inr hb) rfl
  ·exact h5 _ ha hb
 ·rintro(hb|hb) (ha|ha|ha)
  ·exact h2 id hb ha
  ·exact(h1 id ha).2 hb
  ·exact h3 _ ha id (.inr hb) rfl
  ·exact h4 _ hb id (.inl ha) rfl
  ·exact h4 _ hb id (.inr ha) rfl
  ·exact h5 _ ha hb
theorem On {ep:Nat}{o:Oper}{id:Nat}:qI ep o id=true↔keyOf ep o=some (id/100):=by
 unfold qI keyOf;cases makes o
 ·simp
 ·simp[eq_comm]
theorem lQ.out (R:lQ P base ops E S F){j:Nat}{o:Oper}(ho:ops[j]?=some o){id:Nat}(h:(E j).W id=true): ∃f,F j=some f/\f.out id:=by
 have:=(R.step j o ho).2.run;cases hF:F j with
 |none=>rw[hF] at this;rw[this.2.1 id] at h;cases h
 |some f=>
  rw[hF] at this;refine⟨f,rfl,?_⟩;rw[this.2.1 id,zeR] at h;rcases h with h|h
  ·exact .inl (by simpa using h)
  ·exact .inr (by rw[this.1];exact On.1 h)
theorem lQ.heap (R:lQ P base ops E S F)(hD:ta ops=true){X:Nat->Bool}{i:Nat}{o:Oper}(h:tc ops X i o){f:Fp}(hF:F i=some f){id:Nat}(oT:f.all id):(lP E X (S 0) ops.size).h id=(S i).h id:=by
 have hi:i<ops.size:=(Array.getElem?_eq_some_iff.1 h.op).1;rw[R.P3 i (by omega),<-Io ops.size (show i<=ops.size by omega)]
 refine wL _ λj hj mb=>?_;obtain⟨h1,h2,h3⟩:=h.unordered hD mb;cases hW:(E j).W id with
 |false=>rfl
 |true=>
  exfalso
  obtain⟨g,hg,jD⟩:=R.out (zeo hj) hW;rcases Nat.lt_or_gt_of_ne h1 with lj|lj
  ·rcases R.pair j i f g lj hF hg with q|q
   ·rw[h2 lj] at q;cases q
   ·exact(Bu q).1 jD oT
  ·rcases R.pair i j g f lj hg hF with q|q
   ·rw[h3 lj] at q;cases q
   ·exact(Bu q).2 jD oT
theorem lQ.put (R:lQ P base ops E S F)(hD:ta ops=true){X:Nat->Bool}{i:Nat}{o:Oper}(h:tc ops X i o):lP E (λj=>X j||decide (j=i)) (S 0) ops.size=(E i).ap (lP E X (S 0) ops.size):=by
 have hi:i<ops.size:=(Array.getElem?_eq_some_iff.1 h.op).1;refine Sn hi h.not (λj lj hj hX x hdi hdj=>?_) (λj lj hj hX id hWi=>?_)
 ·have hoj:=zeo hj
  rw[(R.step j _ hoj).2.dst] at hdj;rw[(R.step i _ h.op).2.dst] at hdi;have hb:=h.after (pC hD).1 hX;rcases(pC hD).2 i j _ _ lj h.op hoj with q|q
  ·rw[hb] at q;cases q
  ·exact(Oper.apart_spec q).2.1 x hdi hdj
 ·cases hW:(E j).W id with
  |false=>rfl
  |true=>
   exfalso
   obtain⟨f,hf,hfo⟩:=R.out h.op hWi;obtain⟨g,hg,XA⟩:=R.out (zeo hj) hW;have hb:=h.after (pC hD).1 hX;rcases R.pair i j g f lj hg hf with q|q
   ·rw[hb] at q;cases q
   ·refine(Bu q).1 hfo ?_
    rcases XA with XA|XA
    ·exact .inr (.inl XA)
    ·exact .inr (.inr XA)
end
end AM
namespace AM
open Go
variable {α:Type}{P:Program}{base:Nat}
section
variable {ops:Array Oper}{E:Nat->sY}{S:Nat->St}{F:Nat->Option Fp}
theorem lQ.xe (R:lQ P base ops E S F)(hD:ta ops=true){X:Nat->Bool}{i:Nat}{o:Oper}(h:tc ops X i o){f:Fp}(hF:F i=some f)(hk:f.2=keyOf (S i).ep o):AM.xe (lP E X (S 0) ops.size) o f.1=AM.xe (S i) o f.1:=by
 have hi:i<ops.size:=(Array.getElem?_eq_some_iff.1 h.op).1;have uE:(lP E X (S 0) ops.size).ep=(S i).ep:=by rw[yD];exact(R.ep (by omega)).symm
 have Sp:(lP E X (S 0) ops.size).nt=(S i).nt:=by rw[sw];exact(R.nt (by omega)).symm
 have hH:DS (lP E X (S 0) ops.size) o f.1=DS (S i) o f.1:=by
  funext id
  unfold DS;rw[uE];split
  ·rename_i hx
   refine R.heap hD h hF ?_;simp only[zeR,List.contains_iff_mem] at hx;rcases hx with(hx|hx)|hx
   ·exact .inl hx
   ·exact .inr (.inl hx)
   ·exact .inr (.inr (by rw[hk];exact On.1 hx))
  ·rfl
 unfold AM.xe;rw[uE,Sp,hH];congr 1
 funext x
 split
 ·rename_i hx
  rw[R.jX hD h (Ip (by simpa using hx))]
 ·rfl
theorem lQ.one (R:lQ P base ops E S F)(hD:ta ops=true){X:Nat->Bool}{i:Nat}{o:Oper}(h:tc ops X i o){N:Names}{D:Nat->Prop}{w:World}{a:Act}(s:kI N D w base (lP E X (S 0) ops.size) a){Q:Exit->Act->World->Prop}{K:Act->World->Prop}
  (hK: ∀N' D' w' a',kI N' D' w' base (lP E (λj=>X j||decide (j=i)) (S 0) ops.size) a'->Ext N D w (lP E X (S 0) ops.size).h N' D' w' (lP E (λj=>X j||decide (j=i)) (S 0) ops.size).h->K a' w'):wpOp P ops Q i K a w:=by
 have hi:i<ops.size:=(Array.getElem?_eq_some_iff.1 h.op).1;obtain⟨kf,mj⟩:=R.step i o h.op;have jT:=mj.run;have xg: ∀x∈o.looksAt ops,(lP E X (S 0) ops.size).t x=(S i).t x:=λx hx=>R.jX hD h hx;rw[R.put hD h] at hK;unfold wpOp;rw[h.op];simp only;cases hF:F i with
 |none=>
  rw[hF] at jT;obtain⟨h1,h2,h3⟩:=jT;rw[if_neg (by rw[h3 _ xg N D w a s];simp)]
  have s2:=s.put (Ext.refl _ _ _ _) s.nG rfl rfl o.dst (u:= .val Go.undef) (v:=Go.undef) (eE.2 rfl);have e:(E i).ap (lP E X (S 0) ops.size)=(lP E X (S 0) ops.size).put o.dst (.val Go.undef):=by
   unfold sY.ap;rw[mj.dst,h1];simp[h2]
  rw[e] at hK;exact hK N D w _ s2 (by rw[St.Cd];exact Ext.refl _ _ _ _)
 |some f=>
  rw[hF] at jT;obtain⟨h1,h2,h3,fy,Mi,h4⟩:=jT;rw[if_pos (h3 _ xg N D w a s)];left
  have Mk:=R.xe hD h hF h1;rw[<-Mk] at Mi;obtain⟨o1,o2,o3,o4,o5⟩:=Mi;generalize hT:lP E X (S 0) ops.size=T at*;have uE:T.ep=(S i).ep:=by rw[<-hT,yD];exact(R.ep (by omega)).symm
  have sR:kI N D w base (AM.xe T o f.1) a:=⟨s.nG.part (λid=>f.1.1.contains id||f.1.2.contains id||qI T.ep o id),λx=>by
   unfold AM.xe;simp only;split
   ·exact JS (s.nG.part (λid=>f.1.1.contains id||f.1.2.contains id||qI T.ep o id)) (s.tmps x)
   ·exact py,s.nt,s.defers⟩
  refine o5 N D w a sR K Q λN' D' w' v x' s' hv=>?_;obtain⟨jS,jE⟩:=s.nG.join (F:=λid=>f.1.1.contains id||f.1.2.contains id||qI T.ep o id) (W:=(E i).W) x' s' (λid oT=>by
   rw[h2 id,<-uE] at oT;simp only[zeR] at oT⊢;rcases oT with oT|oT
   ·exact .inl (.inr oT)
   ·exact .inr oT) (λid _ oT=>by
   rw[h2 id,<-uE,Bool.or_eq_false_iff] at oT;exact o4 id (by simpa using oT.1) oT.2)
  have hj:AM.join T.h fy.h (E i).W=λid=>if(E i).W id then(E i).h id else T.h id:=by
   funext id
   unfold AM.join;cases hw:(E i).W id with
   |true=>simp[h4 id hw]
   |false=>simp
  rw[hj] at jS jE;have s2:=s.put (fy:={T with h:=λid=>if(E i).W id then(E i).h id else T.h id}) jE jS rfl rfl o.dst hv
  have e:(E i).ap T=St.put {T with h:=λid=>if(E i).W id then(E i).h id else T.h id} o.dst (E i).av:=by unfold sY.ap;rw[mj.dst]
  rw[e] at hK;exact hK N' D' w' _ s2 (by rw[St.Cd];exact jE)
end
end AM
namespace AM
open Go
variable {α:Type}{P:Program}{base:Nat}
section
variable {ops:Array Oper}{E:Nat->sY}{S:Nat->St}{F:Nat->Option Fp}
def sM (l:Array Bool)(j:Nat):Bool:=l.getD j false
def Iq (ops:Array Oper)(l:Array Bool):Prop:=l.size=ops.size/\∀j o,ops[j]?=some o->sM l j=true->∀e∈o.after,Region.binds .any e=true->sM l e.on=true
theorem Eh {l:Array Bool}(hc:Iq ops l){i:Nat}(h:i∈Region.ready .any ops l): ∃o,tc ops (sM l) i o:=by
 unfold Region.ready at h;simp only[List.mem_filter,List.mem_range,zdO,Bool.not_eq_eq_eq_not,zdJ] at h;obtain⟨hi,h1,h2⟩:=h;have Vt:=zeo hi;refine⟨ops[i],Vt,?_,hc.2,λe he hb=>?_⟩
 ·have hl:i<l.size:=by rw[hc.1];exact hi
  unfold sM;simp[Array.getD,hl] at h1⊢;exact h1
 ·rw[Vt] at h2
  simp only[zdV,ze0] at h2;have:=Array.all_eq_true_iff_forall_mem.1 h2 e he;simpa [hb,sM] using this
theorem Ml (hE:sa ops=true){l:Array Bool}(hc:Iq ops l)(h:Region.ready .any ops l=[]): ∀i,i<ops.size->sM l i=true:=by
 intro i;induction i using Nat.strongRecOn with
 |_ i ih=>
  intro hi;cases hX:sM l i with
  |true=>rfl
  |false=>
   exfalso
   have hl:i<l.size:=by rw[hc.1];exact hi
   have Vt:=zeo hi;have:i∈Region.ready .any ops l:=by
    unfold Region.ready;simp only[List.mem_filter,List.mem_range,zdO,Bool.not_eq_eq_eq_not,zdJ];refine⟨hi,?_,?_⟩
    ·unfold sM at hX
     simp[Array.getD,hl] at hX⊢;exact hX
    ·rw[Vt]
     simp only[zdV,ze0];refine Array.all_eq_true_iff_forall_mem.2 λe he=>?_;cases hb:Region.binds .any e with
     |false=>simp
     |true=>
      have:=yj hE Vt he hb;have:=ih e.on this (by omega)
      unfold sM at this;simp[this]
   rw[h] at this;cases this
def yW (l:Array Bool):Nat->Nat
 |0=>0
 |m+1=>yW l m+(if sM l m then 0 else 1)
theorem JT {l:Array Bool}: ∀m,yW l m=0->∀j,j<m->sM l j=true
 |0,_,j,h=>by omega
 |m+1,h,j,hj=>by
  simp only[yW] at h;by_cases e:j=m
  ·subst e
   cases hX:sM l j with
   |true=>rfl
   |false=>simp[hX] at h
  ·exact JT m (by omega) j (by omega)
theorem Ei {l:Array Bool}{i j:Nat}(hi:i<l.size):sM (l.setIfInBounds i true) j=(sM l j||decide (j=i)):=by
 unfold sM;by_cases e:j=i
 ·subst e;simp[Array.getD,hi]
 ·simp[zeZ,Array.getElem?_setIfInBounds_ne (Ne.symm e),e]
theorem Oo {l:Array Bool}{i:Nat}(hi:i<l.size)(hX:sM l i=false): ∀m,yW (l.setIfInBounds i true) m+(if i<m then 1 else 0)=yW l m
 |0=>by simp[yW]
 |m+1=>by
  have ih:=Oo hi hX m;simp only[yW,Ei hi];by_cases e:m=i
  ·subst e;simp[hX] at ih⊢;omega
  ·by_cases lj:i<m
   ·simp[e,lj,show i<m+1 by omega] at ih⊢;omega
   ·simp[e,lj,show¬i<m+1 by omega] at ih⊢;omega
theorem lQ.any (R:lQ P base ops E S F)(hD:ta ops=true){Q:Exit->Act->World->Prop}: ∀(fuel:Nat) (l:Array Bool),Iq ops l->yW l ops.size<=fuel->∀N D w a,kI N D w base (lP E (sM l) (S 0) ops.size) a->
  (∀N' D' w' a',kI N' D' w' base (S ops.size) a'->Ext N D w (lP E (sM l) (S 0) ops.size).h N' D' w' (S ops.size).h->Q .normal a' w')->wpAny P .any ops Q fuel l a w:=by
 have hE:=(pC hD).1;have zaR: ∀(l:Array Bool),(∀i,i<ops.size->sM l i=true)->lP E (sM l) (S 0) ops.size=S ops.size:=λl hl=>by
  rw[R.P3 _ (zd2 _)];exact zA _ λj hj=>hl j hj
 intro fuel;induction fuel with
 |zero=>
  intro l hc hf N D w a s hQ;have H6:=JT (l:=l) ops.size (Nat.le_zero.1 hf);refine⟨?_,?_⟩
  ·cases hr:Region.ready .any ops l with
   |nil=>rfl
   |cons i is=>
    obtain⟨o,hn⟩:=Eh hc (i:=i) (by rw[hr];exact zdT ..)
    have:=H6 i (Array.getElem?_eq_some_iff.1 hn.op).1;rw[hn.not] at this;cases this
  ·have e:=zaR l H6
   rw[e] at s hQ;exact hQ N D w a s (Ext.refl _ _ _ _)
 |succ fuel ih=>
  intro l hc hf N D w a s hQ;refine⟨λhr=>?_,λi hi=>?_⟩
  ·have e:=zaR l (Ml hE hc hr)
   rw[e] at s hQ;exact hQ N D w a s (Ext.refl _ _ _ _)
  ·obtain⟨o,hn⟩:=Eh hc hi
   have xF:i<ops.size:=(Array.getElem?_eq_some_iff.1 hn.op).1;have hil:i<l.size:=by rw[hc.1];exact xF
   have hX:(λj=>sM l j||decide (j=i))=sM (l.setIfInBounds i true):=by funext j;rw[Ei hil]
   refine R.one hD hn s λN' D' w' a' s' x'=>?_;rw[hX] at s' x';have C7:=Oo hil hn.not ops.size;rw[if_pos xF] at C7;refine ih _ ⟨by simp[hc.1],λj o' na hj e he hb=>?_⟩ (by omega) N' D' w' a' s' λN2 D2 w2 a2 s2 x2=>hQ N2 D2 w2 a2 s2 (x'.trans x2)
   rw[Ei hil] at hj⊢;simp only[zeR,zdU] at hj⊢;rcases hj with hj|rfl
   ·exact .inl (hc.2 j o' na hj e he hb)
   ·rw[hn.op] at na;cases na;exact .inl (hn.ready e he hb)
end
end AM
namespace AM
open Go
variable {α:Type}{P:Program}{base:Nat}
def pP:Code->Prop
 | .seq a b=>pP a/\pP b
 | .cond _ a b=>pP a/\pP b
 | .block _ c=>pP c
 | .scope c=>pP c
 | .region _ ops draw=>draw=true->ta ops=true
 |_=>True
theorem Mm {env:Env α}(he:sL P base env)(hm:P.follows .mixedOrders=true){ops:Array Oper}(hd:ta ops=true){n:Nat}{k:List Item}{st:St}{K:Out->St->Option α}{r:α}(h:exec P env n (.zZ ops 0 ops.toList []::k) st K=some r):
  ∃m Mh,m<n/\exec P env m k Mh K=some r/\∀N D w a id Q,kI N D w base st a->(∀N' D' w' a',kI N' D' w' base Mh a'->Ext N D w st.h N' D' w' Mh.h->Q .normal a' w')->(Code.region id ops true).wp P Q a w:=by
 obtain⟨m,Mh,h1,h2,E,S,F,h3,h4,h5,h6⟩:=Sk he n 0 ops.toList [] k st K r h (zeN _) (by simp)
 have R:lQ P base ops E S F:=⟨λj o ho=>h5 j o (zeN _) ho,λq j f g hq hf hg=>(h6 j f (zeN _) hf).2 q g (zeN _) hq hg⟩;refine⟨m,rR Mh,h1,h2,λN D w a id Q s hQ=>wp_region_any hm ?_⟩;have vU: ∀j,sM (Array.replicate ops.size false) j=false:=λj=>by
  unfold sM;rw[zeZ,Array.getElem?_replicate];split<;>rfl
 have h0:lP E (sM (Array.replicate ops.size false)) (S 0) ops.size=st:=by
  rw[h3];have: ∀m,lP E (sM (Array.replicate ops.size false)) st m=st:=by
   intro m;induction m with
   |zero=>rfl
   |succ m ih=>simp only[lP,vU];exact ih
  exact this _
 have C7: ∀m,yW (Array.replicate ops.size false) m=m:=by
  intro m;induction m with
  |zero=>rfl
  |succ m ih=>simp[yW,vU,ih]
 have s0:kI N D {w with drawn:=w.drawn+1} base st a:=⟨⟨λi o hi=>oc (s.nG.obj i o hi) (Names.le_refl _) (λ_ h=>h) (λ_ _=>rfl) (λ_ _=>⟨rfl,λh=>h⟩) (λ_ _ _ _=>rfl),s.nG.apart,s.nG.frozen,s.nG.named,s.nG.size,s.nG.iS⟩,λx=>GF (w:=w) (w':={w with drawn:=w.drawn+1}) (Names.le_refl _) (λ_ h=>h) (λ_ _=>rfl) (s.tmps x),s.nt,s.defers⟩;refine R.any hd ops.size _ ⟨by simp,λj o _ hj=>by rw[vU] at hj;cases hj⟩ (by rw[C7];exact zd2 _) N D _ a (by rw[h0];exact s0) λN' D' w' a' s' x'=>?_
 rw[h4] at s' x';rw[h0] at x';exact hQ N' D' w' a' s'.norm ⟨x'.names,x'.frozen,x'.os,x'.tape,x'.output,x'.size,x'.s7,x'.own,x'.JG,x'.fresh,x'.live,x'.oT⟩
def Item.YS:Item->Prop
 | .code c=>pP c
 |_=>True
theorem qC {id:Nat}: ∀{k k':List Item},AM.unwind id k=some k'->∀x∈k',x∈k
 | [],_,h=>by simp[AM.unwind] at h
 | .NZ i::k,k',h=>by
  simp only[AM.unwind] at h;split at h
  ·cases h;exact λx hx=>zdS _ hx
  ·exact λx hx=>zdS _ (qC h x hx)
 | .code _::k,k',h=>by simp only[AM.unwind] at h;exact λx hx=>zdS _ (qC h x hx)
 | .ops _ _::k,k',h=>by simp only[AM.unwind] at h;exact λx hx=>zdS _ (qC h x hx)
 | .zZ _ _ _ _::k,k',h=>by simp only[AM.unwind] at h;exact λx hx=>zdS _ (qC h x hx)
structure Good (fn:Func)(todo:List Item):Prop where
 ok: ∀x∈todo,x.ok fn
 YS: ∀x∈todo,x.YS
 clean: ∀x∈todo.tail,x.clean=true
 head: ∀all i rest DR k,todo≠ .zZ all i rest DR::k
def sN (fn:Func)(k:List Item):Prop:=(∀x∈k,x.ok fn)/\(∀x∈k,x.YS)/\∀x∈k,x.clean=true
theorem sN.C8 {fn:Func}{k:List Item}(h:sN fn k):Good fn k:=
 ⟨h.1,h.2.1,λx hx=>h.2.2 x (List.mem_of_mem_tail hx),λall i rest DR k' e=>by subst e;have:=h.2.2 _ (zdT ..);simp[Item.clean] at this⟩
theorem sN.cons {fn:Func}{c:Code}{k:List Item}(h:sN fn k)(h1:nr fn c)(h2:pP c):sN fn (.code c::k):=
 ⟨List.forall_mem_cons.2 ⟨h1,h.1⟩,List.forall_mem_cons.2 ⟨h2,h.2.1⟩,List.forall_mem_cons.2 ⟨rfl,h.2.2⟩⟩
theorem sN.NZ {fn:Func}{id:Nat}{k:List Item}(h:sN fn k):sN fn (.NZ id::k):=
 ⟨List.forall_mem_cons.2 ⟨trivial,h.1⟩,List.forall_mem_cons.2 ⟨trivial,h.2.1⟩,List.forall_mem_cons.2 ⟨rfl,h.2.2⟩⟩
theorem sN.unwind {fn:Func}{id:Nat}{k k':List Item}(h:sN fn k)(e:AM.unwind id k=some k'):sN fn k':=
 ⟨λx hx=>h.1 x (qC e x hx),λx hx=>h.2.1 x (qC e x hx),λx hx=>h.2.2 x (qC e x hx)⟩
theorem sN.ops {fn:Func}{all:Array Oper}{rest:List Oper}{k:List Item}(h:sN fn k):Good fn (.ops all rest::k):=
 ⟨List.forall_mem_cons.2 ⟨trivial,h.1⟩,List.forall_mem_cons.2 ⟨trivial,h.2.1⟩,h.2.2,λ_ _ _ _ _ e=>by cases e⟩
theorem Good.tail {fn:Func}{x:Item}{k:List Item}(h:Good fn (x::k)):sN fn k:=
 ⟨λy hy=>h.ok y (zdS _ hy),λy hy=>h.YS y (zdS _ hy),h.clean⟩
theorem Ej {env:Env α}(he:sL P base env){fn:Func}(hl:yi P base fn env)(hm:P.follows .mixedOrders=true): ∀(n:Nat) (todo:List Item) (st:St) (K:Out->St->Option α) (r:α),exec P env n todo st K=some r->Good fn todo->
  ∀N D w a (Q:Exit->Act->World->Prop),kI N D w base st a->(∀out fy,K out fy=some r->∀N' D' w' a',kI N' D' w' base fy a'->Ext N D w st.h N' D' w' fy.h->Q (Ar out) a' w')->zaQ P todo Q a w:=by
 intro n;induction n using Nat.strongRecOn with
 |_ n ih=>
 intro todo st K r h hg N D w a Q s hQ;cases n with
 |zero=>simp[exec] at h
 |succ n=>
 have XJ: ∀(id:Nat) (k:List Item) (fy:St),sN fn k->(match AM.unwind id k with|some k'=>exec P env n k' fy K|none=>K (.exit id) fy)=some r->∀N' D' w' a',kI N' D' w' base fy a'->Ext N D w st.h N' D' w' fy.h->qe P k Q (.exit id) a' w':=by
  intro id k fy hk h2 N' D' w' a' s' x';rw[uo];cases hu:AM.unwind id k with
  |some k'=>
   rw[hu] at h2;exact pO (hk.unwind hu).2.2 (ih n (ze1 n) k' fy K r h2 (hk.unwind hu).C8 N' D' w' a' Q s' λout Mn hK N2 D2 w2 a2 s2 x2=>hQ out Mn hK N2 D2 w2 a2 s2 (x'.trans x2))
  |none=>
   rw[hu] at h2;exact hQ _ fy h2 N' D' w' a' s' x'
 unfold exec at h;match todo,hg,h with
 | [],hg,h=>exact hQ .norm st h N D w a s (Ext.refl _ _ _ _)
 | .NZ id::k,hg,h=>
  have hk:=hg.tail;exact pO hk.2.2 (ih n (ze1 n) k st K r h hk.C8 N D w a Q s hQ)
 | .zZ all i rest DR::k,hg,h=>exact absurd rfl (hg.head all i rest DR k)
 | .ops all rest::k,hg,h=>
  have hk:=hg.tail;intro i hi As;cases rest with
  |nil=>
   have hlen:all.size-i=0:=by
    have:=congrArg List.length As;simp at this;omega
   rw[hlen];exact pO hk.2.2 (ih n (ze1 n) k st K r h hk.C8 N D w a Q s hQ)
  |cons o rest=>
   have lj:i<all.size:=by
    have:=congrArg List.length As;simp at this;omega
   have Vt:all[i]?=some o:=by
    have h1:(all.toList.drop i)[0]?=some o:=by rw[<-As];rfl
    rw[zed] at h1;simpa using h1
   have Ik:rest=all.toList.drop (i+1):=by
    have h1:(all.toList.drop i).tail=rest:=by rw[<-As];rfl
    rw[<-h1,List.tail_drop]
   have hr:List.range' i (all.size-i)=i::List.range' (i+1) (all.size-(i+1)):=by
    rw[show all.size-i=(all.size-(i+1))+1 by omega,List.range'_succ]
   rw[hr];simp only[wpOps,Vt];simp only at h;rcases Ii (base:=base) h with⟨xi,h1,hf,hw⟩|⟨xi,h1,hf,hw⟩
   ·rw[if_pos (hw N D w a s)]
    left
    obtain⟨av,fy,h2,o1,o2,o3,o4,o5⟩:=yh he h1;refine o5 N D w a (hf.rel _ _ _ _ s) _ _ λN' D' w' v x' s' hv=>?_;have s2:=(hf.rel _ _ _ _ s).put x' s' o1 o2 o.dst hv;refine ih n (ze1 n) (.ops all rest::k) _ K r h2 hk.ops N' D' w' _ Q s2 (λout Mn hK N2 D2 w2 a2 s3 x2=>?_) (i+1) lj Ik;rw[St.Cd] at x2;refine hQ out Mn hK N2 D2 w2 a2 s3 ?_;rw[<-hf.h];exact x'.trans x2
   ·have hwf:=hw N D w a s
    rw[if_neg (by rw[hwf];simp)]
    have s1:=hf.rel _ _ _ _ s;have s2:=s1.put (Ext.refl _ _ _ _) s1.nG rfl rfl o.dst (u:= .val Go.undef) (v:=Go.undef) (eE.2 rfl);refine ih n (ze1 n) (.ops all rest::k) _ K r h1 hk.ops N D w _ Q s2 (λout Mn hK N2 D2 w2 a2 s3 x2=>?_) (i+1) lj Ik;rw[St.Cd,hf.h] at x2;exact hQ out Mn hK N2 D2 w2 a2 s3 x2
 | .code c::k,hg,h=>
  have hk:=hg.tail;have hc:=hg.ok _ (zdT ..);have Sq:=hg.YS _ (zdT ..);show c.wp P (qe P k Q) a w
  simp only at h;split at h
  ·exact wp_skip (pO hk.2.2 (ih n (ze1 n) k st K r h hk.C8 N D w a Q s hQ))
  ·exact wp_label (pO hk.2.2 (ih n (ze1 n) k st K r h hk.C8 N D w a Q s hQ))
  ·rename_i x y
   exact wp_seq (ih n (ze1 n) (.code x:: .code y::k) st K r h ((hk.cons hc.2 Sq.2).cons hc.1 Sq.1).C8 N D w a Q s hQ)
  ·rename_i id ops draw
   split at h
   ·refine wp_region ?_
    have:=ih n (ze1 n) (.ops ops ops.toList::k) {st with ep:=st.ep+1} K r h hk.ops N D w a Q (s.XF _) hQ 0 (zeN _) (by simp)
    rwa [Nat.sub_zero,<-List.range_eq_range'] at this
   ·obtain⟨m,Mh,h1,h2,h3⟩:=Mm he hm (Sq rfl) h
    refine h3 N D w a id _ (s.XF _) λN' D' w' a' s' x'=>?_;exact pO hk.2.2 (ih m (Nat.lt_succ_of_lt h1) k Mh K r h2 hk.C8 N' D' w' a' Q s' λout Mn hK N2 D2 w2 a2 s3 x2=>hQ out Mn hK N2 D2 w2 a2 s3 (x'.trans x2))
  ·rename_i c' x y
   split at h
   ·rename_i b hb
    have hev:=s.s8 hb;cases b with
    |true=>exact wp_cond_true hev (ih n (ze1 n) (.code x::k) st K r h (hk.cons hc.1 Sq.1).C8 N D w a Q s hQ)
    |false=>exact wp_cond_false hev (ih n (ze1 n) (.code y::k) st K r h (hk.cons hc.2 Sq.2).C8 N D w a Q s hQ)
   ·rename_i hb
    split at h
    ·rename_i heq
     have heq:=kZ.1 heq;have hv:=s.uI hb;unfold cp at hv;simp only[AV.isAgg,jJ,an] at hv;obtain⟨b,hv⟩:=hv;simp only[zdM] at hv;cases b with
     |true=>exact wp_cond_true hv (ih n (ze1 n) (.code x::k) st K r h (hk.cons hc.1 Sq.1).C8 N D w a Q s hQ)
     |false=>exact wp_cond_false hv (ih n (ze1 n) (.code y::k) st K r (heq▸h) (hk.cons hc.2 Sq.2).C8 N D w a Q s hQ)
    ·cases h
   ·cases h
  ·rename_i id c'
   exact wp_block (ih n (ze1 n) (.code c':: .NZ id::k) st K r h (sN.cons (c:=c') (sN.NZ (id:=id) hk) hc Sq).C8 N D w a Q s hQ)
  ·rename_i id
   exact wp_exit (XJ id k st hk h N D w a s (Ext.refl _ _ _ _))
  ·refine wp_ret ?_
   rw[tU];exact hQ .ret st h N D w a s (Ext.refl _ _ _ _)
  ·rename_i c'
   split at h
   ·rename_i id oT
    obtain⟨out,fy,h1,h2⟩:=hl _ _ _ _ h;have hla:=hc.1 id oT;have:=h2 N D w a s;rw[hla] at this;refine wp_mono this λe a' w' hq=>?_;obtain⟨rfl,N',D',s',x'⟩:=hq;split at h1
    ·cases h1
    ·show qe P k Q .ret a' w'
     rw[tU];exact hQ .ret fy h1 N' D' w' a' s' x'
    ·rename_i Rq
     exact XJ Rq k fy hk h1 N' D' w' a' s' x'
   ·cases h
  ·cases h
end AM
namespace AM
open Go
variable {α:Type}{P:Program}{base:Nat}
def Sh.isAgg:Sh->Bool
 | .one=>false
 |_=>true
theorem At (v:AV):v.isAgg=v.sh.isAgg:=by cases v<;>simp[AV.isAgg,AV.sh,Sh.isAgg]
theorem Dy {N N':Names}{D D':Nat->Prop}{w w':World}{v v':AV}{c:Value}(hs:v'.sh=v.sh)(h:cp N D w v c)(hr: ∀g,an N D w v g->an N' D' w' v' g):cp N' D' w' v' c:=by
 unfold cp at*;rw[At v',hs,<-At v,<-la v',hs,la v];exact xP hr h
def kG.le (b b':kG):Prop:= ∀c g,b.get c=some g->b'.get c=some g
theorem kG.le_refl (b:kG):b.le b:=λ_ _ h=>h
theorem kG.le_trans {b b' Vu:kG}(h1:b.le b')(h2:b'.le Vu):b.le Vu:=λc g h=>h2 c g (h1 c g h)
theorem kG.uq {b b':kG}{c:Nat}{g:xu}(h:b.add c g=some b'):b.le b'/\b'.get c=some g:=by
 unfold kG.add at h;split at h
 ·rename_i hn
  cases h;refine⟨λc' g' h'=>?_,by simp[kG.get]⟩
  by_cases e:c=c'
  ·subst e;rw[hn] at h';cases h'
  ·simp[kG.get,e,h']
 ·rename_i i j hi
  split at h
  ·rename_i e
   cases h;subst e;exact⟨kG.le_refl _,hi⟩
  ·cases h
 ·rename_i i j hi
  split at h
  ·rename_i e
   cases h;subst e;exact⟨kG.le_refl _,hi⟩
  ·cases h
 ·cases h
def Nm.shift (off:Nat)(nm:Nm):Nm:={nm with base:=nm.base.map (Addr.at_ · (min off nm.cap*nm.sh.size)),len:=nm.len-off,cap:=nm.cap-off}
def Nm.cut (off len:Nat)(nm:Nm):Nm:={nm.shift off with len:=min len (nm.len-off)}
def lJ (N:Names)(b:kG)(Nc:Names)(c:Nat):Prop:=match b.get c with
 |some (.at_ i)=>Nc c=N i
 |some (.tl i off)=>Nc c=(N i).map (Nm.shift off)
 |some (.sl i off len)=>Nc c=(N i).map (Nm.cut off len)
 |some .nil=> ∃nm,Nc c=some nm/\nm.row=true/\nm.len=0/\nm.cap=0/\nm.base=none
 |none=>True
theorem lJ.at_ {N:Names}{b:kG}{Nc:Names}{c i:Nat}(h:lJ N b Nc c)(e:b.get c=some (.at_ i)):Nc c=N i:=by unfold lJ at h;rw[e] at h;exact h
theorem lJ.tl {N:Names}{b:kG}{Nc:Names}{c i off:Nat}(h:lJ N b Nc c)(e:b.get c=some (.tl i off)):Nc c=(N i).map (Nm.shift off):=by unfold lJ at h;rw[e] at h;exact h
theorem lJ.sl {N:Names}{b:kG}{Nc:Names}{c i off len:Nat}(h:lJ N b Nc c)(e:b.get c=some (.sl i off len)):Nc c=(N i).map (Nm.cut off len):=by unfold lJ at h;rw[e] at h;exact h
theorem lJ.nil {N:Names}{b:kG}{Nc:Names}{c:Nat}(h:lJ N b Nc c)(e:b.get c=some .nil): ∃nm,Nc c=some nm/\nm.row=true/\nm.len=0/\nm.cap=0/\nm.base=none:=by unfold lJ at h;rw[e] at h;exact h
theorem lJ.mono {N:Names}{b b':kG}{Nc:Names}{c:Nat}(h:lJ N b' Nc c)(hl:b.le b'):lJ N b Nc c:=by
 unfold lJ;split
 ·rename_i i e;exact h.at_ (hl _ _ e)
 ·rename_i i off e;exact h.tl (hl _ _ e)
 ·rename_i i off len e;exact h.sl (hl _ _ e)
 ·rename_i e;exact h.nil (hl _ _ e)
 ·trivial
theorem Ir {s:St}: ∀(t:Ty) (v:AV) (k:t.den->List Nat->Option α) (r:α),qT s t v k=some r->v.sh=sC t
 | .int k',v,k,r,h=>by
  unfold qT at h;split at h
  ·simp[AV.sh,sC]
  ·cases h
 | .bool,v,k,r,h=>by
  unfold qT at h;split at h
  ·simp[AV.sh,sC]
  ·cases h
 | .str,v,k,r,h=>by
  unfold qT at h;split at h
  ·simp[AV.sh,sC]
  ·cases h
 | .nil,v,k,r,h=>by
  unfold qT at h;split at h
  ·simp[AV.sh,AV.xH,sC]
  ·cases h
 | .cons a b,v,k,r,h=>by
  unfold qT at h;split at h
  ·rename_i x l
   have h1:=Ir a x _ r h;obtain⟨_,y,ids,h2,_⟩:=mP a x _ r h;have h3:=Ir b (.agg l) _ r h2;simp only[AV.sh] at h3;simp only[AV.sh,AV.xH,sC,<-h3,h1]
  ·cases h
 | .arr n t,v,k,r,h=>by
  unfold qT at h;split at h
  ·rename_i n' t' xs
   split at h
   ·rename_i e
    subst e;split at h
    ·rename_i ys hc
     obtain⟨rfl,_⟩:=iU hc;simp[AV.sh,sC]
    ·cases h
   ·cases h
  ·cases h
 | .deep t,v,k,r,h=>by
  unfold qT LA at h;split at h
  ·simp[AV.sh,sC]
  obtain⟨h1,h2,h3⟩:=Aa h;have:=At v;rw[h1] at this;cases hv:v.sh with
  |one=>simp[sC]
  |agg l=>rw[hv] at this;simp[Sh.isAgg] at this
  |arr n e=>rw[hv] at this;simp[Sh.isAgg] at this
 | .ref _,v,k,r,h=>by
  unfold qT at h;split at h
  ·split at h
   ·simp[AV.sh,sC]
   ·cases h
  ·simp[AV.sh,sC]
  ·cases h
theorem zax {ad:Addr}{len room XK:Nat}{v:Value}(h:HR ad len room v)(e:room=XK):HR ad len XK v:=e▸h
theorem Oq (a:Addr)(n m:Nat):Addr.at_ (Addr.at_ a n) m=Addr.at_ a (n+m):=by simp[Addr.at_,zd1]
theorem Vv {f g:Fn}(h:Yt f g=true):f=g:=by
 cases f<;>cases g<;>simp[Yt] at h
 subst h;rfl
theorem tf: ∀(p:List oE) (q:List Step) (k:oE.xt p->Option α) (f:Option α) (r:α),nN p q k f=some r->f=some r\/∃d,k d=some r/\oE.mk p d=q
 | [],[],k,f,r,h=> .inr ⟨(),h,rfl⟩
 | [],_::_,k,f,r,h=>by unfold nN at h;exact .inl h
 | .iH n::p,[],k,f,r,h=>by unfold nN at h;exact .inl h
 | .iH n::p, .iH m::q,k,f,r,h=>by
  unfold nN at h;split at h
  ·rename_i e
   simp only[zdU] at e;subst e;rcases tf p q k f r h with h1|⟨d,h1,h2⟩
   ·exact .inl h1
   ·exact .inr ⟨d,h1,by simp only[oE.mk,h2]⟩
  ·exact .inl h
 | .iH n::p, .idx i::q,k,f,r,h=>by unfold nN at h;exact .inl h
 | .idx::p,[],k,f,r,h=>by unfold nN at h;exact .inl h
 | .idx::p, .iH m::q,k,f,r,h=>by unfold nN at h;exact .inl h
 | .idx::p, .idx i::q,k,f,r,h=>by
  unfold nN at h;rcases tf p q _ f r h with h1|⟨d,h1,h2⟩
  ·exact .inl h1
  ·exact .inr ⟨(i,d),h1,by simp only[oE.mk,h2]⟩
def Fits (s:St)(v:AV)(b':kG)(i:List Nat)(cs ks:List Nat)(u:AV):Prop:=
 u.sh=v.sh/\∀N D w base,kp N D w base s.h->∀Nc D',my ks N Nc->(∀c∈cs,lJ N b' Nc c)->(∀b,D b->D' b)->lF N D' i->∀g,an N D w v g->an Nc D' w u g
mutual
theorem rz {s:St}: ∀(p:cg) (v:AV) (b:kG) (k:p.den->List Nat->kG->Option α) (f:Option α) (r:α),oS s p v b k f=some r->
  f=some r\/∃x i b',k x i b'=some r/\b.le b'/\Fits s v b' i p.cs p.ks (p.mk (λc=>c) x)
 | .hole t,v,b,k,f,r,h=>by
  unfold oS zaE at h;split at h
  ·right
   obtain⟨_,x,ids,h1,h2⟩:=mP t v _ r h;refine⟨x,ids,b,h1,kG.le_refl _,?_,λN D w base S Nc D' hE _ hD hF g hg=>?_⟩
   ·simp only[cg.mk];rw[rS,Ir t v _ r h]
   ·simp only[cg.mk]
    exact(kV t x g).2 (kH (λ_ h=>h) (λ_ _=>rfl) t x g (by simpa only[cg.ks] using hE) (h2 N D w base S g hg D' hD hF))
  ·exact .inl h
 | .vE t,v,b,k,f,r,h=>by
  unfold oS at h;split at h
  ·rename_i i p
   right
   obtain⟨u,h1,yS,qU⟩:=pN h;obtain⟨_,x,ids,h2,h3⟩:=mP t u _ r h1;refine⟨x,i::ids,b,h2,kG.le_refl _,by simp only[cg.mk,AV.sh],λN D w base S Nc D' hE _ hD hF g hg=>?_⟩
   simp only[cg.mk,an] at hg⊢;obtain⟨nm,a,o,g1,g2,g3,g4⟩:=hg;obtain⟨g5,g6,_⟩:=qU N D w base S nm a o g1 g2 g3;refine⟨Addr.at_ a o,g4,rfl,hF i (by simp) nm a g1 g2,(kV t x _).2 ?_⟩
   have:=h3 N D w base S _ g6 D' hD (λq hq=>hF q (zdS _ hq));exact kH (λ_ h=>h) (λ_ _=>rfl) _ _ _ (by simpa only[cg.ks] using hE) (jv _ _ _ _ (λj _=>by simp only[aX,Addr.at_,zd1]) this)
  ·rename_i u
   right
   obtain⟨_,x,ids,h2,h3⟩:=mP t u _ r h;refine⟨x,ids,b,h2,kG.le_refl _,by simp only[cg.mk,AV.sh],λN D w base S Nc D' hE _ hD hF g hg=>?_⟩
   simp only[cg.mk,an] at hg⊢;obtain⟨a,g1,g2,g3,g4⟩:=hg;exact⟨a,g1,g2,hD _ g3,(kV t x _).2 (kH (λ_ h=>h) (λ_ _=>rfl) t x _ (by simpa only[cg.ks] using hE) (h3 N D w base S _ g4 D' hD hF))⟩
  ·exact .inl h
 | .const c,v,b,k,f,r,h=>by
  unfold oS at h;split at h
  ·rename_i v'
   split at h
   ·rename_i hv
    right
    have:=R0 hv;subst this;exact⟨(),[],b,h,kG.le_refl _,rfl,λN D w base S Nc D' hE _ _ _ g hg=>by simpa only[cg.mk,an] using hg⟩
   ·exact .inl h
  ·exact .inl h
 | .ptr c,v,b,k,f,r,h=>by
  unfold oS at h;split at h
  ·rename_i i
   split at h
   ·rename_i b' hb
    right
    obtain⟨h1,h2⟩:=kG.uq hb;refine⟨(),[],b',h,h1,rfl,λN D w base S Nc D' hE hR _ _ g hg=>?_⟩;simp only[cg.mk,an] at hg⊢;obtain⟨nm,a,o,g1,g2⟩:=hg;exact⟨nm,a,o,by rw[(hR c (by simp[cg.cs])).at_ h2];exact g1,g2⟩
   ·exact .inl h
  ·exact .inl h
 | .own c,v,b,k,f,r,h=>by
  unfold oS at h;split at h
  ·rename_i i off
   split at h
   ·rename_i b' hb
    right
    obtain⟨h1,h2⟩:=kG.uq hb;refine⟨(),[],b',h,h1,rfl,λN D w base S Nc D' hE hR _ _ g hg=>?_⟩;simp only[cg.mk,an] at hg⊢;obtain⟨nm,g1,g2,g3,g4,g5⟩:=hg;refine⟨nm.shift off,by rw[(hR c (by simp[cg.cs])).tl h2,g1];rfl,g2,zeN _,by simp only[Nm.shift];omega,?_⟩
    cases pV:nm.base with
    |none=>
     rw[pV] at g5;simp only[Nm.shift,pV,zeK];exact⟨by rw[g5.1];exact Nat.zero_sub _,g5.2⟩
    |some a=>
     rw[pV] at g5;simp only[Nm.shift,pV,zdV];obtain⟨u,room,g6,g7,g8⟩:=g5;refine⟨u,room,g6,by omega,?_⟩
     rw[Oq,zeJ (zd3 g3 g4)];simpa using g8
   ·exact .inl h
  ·split at h
   ·rename_i b' hb
    right
    obtain⟨h1,h2⟩:=kG.uq hb;refine⟨(),[],b',h,h1,rfl,λN D w base S Nc D' hE hR _ _ g hg=>?_⟩;simp only[cg.mk,an] at hg⊢;obtain⟨nm,g1,g2,g3,g4,g5⟩:=(hR c (by simp[cg.cs])).nil h2
    refine⟨nm,g1,g2,zeN _,by omega,?_⟩
    rw[g5];exact⟨g3,hg⟩
   ·exact .inl h
  ·split at h
   ·rename_i i off len _ mO
    split at h
    ·rename_i b' hb
     right
     obtain⟨h1,h2⟩:=kG.uq hb;refine⟨(),[],b',h,h1,rfl,λN D w base S Nc D' hE hR _ _ g hg=>?_⟩;simp only[cg.mk,an] at hg⊢;obtain⟨nm,g1,g2⟩:=hg;have hr:nm.row=true:=by
      unfold zV at mO;split at mO
      ·rename_i ho
       obtain⟨mN,e1,e2,_⟩:=S.obj i _ ho;rw[g1] at e1;cases e1;exact e2
      ·cases mO
     refine⟨nm.cut off len,by rw[(hR c (by simp[cg.cs])).sl h2,g1];rfl,hr,zeN _,?_,?_⟩
     ·cases pV:nm.base with
      |none=>rw[pV] at g2;simp only[Nm.cut,Nm.shift];omega
      |some a=>
       rw[pV] at g2;simp only[hr,List.isEmpty_nil,ze2,if_true] at g2;simp only[Nm.cut,Nm.shift];omega
     cases pV:nm.base with
     |none=>
      rw[pV] at g2;simp only[Nm.cut,Nm.shift,pV,zeK];obtain⟨_,_,g3,_,g4⟩:=g2;subst g3;exact⟨by omega,g4⟩
     |some a=>
      rw[pV] at g2;simp only[hr,List.isEmpty_nil,ze2,if_true] at g2;obtain⟨g3,g4,u,room,g5,g6,g7,g8⟩:=g2;simp only[Nm.cut,Nm.shift,pV,zdV];refine⟨u,room,g5,by omega,?_⟩
      rw[Oq,zeJ (show off<=nm.cap by omega),zeJ (show len<=nm.len-off by omega)]
      simpa using g8
    ·exact .inl h
   ·exact .inl h
  ·exact .inl h
 | .F4 c,v,b,k,f,r,h=>by
  unfold oS at h;split at h
  ·rename_i i off len
   split at h
   ·rename_i h0
    simp only[zdU] at h0;subst h0;split at h
    ·rename_i b' hb
     right
     obtain⟨h1,h2⟩:=kG.uq hb;refine⟨len,[],b',h,h1,rfl,λN D w base S Nc D' hE hR _ _ g hg=>?_⟩;simp only[cg.mk,an] at hg⊢;obtain⟨nm,g1,g2⟩:=hg;refine⟨nm.shift 0,by rw[(hR c (by simp[cg.cs])).tl h2,g1];rfl,?_⟩
     cases pV:nm.base with
     |none=>
      rw[pV] at g2;simp only[Nm.shift,pV,zeK];exact g2
     |some a=>
      rw[pV] at g2;simp only[Nm.shift,pV,zdV];simp only at g2;split at g2
      ·rename_i mO
       rw[if_pos mO];obtain⟨g3,g4,u,room,g5,g6,g7,g8⟩:=g2;exact⟨g3,g4,u,room,g5,g6,g7,by rw[Oq];simpa using g8⟩
      ·rename_i mO
       rw[if_neg mO];obtain⟨o,n,e,u,room,g3,g4,g5,g6,g7,g8⟩:=g2;exact⟨o,n,e,u,room,g3,g4,g5,g6,g7,by rw[Oq];simpa using g8⟩
    ·exact .inl h
   ·exact .inl h
  ·exact .inl h
 | .agg ps,v,b,k,f,r,h=>by
  unfold oS at h;split at h
  ·rename_i vs
   rcases vh ps vs b k f r h with h1|⟨x,i,b',h1,h2,h3,h4⟩
   ·exact .inl h1
   ·right
    refine⟨x,i,b',h1,h2,by simp only[cg.mk,AV.sh,h3],λN D w base S Nc D' hE hR hD hF g hg=>?_⟩
    simp only[cg.mk,an] at hg⊢;exact(h4 N D w base S Nc D' (by simpa [cg.ks] using hE) (by simpa [cg.cs] using hR) hD hF).1 g hg
  ·exact .inl h
 | .kv c p,v,b,k,f,r,h=>by
  unfold oS at h;split at h
  ·rename_i i q
   rcases tf p q _ f r h with h1|⟨d,hd,hq⟩
   ·exact .inl h1
   ·split at hd
    ·rename_i b' hb
     right
     obtain⟨h1,h2⟩:=kG.uq hb;refine⟨d,[],b',hd,h1,rfl,λN D w base S Nc D' hE hR _ _ g hg=>?_⟩;simp only[cg.mk,an] at hg⊢;obtain⟨nm,a,o,g1,g2⟩:=hg;exact⟨nm,a,o,by rw[(hR c (by simp[cg.cs])).at_ h2];exact g1,by rw[hq];exact g2⟩
    ·exact .inl hd
  ·exact .inl h
 | .xq fn ps,v,b,k,f,r,h=>by
  unfold oS at h;split at h
  ·rename_i fn' vs
   split at h
   ·rename_i hfn
    have hfn:=Vv hfn;subst hfn;rcases vh ps vs b k f r h with h1|⟨x,i,b',h1,h2,h3,h4⟩
    ·exact .inl h1
    ·right
     refine⟨x,i,b',h1,h2,by simp only[cg.mk,AV.sh],λN D w base S Nc D' hE hR hD hF g hg=>?_⟩
     simp only[cg.mk,an] at hg⊢;obtain⟨cs,g1,g2⟩:=hg;exact⟨cs,g1,(h4 N D w base S Nc D' (by simpa [cg.ks] using hE) (by simpa [cg.cs] using hR) hD hF).2 _ g2⟩
   ·exact .inl h
  ·exact .inl h
 | .uD c n,v,b,k,f,r,h=>by
  unfold oS at h;split at h
  ·rename_i i m
   split at h
   ·rename_i hn
    simp only[zdU] at hn;subst hn;split at h
    ·rename_i b' hb
     right
     obtain⟨h1,h2⟩:=kG.uq hb;refine⟨(),[],b',h,h1,rfl,λN D w base S Nc D' hE hR _ _ g hg=>?_⟩;simp only[cg.mk,an] at hg⊢;obtain⟨nm,a,g1,g2⟩:=hg;exact⟨nm,a,by rw[(hR c (by simp[cg.cs])).at_ h2];exact g1,g2⟩
    ·exact .inl h
   ·exact .inl h
  ·exact .inl h
 | .skip,v,b,k,f,r,h=>by
  unfold oS at h;split at h
  ·rename_i yS
   right
   exact⟨(),[],b,h,kG.le_refl _,by simp only[cg.mk,AV.sh];exact yS.symm,λN D w base S Nc D' hE _ _ _ g hg=>by simp only[cg.mk,an]⟩
  ·exact .inl h
 | .Jx p,v,b,k,f,r,h=>by
  unfold oS at h;split at h
  ·rename_i i q
   obtain⟨u,h1,yS,qU⟩:=pN h;rcases rz p u b _ f r h1 with h2|⟨x,ids,b',h2,h3,h4,h5⟩
   ·exact .inl h2
   ·right
    refine⟨x,i::ids,b',h2,h3,by simp only[cg.mk,AV.sh],λN D w base S Nc D' hE hR hD hF g hg=>?_⟩
    simp only[cg.mk,an] at hg⊢;obtain⟨nm,a,o,g1,g2,g3,g4⟩:=hg;obtain⟨g5,g6,_⟩:=qU N D w base S nm a o g1 g2 g3;refine⟨Addr.at_ a o,g4,rfl,hF i (by simp) nm a g1 g2,?_⟩
    have:=h5 N D w base S Nc D' (by simpa only[cg.ks] using hE) (by simpa only[cg.cs] using hR) hD (λq hq=>hF q (zdS _ hq)) _ g6
    exact ke _ _ _ (λj _=>by simp only[aX,Addr.at_,zd1]) this
  ·rename_i u
   rcases rz p u b k f r h with h2|⟨x,ids,b',h2,h3,h4,h5⟩
   ·exact .inl h2
   ·right
    refine⟨x,ids,b',h2,h3,by simp only[cg.mk,AV.sh],λN D w base S Nc D' hE hR hD hF g hg=>?_⟩
    simp only[cg.mk,an] at hg⊢;obtain⟨a,g1,g2,g3,g4⟩:=hg;exact⟨a,g1,g2,hD _ g3,h5 N D w base S Nc D' (by simpa only[cg.ks] using hE) (by simpa only[cg.cs] using hR) hD hF _ g4⟩
  ·exact .inl h
theorem vh {s:St}: ∀(ps:List cg) (vs:List AV) (b:kG) (k:cg.xt ps->List Nat->kG->Option α) (f:Option α) (r:α),uP s ps vs b k f=some r->
  f=some r\/∃x i b',k x i b'=some r/\b.le b'/\AV.xH (cg.pK (λc=>c) ps x)=AV.xH vs/\∀N D w base,kp N D w base s.h->∀Nc D',my (cg.RL ps) N Nc->(∀c∈cg.Vk ps,lJ N b' Nc c)->(∀b,D b->D' b)->lF N D' i->(∀g,fE N D w vs g->fE Nc D' w (cg.pK (λc=>c) ps x) g)/\∀cs,bB N D w vs cs->bB Nc D' w (cg.pK (λc=>c) ps x) cs
 | [],[],b,k,f,r,h=>by
  unfold uP at h;exact .inr ⟨(),[],b,h,kG.le_refl _,rfl,λN D w base S Nc D' hE _ _ _=>⟨λg _=>by simp only[cg.pK,fE],λcs hc=>by simpa only[cg.pK,bB] using hc⟩⟩
 |p::ps,v::vs,b,k,f,r,h=>by
  unfold uP at h;rcases rz p v b _ f r h with h1|⟨x,i,b',h1,h2,h3,h4⟩
  ·exact .inl h1
  ·rcases vh ps vs b' _ f r h1 with h5|⟨y,j,Vu,h5,h6,h7,h8⟩
   ·exact .inl h5
   ·right
    refine⟨(x,y),i++j,Vu,h5,kG.le_trans h2 h6,by simp only[cg.pK,AV.xH,h3,h7],λN D w base S Nc D' hE hR hD hF=>?_⟩
    simp only[cg.RL] at hE;have a1:=h4 N D w base S Nc D' hE.left (λc hc=>(hR c (by simp[cg.Vk,hc])).mono h6) hD hF.left
    obtain⟨a2,a3⟩:=h8 N D w base S Nc D' hE.right (λc hc=>hR c (by simp[cg.Vk,hc])) hD hF.right
    have hsz:(p.mk (λc=>c) x).size=v.size:=by rw[<-la,h3,la]
    refine⟨λg hg=>?_,λcs hc=>?_⟩
    ·simp only[cg.pK,fE] at hg⊢
     refine⟨a1 g hg.1,?_⟩;rw[hsz];exact a2 _ hg.2
    ·simp only[cg.pK,bB] at hc⊢
     obtain⟨c,tS,e1,e2,e3⟩:=hc;exact⟨c,tS,e1,Dy (v:=v) h3 e2 a1,a3 _ e3⟩
 | [],_::_,b,k,f,r,h=>by unfold uP at h;exact .inl h
 |_::_,[],b,k,f,r,h=>by unfold uP at h;exact .inl h
end
end AM
namespace AM
open Go
variable {α:Type}{P:Program}{base:Nat}
def aG.sh:aG->Sh
 | .row t=>sC t
 |_=> .one
def aG.isVar:aG->Bool
 | .var _=>true
 |_=>false
theorem gd {l:List (Nat×aG)}{x:Nat}:de l x=true↔∃e∈l,e.1=x/\e.2.nf=true:=by
 unfold de;rw[List.any_eq_true];constructor
 ·rintro⟨e,he,h⟩
  rw[zdO] at h;refine⟨e,he,by simpa using h.1,?_⟩
  have h2:=h.2;unfold aG.nf;exact h2
 ·rintro⟨e,he,h1,h2⟩
  refine⟨e,he,?_⟩;rw[zdO];exact⟨by simpa using h1,h2⟩
theorem Dz {b:kG}{c:Nat}(h: ¬SB<=c):b.look c=b.get c:=by unfold kG.look;rw[decide_eq_false h]
theorem uV {b:kG}{c:Nat}(h:SB<=c):b.look c=some (.at_ c):=by unfold kG.look;rw[decide_eq_true h]
theorem Ot {b b':kG}(h:b.le b'){c:Nat}{g:xu}(e:b.look c=some g):b'.look c=some g:=by
 by_cases hc:SB<=c
 ·rw[uV hc] at e⊢;exact e
 ·rw[Dz hc] at e⊢;exact h _ _ e
def yk (N:Names)(g:Option xu)(p:aG):Option Nm:=match p.nf with
 |true=>none
 |false=>match g with
  |some (.at_ i)=>N i
  |some (.tl i off)=>(N i).map (Nm.shift off)
  |some (.sl i off len)=>(N i).map (Nm.cut off len)
  |some .nil=>some ⟨none,p.sh,true,0,0⟩
  |none=>none
def th (N:Names)(b:kG):List (Nat×aG)->Nat->Option Nm
 | []=>λ_=>none
 |o::os=>λc=>if c=o.1 then yk N (b.look o.1) o.2 else th N b os c
def jl (N:Names)(b:kG)(l:List (Nat×aG)):Names:=⟨λp=>match p with| []=>th N b l|(g,k)::p=>if de l (SB+g)=true then N.at_ ((g,k)::p) else λ_=>none⟩
theorem zay (N:Names)(b:kG)(l:List (Nat×aG))(c:Nat):jl N b l c=th N b l c:=rfl
theorem vV {N:Names}{b:kG}{l:List (Nat×aG)}{g:Nat}(h:de l (SB+g)=true)(k:Nat):(jl N b l).sub g k=N.sub g k:=by
 unfold Names.sub jl;simp only[h,if_true]
theorem zB {N:Names}{b:kG}{l:List (Nat×aG)}{g:Nat}(h:de l (SB+g)=false)(k:Nat):(jl N b l).sub g k=Names.nil:=by
 unfold Names.sub jl Names.nil;simp only[h,zdN,if_false]
theorem Au {s:St}: ∀(l:List (Nat×cg)) (b:kG) (k:xf l->List Nat->kG->Option α) (f:Option α) (r:α),HN s l b k f=some r->
  f=some r\/∃x i b',k x i b'=some r/\b.le b'/\∀N D w base,kp N D w base s.h->∀Nc D',my (DV l) N Nc->(∀c∈Bg l,lJ N b' Nc c)->(∀b,D b->D' b)->lF N D' i->∀y c,cp N D w (s.t y) c->cp Nc D' w (zq (λc=>c) l x y) c
 | [],b,k,f,r,h=> .inr ⟨(),[],b,h,kG.le_refl _,λN D w base S Nc D' _ _ _ _ y c _=>by simp only[zq];exact py⟩
 |o::os,b,k,f,r,h=>by
  unfold HN at h;rcases rz o.2 (s.t o.1) b _ f r h with h1|⟨x,i,b',h1,h2,h3,h4⟩
  ·exact .inl h1
  ·rcases Au os b' _ f r h1 with h5|⟨y,j,Vu,h5,h6,h7⟩
   ·exact .inl h5
   ·right
    refine⟨(x,y),i++j,Vu,h5,kG.le_trans h2 h6,λN D w base S Nc D' hE hR hD hF z c hc=>?_⟩;have hE:my (o.2.ks++DV os) N Nc:=by simpa only[DV,zet] using hE
    simp only[zq];by_cases e:z=o.1
    ·rw[if_pos e]
     subst e;exact Dy h3 hc λg hg=>h4 N D w base S Nc D' hE.left (λc hc=>(hR c (by simp[Bg,hc])).mono h6) hD hF.left g hg
    ·rw[if_neg e]
     exact h7 N D w base S Nc D' hE.right (λc hc=>hR c (by simp only[Bg,zet,ze3] at hc⊢;exact .inr hc)) hD hF.right z c hc
def gi.own:gi->Bool
 | .store _ _=>true
 |o=>o.rw
def Vw (s:St)(p:aG)(g:xu):Prop:= ∀i∈g.ids,(∃o,s.h i=some o/\o.own=true/\(p.nf=false->o.rw=true))\/p.nf=true/\iS (s.h i)=true
def Ou (s:St)(N:Names)(D:Nat->Prop)(l:List Nat):Prop:= ∀i∈l,∀o b,s.h i=some o->jd N i o b->¬D b
theorem Ek {e e':List (Nat×aG)}{xs:List (cS e)}{ys:List (cS e')}(h:N4 e e' xs=some ys): ∃q:e=e',ys=q▸xs:=by
 unfold N4 at h;split at h
 ·rename_i hb
  simp only[zdM] at h;exact⟨Ds hb,h.symm⟩
 ·cases h
theorem GS {N Nc:Names}{D D':Nat->Prop}{w:World}{t:Ty}{xs:List t.den}{i c off len:Nat}{nm mN:Nm}(e1:N i=some nm)(h:nP N D w base i false t xs)(hc:Nc c=some mN)(hb:mN.base=(nm.shift off).base)(hs:mN.sh=nm.sh)(hr:mN.row=nm.row)(hl:mN.len=len)(Ga:mN.cap=nm.cap-off)
  (hle:len<=nm.len-off) (hK:my t.ks N Nc) (hD: ∀b,D b->D' b) (hnd: ∀a,nm.base=some a->¬D' a.block):nP Nc D' w base c false t ((xs.drop off).take len:List t.den):=by
 obtain⟨Xy,f1,e2,e3,e4,e5,e6⟩:=h;rw[e1] at f1;cases f1;have hlen:aM (β:=t.den) ((xs.drop off).take len)=len:=by simp only[aM,zea,zeb];simp only[aM] at e4;omega
 refine⟨mN,hc,by rw[hr];exact e2,by rw[hs];exact e3,by rw[hl];exact hlen.symm,by rw[hl,Ga];omega,?_⟩
 cases vC:nm.base with
 |none=>
  rw[vC] at e6;rw[hb];simp only[Nm.shift,vC,zeK];omega
 |some a=>
  rw[vC] at e6;rw[hb];simp only[Nm.shift,vC,zdV];obtain⟨f1,⟨cc,ty,fz,f2,f3,f4⟩,f5,f6⟩:=e6;simp only[zdN,if_false] at f5⊢;have hsz:nm.sh.size=t.size:=by rw[e3,iT]
  refine⟨rfl,⟨cc,ty,fz,f2,?_,λ_=>f4 rfl⟩,⟨f5.1,hnd a vC⟩,λj x hx=>?_⟩
  ·have h1:min off nm.cap*nm.sh.size+(nm.cap-off)*t.size=nm.cap*t.size:=by
    rw[hsz,<-zd0];congr 1;omega
   rw[Ga];simp only[Addr.at_];omega
  ·have hx2:((xs.drop off).take len)[j]?=some x:=hx
   rw[zec] at hx2;split at hx2
   ·rename_i hj
    rw[zed] at hx2;have Cf:ko (β:=t.den) xs (off+j)=some x:=hx2;have lj:=yC Cf;have YO:min off nm.cap=off:=by omega
    refine iI.func (kH hD (λ_ _=>rfl) _ _ _ hK (f6 _ _ Cf)) λm=>?_;simp only[aX,Addr.at_];congr 2
    rw[YO,hsz,zd0];omega
   ·cases hx2
theorem Is {s:St}{f:Option α}(p:aG)(g:xu)(b:kG)(k:p.den->List Nat->kG->Option α)(r:α)(h:LH s f p g b k=some r):
  f=some r\/∃x i b',k x i b'=some r/\b.le b'/\Vw s p g/\(p.isVar=true->∃i,g= .at_ i)/\(∀ep ys,p.mk (λc=>c) x= .store ep ys->∃i,g= .at_ i/\SB<=i/\(s.h i=some (.store ep ys)\/iS (s.h i)=true/\ys=[]))/\
   ∀N D w base,kp N D w base s.h->∀Nc D' c,my p.ks N Nc->(∀c∈p.cs,lJ N b' Nc c)->(∀b,D b->D' b)->lF N D' i->Ou s N D' g.ids->(p.nf=false->Nc c=yk N (some g) p)->(p.nf=true->g= .at_ c/\∀k,Nc.sub (c-SB) k=N.sub (c-SB) k)->qK Nc D' w base c (p.mk (λc=>c) x):=by
 unfold LH at h;split at h
 ·rename_i p i k
  split at h
  ·rename_i v hv
   rcases rz p v b _ f r h with h1|⟨x,j,b',h1,h2,h3,h4⟩
   ·exact .inl h1
   ·refine .inr ⟨x,j,b',h1,h2,λi' nM=>?_,λ_=>⟨i,rfl⟩,λep ys e=>by simp[aG.mk] at e,λN D w base S Nc D' c hE hR hD hF hN hc _=>?_⟩
    ·simp only[xu.ids,ze4] at nM
     subst nM;exact .inl ⟨_,hv,rfl,λ_=>rfl⟩
    ·obtain⟨nm,a,e1,e2,e3,e4,e5,e6,e7,e8,⟨cc,ty,e9,xE⟩,Ob⟩:=S.obj i _ hv
     have hc:Nc c=N i:=hc rfl;refine⟨nm,a,by rw[hc];exact e1,e2,e3,by rw[e4];exact h3.symm,e5,e6,e7,hN i (by simp[xu.ids]) _ _ hv (jd.of rfl e1 e2),⟨cc,ty,e9,?_⟩,h4 N D w base S Nc D' hE hR hD hF _ Ob⟩
     rw[xE,<-la v,<-la,h3]
  ·cases h
 ·rename_i t i off k
  split at h
  ·rename_i t' xs hv
   split at h
   ·rename_i ys yf
    obtain⟨rfl,rfl⟩:=iU yf;refine .inr ⟨_,_,_,h,kG.le_refl _,λi' nM=>?_,(by intro e;cases e),λep ys e=>by simp[aG.mk] at e,λN D w base S Nc D' c hE hR hD hF hN hc _=>?_⟩
    ·simp only[xu.ids,ze4] at nM
     subst nM;exact .inl ⟨_,hv,rfl,λ_=>rfl⟩
    ·have nq:nP N D w base i false t' ys:=S.obj i _ hv
     obtain⟨nm,e1,e2,e3,e4,e5,e6⟩:=id nq;have hc:Nc c=some (nm.shift off):=by have:=hc rfl;simpa [yk,aG.nf,e1] using this
     have:=GS (len:=nm.len-off) e1 nq hc rfl rfl rfl rfl rfl (zd2 _) hE hD (λa ha=>hN i (by simp[xu.ids]) _ _ hv (jd.of rfl e1 ha))
     rw[e4] at this;have e:((ys.drop off).take (aM (β:=t'.den) ys-off):List t'.den)=ys.drop off:=zeg (by simp[aM])
     rw[e] at this;exact this
   ·cases h
  ·cases h
 ·rename_i t i off len k
  split at h
  ·rename_i t' xs hv
   split at h
   ·rename_i ys yf
    obtain⟨rfl,rfl⟩:=iU yf;refine .inr ⟨_,_,_,h,kG.le_refl _,λi' nM=>?_,(by intro e;cases e),λep ys e=>by simp[aG.mk] at e,λN D w base S Nc D' c hE hR hD hF hN hc _=>?_⟩
    ·simp only[xu.ids,ze4] at nM
     subst nM;exact .inl ⟨_,hv,rfl,λ_=>rfl⟩
    ·have nq:nP N D w base i false t' ys:=S.obj i _ hv
     obtain⟨nm,e1,e2,e3,e4,e5,e6⟩:=id nq;have hc:Nc c=some (nm.cut off len):=by have:=hc rfl;simpa [yk,aG.nf,e1] using this
     have:=GS (len:=min len (nm.len-off)) e1 nq hc rfl rfl rfl rfl rfl (Nat.min_le_right _ _) hE hD (λa ha=>hN i (by simp[xu.ids]) _ _ hv (jd.of rfl e1 ha))
     rw[e4] at this;have e:((ys.drop off).take (min len (aM (β:=t'.den) ys-off)):List t'.den)=(ys.drop off).take len:=by
      rcases Nat.le_total len (aM (β:=t'.den) ys-off) with hl|hl
      ·rw[zeJ hl]
      ·rw[Nat.min_eq_right hl,zeg (show(ys.drop off).length<=len by simpa [aM] using hl),zeg (by simp[aM])]
     rw[e] at this;exact this
   ·cases h
  ·cases h
 ·rename_i t k
  refine .inr ⟨_,_,_,h,kG.le_refl _,λi' nM=>by simp[xu.ids] at nM,(by intro e;cases e),λep ys e=>by simp[aG.mk] at e,λN D w base S Nc D' c hE hR hD hF hN hc _=>?_⟩
  exact⟨_,hc rfl,rfl,rfl,rfl,zd2 _,rfl⟩
 ·rename_i ep i k
  split at h
  ·rename_i hSB
   simp only[zdU] at hSB;have Vx:iS (s.h i)=true->k [] [] b=some r->∃x j b',k x j b'=some r/\b.le b'/\Vw s (.store ep) (.at_ i)/\((aG.store ep).isVar=true->∃i',xu.at_ i= .at_ i')/\(∀F5 ys,(aG.store ep).mk (λc=>c) x= .store F5 ys->∃i',xu.at_ i= .at_ i'/\SB<=i'/\(s.h i'=some (.store F5 ys)\/iS (s.h i')=true/\ys=[]))/\
     ∀N D w base,kp N D w base s.h->∀Nc D' c,my (aG.store ep).ks N Nc->(∀c∈(aG.store ep).cs,lJ N b' Nc c)->(∀b,D b->D' b)->lF N D' j->Ou s N D' (xu.at_ i).ids->((aG.store ep).nf=false->Nc c=yk N (some (.at_ i)) (.store ep))->((aG.store ep).nf=true->xu.at_ i= .at_ c/\∀k,Nc.sub (c-SB) k=N.sub (c-SB) k)->qK Nc D' w base c ((aG.store ep).mk (λc=>c) x):=by
    intro ha hk;refine⟨_,_,_,hk,kG.le_refl _,λi' nM=>?_,(by intro e;cases e),λF5 ys e=>?_,λN D w base S Nc D' c hE hR hD hF hN _ hc=>?_⟩
    ·simp only[xu.ids,ze4] at nM
     subst nM;exact .inr ⟨rfl,ha⟩
    ·simp only[aG.mk,gi.store.injEq] at e
     obtain⟨rfl,e⟩:=e;exact⟨i,rfl,hSB, .inr ⟨ha,(eq_of_heq e).symm⟩⟩
    ·obtain⟨h1,h2⟩:=hc rfl
     cases h1;have oI:=S.iS (i-SB) (by rw[show SB+(i-SB)=i by omega];exact ha)
     simp only[aG.mk,qK,jr];exact⟨hSB,λk d hk=>by simp[ko] at hk,λk _=>by rw[h2,oI],λk k' d d' b hk=>by simp[ko] at hk⟩
   split at h
   ·rename_i F5 xs hv
    split at h
    ·rename_i ys yf
     obtain⟨rfl,rfl⟩:=Ek yf;refine .inr ⟨_,_,_,h,kG.le_refl _,λi' nM=>?_,(by intro e;cases e),λep ys e=>?_,λN D w base S Nc D' c hE hR hD hF hN _ hc=>?_⟩
     ·simp only[xu.ids,ze4] at nM
      subst nM;exact .inl ⟨_,hv,rfl,λe=>by cases e⟩
     ·simp only[aG.mk,gi.store.injEq] at e
      obtain⟨rfl,e⟩:=e;have e:=eq_of_heq e;subst e;exact⟨i,rfl,hSB, .inl hv⟩
     ·obtain⟨h1,h2⟩:=hc rfl
      cases h1;exact(jr.congr hD (λ_ _=>rfl) (show jr D w base N i (.store _) _ from S.obj i _ hv) λb hO=>⟨rfl,λ_=>hN i (by simp[xu.ids]) _ _ hv hO⟩).uS h2
    ·cases h
   ·rename_i hv;exact .inr (Vx (by rw[hv];rfl) h)
   ·rename_i hv;exact .inr (Vx (by rw[hv];rfl) h)
   ·cases h
  ·cases h
 ·cases h
def Sr (s:St)(l:List (Nat×aG))(y:cS l):Prop:= ∀c ep ys,mY (λc=>c) l y (λ_=>none) c=some (.store ep ys)->SB<=c/\(s.h c=some (.store ep ys)\/iS (s.h c)=true/\ys=[])
theorem Av {s:St}{f:Option α}: ∀(l:List (Nat×aG)) (b:kG) (k:cS l->List Nat->kG->Option α) (r:α),HO s f l b k=some r->
  f=some r\/∃y j b',k y j b'=some r/\b.le b'/\(∀e∈l,∃g,b'.look e.1=some g/\Vw s e.2 g/\(e.2.isVar=true->∃i,g= .at_ i)/\(e.2.nf=true->g= .at_ e.1->SB<=e.1))/\((∀e∈l,e.2.nf=true->SB<=e.1)->Sr s l y)/\
  ∀N D w base,kp N D w base s.h->∀Nc D',my (DW l) N Nc->(∀c∈Bh l,lJ N b' Nc c)->(∀b,D b->D' b)->lF N D' j->Ou s N D' (iZ l b')->(∀e∈l,e.2.nf=true->SB<=e.1/\∀k,Nc.sub (e.1-SB) k=N.sub (e.1-SB) k)->∀c o,mY (λc=>c) l y (λ_=>none) c=some o->Nc c=th N b' l c->qK Nc D' w base c o
 | [],b,k,r,h=> .inr ⟨(),[],b,h,kG.le_refl _,λe he=>by simp at he,λ_ c ep ys hc=>by simp[mY] at hc,λN D w base S Nc D' _ _ _ _ _ _ c o ho=>by simp[mY] at ho⟩
 |(ce,pe)::es,b,k,r,h=>by
  unfold HO at h;split at h
  ·rename_i g hg
   rcases Is pe g b _ r h with hf|⟨x,i,b',h1,h2,h3,h3v,h3s,h4⟩
   ·exact .inl hf
   rcases Av es b' _ r h1 with hf|⟨y,j,Vu,h5,h6,h7,h7s,h8⟩
   ·exact .inl hf
   have C9:Vu.look ce=some g:=Ot h6 (Ot h2 hg);refine .inr ⟨(x,y),i++j,Vu,h5,kG.le_trans h2 h6,List.forall_mem_cons.2 ⟨⟨g,C9,h3,h3v,λkf e=>?_⟩,h7⟩,λH6 c ep ys hc=>?_,λN D w base S Nc D' hE hR hD hF hN hS c o ho hc=>?_⟩
   ·subst e
    cases pe with
    |store ep=>obtain⟨i',e1,e2,_⟩:=h3s ep x rfl;cases e1;exact e2
    |var p=>cases kf
    |row t=>cases kf
   ·simp only[mY] at hc
    split at hc
    ·rename_i e
     subst e;simp only[zdM] at hc;obtain⟨i',e1,e2,e3⟩:=h3s ep ys hc;have rZ:SB<=c:=by
      refine H6 (c,pe) (zdT ..) ?_;cases pe<;>simp[aG.mk] at hc
      rfl
     rw[uV rZ] at hg;rw[e1] at hg;cases hg;exact⟨rZ,e3⟩
    ·exact h7s (λe he=>H6 e (zdS _ he)) c ep ys hc
   ·simp only[mY] at ho
    simp only[th] at hc;have hE:my (pe.ks++DW es) N Nc:=by simpa only[DW,zet] using hE
    by_cases ec:c=ce
    ·rw[if_pos ec] at ho hc
     cases ho;subst ec;rw[C9] at hc;refine h4 N D w base S Nc D' c hE.left (λc hc=>(hR c (by simp[Bh,hc])).mono h6) hD hF.left (λi hi=>hN i (by simp only[iZ,zet,C9,ze3];exact .inl hi)) (λ_=>hc) λkf=>?_
     obtain⟨g1,g2⟩:=hS (c,pe) (zdT ..) kf;rw[uV g1] at C9;cases C9;exact⟨rfl,g2⟩
    ·rw[if_neg ec] at ho hc
     exact h8 N D w base S Nc D' hE.right (λc hc=>hR c (by simp only[Bh,zet,ze3] at hc⊢;exact .inr hc)) hD hF.right (λi hi=>hN i (by simp only[iZ,zet,ze3] at hi⊢;exact .inr hi)) (λe he=>hS e (zdS _ he)) c o ho hc
  ·cases h
end AM
namespace AM
open Go
variable {α:Type}{P:Program}{base:Nat}
structure wM (sp:jG):Prop where
 cs: ∀c,(c∈Bg sp.jX\/c∈Bh sp.heap)->c<SB/\∃e∈sp.heap,e.1=c
 ks: ∀g,(g∈DV sp.jX\/g∈DW sp.heap)->de sp.heap (SB+g)=true
 st: ∀e∈sp.heap,(e.2.nf=true↔SB<=e.1)
theorem uW {sp:jG}(h:sp.closed=true):wM sp:=by
 simp only[jG.closed,zdO,zep,zdU,List.any_eq_true] at h;refine⟨λc hc=>h.1.1 c (List.mem_append.2 hc),λg hg=>h.1.2 g (List.mem_append.2 hg),λe he=>?_⟩;have:=h.2 e he;rw[beq_iff_eq] at this;rw[this];simp
def Bv (N:Names)(D:Nat->Prop)(ro:List Nat)(b:Nat):Prop:=D b\/∃i∈ro,∃nm a,N i=some nm/\nm.base=some a/\a.block=b
structure It (s:St)(sp:jG)(b:kG)(ro:List Nat)(d:cS sp.heap):Prop where
 bound: ∀e∈sp.heap,∃g,b.look e.1=some g/\Vw s e.2 g/\(e.2.isVar=true->∃i,g= .at_ i)
 nodup:nodup (iZ sp.heap b)=true
 ro: ∀i∈ro,i∉iZ sp.heap b/\∃o,s.h i=some o/\((∃v,o= .var v)\/∃r t xs,o= .row r t xs)
 link:Sr s sp.heap d
 st: ∀e∈sp.heap,(e.2.nf=true↔SB<=e.1)
def El (b:kG)(c:Nat):List Nat:=match b.look c with|some g=>g.ids|none=> []
theorem Ss (l:List (Nat×aG))(b:kG):iZ l b=l.flatMap λo=>El b o.1:=rfl
theorem Bw {l:List (Nat×aG)}{b:kG}{i:Nat}:i∈iZ l b↔∃e∈l,i∈El b e.1:=by rw[Ss,List.mem_flatMap]
theorem P4 {N:Names}{b:kG}{c:Nat}{p:aG}{nm:Nm}{a:Addr}(h:yk N (b.look c) p=some nm)(hb:nm.base=some a): ∃i∈El b c,∃mN a',N i=some mN/\mN.base=some a'/\a'.block=a.block:=by
 unfold El;unfold yk at h;split at h
 ·cases h
 cases hg:b.look c with
 |none=>rw[hg] at h;cases h
 |some g=>
  rw[hg] at h;cases g with
  |at_ i=>exact⟨i,by simp[xu.ids],nm,a,h,hb,rfl⟩
  |tl i off=>
   simp only[zeC] at h;obtain⟨mN,h1,rfl⟩:=h;simp only[Nm.shift,zeC] at hb;obtain⟨a',h2,rfl⟩:=hb;exact⟨i,by simp[xu.ids],mN,a',h1,h2,rfl⟩
  |sl i off len=>
   simp only[zeC] at h;obtain⟨mN,h1,rfl⟩:=h;simp only[Nm.cut,Nm.shift,zeC] at hb;obtain⟨a',h2,rfl⟩:=hb;exact⟨i,by simp[xu.ids],mN,a',h1,h2,rfl⟩
  |nil=>
   simp only[zdM] at h;subst h;cases hb
theorem yl {N:Names}{g:Option xu}{p:aG}{nm:Nm}(h:yk N g p=some nm):p.nf=false:=by
 unfold yk at h;split at h
 ·cases h
 ·assumption
theorem tV {N:Names}{b:kG}{c:Nat}{nm:Nm}: ∀{l:List (Nat×aG)},th N b l c=some nm->∃e∈l,e.1=c/\yk N (b.look c) e.2=some nm
 | [],h=>by simp[th] at h
 |e::es,h=>by
  simp only[th] at h;split at h
  ·rename_i ec
   exact⟨e,zdT ..,ec.symm,by rw[ec];exact h⟩
  ·obtain⟨e',h1,h2⟩:=tV h
   exact⟨e',zdS _ h1,h2⟩
theorem Em {N:Names}{b:kG}{l0:List (Nat×aG)}{c:Nat}(hc:c<SB): ∀{l:List (Nat×aG)},(∀e∈l,e.2.nf=true->SB<=e.1)->(∃e∈l,e.1=c)->lJ N b ⟨λp=>match p with| []=>th N b l|q::p=>(jl N b l0).at_ (q::p)⟩ c
 | [],_,h=>by obtain⟨e,h,_⟩:=h;simp at h
 |e::es,kf,h=>by
  by_cases ec:c=e.1
  ·subst ec
   have vi:e.2.nf=false:=by
    cases hh:e.2.nf with
    |false=>rfl
    |true=>have:=kf e (zdT ..) hh;omega
   have hl:=Dz (b:=b) (c:=e.1) (by omega)
   unfold lJ;cases hg:b.get e.1 with
   |none=>trivial
   |some g=>cases g<;>simp[th,hl,hg,yk,vi]
  ·have: ∃e'∈es,e'.1=c:=by
    obtain⟨e',h1,h2⟩:=h;rcases List.mem_cons.1 h1 with rfl|h1
    ·exact absurd h2.symm ec
    ·exact⟨e',h1,h2⟩
   have:=Em (N:=N) (b:=b) (l0:=l0) hc (λe he=>kf e (zdS _ he)) this;unfold lJ at this⊢;simp only[th,if_neg ec];exact this
theorem qN {N:Names}{b:kG}{l:List (Nat×aG)}{c:Nat}(hc:c<SB)(kf: ∀e∈l,e.2.nf=true->SB<=e.1)(h: ∃e∈l,e.1=c):lJ N b (jl N b l) c:=by
 have:=Em (N:=N) (b:=b) (l0:=l) hc kf h;have e:(⟨λp=>match p with| []=>th N b l|q::p=>(jl N b l).at_ (q::p)⟩:Names)=jl N b l:=by
  unfold jl;congr 1
  funext p
  cases p<;>rfl
 rw[e] at this;exact this
theorem uX {b:Nat->Nat}{c:Nat}: ∀{l:List (Nat×aG)} {d:cS l} {h:Nat->Option gi},(∀e∈l,b e.1≠c)->mY b l d h c=h c
 | [],_,_,_=>rfl
 |(ce,pe)::es,d,h,mb=>by
  simp only[mY];rw[if_neg (λe'=>mb (ce,pe) (zdT ..) e'.symm)];exact uX λe' he'=>mb e' (zdS _ he')
theorem qg {b:Nat->Nat}{c:Nat}: ∀{l:List (Nat×aG)} {d:cS l} {h:Nat->Option gi},(∃e∈l,b e.1=c)->mY b l d h c≠none
 | [],_,_,h=>by obtain⟨e,h,_⟩:=h;simp at h
 |(ce,pe)::es,d,h,hm=>by
  simp only[mY];by_cases ec:c=b ce
  ·rw[if_pos ec];simp
  ·rw[if_neg ec]
   refine qg ?_;obtain⟨e',h1,h2⟩:=hm;rcases List.mem_cons.1 h1 with rfl|h1
   ·exact absurd h2.symm ec
   ·exact⟨e',h1,h2⟩
theorem nu {bk:Nat->Nat}{j:Nat}{o:gi}: ∀{l:List (Nat×aG)} {d:cS l} {h:Nat->Option gi},mY bk l d h j=some o->
  (∃q∈l,bk q.1=j/\∃x:q.2.den,mY (λc=>c) l d (λ_=>none) q.1=some (q.2.mk (λc=>c) x)/\o=q.2.mk bk x)\/((∀q∈l,bk q.1≠j)/\h j=some o)
 | [],_,h,hj=> .inr ⟨λq hq=>by simp at hq,hj⟩
 |(ce,pe)::es,d,h,hj=>by
  simp only[mY] at hj;by_cases ec:j=bk ce
  ·rw[if_pos ec] at hj
   cases hj;exact .inl ⟨(ce,pe),zdT ..,ec.symm,d.1,by simp[mY],rfl⟩
  ·rw[if_neg ec] at hj
   rcases nu hj with⟨q,hq,h1,x,h2,h3⟩|⟨h1,h2⟩
   ·refine .inl ⟨q,zdS _ hq,h1,x,?_,h3⟩
    simp only[mY];rw[if_neg (λe'=>ec (by rw[<-h1,e']))]
    exact h2
   ·exact .inr ⟨List.forall_mem_cons.2 ⟨λe'=>ec e'.symm,h1⟩,h2⟩
theorem nodup_append {a b:List Nat}(h:AM.nodup (a++b)=true):AM.nodup b=true/\∀x∈a,x∉b:=by
 induction a with
 |nil=>exact⟨h,λx hx=>by simp at hx⟩
 |cons x xs ih=>
  simp only[zel,AM.nodup,zdO,ze5,zeV,decide_eq_false_iff_not,ze3,not_or] at h;obtain⟨h1,h2⟩:=ih h.2;refine⟨h1,List.forall_mem_cons.2 ⟨h.1.2,h2⟩⟩
theorem zf {β:Type}{f:β->List Nat}: ∀{l:List β},AM.nodup (l.flatMap f)=true->∀{e e':β} {i:Nat},e∈l->e'∈l->i∈f e->i∈f e'->e=e'
 | [],_,e,_,_,he,_,_,_=>by simp at he
 |x::xs,h,e,e',i,he,he',hi,nM=>by
  rw[zet] at h;obtain⟨h1,h2⟩:=nodup_append h;rcases List.mem_cons.1 he with q|q<;>rcases List.mem_cons.1 he' with q'|q'
  ·rw[q,q']
  ·exact absurd (List.mem_flatMap.2 ⟨e',q',nM⟩) (h2 _ (q▸hi))
  ·exact absurd (List.mem_flatMap.2 ⟨e,q,hi⟩) (h2 _ (q'▸nM))
  ·exact zf h1 q q' hi nM
theorem yE (b:Nat->Nat): ∀(p:aG) (x:p.den),iS (some (p.mk b x))=false
 | .var _,_=>rfl
 | .row _,_=>rfl
 | .store _,_=>rfl
theorem P5 {N:Names}{i:Nat}{ep:List (Nat×aG)}{b:Nat}: ¬pZ N i (.store ep) ([]:List (cS ep)) b:=by
 simp only[pZ,ko];rintro⟨k,d,h,_⟩
 simp at h
theorem It.Mo {s:St}{sp:jG}{b:kG}{ro:List Nat}{d:cS sp.heap}(M:It s sp b ro d){N:Names}{c:Nat}{o:gi}{bl:Nat}(hc:mY (λc=>c) sp.heap d (λ_=>none) c=some o)(ho:jd (jl N b sp.heap) c o bl):
  ∃e∈sp.heap,e.1=c/\∃i∈El b c,∃o',s.h i=some o'/\jd N i o' bl:=by
 have key:oG (jl N b sp.heap) c bl->∃e∈sp.heap,e.1=c/\∃i∈El b c,∃o',s.h i=some o'/\jd N i o' bl:=by
  rintro⟨nm,a,h3,h4,rfl⟩
  obtain⟨e,he,rfl,h5⟩:=tV h3;obtain⟨i,hi,mN,a',h6,h7,h8⟩:=P4 h5 h4;refine⟨e,he,rfl,i,hi,?_⟩;obtain⟨g,hg,hT,_⟩:=M.bound e he;unfold El at hi;rw[hg] at hi;rcases hT i hi with⟨o',g1,_,g2⟩|⟨g1,_⟩
  ·exact⟨o',g1,h8▸jd.of (g2 (yl h5)) h6 h7⟩
  ·rw[yl h5] at g1;cases g1
 cases o with
 |dead=>exact ho.elim
 |void=>exact ho.elim
 |var v=>exact key ho
 |row r t xs=>
  cases r with
  |true=>exact ho.elim
  |false=>exact key ho
 |store ep ys=>
  obtain⟨h1,h2⟩:=M.link c ep ys hc;rcases nu hc with⟨q,hq,h3,x,h4,h5⟩|⟨_,h5⟩
  ·have h3:q.1=c:=h3
   have kf:de sp.heap (SB+(c-SB))=true:=by
    rw[show SB+(c-SB)=c by omega]
    exact gd.2 ⟨q,hq,h3,(M.st q hq).2 (by omega)⟩
   refine⟨q,hq,h3,c,by unfold El;rw[uV h1];simp[xu.ids],?_⟩
   rcases h2 with h2|⟨_,rfl⟩
   ·exact⟨_,h2,(pZ.uS (vV kf)).1 ho⟩
   ·exact absurd ho P5
  ·cases h5
theorem It.canon {s:St}{sp:jG}{b:kG}{ro:List Nat}{d:cS sp.heap}(M:It s sp b ro d){N:Names}{bl:Nat}(ho:zr (jl N b sp.heap) (mY (λc=>c) sp.heap d (λ_=>none)) bl): ∃i∈iZ sp.heap b,∃o,s.h i=some o/\jd N i o bl:=by
 obtain⟨c,o,h1,h2⟩:=ho;obtain⟨e,he,rfl,i,hi,h3⟩:=M.Mo h1 h2;exact⟨i,Bw.2 ⟨e,he,hi⟩,h3⟩
theorem It.cases {s:St}{sp:jG}{b:kG}{ro:List Nat}{d:cS sp.heap}(M:It s sp b ro d){N:Names}{D:Nat->Prop}{w:World}(S:kp N D w base s.h){i:Nat}(hi:i∈ro){nm:Nm}{a:Addr}(hn:N i=some nm)(hb:nm.base=some a):D a.block\/∃o,s.h i=some o/\jd N i o a.block:=by
 obtain⟨_,o,h1,h2⟩:=M.ro i hi;rcases h2 with⟨v,rfl⟩|⟨r,t,xs,rfl⟩
 ·exact .inr ⟨_,h1,jd.of rfl hn hb⟩
 ·cases r with
  |false=>exact .inr ⟨_,h1,jd.of rfl hn hb⟩
  |true=>
   obtain⟨Xy,e1,_,_,_,_,e6⟩:=S.obj i _ h1;rw[hn] at e1;cases e1;rw[hb] at e6;obtain⟨_,_,e7,_⟩:=e6;simp only[if_true] at e7;exact .inl e7
theorem It.zaS {s:St}{sp:jG}{b:kG}{ro:List Nat}{d:cS sp.heap}(M:It s sp b ro d){N:Names}{D:Nat->Prop}{w:World}(S:kp N D w base s.h):Ou s N (Bv N D ro) (iZ sp.heap b):=by
 intro i hi o bl ho hr hd;have hnd:=(S.px ho hr).1;rcases hd with hd|⟨j,hj,mN,a',PE,vC,LU⟩
 ·exact hnd hd
 ·rcases M.cases S hj PE vC with h1|⟨o',h1,h2⟩
  ·exact hnd (LU▸h1)
  ·have:=S.apart i j o o' bl ho h1 hr (LU▸h2)
   subst this;exact(M.ro _ hj).1 hi
theorem P6 {N:Names}{D:Nat->Prop}{w:World}{h:Nat->Option gi}(S:kp N D w base h){i:Nat}{o:gi}{nm:Nm}{a:Addr}(ho:h i=some o)(hd:(∃v,o= .var v)\/∃r t xs,o= .row r t xs)(hn:N i=some nm)(hb:nm.base=some a):a.block<w.heap.size:=by
 have:=S.obj i o ho;rcases hd with⟨v,rfl⟩|⟨r,t,xs,rfl⟩
 ·obtain⟨mN,a',e1,e2,_,_,_,_,_,_,⟨c,ty,e3,_⟩,_⟩:=this
  rw[hn] at e1;cases e1;rw[hb] at e2;cases e2;exact(Array.getElem?_eq_some_iff.1 e3).1
 ·obtain⟨mN,e1,_,_,_,_,e6⟩:=this
  rw[hn] at e1;cases e1;rw[hb] at e6;obtain⟨_,⟨c,ty,fz,e3,_⟩,_⟩:=e6;exact(Array.getElem?_eq_some_iff.1 e3).1
theorem It.nG {s:St}{sp:jG}{b:kG}{ro:List Nat}{d:cS sp.heap}(M:It s sp b ro d){N:Names}{D:Nat->Prop}{w:World}(S:kp N D w base s.h)(nq: ∀c o,mY (λc=>c) sp.heap d (λ_=>none) c=some o->qK (jl N b sp.heap) (Bv N D ro) w base c o):kp (jl N b sp.heap) (Bv N D ro) w base (mY (λc=>c) sp.heap d (λ_=>none)):=by
 refine⟨nq,?_,?_,?_,S.size,λg hg k=>?_⟩
 ·intro c c' o o' bl hc LQ ho na
  obtain⟨e,he,rfl,q,hq,oq,hoq,hrq⟩:=M.Mo hc ho;obtain⟨e',he',rfl,q',uL,oq',zcH,zcI⟩:=M.Mo LQ na;have:=S.apart q q' oq oq' bl hoq zcH hrq zcI;subst this;rw[zf (f:=λo:Nat×aG=>El b o.1) M.nodup he he' hq uL]
 ·rintro bl (hb|⟨q,hq,nm,a,hn,hb,rfl⟩)
  ·exact S.frozen bl hb
  ·obtain⟨_,o,h8,h9⟩:=M.ro q hq
   exact P6 S h8 h9 hn hb
 ·intro c nm hn
  obtain⟨e,he,hec,_⟩:=tV hn;exact qg ⟨e,he,hec⟩
 ·refine zB ?_ k
  cases e:de sp.heap (SB+g) with
  |false=>rfl
  |true=>
   exfalso
   obtain⟨q,hq,h1,h2⟩:=gd.1 e;cases hm:mY (λc=>c) sp.heap d (λ_=>none) (SB+g) with
   |none=>exact qg ⟨q,hq,h1⟩ hm
   |some o=>
    rw[hm] at hg;rcases nu hm with⟨q',_,_,x,_,h5⟩|⟨_,h5⟩
    ·subst h5
     rw[yE] at hg;cases hg
    ·cases h5
theorem qh {sp:jG}{s:St}{b:kG}{k:sp.den->List Nat->kG->Option α}{f:Option α}{r:α}(h:oX sp s b k f=some r)(hc:wM sp):
  f=some r\/∃d ro b',k d ro b'=some r/\b.le b'/\It s sp b' ro d.2/\∀N D w base,kp N D w base s.h->
   kp (jl N b' sp.heap) (Bv N D ro) w base (mY (λc=>c) sp.heap d.2 (λ_=>none))/\∀y c,cp N D w (s.t y) c->cp (jl N b' sp.heap) (Bv N D ro) w (zq (λc=>c) sp.jX d.1 y) c:=by
 unfold oX at h;rcases Au _ _ _ _ _ h with h1|⟨x,i,b1,h1,h2,h3⟩
 ·exact .inl h1
 ·rcases Av _ _ _ _ h1 with hf|⟨y,j,b',h4,h5,h6,h6s,h7⟩
  ·exact .inl hf
  right
  split at h4
  ·rename_i Ia
   simp only[zdO,zep,ze5,zeV,decide_eq_false_iff_not] at Ia;have M:It s sp b' (i++j) y:=⟨λe he=>by obtain⟨g,g1,g2,g3,_⟩:=h6 e he;exact⟨g,g1,g2,g3⟩,Ia.1,λq hq=>(by
    obtain⟨g1,g2⟩:=Ia.2 q hq;refine⟨g1,?_⟩;unfold isObj at g2;split at g2
    ·rename_i v e;exact⟨_,e, .inl ⟨v,rfl⟩⟩
    ·rename_i r t xs e;exact⟨_,e, .inr ⟨r,t,xs,rfl⟩⟩
    ·cases g2),h6s λe he=>(hc.st e he).1,hc.st⟩
   refine⟨(x,y),i++j,b',h4,kG.le_trans h2 h5,M,λN D w base S=>?_⟩;have Ov: ∀c,(c∈Bg sp.jX\/c∈Bh sp.heap)->lJ N b' (jl N b' sp.heap) c:=by
    intro c LQ;obtain⟨g1,g2⟩:=hc.cs c LQ;exact qN g1 (λe he=>(hc.st e he).1) g2
   have hks: ∀l:List Nat,(∀g∈l,de sp.heap (SB+g)=true)->my l N (jl N b' sp.heap):=λl hl g hg k c nm hn _=>by
    rw[vV (hl g hg)];exact hn
   have hF:lF N (Bv N D (i++j)) (i++j):=λq hq nm a hn hb=> .inr ⟨q,hq,nm,a,hn,hb,rfl⟩;have hD: ∀b,D b->Bv N D (i++j) b:=λb hb=> .inl hb;refine⟨M.nG S λc o ho=>h7 N D w base S _ _ (hks _ λg hg=>hc.ks g (.inr hg)) (λc hc=>Ov c (.inr hc)) hD hF.right (M.zaS S) (λe he kf=>?_) c o ho rfl,λy c hv=>h3 N D w base S _ _ (hks _ λg hg=>hc.ks g (.inl hg)) (λc hc=>(Ov c (.inl hc)).mono h5) hD hF.left y c hv⟩;have rZ:=(hc.st e he).1 kf;refine⟨rZ,vV ?_⟩;rw[show SB+(e.1-SB)=e.1 by omega]
   exact gd.2 ⟨e,he,rfl,kf⟩
  ·cases h4
end AM
namespace AM
open Go
variable {α:Type}{P:Program}{base:Nat}
structure Iu (O O' D D':Nat->Prop)(w w':World):Prop where
 frozen: ∀b,D b->D' b
 os:w'.os=w.os
 tape:w'.tape=w.tape
 output:w'.output=w.output
 size:w.heap.size<=w'.heap.size
 s7: ∀b,b<w.heap.size->¬O b->w'.heap[b]?=w.heap[b]?
 own: ∀b,b<w.heap.size->O' b->O b
 JG: ∀b,D' b->D b\/O b\/w.heap.size<=b
theorem Iu.refl (O D:Nat->Prop)(w:World):Iu O O D D w w:=⟨λ_ h=>h,rfl,rfl,rfl,zd2 _,λ_ _ _=>rfl,λ_ _ h=>h,λ_ h=> .inl h⟩
theorem Iu.trans {O O' O'' D D' Xx:Nat->Prop}{w w' PC:World}(x:Iu O O' D D' w w')(y:Iu O' O'' D' Xx w' PC):Iu O O'' D Xx w PC where
 frozen b e:=y.frozen b (x.frozen b e)
 os:=y.os.trans x.os
 tape:=y.tape.trans x.tape
 output:=y.output.trans x.output
 size:=zd3 x.size y.size
 s7 b hb ho:=by rw[y.s7 b (zd4 hb x.size) (λo=>ho (x.own b hb o)),x.s7 b hb ho]
 own b hb o:=x.own b hb (y.own b (zd4 hb x.size) o)
 JG b hb:=by
  rcases y.JG b hb with h1|h1|h1
  ·exact x.JG b h1
  ·rcases zd5 b w.heap.size with h2|h2
   ·exact .inr (.inl (x.own b h2 h1))
   ·exact .inr (.inr h2)
  ·exact .inr (.inr (zd3 x.size h1))
theorem Ext.b {N N':Names}{D D':Nat->Prop}{w w':World}{h h':Nat->Option gi}(x:Ext N D w h N' D' w' h'):Iu (zr N h) (zr N' h') D D' w w':=⟨x.frozen,x.os,x.tape,x.output,x.size,x.s7,x.own,x.JG⟩
def zg:Ty->Bool
 | .cons a b=>zg a&&zg b
 | .arr _ t=>zg t
 | .deep _=>false
 |_=>true
theorem vW {N N':Names}{D D':Nat->Prop}{w:World}: ∀(t:Ty) (x:t.den) (g:Nat->Option Value),zg t=true->my t.ks N N'->iI N D w t x g->iI N' D' w t x g
 | .int _,_,_,_,_,h=>by simp only[iI] at*;exact h
 | .bool,_,_,_,_,h=>by simp only[iI] at*;exact h
 | .str,_,_,_,_,h=>by simp only[iI] at*;exact h
 | .nil,_,_,_,_,_=>by simp only[iI]
 | .cons a b,p,g,hf,hK,h=>by
  simp only[zg,zdO] at hf;exact⟨vW a p.1 g hf.1 hK.left h.1,vW b p.2 _ hf.2 hK.right h.2⟩
 | .arr n t,xs,g,hf,hK,h=>⟨h.1,λi x hx=>vW t x _ (by simpa [zg] using hf) hK (h.2 i x hx)⟩
 | .deep t,xs,g,hf,hK,h=>by simp[zg] at hf
 | .ref g,n,c,_,hK,h=>by
  show xO N' g n 50 (c 0)
  have h:xO N g n 50 (c 0):=h;cases n with
  |zero=>exact h
  |succ k=>obtain⟨nm,a,h1,h2,h3⟩:=h;exact⟨nm,a,hK g (List.mem_singleton.2 rfl) _ _ _ h1 h2,h2,h3⟩
mutual
def cg.flat:cg->Bool
 | .hole t=>zg t
 | .vE _=>false
 | .Jx _=>false
 | .agg ps=>cg.JU ps
 | .xq _ ps=>cg.JU ps
 |_=>true
def cg.JU:List cg->Bool
 | []=>true
 |p::ps=>p.flat&&cg.JU ps
end
mutual
def aG.flat:aG->Bool
 | .var p=>p.flat
 | .row t=>zg t
 | .store ep=>Ow ep
def Ow:List (Nat×aG)->Bool
 | []=>true
 |(_,p)::os=>p.flat&&Ow os
end
def jG.flat (e:jG):Bool:=e.jX.all (λo=>o.2.flat)&&e.heap.all (λo=>o.2.flat)
mutual
theorem En (b b':Nat->Nat): ∀(p:cg) (x:p.den),(p.mk b x).sh=(p.mk b' x).sh
 | .hole t,x=>by simp only[cg.mk]
 | .vE t,x=>by simp only[cg.mk]
 | .const v,x=>by simp only[cg.mk]
 | .ptr c,x=>by simp only[cg.mk,AV.sh]
 | .own c,x=>by simp only[cg.mk,AV.sh]
 | .F4 c,x=>by simp only[cg.mk,AV.sh]
 | .agg ps,x=>by simp only[cg.mk,AV.sh,Su b b' ps x]
 | .kv c p,x=>by simp only[cg.mk,AV.sh]
 | .xq f ps,x=>by simp only[cg.mk,AV.sh]
 | .uD c n,x=>by simp only[cg.mk,AV.sh]
 | .skip,x=>by simp only[cg.mk]
 | .Jx p,x=>by simp only[cg.mk,AV.sh]
theorem Su (b b':Nat->Nat): ∀(ps:List cg) (x:cg.xt ps),AV.xH (cg.pK b ps x)=AV.xH (cg.pK b' ps x)
 | [],x=>by simp only[cg.pK]
 |p::ps,x=>by simp only[cg.pK,AV.xH,En b b' p x.1,Su b b' ps x.2]
end
section
variable {Ne N':Names}{De D':Nat->Prop}{w:World}{bk:Nat->Nat}{lt:Bool}
mutual
theorem DA (hT:(lt=true\/∀b,De b->D' b)): ∀(p:cg) (x:p.den) (g:Nat->Option Value),(∀c∈p.cs,∀nm,Ne c=some nm->N' (bk c)=some nm)->my p.ks Ne N'->(lt=true->p.flat=true)->an Ne De w (p.mk (λc=>c) x) g->an N' D' w (p.mk bk x) g
 | .hole t,x,g,_,hK,hf,h=>by
  simp only[cg.mk] at h⊢;refine(kV t x g).2 ?_;have h:=(kV t x g).1 h;rcases hT with hT|hT
  ·exact vW t x g (by simpa [cg.flat] using hf hT) (by simpa only[cg.ks] using hK) h
  ·exact kH hT (λ_ _=>rfl) t x g (by simpa only[cg.ks] using hK) h
 | .vE t,x,g,_,hK,hf,h=>by
  simp only[cg.mk,an] at h⊢;obtain⟨a,h1,h2,h3,h4⟩:=h;rcases hT with hT|hT
  ·have:=hf hT
   simp[cg.flat] at this
  ·exact⟨a,h1,h2,hT _ h3,(kV t x _).2 (kH hT (λ_ _=>rfl) t x _ (by simpa only[cg.ks] using hK) ((kV t x _).1 h4))⟩
 | .const v,x,g,_,_,_,h=>by simp only[cg.mk,an] at h⊢;exact h
 | .skip,x,g,_,_,_,h=>by simp only[cg.mk,an]
 | .Jx p,x,g,hN,hK,hf,h=>by
  simp only[cg.mk,an] at h⊢;obtain⟨a,h1,h2,h3,h4⟩:=h;rcases hT with hT|hT
  ·have:=hf hT
   simp[cg.flat] at this
  ·exact⟨a,h1,h2,hT _ h3,DA (.inr hT) p x _ (by simpa only[cg.cs] using hN) (by simpa only[cg.ks] using hK) (λhl=>by have:=hf hl;simp[cg.flat] at this) h4⟩
 | .ptr c,x,g,hN,_,_,h=>by
  simp only[cg.mk,an] at h⊢;obtain⟨nm,a,o,h1,h2⟩:=h;exact⟨nm,a,o,hN c (by simp[cg.cs]) nm h1,h2⟩
 | .kv c p,x,g,hN,_,_,h=>by
  simp only[cg.mk,an] at h⊢;obtain⟨nm,a,o,h1,h2⟩:=h;exact⟨nm,a,o,hN c (by simp[cg.cs]) nm h1,h2⟩
 | .uD c n,x,g,hN,_,_,h=>by
  simp only[cg.mk,an] at h⊢;obtain⟨nm,a,h1,h2⟩:=h;exact⟨nm,a,hN c (by simp[cg.cs]) nm h1,h2⟩
 | .own c,x,g,hN,_,_,h=>by
  simp only[cg.mk,an] at h⊢;obtain⟨nm,h1,h2⟩:=h;exact⟨nm,hN c (by simp[cg.cs]) nm h1,h2⟩
 | .F4 c,x,g,hN,_,_,h=>by
  simp only[cg.mk,an] at h⊢;obtain⟨nm,h1,h2⟩:=h;exact⟨nm,hN c (by simp[cg.cs]) nm h1,h2⟩
 | .agg ps,x,g,hN,hK,hf,h=>by
  simp only[cg.mk,an] at h⊢;exact(Eo hT ps x (by simpa [cg.cs] using hN) (by simpa [cg.ks] using hK) (by simpa [cg.flat] using hf)).1 g h
 | .xq f ps,x,g,hN,hK,hf,h=>by
  simp only[cg.mk,an] at h⊢;obtain⟨cs,h1,h2⟩:=h;exact⟨cs,h1,(Eo hT ps x (by simpa [cg.cs] using hN) (by simpa [cg.ks] using hK) (by simpa [cg.flat] using hf)).2 _ h2⟩
theorem Eo (hT:(lt=true\/∀b,De b->D' b)): ∀(ps:List cg) (x:cg.xt ps),(∀c∈cg.Vk ps,∀nm,Ne c=some nm->N' (bk c)=some nm)->my (cg.RL ps) Ne N'->(lt=true->cg.JU ps=true)->
  (∀g,fE Ne De w (cg.pK (λc=>c) ps x) g->fE N' D' w (cg.pK bk ps x) g)/\∀cs,bB Ne De w (cg.pK (λc=>c) ps x) cs->bB N' D' w (cg.pK bk ps x) cs
 | [],x,_,_,_=>⟨λg _=>by simp only[cg.pK,fE],λcs h=>by simpa only[cg.pK,bB] using h⟩
 |p::ps,x,hN,hK,hf=>by
  have YT:=λe=>by have:=hf e;simp only[cg.JU,zdO] at this;exact this
  have hK:my (p.ks++cg.RL ps) Ne N':=by simpa only[cg.RL] using hK
  have a1:=λg=>DA hT p x.1 g (λc hc=>hN c (by simp[cg.Vk,hc])) hK.left (λe=>(YT e).1)
  obtain⟨a2,a3⟩:=Eo hT ps x.2 (λc hc=>hN c (by simp[cg.Vk,hc])) hK.right (λe=>(YT e).2)
  have hsz:(p.mk bk x.1).size=(p.mk (λc=>c) x.1).size:=by rw[<-la,En bk (λc=>c),la]
  refine⟨λg h=>?_,λcs h=>?_⟩
  ·simp only[cg.pK,fE] at h⊢
   refine⟨a1 g h.1,?_⟩;rw[hsz];exact a2 _ h.2
  ·simp only[cg.pK,bB] at h⊢
   obtain⟨c,tS,e1,e2,e3⟩:=h;exact⟨c,tS,e1,Dy (En bk (λc=>c) p x.1) e2 a1,a3 _ e3⟩
end
end
theorem ml (h:Nat->Option gi): ∀(l:List Nat) (j:Nat),sr h l j=if j∈l then some .dead else h j
 | [],j=>by simp[sr]
 |i::l,j=>by
  simp only[sr,ml h l j,zeq];by_cases e:j=i
  ·simp[e]
  ·simp[e]
def Sv (o:Option gi):Option gi:=match o with|some (.row _ t xs)=>some (.row true t xs)|_=>some .dead
theorem rA (h:Nat->Option gi): ∀(l:List Nat) (j:Nat),tQ h l j=if j∈l then Sv (h j) else h j
 | [],j=>by simp[tQ]
 |i::l,j=>by
  simp only[tQ,rA h l j,zeq];by_cases e:j=i
  ·subst e;simp only[true_or,if_true,Sv]
   split<;>simp_all
  ·simp[e]
end AM
namespace AM
open Go
variable {α:Type}{P:Program}{base:Nat}
theorem Vy (b b':Nat->Nat)(p:cg)(x:p.den):(p.mk b x).size=(p.mk b' x).size:=by rw[<-la,En b b',la]
theorem aG.zcJ (b:Nat->Nat): ∀(p:aG) (x:p.den),(p.mk b x).own=true
 | .var _,_=>rfl
 | .row _,_=>rfl
 | .store _,_=>rfl
theorem tw.back {Ne N':Names}{De D':Nat->Prop}{w:World}{bk:Nat->Nat}{lt:Bool}{c j:Nat}{p:cg}{x:p.den}(hT:lt=true\/∀b,De b->D' b)(hD: ∀b,D' b->De b)(hc: ∀nm,Ne c=some nm->N' j=some nm)(hN: ∀c∈p.cs,∀nm,Ne c=some nm->N' (bk c)=some nm)(hK:my p.ks Ne N')(hf:lt=true->p.flat=true)
  (h:tw Ne De w base c (p.mk (λc=>c) x)):tw N' D' w base j (p.mk bk x):=by
 obtain⟨nm,a,e1,e2,e3,e4,e5,e6,e7,e8,⟨cc,ty,e9,xE⟩,Ob⟩:=h;exact⟨nm,a,hc _ e1,e2,e3,by rw[e4];exact En _ _ p x,e5,e6,e7,λhd=>e8 (hD _ hd),⟨cc,ty,e9,xE.trans (Vy _ _ p x)⟩,DA hT p x _ hN hK hf Ob⟩
theorem nP.back {Ne N':Names}{De D':Nat->Prop}{w:World}{lt:Bool}{c j:Nat}{t:Ty}{xs:List t.den}(hT:lt=true\/∀b,De b->D' b)(hD: ∀b,D' b->De b)(hc: ∀nm,Ne c=some nm->N' j=some nm)(hK:my t.ks Ne N')(hf:lt=true->zg t=true)
  (h:nP Ne De w base c false t xs):nP N' D' w base j false t xs:=by
 obtain⟨nm,e1,e2,e3,e4,e5,e6⟩:=h;refine⟨nm,hc _ e1,e2,e3,e4,e5,?_⟩;cases hb:nm.base with
 |none=>rw[hb] at e6;exact e6
 |some a=>
  rw[hb] at e6;obtain⟨f1,⟨cc,ty,fz,g1,g2,g3⟩,f3,f4⟩:=e6;simp only[zdN,if_false] at f3⊢;refine⟨f1,⟨cc,ty,fz,g1,g2,λ_=>g3 rfl⟩,⟨f3.1,λhd=>f3.2 (hD _ hd)⟩,λi y hy=>?_⟩;rcases hT with hT|hT
  ·exact vW t y _ (hf hT) hK (f4 i y hy)
  ·exact kH hT (λ_ _=>rfl) t y _ hK (f4 i y hy)
mutual
theorem jr.back {De D':Nat->Prop}{w:World}{lt:Bool}(hT:lt=true\/∀b,De b->D' b)(hD: ∀b,D' b->De b): ∀{N:Names} {c:Nat} {p:aG} {d:p.den},(lt=true->p.flat=true)->jr De w base N c p d->jr D' w base N c p d
 |N,_, .var p,d,hf,h=>by
  simp only[jr] at*;exact tw.back (bk:=λc=>c) hT hD (λ_ h=>h) (λ_ _ _ h=>h) (λ_ _ _ _ _ h _=>h) (by simpa only[aG.flat] using hf) h
 |N,_, .row t,d,hf,h=>by
  simp only[jr] at*;exact nP.back hT hD (λ_ h=>h) (λ_ _ _ _ _ h _=>h) (by simpa only[aG.flat] using hf) h
 |N,c, .store ep,xs,hf,h=>by
  simp only[jr] at*;exact⟨h.1,λk d hk=>⟨kX.back hT hD (by simpa only[aG.flat] using hf) (h.2.1 k d hk).1,(h.2.1 k d hk).2⟩,h.2.2.1,h.2.2.2⟩
theorem kX.back {De D':Nat->Prop}{w:World}{lt:Bool}(hT:lt=true\/∀b,De b->D' b)(hD: ∀b,D' b->De b): ∀{N:Names} {l:List (Nat×aG)} {d:cS l},(lt=true->Ow l=true)->kX De w base N l d->kX D' w base N l d
 |_,[],_,_,_=>by simp only[kX]
 |N,(c,p)::os,d,hf,h=>by
  have YT:=λe=>by have:=hf e;simp only[Ow,zdO] at this;exact this
  simp only[kX] at*;exact⟨jr.back hT hD (λe=>(YT e).1) h.1,kX.back hT hD (λe=>(YT e).2) h.2.1,h.2.2⟩
end
theorem Sw {Ne N':Names}{De D':Nat->Prop}{w:World}{bk:Nat->Nat}{lt:Bool}{c j:Nat}(hT:lt=true\/∀b,De b->D' b)(hD: ∀b,D' b->De b): ∀(p:aG) (x:p.den),(p.nf=false->∀nm,Ne c=some nm->N' j=some nm)->(∀c∈p.cs,∀nm,Ne c=some nm->N' (bk c)=some nm)->my p.ks Ne N'->(lt=true->p.flat=true)->
  (p.nf=true->c=j/\∀k,N'.sub (j-SB) k=Ne.sub (j-SB) k)->qK Ne De w base c (p.mk (λc=>c) x)->qK N' D' w base j (p.mk bk x)
 | .var p,x,hc,hN,hK,hf,_,h=>tw.back hT hD (hc rfl) hN hK (by simpa only[aG.flat] using hf) h
 | .row t,x,hc,hN,hK,hf,_,h=>nP.back hT hD (hc rfl) hK (by simpa only[aG.flat] using hf) h
 | .store ep,x,hc,hN,hK,hf,hs,h=>by
  obtain⟨rfl,h2⟩:=hs rfl;exact(jr.back hT hD hf (show jr De w base Ne c (.store ep) x from h)).uS h2
theorem GU {N:Names}{D:Nat->Prop}{w:World}{id bl:Nat}{o:gi}(h:qK N D w base id o)(hr:o.rw=true): ∃nm,N id=some nm:=by
 cases o with
 |dead=>simp[gi.rw] at hr
 |void=>simp[gi.rw] at hr
 |store _ _=>simp[gi.rw] at hr
 |var v=>obtain⟨nm,a,e1,_⟩:=h;exact⟨nm,e1⟩
 |row ro t xs=>obtain⟨nm,e1,_⟩:=h;exact⟨nm,e1⟩
def Vz (pre e:jG):Bool:=e.closed&&e.heap.all λo=>decide (50<=o.1)||(pre.heap.any λq=>decide (q.1=o.1)&&q.2.isVar)
structure P7 (pre e:jG):Prop where
 closed:wM e
 var: ∀q∈e.heap,q.1<50->∃q'∈pre.heap,q'.1=q.1/\q'.2.isVar=true
theorem GW {pre e:jG}(h:Vz pre e=true):P7 pre e:=by
 simp only[Vz,zdO,zep] at h;refine⟨uW h.1,λq hq uF=>?_⟩;have:=h.2 q hq;have hn: ¬50<=q.1:=by omega
 simp only[hn,decide_false,ze6,List.any_eq_true,zdO,zdU] at this;exact this
theorem Aw {lt:Bool}{h:Nat->Option gi}{pre:jG}{b:kG}{ro:List Nat}{s:St}{d0:cS pre.heap}(M:It s pre b ro d0)(hs:s.h=h){j:Nat}{o:gi}(ho:uc lt h pre b ro j=some o)(hd:o≠ .dead):
  j∉iZ pre.heap b/\((h j=some o/\(lt=true\/j∉ro))\/(lt=false/\j∈ro/\∃r t xs,h j=some (.row r t xs)/\o= .row true t xs)):=by
 unfold uc at ho;cases lt with
 |true=>
  simp only[ml] at ho;split at ho
  ·cases ho;exact absurd rfl hd
  ·rename_i hj;exact⟨hj, .inl ⟨ho, .inl rfl⟩⟩
 |false=>
  simp only[rA,ml] at ho;by_cases hj:j∈ro
  ·obtain⟨h1,o',h2,h3⟩:=M.ro j hj
   rw[hs] at h2;rw[if_pos hj,if_neg h1,h2] at ho;rcases h3 with⟨v,rfl⟩|⟨r,t,xs,rfl⟩
   ·simp only[Sv,zdM] at ho;exact absurd ho.symm hd
   ·simp only[Sv,zdM] at ho
    exact⟨h1, .inr ⟨rfl,hj,r,t,xs,h2,ho.symm⟩⟩
  ·rw[if_neg hj] at ho
   split at ho
   ·cases ho;exact absurd rfl hd
   ·rename_i Ch;exact⟨Ch, .inl ⟨ho, .inr hj⟩⟩
theorem GX {lt:Bool}{h:Nat->Option gi}{pre:jG}{b:kG}{ro:List Nat}{j:Nat}(ho:uc lt h pre b ro j=none):h j=none:=by
 unfold uc at ho;cases lt with
 |true=>
  simp only[ml] at ho;split at ho
  ·cases ho
  ·exact ho
 |false=>
  simp only[rA,ml,Sv] at ho;split at ho
  ·split at ho<;>cases ho
  ·split at ho
   ·cases ho
   ·exact ho
theorem P8 {lt:Bool}{h:Nat->Option gi}{pre:jG}{b:kG}{ro:List Nat}{s:St}{d0:cS pre.heap}(M:It s pre b ro d0)(hs:s.h=h){j:Nat}(hj:h j=some .dead):uc lt h pre b ro j=some .dead:=by
 unfold uc;have Ol:j∉ro:=λhr=>by
  obtain⟨_,o,h1,h2⟩:=M.ro j hr;rw[hs,hj] at h1;cases h1;rcases h2 with⟨v,e⟩|⟨r,t,xs,e⟩<;>cases e
 cases lt with
 |true=>
  simp only[ml];split
  ·rfl
  ·exact hj
 |false=>
  simp only[rA,ml,if_neg Ol];split
  ·rfl
  ·exact hj
theorem Ox {b:kG}{fresh c:Nat}(h:c<50):back b fresh c=match b.get c with|some (.at_ i)=>i|_=>0:=by unfold back;simp only[decide_eq_true h];rfl
theorem Ep {b:kG}{fresh c:Nat}(h: ¬c<50)(h': ¬SB<=c):back b fresh c=fresh+(c-50):=by unfold back;simp only[decide_eq_false h,decide_eq_false h']
theorem JV {c:Nat}(h:SB<=c): ¬c<50:=by unfold SB at h;omega
theorem qx {b:kG}{fresh c:Nat}(h:SB<=c):back b fresh c=c:=by unfold back;simp only[decide_eq_false (JV h),decide_eq_true h]
open Classical in
theorem Bx {N:Names}{D:Nat->Prop}{w:World}{h:Nat->Option gi}{pre e:jG}{b:kG}{ro:List Nat}{s:St}{d0:cS pre.heap}(hs:s.h=h)(S:kp N D w base h)(M:It s pre b ro d0)(hex:P7 pre e){fresh:Nat}(im:oY h fresh pre.heap e.heap=true){lt:Bool}(lj:lt=true->e.flat=true)
  {Ne:Names} {De:Nat->Prop} {w':World} {dh:cS e.heap} {O:Nat->Prop} (hO: ∀bl,O bl->∃i∈iZ pre.heap b,∃o,h i=some o/\jd N i o bl)
  (Se:kp Ne De w' base (mY (λc=>c) e.heap dh (λ_=>none))) (x:Iu O (zr Ne (mY (λc=>c) e.heap dh (λ_=>none))) (Bv N D ro) De w w') (zaT: ∀q∈e.heap,q.1<50->Ne q.1=jl N b pre.heap q.1)
  (YU: ∀g,de e.heap (SB+g)=true->∀k c nm,(jl N b pre.heap).sub g k c=some nm->nm.row=false->Ne.sub g k c=some nm):
  ∃N' D',kp N' D' w' base (mY (back b fresh) e.heap dh (uc lt h pre b ro))/\Ext N D w h N' D' w' (mY (back b fresh) e.heap dh (uc lt h pre b ro))/\
   (∀(p:cg) (y:p.den) g,(∀c∈p.cs,c<SB/\∃q∈e.heap,q.1=c)->(∀g∈p.ks,de e.heap (SB+g)=true)->(lt=true->p.flat=true)->an Ne De w' (p.mk (λc=>c) y) g->an N' D' w' (p.mk (back b fresh) y) g)/\
   (∀c,(c<SB/\∃q∈e.heap,q.1=c)->∀nm,Ne c=some nm->N' (back b fresh c)=some nm)/\(∀g,de e.heap (SB+g)=false->∀k,N'.sub g k=N.sub g k)/\(∀b,D' b->De b)/\
   ∀i oi bl,mY (back b fresh) e.heap dh (uc lt h pre b ro) i=some oi->jd N' i oi bl->(∃c o,mY (λc=>c) e.heap dh (λ_=>none) c=some o/\jd Ne c o bl)\/(h i=some oi/\jd N i oi bl/\i∉iZ pre.heap b):=by
 have kf: ∀q∈e.heap,(q.2.nf=true↔SB<=q.1):=hex.closed.st;have rn: ∀q∈e.heap,50<=q.1->q.1<SB->back b fresh q.1=fresh+(q.1-50)/\h (fresh+(q.1-50))=none:=by
  intro q hq uF lj;unfold oY at im;rw[zep] at im;have:=im q hq;have hn: ¬q.1<50:=by omega
  have PE: ¬SB<=q.1:=by omega
  simp only[hn,PE,decide_false,ze6,zdO,Option.isNone_iff_eq_none] at this;exact⟨Ep hn PE,this.2⟩
 have zaU: ∀q∈e.heap,SB<=q.1->de pre.heap q.1=true\/iS (h q.1)=true:=by
  intro q hq rZ;unfold oY at im;rw[zep] at im;have:=im q hq;rw[decide_eq_false (JV rZ),decide_eq_true rZ] at this;simp only[ze6,zeR,List.any_eq_true,zdU] at this;rcases this with⟨q',uL,h1⟩|h1
  ·exact .inl (gd.2 ⟨q',uL,h1,(M.st q' uL).2 (by omega)⟩)
  ·exact .inr h1
 have VA: ∀q∈e.heap,q.1<50->back b fresh q.1∈iZ pre.heap b/\jl N b pre.heap q.1=N (back b fresh q.1)/\∃o,h (back b fresh q.1)=some o/\o.rw=true:=by
  intro q hq uF;obtain⟨q',uL,h1,h2⟩:=hex.var q hq uF;obtain⟨g,hg,hT,h3⟩:=M.bound q' uL;obtain⟨i,rfl⟩:=h3 h2;have lj:q.1<SB:=by unfold SB;omega
  rw[h1] at hg;have qU:b.get q.1=some (.at_ i):=by rw[<-Dz (by omega)];exact hg
  have hb:back b fresh q.1=i:=by rw[Ox uF];simp[qU]
  rw[hb];refine⟨Bw.2 ⟨q',uL,by unfold El;rw[h1,hg];simp[xu.ids]⟩,?_,?_⟩
  ·exact(qN (N:=N) (b:=b) (l:=pre.heap) lj (λe he=>(M.st e he).1) ⟨q',uL,h1⟩).at_ qU
  ·have vi:q'.2.nf=false:=by cases hq2:q'.2<;>simp[hq2,aG.isVar] at h2<;>rfl
   rcases hT i (by simp[xu.ids]) with⟨o,g1,_,g2⟩|⟨g1,_⟩
   ·rw[hs] at g1;exact⟨o,g1,g2 vi⟩
   ·rw[vi] at g1;cases g1
 obtain⟨D',hD1,hD2,hD3,hD4⟩: ∃D':Nat->Prop,(∀b,D b->D' b)/\(∀b,D' b->De b)/\(lt=true\/∀b,De b->D' b)/\(lt=true->∀b,D' b->D b):=by
  cases lt with
  |true=>exact⟨D,λ_ h=>h,λb hb=>x.frozen b (.inl hb), .inl rfl,λ_ _ h=>h⟩
  |false=>exact⟨De,λb hb=>x.frozen b (.inl hb),λ_ h=>h, .inr λ_ h=>h,by intro e;cases e⟩
 have tH: ∀bl,O bl->zr N h bl:=by
  intro bl hb;obtain⟨i,hi,o,h1,h2⟩:=hO bl hb;exact⟨i,o,h1,h2⟩
 have vU: ∀j,h j=none->N j=none:=by
  intro j hj;cases e':N j with
  |none=>rfl
  |some nm=>exact absurd hj (S.named j nm e')
 let N':Names:=⟨λp=>match p with
  | []=>λj=>match N j with|some nm=>some nm|none=>if(∃q∈e.heap,50<=q.1/\q.1<SB/\fresh+(q.1-50)=j) then Ne (j-fresh+50) else none
  |(g,k)::p=>if de e.heap (SB+g)=true then Ne.at_ ((g,k)::p) else N.at_ ((g,k)::p)⟩
 have Iv: ∀g,de e.heap (SB+g)=true->∀k,N'.sub g k=Ne.sub g k:=by
  intro g hg k;show(⟨_⟩:Names)=⟨_⟩
  congr 1
  funext p
  show(if de e.heap (SB+g)=true then Ne.at_ ((g,k)::p) else N.at_ ((g,k)::p))=_
  rw[if_pos hg]
 have wN: ∀g,de e.heap (SB+g)=false->∀k,N'.sub g k=N.sub g k:=by
  intro g hg k;show(⟨_⟩:Names)=⟨_⟩
  congr 1
  funext p
  show(if de e.heap (SB+g)=true then Ne.at_ ((g,k)::p) else N.at_ ((g,k)::p))=_
  rw[if_neg (by rw[hg];simp)]
 have hN: ∀j nm,N j=some nm->N' j=some nm:=by
  intro j nm hj;show(match N j with|some nm=>some nm|none=>_)=some nm
  rw[hj]
 have YV:N.le N':=by
  refine⟨hN,λg k c nm hn hr=>?_⟩;cases hg:de e.heap (SB+g) with
  |false=>rw[wN g hg];exact hn
  |true=>
   rw[Iv g hg];obtain⟨q,hq,h1,h2⟩:=gd.1 hg;rcases zaU q hq (by omega) with h3|h3
   ·rw[h1] at h3
    exact YU g hg k c nm (by rw[vV h3];exact hn) hr
   ·rw[h1] at h3
    rw[S.iS g h3 k] at hn;cases hn
 have Oy: ∀j nm,N' j=some nm->N j=some nm\/(h j=none/\∃q∈e.heap,back b fresh q.1=j/\Ne q.1=some nm):=by
  intro j nm hj;replace hj:(match N j with|some nm=>some nm|none=>if(∃q∈e.heap,50<=q.1/\q.1<SB/\fresh+(q.1-50)=j) then Ne (j-fresh+50) else none)=some nm:=hj
  cases UY:N j with
  |some mN=>rw[UY] at hj;exact .inl hj
  |none=>
   rw[UY] at hj;simp only at hj;split at hj
   ·rename_i hq
    obtain⟨q,hq,uF,lj,rfl⟩:=hq;obtain⟨h1,h2⟩:=rn q hq uF lj;refine .inr ⟨h2,q,hq,h1,?_⟩;rw[<-hj];congr 1;omega
   ·cases hj
 have hNe: ∀q∈e.heap,q.1<SB->∀nm,Ne q.1=some nm->N' (back b fresh q.1)=some nm:=by
  intro q hq lj nm hn;rcases zd5 q.1 50 with uF|uF
  ·obtain⟨_,h2,_⟩:=VA q hq uF
   rw[zaT q hq uF,h2] at hn;exact hN _ _ hn
  ·obtain⟨h1,h2⟩:=rn q hq uF lj
   show(match N (back b fresh q.1) with|some nm=>some nm|none=>_)=some nm
   rw[h1,vU _ h2];simp only;rw[if_pos ⟨q,hq,uF,lj,rfl⟩,<-hn];congr 1;omega
 have yV: ∀c,(c<SB/\∃q∈e.heap,q.1=c)->∀nm,Ne c=some nm->N' (back b fresh c)=some nm:=by
  rintro c ⟨lj,q,hq,rfl⟩;exact hNe q hq lj
 have hks: ∀l:List Nat,(∀g∈l,de e.heap (SB+g)=true)->my l Ne N':=λl hl g hg k c nm hn _=>by
  rw[Iv g (hl g hg)];exact hn
 have H8: ∀bl,D bl->w'.heap[bl]?=w.heap[bl]?:=λbl hb=>x.s7 bl (S.frozen bl hb) λho=>(S.ug (tH bl ho)).1 hb;have XL: ∀q∈e.heap,∀(y:q.2.den),mY (λc=>c) e.heap dh (λ_=>none) q.1=some (q.2.mk (λc=>c) y)->∀bl,jd N' (back b fresh q.1) (q.2.mk (back b fresh) y) bl->jd Ne q.1 (q.2.mk (λc=>c) y) bl:=by
  rintro⟨c,p⟩ hq y hm bl ho
  have nq:=Se.obj _ _ hm;have key:p.nf=false->(p.mk (λc=>c) y).rw=true->oG N' (back b fresh c) bl->oG Ne c bl:=by
   rintro vi hr ⟨nm,a,h1,h2,h3⟩
   obtain⟨mN,zaV⟩:=GU (bl:=bl) nq hr;have lj:c<SB:=by
    rcases zd5 c SB with h|h
    ·exact h
    ·rw[(kf _ hq).2 h] at vi;cases vi
   have:=hNe _ hq lj mN zaV;rw[h1] at this;cases this;exact⟨nm,a,zaV,h2,h3⟩
  cases p with
  |var p=>exact key rfl rfl ho
  |row t=>exact key rfl rfl ho
  |store ep=>
   have rZ:=(kf _ hq).1 rfl;simp only at rZ;have hg:de e.heap (SB+(c-SB))=true:=by
    rw[show SB+(c-SB)=c by omega]
    exact gd.2 ⟨_,hq,rfl,rfl⟩
   have ho:pZ N' c (.store ep) y bl:=by
    have:=ho;rw[show back b fresh ((c,aG.store ep):Nat×aG).1=c from qx rZ] at this
    exact this
   exact(pZ.uS (Iv _ hg)).1 ho
 have hold: ∀j o bl,h j=some o->jd N j o bl->j∉iZ pre.heap b->(lt=true\/j∉ro)->bl<w.heap.size/\¬O bl/\¬D' bl:=by
  intro j o bl hj hr hjr hjo;have hOw:zr N h bl:=⟨j,o,hj,hr⟩;have hnO: ¬O bl:=by
   intro ho;obtain⟨i,hi,o',na,UU⟩:=hO _ ho;have:=S.apart i j o' o bl na hj UU hr;subst this;exact hjr hi
  refine⟨(S.px hj hr).2.2,hnO,λhd=>?_⟩;have hnD:=(S.ug hOw).1;rcases hjo with hjo|hjo
  ·exact hnD (hD4 hjo _ hd)
  ·rcases x.JG _ (hD2 _ hd) with(h1|⟨i,hi,mN,a',h1,h2,h3⟩)|h1|h1
   ·exact hnD h1
   ·rcases M.cases (by rw[hs];exact S) hi h1 h2 with h4|⟨o',h4,h5⟩
    ·exact hnD (h3▸h4)
    ·rw[hs] at h4
     have:=S.apart i j _ o bl h4 hj (h3▸h5) hr;subst this;exact hjo hi
   ·exact hnO h1
   ·have:=(S.px hj hr).2.2
    omega
 have zcK: ∀g,de e.heap (SB+g)=true->∃o,mY (back b fresh) e.heap dh (uc lt h pre b ro) (SB+g)=some o/\iS (some o)=false/\h (SB+g)≠some .dead:=by
  intro g hg;obtain⟨q,hq,h1,h2⟩:=gd.1 hg;have hb:back b fresh q.1=SB+g:=by rw[qx (by omega),h1]
  cases hm:mY (back b fresh) e.heap dh (uc lt h pre b ro) (SB+g) with
  |none=>exact absurd hm (qg ⟨q,hq,hb⟩)
  |some o=>
   refine⟨o,rfl,?_,?_⟩
   ·rcases nu hm with⟨q',_,_,y,_,rfl⟩|⟨h3,_⟩
    ·exact yE _ _ _
    ·exact absurd hb (h3 q hq)
   ·intro hd
    rcases zaU q hq (by omega) with h3|h3
    ·obtain⟨q',uL,h4,h5⟩:=gd.1 h3
     obtain⟨gg,hgg,hT,_⟩:=M.bound q' uL;rw[uV (by omega)] at hgg
     cases hgg;rcases hT q'.1 (by simp[xu.ids]) with⟨o',g1,g2,_⟩|⟨_,g1⟩
     ·rw[hs,h4,h1,hd] at g1;cases g1;cases g2
     ·rw[hs,h4,h1,hd] at g1;cases g1
    ·rw[h1,hd] at h3;cases h3
 have N9: ∀g,h (SB+g)=some .dead->(∀q∈e.heap,back b fresh q.1≠SB+g)/\de e.heap (SB+g)=false:=by
  intro g hd;have vi:de e.heap (SB+g)=false:=by
   cases hg:de e.heap (SB+g) with
   |false=>rfl
   |true=>obtain⟨_,_,_,h3⟩:=zcK g hg;exact absurd hd h3
  refine⟨λq hq hb=>?_,vi⟩;rcases zd5 q.1 50 with uF|uF
  ·obtain⟨_,_,o,h1,h2⟩:=VA q hq uF
   rw[hb,hd] at h1;cases h1;cases h2
  ·rcases zd5 q.1 SB with lj|rZ
   ·obtain⟨h1,h2⟩:=rn q hq uF lj
    rw[<-h1,hb,hd] at h2;cases h2
   ·rw[qx rZ] at hb
    rw[gd.2 ⟨q,hq,hb,(kf q hq).2 rZ⟩] at vi;cases vi
 have zaW:Ext N D w h N' D' w' (mY (back b fresh) e.heap dh (uc lt h pre b ro)):=by
  refine⟨YV,hD1,x.os,x.tape,x.output,x.size,λbl hb ho=>x.s7 bl hb λh1=>ho (tH bl h1),?_,?_,?_,?_,λg hg=>?_⟩
  ·rintro bl zcL ⟨j,o,hj,hr⟩
   rcases nu hj with⟨q,hq,rfl,y,h1,rfl⟩|⟨hm,h1⟩
   ·exact tH _ (x.own _ zcL ⟨q.1,_,h1,XL q hq y h1 bl hr⟩)
   ·obtain⟨_,⟨h3,_⟩|⟨_,_,r,t,xs,_,rfl⟩⟩:=Aw M hs h1 (by rintro rfl;exact hr.elim)
    ·refine⟨j,o,h3,?_⟩
     have UY:N' j=N j:=by
      cases e1:N' j with
      |some nm=>
       rcases Oy j nm e1 with h4|⟨h4,_⟩
       ·exact h4.symm
       ·rw[h3] at h4;cases h4
      |none=>
       cases e2:N j with
       |none=>rfl
       |some nm=>rw[hN j nm e2] at e1;cases e1
     by_cases XM: ∃ep xs,o= .store ep xs
     ·obtain⟨ep,xs,rfl⟩:=XM
      have e3:=S.um h3;refine(jd.names UY (wN _ ?_)).1 hr;rw[e3];cases hg:de e.heap j with
      |false=>rfl
      |true=>
       obtain⟨q,hq,h4,h5⟩:=gd.1 hg;exact absurd (by rw[qx ((kf q hq).1 h5),h4]) (hm q hq)
     ·cases o with
      |dead=>exact hr.elim
      |void=>exact hr.elim
      |var v=>exact(oG.eq UY).1 hr
      |row r t xs=>
       cases r with
       |true=>exact hr.elim
       |false=>exact(oG.eq UY).1 hr
      |store ep xs=>exact absurd ⟨ep,xs,rfl⟩ XM
    ·exact hr.elim
  ·intro bl hb
   rcases x.JG _ (hD2 _ hb) with(h1|⟨i,hi,mN,a',h1,h2,h3⟩)|h1|h1
   ·exact .inl h1
   ·rcases M.cases (by rw[hs];exact S) hi h1 h2 with h4|⟨o',h4,h5⟩
    ·exact .inl (h3▸h4)
    ·rw[hs] at h4
     exact .inr (.inl ⟨i,_,h4,h3▸h5⟩)
   ·exact .inr (.inl (tH _ h1))
   ·exact .inr (.inr h1)
  ·intro j nm hn
   rcases Oy j nm hn with h1|⟨h1,_⟩
   ·exact .inl h1
   ·exact .inr h1
  ·intro j hj
   have hm: ∀q∈e.heap,back b fresh q.1≠j:=λq hq e'=>qg (l:=e.heap) (d:=dh) (h:=uc lt h pre b ro) (b:=back b fresh) ⟨q,hq,e'⟩ hj;rw[uX hm] at hj;exact GX hj
  ·obtain⟨h1,h2⟩:=N9 g hg
   refine⟨?_,wN g h2⟩;rw[uX h1];exact P8 M hs hg
 have yU: ∀i oi bl,mY (back b fresh) e.heap dh (uc lt h pre b ro) i=some oi->jd N' i oi bl->
   (∃q∈e.heap,back b fresh q.1=i/\∃o,mY (λc=>c) e.heap dh (λ_=>none) q.1=some o/\jd Ne q.1 o bl)\/
    (h i=some oi/\jd N i oi bl/\bl<w.heap.size/\¬O bl/\i∉iZ pre.heap b):=by
   intro i oi bl hi ri;rcases nu hi with⟨q,hq,rfl,y,h1,rfl⟩|⟨hm,h1⟩
   ·exact .inl ⟨q,hq,rfl,_,h1,XL q hq y h1 bl ri⟩
   ·obtain⟨h2,⟨h3,h4⟩|⟨_,_,r,t,xs,_,rfl⟩⟩:=Aw M hs h1 (by rintro rfl;exact ri.elim)
    ·have hn:jd N i oi bl:=by
      have UY:N' i=N i:=by
       cases e1:N' i with
       |some nm=>
        rcases Oy i nm e1 with h4|⟨h4,_⟩
        ·exact h4.symm
        ·rw[h3] at h4;cases h4
       |none=>
        cases e2:N i with
        |none=>rfl
        |some nm=>rw[hN i nm e2] at e1;cases e1
      by_cases XM: ∃ep xs,oi= .store ep xs
      ·obtain⟨ep,xs,rfl⟩:=XM
       have e3:=S.um h3;refine(jd.names UY (wN _ ?_)).1 ri;rw[e3];cases hg:de e.heap i with
       |false=>rfl
       |true=>
        obtain⟨q,hq,h4,h5⟩:=gd.1 hg;exact absurd (by rw[qx ((kf q hq).1 h5),h4]) (hm q hq)
      ·cases oi with
       |dead=>exact ri.elim
       |void=>exact ri.elim
       |var v=>exact(oG.eq UY).1 ri
       |row r t xs=>
        cases r with
        |true=>exact ri.elim
        |false=>exact(oG.eq UY).1 ri
       |store ep xs=>exact absurd ⟨ep,xs,rfl⟩ XM
     obtain⟨g1,g2,_⟩:=hold i oi bl h3 hn h2 h4;exact .inr ⟨h3,hn,g1,g2,h2⟩
    ·exact ri.elim
 refine⟨N',D',⟨?_,?_,?_,?_,zd3 S.size x.size,?_⟩,zaW,?_,yV,wN,hD2,λi oi bl hi ri=>?_⟩
 ·intro j o hj
  rcases nu hj with⟨q,hq,rfl,y,h1,rfl⟩|⟨hm,h1⟩
  ·refine Sw hD3 hD2 q.2 y (λvi=>hNe q hq ?_) (λc hc=>yV c (hex.closed.cs c (.inr (List.mem_flatMap.2 ⟨q,hq,hc⟩)))) (hks _ λg hg=>hex.closed.ks g (.inr (List.mem_flatMap.2 ⟨q,hq,hg⟩))) (λe'=>?_) (λXN=>?_) (Se.obj _ _ h1)
   ·rcases zd5 q.1 SB with h|h
    ·exact h
    ·rw[(kf q hq).2 h] at vi;cases vi
   ·have:=lj e'
    simp only[jG.flat,zdO,zep] at this;exact this.2 q hq
   ·have rZ:=(kf q hq).1 XN
    rw[qx rZ];refine⟨rfl,Iv _ ?_⟩;rw[show SB+(q.1-SB)=q.1 by omega]
    exact gd.2 ⟨q,hq,rfl,XN⟩
  ·by_cases hd:o= .dead
   ·subst hd;trivial
   obtain⟨h2,⟨h3,h4⟩|⟨h4,h5,r,t,xs,h6,rfl⟩⟩:=Aw M hs h1 hd
   ·refine oc (S.obj j o h3) YV hD1 H8 (λbl hr=>?_) (λep xs eo=>?_)
    ·obtain⟨g1,g2,g3⟩:=hold j o bl h3 hr h2 h4
     exact⟨x.s7 _ g1 g2,λ_=>g3⟩
    ·subst eo
     have e3:=S.um h3;refine wN _ ?_;rw[e3];cases hg:de e.heap j with
     |false=>rfl
     |true=>
      obtain⟨q,hq,h4,h5⟩:=gd.1 hg;exact absurd (by rw[qx ((kf q hq).1 h5),h4]) (hm q hq)
   ·obtain⟨nm,e1,e2,e3,e4,e5,e6⟩:=S.obj j _ h6
    refine⟨nm,hN _ _ e1,e2,e3,e4,e5,?_⟩;cases hb:nm.base with
    |none=>rw[hb] at e6;exact e6
    |some a=>
     rw[hb] at e6;obtain⟨f1,⟨cc,ty,fz,f2,f3,_⟩,f4,f5⟩:=e6;have hDa:D' a.block:=by
      rcases hD3 with h7|h7
      ·rw[h4] at h7;cases h7
      ·exact h7 _ (x.frozen _ (.inr ⟨j,h5,nm,a,e1,hb,rfl⟩))
     have vR:w'.heap[a.block]?=w.heap[a.block]?:=by
      refine x.s7 _ (Array.getElem?_eq_some_iff.1 f2).1 λho=>?_;cases r with
      |true=>simp only[if_true] at f4;exact(S.ug (tH _ ho)).1 f4
      |false=>
       obtain⟨i,hi,o',na,UU⟩:=hO _ ho;have:=S.apart i j o' _ _ na h6 UU (jd.of rfl e1 hb);subst this;exact h2 hi
     refine⟨f1,⟨cc,ty,fz,by rw[vR];exact f2,f3,by intro e';cases e'⟩,by simp only[if_true];exact hDa,λi y hy=>?_⟩
     refine iI.func (kK YV hD1 H8 t y _ (f5 i y hy)) λm=>?_;simp only[aX,World.cell?,vR]
 ·intro i j oi oj bl hi hj ri rj
  rcases yU i oi bl hi ri with⟨q,hq,rfl,o,k2,k3⟩|⟨k1,k2,k3,k4,_⟩<;>rcases yU j oj bl hj rj with⟨q',uL,rfl,o',k2',k3'⟩|⟨k1',k2',k3',k4',_⟩
  ·rw[Se.apart q.1 q'.1 o o' bl k2 k2' k3 k3']
  ·exact absurd (x.own _ k3' ⟨q.1,o,k2,k3⟩) k4'
  ·exact absurd (x.own _ k3 ⟨q'.1,o',k2',k3'⟩) k4
  ·exact S.apart i j oi oj bl k1 k1' k2 k2'
 ·intro bl hb
  exact Se.frozen bl (hD2 bl hb)
 ·intro j nm hn
  rcases Oy j nm hn with h1|⟨_,q,hq,h2,_⟩
  ·intro h2
   exact S.named j nm h1 (zaW.live j h2)
  ·exact qg ⟨q,hq,h2⟩
 ·intro g hg
  have XO: ∀q∈e.heap,back b fresh q.1≠SB+g:=by
   intro q hq hb;cases hm:mY (back b fresh) e.heap dh (uc lt h pre b ro) (SB+g) with
   |none=>exact qg ⟨q,hq,hb⟩ hm
   |some o=>
    rw[hm] at hg;rcases nu hm with⟨q',_,_,y,_,rfl⟩|⟨h3,_⟩
    ·rw[yE] at hg;cases hg
    ·exact h3 q hq hb
  have vi:de e.heap (SB+g)=false:=by
   cases C9:de e.heap (SB+g) with
   |false=>rfl
   |true=>
    obtain⟨q,hq,h1,h2⟩:=gd.1 C9;exact absurd (by rw[qx ((kf q hq).1 h2),h1]) (XO q hq)
  rw[uX XO] at hg;have Vx:iS (h (SB+g))=true:=by
   cases hr:uc lt h pre b ro (SB+g) with
   |none=>rw[GX hr];rfl
   |some o=>
    rw[hr] at hg;obtain⟨_,⟨h3,_⟩|⟨_,_,r,t,xs,_,rfl⟩⟩:=Aw M hs hr (by rintro rfl;cases hg)
    ·rw[h3];exact hg
    ·cases hg
  exact λk=>(wN g vi k).trans (S.iS g Vx k)
 ·intro p y g hp hk hf hg
  exact DA hD3 p y g (λc hc=>yV c (hp c hc)) (hks _ hk) hf hg
 ·rcases yU i oi bl hi ri with⟨q,_,_,o,k2,k3⟩|⟨k1,k2,_,_,k5⟩
  ·exact .inl ⟨q.1,o,k2,k3⟩
  ·exact .inr ⟨k1,k2,k5⟩
end AM
namespace AM
open Go
variable {α:Type}{P:Program}{base:Nat}
section
variable {M:Names}{D:Nat->Prop}{w:World}
theorem Sx {c:Nat}: ∀{p:aG} {x:p.den},jr D w base M c p x->qK M D w base c (p.mk (λc=>c) x)
 | .var p,x,h=>by simp only[jr] at h;exact h
 | .row t,x,h=>by simp only[jr] at h;exact h
 | .store ep,x,h=>h
theorem Sy {c:Nat}: ∀{p:aG} {x:p.den},qK M D w base c (p.mk (λc=>c) x)->jr D w base M c p x
 | .var p,x,h=>by simp only[jr];exact h
 | .row t,x,h=>by simp only[jr];exact h
 | .store ep,x,h=>h
theorem Er {c b:Nat}: ∀{p:aG} {x:p.den},jd M c (p.mk (λc=>c) x) b↔pZ M c p x b
 | .var p,x=>by simp only[pZ];exact Iff.rfl
 | .row t,x=>by simp only[pZ];exact Iff.rfl
 | .store ep,x=>Iff.rfl
theorem kX.obj: ∀{l:List (Nat×aG)} {d:cS l},kX D w base M l d->∀c o,mY (λc=>c) l d (λ_=>none) c=some o->qK M D w base c o
 | [],_,_,c,o,h=>by simp[mY] at h
 |(ce,pe)::os,d,hp,c,o,h=>by
  simp only[kX] at hp;simp only[mY] at h;split at h
  ·rename_i e
   subst e;cases h;exact Sx hp.1
  ·exact kX.obj hp.2.1 c o h
theorem pM.of: ∀{l:List (Nat×aG)} {d:cS l} {c b:Nat} {o:gi},mY (λc=>c) l d (λ_=>none) c=some o->jd M c o b->pM M l d b
 | [],_,c,b,o,h,_=>by simp[mY] at h
 |(ce,pe)::os,d,c,b,o,h,ho=>by
  simp only[pM];simp only[mY] at h;split at h
  ·rename_i e
   subst e;cases h;exact .inl (Er.1 ho)
  ·exact .inr (pM.of h ho)
theorem pM.obj: ∀{l:List (Nat×aG)} {d:cS l} {b:Nat},AM.nodup (l.map (·.1))=true->pM M l d b->∃c o,mY (λc=>c) l d (λ_=>none) c=some o/\jd M c o b
 | [],_,b,_,h=>by simp only[pM] at h
 |(ce,pe)::os,d,b,hn,h=>by
  simp only[pM] at h;simp only[zeD,AM.nodup,zdO,ze5,zeV,decide_eq_false_iff_not] at hn;rcases h with h|h
  ·exact⟨ce,pe.mk (λc=>c) d.1,by simp[mY],Er.2 h⟩
  ·obtain⟨c,o,h1,h2⟩:=pM.obj hn.2 h
   refine⟨c,o,?_,h2⟩;simp only[mY];rw[if_neg,h1];rintro rfl
   rcases nu h1 with⟨q,hq,h3,_⟩|⟨_,h3⟩
   ·exact hn.1 (List.mem_map.2 ⟨q,hq,h3⟩)
   ·cases h3
theorem kX.apart: ∀{l:List (Nat×aG)} {d:cS l},kX D w base M l d->∀c c' o o' b,mY (λc=>c) l d (λ_=>none) c=some o->mY (λc=>c) l d (λ_=>none) c'=some o'->jd M c o b->jd M c' o' b->c=c'
 | [],_,_,c,c',o,o',b,h,_,_,_=>by simp[mY] at h
 |(ce,pe)::os,d,hp,c,c',o,o',b,h,h',ho,na=>by
  simp only[kX] at hp;simp only[mY] at h h';split at h<;>split at h'
  ·rename_i e e';rw[e,e']
  ·rename_i e e'
   subst e;cases h;exact(hp.2.2 b (Er.1 ho) (pM.of h' na)).elim
  ·rename_i e e'
   subst e';cases h';exact(hp.2.2 b (Er.1 na) (pM.of h ho)).elim
  ·exact kX.apart hp.2.1 c c' o o' b h h' ho na
theorem JW {l:List (Nat×aG)}{d:cS l}(hp:kX D w base M l d)(hn:Du M l)(hf: ∀b,D b->b<w.heap.size)(hs:base<=w.heap.size):kp M D w base (mY (λc=>c) l d (λ_=>none)):=by
 refine⟨hp.obj,hp.apart,hf,λc nm hc=>(by obtain⟨e,he,h1,_⟩:=hn.1 c nm hc;exact qg ⟨e,he,h1⟩),hs,λg hg=>hn.2 g λe he h1=>?_⟩
 cases hm:mY (λc=>c) l d (λ_=>none) (SB+g) with
 |none=>exact qg ⟨e,he,h1⟩ hm
 |some o=>
  rw[hm] at hg;rcases nu hm with⟨q',_,_,x,_,rfl⟩|⟨_,h5⟩
  ·rw[yE] at hg;cases hg
  ·cases h5
theorem JX: ∀{l:List (Nat×aG)} {d:cS l},AM.nodup (l.map (·.1))=true->(∀c o,mY (λc=>c) l d (λ_=>none) c=some o->qK M D w base c o)->(∀c c' o o' b,mY (λc=>c) l d (λ_=>none) c=some o->mY (λc=>c) l d (λ_=>none) c'=some o'->jd M c o b->jd M c' o' b->c=c')->kX D w base M l d
 | [],_,_,_,_=>by simp only[kX]
 |(ce,pe)::os,d,hn,h1,h2=>by
  simp only[zeD,AM.nodup,zdO,ze5,zeV,decide_eq_false_iff_not] at hn;have mb: ∀c o,mY (λc=>c) os d.2 (λ_=>none) c=some o->c≠ce/\mY (λc=>c) ((ce,pe)::os) d (λ_=>none) c=some o:=by
   intro c o h;have hc:c≠ce:=by
    rintro rfl
    rcases nu h with⟨q,hq,h3,_⟩|⟨_,h3⟩
    ·exact hn.1 (List.mem_map.2 ⟨q,hq,h3⟩)
    ·cases h3
   refine⟨hc,?_⟩;simp only[mY];rw[if_neg hc,h]
  have PR:mY (λc=>c) ((ce,pe)::os) d (λ_=>none) ce=some (pe.mk (λc=>c) d.1):=by simp[mY]
  simp only[kX];refine⟨Sy (h1 ce _ PR),JX hn.2 (λc o h=>h1 c o (mb c o h).2) (λc c' o o' b h h'=>h2 c c' o o' b (mb c o h).2 (mb c' o' h').2),λb hb vC=>?_⟩;obtain⟨c,o,h3,h4⟩:=pM.obj hn.2 vC;obtain⟨h5,h6⟩:=mb c o h3;exact h5 (h2 c ce o _ b h6 PR h4 (Er.2 hb))
theorem ym {l:List (Nat×aG)}{d:cS l}(hn:AM.nodup (l.map (·.1))=true)(VB: ∀c nm,M c=some nm->∃e∈l,e.1=c/\e.2.nf=false)(S:kp M D w base (mY (λc=>c) l d (λ_=>none))):kX D w base M l d/\Du M l:=by
 refine⟨JX hn S.obj S.apart,VB,λg hg=>S.iS g ?_⟩;rw[uX hg];rfl
end
section
variable {N N' N2:Names}{D D':Nat->Prop}{w w':World}{ks:List Nat}
theorem GY (oI: ∀g∈ks,∀k,N.sub g k=Names.nil)(jD: ∀g,g∉ks->∀k c nm,N'.sub g k c=some nm->nm.row=false->N2.sub g k c=some nm){tag n c:Nat}{v v':Option Value}(h:xO N tag n c v)(h':xO N' tag n c v'):xO N2 tag n c v':=by
 cases n with
 |zero=>exact h'
 |succ k=>
  obtain⟨nm,a,h1,_⟩:=h;obtain⟨mN,a',h2,h3,h4⟩:=h';refine⟨mN,a',jD tag (λhm=>?_) _ _ _ h2 h3,h3,h4⟩;rw[oI tag hm] at h1;cases h1
theorem sb (oI: ∀g∈ks,∀k,N.sub g k=Names.nil)(jD: ∀g,g∉ks->∀k c nm,N'.sub g k c=some nm->nm.row=false->N2.sub g k c=some nm): ∀(t:Ty) (x:t.den) (g g':Nat->Option Value),iI N D w t x g->iI N' D' w' t x g'->iI N2 D' w' t x g'
 | .int _,_,_,_,_,h=>by simp only[iI] at*;exact h
 | .bool,_,_,_,_,h=>by simp only[iI] at*;exact h
 | .str,_,_,_,_,h=>by simp only[iI] at*;exact h
 | .nil,_,_,_,_,_=>by simp only[iI]
 | .cons a b,p,g,g',h,h'=>⟨sb oI jD a p.1 _ _ h.1 h'.1,sb oI jD b p.2 _ _ h.2 h'.2⟩
 | .arr n t,xs,g,g',h,h'=>⟨h'.1,λi x hx=>sb oI jD t x _ _ (h.2 i x hx) (h'.2 i x hx)⟩
 | .deep t,xs,g,g',h,h'=>by
  obtain⟨a,cap,h1,h2,h3,h4⟩:=h;obtain⟨a',sK,Iw,Sz,RV,YW⟩:=h';refine⟨a',sK,Iw,Sz,RV,λad ha hx=>?_⟩;obtain⟨h5',h6',h7'⟩:=YW ad ha hx;refine⟨h5',h6',λi x hi=>?_⟩;cases a with
  |none=>rw[h3 rfl] at h2;exact absurd (Nat.le_zero.1 h2) hx
  |some ad0=>exact sb oI jD t x _ _ ((h4 ad0 rfl hx).2.2 i x hi) (h7' i x hi)
 | .ref g,n,c,c',h,h'=>GY (n:=n) oI jD h h'
theorem P9 {agg:Bool}{size:Nat}{R R' R2:(Nat->Option Value)->Prop}(h: ∀g g',R g->R' g'->R2 g'){v v':Value}(hv:jJ agg size R v)(hv':jJ agg size R' v'):jJ agg size R2 v':=by
 cases agg with
 |true=>
  obtain⟨c,_,_,h3⟩:=hv;obtain⟨c',h1,h2,RV⟩:=hv';exact⟨c',h1,h2,h _ _ h3 RV⟩
 |false=>exact h _ _ hv hv'
mutual
theorem wO (oI: ∀g∈ks,∀k,N.sub g k=Names.nil)(kf: ∀i nm,N' i=some nm->N2 i=some nm)(jD: ∀g,g∉ks->∀k c nm,N'.sub g k c=some nm->nm.row=false->N2.sub g k c=some nm): ∀(v:AV) (g g':Nat->Option Value),an N D w v g->an N' D' w' v g'->an N2 D' w' v g'
 | .undef,_,_,_,_=>by simp only[an]
 | .val v,g,g',_,h=>by simp only[an] at*;exact h
 | .ptr id p,g,g',_,h=>by
  simp only[an] at*;obtain⟨nm,a,o,h1,h2⟩:=h;exact⟨nm,a,o,kf _ _ h1,h2⟩
 | .tail id off,g,g',_,h=>by
  simp only[an] at*;obtain⟨nm,h1,h2⟩:=h;exact⟨nm,kf _ _ h1,h2⟩
 | .slice id p off len,g,g',_,h=>by
  simp only[an] at*;obtain⟨nm,h1,h2⟩:=h;exact⟨nm,kf _ _ h1,h2⟩
 | .dp t xs,g,g',h,h'=>by simp only[an] at*;exact sb oI jD _ _ _ _ h h'
 | .ub v,g,g',h,h'=>by
  simp only[an] at*;obtain⟨_,_,_,_,h4⟩:=h;obtain⟨a,h1,h2,h3,YW⟩:=h';exact⟨a,h1,h2,h3,wO oI kf jD v _ _ h4 YW⟩
 | .agg fs,g,g',h,h'=>by simp only[an] at*;exact Cx oI kf jD fs g g' h h'
 | .arr n t xs,g,g',h,h'=>by simp only[an] at*;exact sb oI jD _ _ _ _ h h'
 | .A8 vs,g,g',h,h'=>by
  simp only[an] at*;obtain⟨cs,_,h2⟩:=h;obtain⟨tS,Iw,Sz⟩:=h';exact⟨tS,Iw,tK oI kf jD vs _ _ h2 Sz⟩
 | .xq fn vs,g,g',h,h'=>by
  simp only[an] at*;obtain⟨cs,_,h2⟩:=h;obtain⟨tS,Iw,Sz⟩:=h';exact⟨tS,Iw,tK oI kf jD vs _ _ h2 Sz⟩
 | .xG,g,g',_,h=>by simp only[an] at*;exact h
 | .Ro id p f off,g,g',_,h=>by
  simp only[an] at*;obtain⟨nm,a,o,h1,h2⟩:=h;exact⟨nm,a,o,kf _ _ h1,h2⟩
 | .xr fn vs,g,g',h,h'=>by
  simp only[an] at*;obtain⟨cs,_,h2⟩:=h;obtain⟨tS,Iw,Sz⟩:=h';exact⟨tS,Iw,tK oI kf jD vs _ _ h2 Sz⟩
 | .uD id n,g,g',_,h=>by
  simp only[an] at*;obtain⟨nm,a,h1,h2⟩:=h;exact⟨nm,a,kf _ _ h1,h2⟩
 | .rf _ _ _,g,g',h,h'=>by simp only[an] at*;exact GY oI jD h h'
theorem Cx (oI: ∀g∈ks,∀k,N.sub g k=Names.nil)(kf: ∀i nm,N' i=some nm->N2 i=some nm)(jD: ∀g,g∉ks->∀k c nm,N'.sub g k c=some nm->nm.row=false->N2.sub g k c=some nm): ∀(l:List AV) (g g':Nat->Option Value),fE N D w l g->fE N' D' w' l g'->fE N2 D' w' l g'
 | [],_,_,_,_=>by simp only[fE]
 |x::xs,g,g',h,h'=>by
  simp only[fE] at*;exact⟨wO oI kf jD x _ _ h.1 h'.1,Cx oI kf jD xs _ _ h.2 h'.2⟩
theorem tK (oI: ∀g∈ks,∀k,N.sub g k=Names.nil)(kf: ∀i nm,N' i=some nm->N2 i=some nm)(jD: ∀g,g∉ks->∀k c nm,N'.sub g k c=some nm->nm.row=false->N2.sub g k c=some nm): ∀(l:List AV) (cs tS:List Value),bB N D w l cs->bB N' D' w' l tS->bB N2 D' w' l tS
 | [],_,_,_,h=>by simp only[bB] at*;exact h
 |x::xs,cs,tS,h,h'=>by
  simp only[bB] at*;obtain⟨c,cs,rfl,h2,h3⟩:=h;obtain⟨c',tS,rfl,Sz,RV⟩:=h';exact⟨c',tS,rfl,P9 (λg g'=>wO oI kf jD x g g') h2 Sz,tK oI kf jD xs _ _ h3 RV⟩
end
theorem nP.swap (oI: ∀g∈ks,∀k,N.sub g k=Names.nil)(kf: ∀i nm,N' i=some nm->N2 i=some nm)(jD: ∀g,g∉ks->∀k c nm,N'.sub g k c=some nm->nm.row=false->N2.sub g k c=some nm){i:Nat}{ro ro':Bool}{t:Ty}{xs:List t.den}(h:nP N D w base i ro t xs)(h':nP N' D' w' base i ro' t xs):nP N2 D' w' base i ro' t xs:=by
 obtain⟨nm,e1,e2,e3,e4,e5,e6⟩:=h;obtain⟨mN,f1,f2,f3,f4,f5,f6⟩:=h';refine⟨mN,kf _ _ f1,f2,f3,f4,f5,?_⟩;cases vC:mN.base with
 |none=>rw[vC] at f6;exact f6
 |some a'=>
  rw[vC] at f6;obtain⟨g1,g2,g3,g4⟩:=f6;refine⟨g1,g2,g3,λj x hx=>?_⟩;cases hb:nm.base with
  |none=>
   rw[hb] at e6;have:=yC hx;have e6:nm.len=0:=e6;omega
  |some a=>
   rw[hb] at e6;exact sb oI jD t x _ _ (e6.2.2.2 j x hx) (g4 j x hx)
theorem mk_le (kf: ∀i nm,N' i=some nm->N2 i=some nm){bk:Nat->Nat}(p:cg)(x:p.den)(hK:my p.ks N' N2): ∀g,an N' D w (p.mk bk x) g->an N2 D w (p.mk bk x) g:=by
 have key:(∀(p:cg) (x:p.den),my p.ks N' N2->∀g,an N' D w (p.mk bk x) g->an N2 D w (p.mk bk x) g):=by
  intro p;refine cg.rec (motive_1:=λp=> ∀(x:p.den),my p.ks N' N2->∀g,an N' D w (p.mk bk x) g->an N2 D w (p.mk bk x) g)
   (motive_2:=λps=> ∀(x:cg.xt ps),my (cg.RL ps) N' N2->(∀g,fE N' D w (cg.pK bk ps x) g->fE N2 D w (cg.pK bk ps x) g)/\∀cs,bB N' D w (cg.pK bk ps x) cs->bB N2 D w (cg.pK bk ps x) cs) ?_ ?_ ?_ ?_ ?_ ?_ ?_ ?_ ?_ ?_ ?_ ?_ ?_ ?_ p
  ·intro t x hK g h
   simp only[cg.mk] at h⊢;exact(kV t x g).2 (kH (λ_ h=>h) (λ_ _=>rfl) t x g (by simpa only[cg.ks] using hK) ((kV t x g).1 h))
  ·intro v x hK g h;simp only[cg.mk,an] at h⊢;exact h
  ·intro c x hK g h
   simp only[cg.mk,an] at h⊢;obtain⟨nm,a,o,h1,h2⟩:=h;exact⟨nm,a,o,kf _ _ h1,h2⟩
  ·intro c x hK g h
   simp only[cg.mk,an] at h⊢;obtain⟨nm,h1,h2⟩:=h;exact⟨nm,kf _ _ h1,h2⟩
  ·intro c x hK g h
   simp only[cg.mk,an] at h⊢;obtain⟨nm,h1,h2⟩:=h;exact⟨nm,kf _ _ h1,h2⟩
  ·intro ps ih x hK g h
   simp only[cg.mk,an] at h⊢;exact(ih x (by simpa only[cg.ks] using hK)).1 g h
  ·intro t x hK g h
   simp only[cg.mk,an] at h⊢;obtain⟨a,h1,h2,h3,h4⟩:=h;exact⟨a,h1,h2,h3,(kV t x _).2 (kH (λ_ h=>h) (λ_ _=>rfl) t x _ (by simpa only[cg.ks] using hK) ((kV t x _).1 h4))⟩
  ·intro c q x hK g h
   simp only[cg.mk,an] at h⊢;obtain⟨nm,a,o,h1,h2⟩:=h;exact⟨nm,a,o,kf _ _ h1,h2⟩
  ·intro f ps ih x hK g h
   simp only[cg.mk,an] at h⊢;obtain⟨cs,h1,h2⟩:=h;exact⟨cs,h1,(ih x (by simpa only[cg.ks] using hK)).2 _ h2⟩
  ·intro c n x hK g h
   simp only[cg.mk,an] at h⊢;obtain⟨nm,a,h1,h2⟩:=h;exact⟨nm,a,kf _ _ h1,h2⟩
  ·intro x hK g h;simp only[cg.mk,an]
  ·intro p ih x hK g h
   simp only[cg.mk,an] at h⊢;obtain⟨a,h1,h2,h3,h4⟩:=h;exact⟨a,h1,h2,h3,ih x (by simpa only[cg.ks] using hK) _ h4⟩
  ·intro x hK
   exact⟨λg _=>by simp only[cg.pK,fE],λcs h=>by simpa only[cg.pK,bB] using h⟩
  ·intro p ps qV UZ x hK
   have hK:my (p.ks++cg.RL ps) N' N2:=by simpa only[cg.RL] using hK
   have a1:=qV x.1 hK.left;obtain⟨a2,a3⟩:=UZ x.2 hK.right;refine⟨λg h=>?_,λcs h=>?_⟩
   ·simp only[cg.pK,fE] at h⊢
    exact⟨a1 g h.1,a2 _ h.2⟩
   ·simp only[cg.pK,bB] at h⊢
    obtain⟨c,tS,e1,e2,e3⟩:=h;exact⟨c,tS,e1,xP a1 e2,a3 _ e3⟩
 exact key p x hK
end
end AM
namespace AM
open Go
variable {α:Type}{P:Program}{base:Nat}
structure Mp (ep:List (Nat×aG)):Prop where
 closed:wM ⟨[],ep⟩
 ids: ∀q∈ep,q.2.nf=false->50<=q.1/\q.1<90
 nodup:AM.nodup (ep.map (·.1))=true
theorem GZ {ep:List (Nat×aG)}(h:Pz ep=true):Mp ep:=by
 simp only[Pz,zdO,zep] at h;refine⟨uW h.1.1,λq hq hs=>?_,h.2⟩;have:=h.1.2 q hq;rw[hs] at this;simpa using this
theorem Ax (N:Names)(D:Nat->Prop):Bv N D []=D:=by
 funext b
 simp[Bv]
theorem G0 {ep:List (Nat×aG)}(uE:Mp ep){g:Nat}:g∈xM ep↔de ep (SB+g)=true:=by
 unfold xM;rw[List.mem_filterMap,gd];constructor
 ·rintro⟨e,he,h⟩
  cases h2:e.2 with
  |var p=>rw[h2] at h;cases h
  |row t=>rw[h2] at h;cases h
  |store F5=>
   rw[h2] at h;simp only[zdM] at h;have:=(uE.closed.st e he).1 (by rw[h2];rfl)
   exact⟨e,he,by omega,by rw[h2];rfl⟩
 ·rintro⟨e,he,h1,h2⟩
  refine⟨e,he,?_⟩;cases h3:e.2 with
  |var p=>rw[h3] at h2;cases h2
  |row t=>rw[h3] at h2;cases h2
  |store F5=>simp only[zdM];omega
theorem Ay (g:Nat)(ep:List (Nat×aG)):iZ [(SB+g,aG.store ep)] []=[SB+g]:=by
 unfold iZ;simp only[zet,List.flatMap_nil,ze7];rw[uV (ze8 SB g)];rfl
theorem wP (g:Nat):SB+g-SB=g:=by omega
theorem Mq {N:Names}{D:Nat->Prop}{w:World}{st:St}{g n off:Nat}{ep:List (Nat×aG)}{xs:List (cS ep)}{d:cS ep}(S:kp N D w base st.h)(hs:st.h (SB+g)=some (.store ep xs))(hd:ko (β:=cS ep) xs n=some d)(uE:Mp ep)(hf:oY st.h off [] ep=true):
  ∃N1 D1,kp N1 D1 w base (ue st g off ep d).h/\Ext N D w st.h N1 D1 w (ue st g off ep d).h/\(∀c,(c<SB/\∃q∈ep,q.1=c)->∀nm,N.sub g n c=some nm->N1 (back [] off c)=some nm)/\(∀g',de ep (SB+g')=false->∀k,N1.sub g' k=N.sub g' k)/\(∀b,D1 b->D b)/\
   ∀i oi bl,(ue st g off ep d).h i=some oi->jd N1 i oi bl->pM (N.sub g n) ep d bl\/(st.h i=some oi/\jd N i oi bl/\i≠SB+g):=by
 have nq:jr D w base N (SB+g) (.store ep) xs:=S.obj _ _ hs;simp only[jr,wP] at nq;obtain⟨p1,p2⟩:=nq.2.1 n d hd;have hng:de ep (SB+g)=false:=by
  cases h:de ep (SB+g) with
  |false=>rfl
  |true=>
   obtain⟨q,hq,h1,h2⟩:=gd.1 h;unfold oY at hf;rw[zep] at hf;have:=hf q hq;rw[h1,decide_eq_false (JV (ze8 SB g)),decide_eq_true (ze8 SB g)] at this;simp[hs,iS] at this
 have M:It st ⟨[],[(SB+g, .store ep)]⟩ [] [] (xs,()):=by
  refine⟨λe he=>?_,by show AM.nodup (iZ [(SB+g,aG.store ep)] [])=true;rw[Ay];simp[AM.nodup],λi hi=>by simp at hi,λc F5 ys hc=>?_,λe he=>?_⟩
  ·obtain rfl:=List.mem_singleton.1 he
   refine⟨.at_ (SB+g),uV (ze8 SB g),λi hi=>?_,by intro h;cases h⟩
   simp only[xu.ids,ze4] at hi;subst hi;exact .inl ⟨_,hs,rfl,by intro h;cases h⟩
  ·simp only[mY] at hc
   split at hc
   ·rename_i e
    subst e;simp only[aG.mk,zdM] at hc;rw[<-hc];exact⟨ze8 SB g, .inl hs⟩
   ·cases hc
  ·obtain rfl:=List.mem_singleton.1 he
   exact⟨λ_=>ze8 SB g,λ_=>rfl⟩
 have hex:P7 ⟨[],[(SB+g, .store ep)]⟩ ⟨[],ep⟩:=⟨uE.closed,λq hq uF=>by
  exfalso
  cases kf:q.2.nf with
  |true=>have:=(uE.closed.st q hq).1 kf;exact JV this uF
  |false=>have:=(uE.ids q hq kf).1;omega⟩
 have xX:oY st.h off [(SB+g, .store ep)] ep=true:=by
  unfold oY at hf⊢;rw[zep] at hf⊢;intro q hq;have h1:=hf q hq;simp only[zeR] at h1⊢;rcases h1 with h1|h1
  ·exact .inl h1
  ·right
   by_cases rZ:SB<=q.1
   ·simp only[decide_eq_true rZ] at h1⊢
    simp only[List.any_nil,ze6] at h1;simp[h1]
   ·simp only[decide_eq_false rZ] at h1⊢
    exact h1
 obtain⟨N1,D1,r1,r2,_,r4,r5,r7,r6⟩:=Bx (h:=st.h) (pre:=⟨[],[(SB+g, .store ep)]⟩) (e:=⟨[],ep⟩) (b:=[]) (ro:=[]) (s:=st) rfl S M hex xX (lt:=false) (by intro h;cases h) (Ne:=N.sub g n) (De:=D) (w':=w) (dh:=d) (O:=pM (N.sub g n) ep d)
  (λbl hb=>⟨SB+g,by show SB+g∈iZ [(SB+g,aG.store ep)] [];rw[Ay];simp,_,hs,by
   show pZ N (SB+g) (.store ep) xs bl
   simp only[pZ,wP];exact⟨n,d,hd,hb⟩⟩)
  (JW p1 p2 S.frozen S.size)
  ⟨λb hb=>by rw[Ax] at hb;exact hb,rfl,rfl,rfl,zd2 _,λ_ _ _=>rfl,λb _ ho=>by obtain⟨c,o,h1,h2⟩:=ho;exact pM.of h1 h2,λb hb=> .inl (by rw[Ax];exact hb)⟩
  (λq hq uF=>by
   obtain⟨_,uL,h1,h2⟩:=hex.var q hq uF;obtain rfl:=List.mem_singleton.1 uL;cases h2)
  (λg' C9 k c nm hn _=>by
   have:de [(SB+g,aG.store ep)] (SB+g')=false:=by
    cases h:de [(SB+g,aG.store ep)] (SB+g') with
    |false=>rfl
    |true=>
     obtain⟨q,hq,h1,_⟩:=gd.1 h;obtain rfl:=List.mem_singleton.1 hq;have h1:SB+g=SB+g':=h1;rw[<-h1,hng] at C9;cases C9
   rw[zB this] at hn;cases hn)
 have vK:mY (back [] off) ep d (uc false st.h ⟨[],[(SB+g, .store ep)]⟩ [] [])=(ue st g off ep d).h:=by
  unfold uc ue;simp only[tQ];rw[Ay]
 have vK:mY (back [] off) (jG.mk [] ep).heap d (uc false st.h ⟨[],[(SB+g, .store ep)]⟩ [] [])=(ue st g off ep d).h:=vK;rw[vK] at r1 r2 r6;refine⟨N1,D1,r1,r2,r4,r5,r7,λi oi bl h1 h2=>?_⟩;rcases r6 i oi bl h1 h2 with⟨c,o,h3,h4⟩|⟨h3,h4,h5⟩
 ·exact .inl (pM.of h3 h4)
 ·refine .inr ⟨h3,h4,λe=>h5 ?_⟩
  show i∈iZ [(SB+g,aG.store ep)] []
  rw[Ay,e];simp
theorem Names.ext {N N':Names}(h: ∀p,N.at_ p=N'.at_ p):N=N':=by
 cases N;cases N';congr 1
 exact funext h
theorem Ix {N' N2:Names}{ks l:List Nat}(h:Xs ks l=true)(jD: ∀g,g∉ks->∀k c nm,N'.sub g k c=some nm->nm.row=false->N2.sub g k c=some nm):my l N' N2:=by
 intro g hg;unfold Xs at h;rw[zep] at h;have:=h g hg;exact jD g (by simpa using this)
theorem Es {h0 h':Nat->Option gi}{N N':Names}{D D':Nat->Prop}{w w':World}(S0:kp N D w base h0)(X:Ext N D w h0 N' D' w' h')(S':kp N' D' w' base h'){ep:List (Nat×aG)}(uE:Mp ep){s':St}(XN:s'.h=h'){b:kG}{d':cS ep}(M:It s' ⟨[],ep⟩ b [] d')(Sc:kp (jl N' b ep) D' w' base (mY (λc=>c) ep d' (λ_=>none)))
  {g n:Nat} {zs:List (cS ep)} (hz:ko (β:=cS ep) zs n=some d') (hg:de ep (SB+g)=false)
  (hE: ∀k dk,k≠n->ko (β:=cS ep) zs k=some dk->(kX D' w' base (N'.sub g k) ep dk/\Du (N'.sub g k) ep)/\∀bl,pM (N'.sub g k) ep dk bl->(∀j o,j≠SB+g->h' j=some o->¬jd N' j o bl)/\(bl<w.heap.size->zr N h0 bl))
  (hEE: ∀k k' dk U0 bl,k≠n->k'≠n->ko (β:=cS ep) zs k=some dk->ko (β:=cS ep) zs k'=some U0->pM (N'.sub g k) ep dk bl->pM (N'.sub g k') ep U0 bl->k=k')
  (hlen: ∀k,aM (β:=cS ep) zs<=k->N'.sub g k=Names.nil) (oI: ∀l,de ep (SB+l)=true->∀k,N.sub l k=Names.nil)
  (VA: ∀c nm,N'.sub g n c=some nm->nm.row=false->jl N' b ep c=some nm) (YX:h0 (SB+g)≠some .dead) (Qa:SB+g∉iZ ep b)
  (YY: ∀i o,h' i=some o->i∉iZ ep b->i≠SB+g->de ep i=false->o= .dead\/(∃(p:aG) (bk:Nat->Nat) (y:p.den),o=p.mk bk y/\p.nf=false/\Xs (xM ep) p.ks=true)\/∃o0,h0 i=some o0/\(o=o0\/∃r t xs,o0= .row r t xs/\o= .row true t xs)):
  ∃N2:Names,(∀i,N2 i=N' i)/\(∀g',g'∉xM ep->∀k c nm,N'.sub g' k c=some nm->nm.row=false->N2.sub g' k c=some nm)/\N2.sub g n=jl N' b ep/\kp N2 D' w' base (ud h' ep (iZ ep b) g (.store ep zs))/\Ext N D w h0 N2 D' w' (ud h' ep (iZ ep b) g (.store ep zs)):=by
 let N2:Names:=⟨λp=>match p with
  | []=>N'.at_ []
  |(g',k)::p=>if g'=g/\k=n then(jl N' b ep).at_ p else if de ep (SB+g')=true then λ_=>none else N'.at_ ((g',k)::p)⟩
 have kf: ∀i,N2 i=N' i:=λ_=>rfl;have hn:N2.sub g n=jl N' b ep:=by
  refine Names.ext λp=>?_;show(if g=g/\n=n then(jl N' b ep).at_ p else if de ep (SB+g)=true then(λ_=>none) else N'.at_ ((g,n)::p))=_
  rw[if_pos ⟨rfl,rfl⟩]
 have hA: ∀g' k,¬(g'=g/\k=n)->de ep (SB+g')=false->N2.sub g' k=N'.sub g' k:=by
  intro g' k h1 h2;show(⟨_⟩:Names)=⟨_⟩
  congr 1
  funext p
  show(if g'=g/\k=n then _ else if de ep (SB+g')=true then _ else N'.at_ ((g',k)::p))=_
  rw[if_neg h1,if_neg (by rw[h2];simp)]
 have hB: ∀g',de ep (SB+g')=true->∀k,N2.sub g' k=Names.nil:=by
  intro g' h1 k;have mb:g'≠g:=by rintro rfl;rw[hg] at h1;cases h1
  show(⟨_⟩:Names)=⟨_⟩
  congr 1
  funext p
  show(if g'=g/\k=n then(jl N' b ep).at_ p else if de ep (SB+g')=true then(λ_=>none) else N'.at_ ((g',k)::p))=λ_=>none
  rw[if_neg (λh=>mb h.1),if_pos h1]
 have jD: ∀g',g'∉xM ep->∀k c nm,N'.sub g' k c=some nm->nm.row=false->N2.sub g' k c=some nm:=by
  intro g' C9 k c nm h1 h2;by_cases he:g'=g/\k=n
  ·obtain⟨rfl,rfl⟩:=he
   rw[hn];exact VA c nm h1 h2
  ·rw[hA g' k he]
   ·exact h1
   ·cases h:de ep (SB+g') with
    |false=>rfl
    |true=>exact absurd ((G0 uE).2 h) C9
 have Oz: ∀i nm,N' i=some nm->N2 i=some nm:=λi nm h=>by rw[kf];exact h
 have OA: ∀l∈xM ep,∀k,N.sub l k=Names.nil:=λl hl=>oI l ((G0 uE).1 hl);have rn: ∀bl,pM (jl N' b ep) ep d' bl->∃i∈iZ ep b,∃o,h' i=some o/\jd N' i o bl:=by
  intro bl ho;obtain⟨c,o,h1,h2⟩:=pM.obj uE.nodup ho;obtain⟨i,h3,o',h4,h5⟩:=M.canon (sp:=⟨[],ep⟩) ⟨c,o,h1,h2⟩;exact⟨i,h3,o',by rw[<-XN];exact h4,h5⟩
 have hzn:n<aM (β:=cS ep) zs:=(List.getElem?_eq_some_iff.1 hz).1;have key: ∀i oi bl,ud h' ep (iZ ep b) g (.store ep zs) i=some oi->jd N2 i oi bl->
   (i=SB+g/\((∃j∈iZ ep b,∃o,h' j=some o/\jd N' j o bl)\/∃k dk,k≠n/\ko (β:=cS ep) zs k=some dk/\pM (N'.sub g k) ep dk bl))\/(i≠SB+g/\i∉iZ ep b/\h' i=some oi/\jd N' i oi bl):=by
  intro i oi bl hi ho;unfold ud at hi;split at hi
  ·rename_i e
   subst e;cases hi;have ho:pZ N2 (SB+g) (.store ep) zs bl:=ho;simp only[pZ,wP] at ho;obtain⟨k,dk,h1,h2⟩:=ho;left
   refine⟨rfl,?_⟩;by_cases hk:k=n
   ·subst hk
    rw[hz] at h1;cases h1;rw[hn] at h2;exact .inl (rn bl h2)
   ·rw[hA g k (λh=>hk h.2) hg] at h2
    exact .inr ⟨k,dk,hk,h1,h2⟩
  ·rename_i mb
   split at hi
   ·cases hi;exact ho.elim
   ·rename_i vi
    split at hi
    ·cases hi;exact ho.elim
    ·rename_i FY
     refine .inr ⟨mb,by simpa using FY,hi,?_⟩
     by_cases XM: ∃F5 xs,oi= .store F5 xs
     ·obtain⟨F5,xs,rfl⟩:=XM
      have e3:=S'.um hi;refine(jd.names (kf i) λk=>hA _ k (λh=>mb ?_) (by rw[e3];exact vi)).1 ho
      rw[<-e3,h.1]
     ·cases oi with
      |dead=>exact ho.elim
      |void=>exact ho.elim
      |var v=>exact ho
      |row r t xs=>cases r<;>exact ho
      |store F5 xs=>exact absurd ⟨F5,xs,rfl⟩ XM
 refine⟨N2,kf,jD,hn,⟨λi o hi=>?_,λi j oi oj bl hi hj ri rj=>?_,S'.frozen,λi nm hi=>?_,S'.size,λg' C9 k=>?_⟩,
  ⟨⟨λi nm hi=>X.names.st i nm hi,λg' k c nm h1 h2=>?_⟩,X.frozen,X.os,X.tape,X.output,X.size,X.s7,λbl lj ho=>?_,X.JG,λi nm hi=>X.fresh i nm hi,λi hi=>?_,λg' C9=>?_⟩⟩
 ·unfold ud at hi
  split at hi
  ·rename_i e
   subst e;cases hi;simp only[qK,jr,wP];refine⟨ze8 SB g,λk dk hk=>?_,λk hk=>?_,λk k' dk U0 bl hk tC ho na=>?_⟩
   ·by_cases U1:k=n
    ·subst U1
     rw[hz] at hk;cases hk;rw[hn];exact ym uE.nodup (λc nm hc=>by obtain⟨e,he,h1,h2⟩:=tV hc;exact⟨e,he,h1,yl h2⟩) Sc
    ·rw[hA g k (λh=>U1 h.2) hg]
     exact(hE k dk U1 hk).1
   ·rw[hA g k (λh=>by omega) hg]
    exact hlen k hk
   ·by_cases U1:k=n<;>by_cases Qb:k'=n
    ·rw[U1,Qb]
    ·exfalso
     subst U1;rw[hz] at hk;cases hk;rw[hn] at ho;rw[hA g k' (λh=>Qb h.2) hg] at na;obtain⟨i,h1,o,h2,h3⟩:=rn bl ho;exact((hE k' U0 Qb tC).2 bl na).1 i o (λe=>Qa (e▸h1)) h2 h3
    ·exfalso
     subst Qb;rw[hz] at tC;cases tC;rw[hn] at na;rw[hA g k (λh=>U1 h.2) hg] at ho;obtain⟨i,h1,o,h2,h3⟩:=rn bl na;exact((hE k dk U1 hk).2 bl ho).1 i o (λe=>Qa (e▸h1)) h2 h3
    ·rw[hA g k (λh=>U1 h.2) hg] at ho
     rw[hA g k' (λh=>Qb h.2) hg] at na;exact hEE k k' dk U0 bl U1 Qb hk tC ho na
  ·rename_i mb
   split at hi
   ·cases hi;trivial
   ·rename_i vi
    split at hi
    ·cases hi;trivial
    ·rename_i FY
     have nq:=S'.obj i o hi;rcases YY i o hi (by simpa using FY) mb vi with rfl|⟨p,bk,y,rfl,h1,h2⟩|⟨o0,h1,h2⟩
     ·trivial
     ·cases p with
      |var p=>
       obtain⟨nm,a,e1,e2,e3,e4,e5,e6,e7,e8,e9,xE⟩:=nq;exact⟨nm,a,e1,e2,e3,e4,e5,e6,e7,e8,e9,mk_le Oz p y (Ix h2 jD) _ xE⟩
      |row t=>
       obtain⟨nm,e1,e2,e3,e4,e5,e6⟩:=nq;refine⟨nm,e1,e2,e3,e4,e5,?_⟩;cases hb:nm.base with
       |none=>rw[hb] at e6;exact e6
       |some a=>
        rw[hb] at e6;obtain⟨f1,f2,f3,f4⟩:=e6;exact⟨f1,f2,f3,λj x hx=>kH (λ_ h=>h) (λ_ _=>rfl) t x _ (Ix h2 jD) (f4 j x hx)⟩
      |store F5=>cases h1
     ·have SA:=S0.obj i o0 h1
      rcases h2 with rfl|⟨r,t,xs,rfl,rfl⟩
      ·cases o with
       |dead=>trivial
       |void=>trivial
       |var v=>
        obtain⟨nm0,a0,_,_,_,_,_,_,_,_,_,YE⟩:=SA;obtain⟨nm,a,e1,e2,e3,e4,e5,e6,e7,e8,e9,xE⟩:=nq;exact⟨nm,a,e1,e2,e3,e4,e5,e6,e7,e8,e9,wO OA Oz jD v _ _ YE xE⟩
       |row r t xs=>exact nP.swap OA Oz jD (show nP N D w base i r t xs from SA) nq
       |store F5 xs=>
        have e3:=S'.um hi;refine(show jr D' w' base N' i (.store F5) xs from nq).uS λk=>hA _ k (λh=>mb ?_) (by rw[e3];exact vi)
        rw[<-e3,h.1]
      ·exact nP.swap OA Oz jD (show nP N D w base i r t xs from SA) nq
 ·rcases key i oi bl hi ri with⟨rfl,h1⟩|⟨h1,h2,h3,h4⟩<;>rcases key j oj bl hj rj with⟨rfl,Iw⟩|⟨Iw,Sz,RV,YW⟩
  ·rfl
  ·exfalso
   rcases h1 with⟨q,hq,o,h5,h6⟩|⟨k,dk,h5,h6,h7⟩
   ·exact Sz (S'.apart q j o oj bl h5 RV h6 YW▸hq)
   ·exact((hE k dk h5 h6).2 bl h7).1 j oj Iw RV YW
  ·exfalso
   rcases Iw with⟨q,hq,o,h5,h6⟩|⟨k,dk,h5,h6,h7⟩
   ·exact h2 (S'.apart q i o oi bl h5 h3 h6 h4▸hq)
   ·exact((hE k dk h5 h6).2 bl h7).1 i oi h1 h3 h4
  ·exact S'.apart i j oi oj bl h3 RV h4 YW
 ·have:=S'.named i nm hi
  unfold ud;split
  ·simp
  ·split
   ·simp
   ·split
    ·simp
    ·exact this
 ·unfold ud at C9
  split at C9
  ·cases C9
  ·rename_i mb
   split at C9
   ·rename_i hs;exact hB g' hs k
   ·rename_i vi
    split at C9
    ·cases C9
    ·rw[hA g' k (λh=>mb (by rw[h.1])) vi]
     exact S'.iS g' C9 k
 ·have h3:=X.names.sub g' k c nm h1 h2
  by_cases hm:g'∈xM ep
  ·rw[OA g' hm] at h1;cases h1
  ·exact jD g' hm k c nm h3 h2
 ·obtain⟨i,o,hi,hr⟩:=ho
  rcases key i o bl hi hr with⟨_,⟨q,hq,o',h5,h6⟩|⟨k,dk,h5,h6,h7⟩⟩|⟨_,_,h3,h4⟩
  ·exact X.own bl lj ⟨q,o',h5,h6⟩
  ·exact((hE k dk h5 h6).2 bl h7).2 lj
  ·exact X.own bl lj ⟨i,o,h3,h4⟩
 ·unfold ud at hi
  split at hi
  ·cases hi
  ·split at hi
   ·cases hi
   ·split at hi
    ·cases hi
    ·exact X.live i hi
 ·obtain⟨h1,h2⟩:=X.oT g' C9
  have mb:g'≠g:=by rintro rfl;exact YX C9
  have vi:de ep (SB+g')=false:=by
   cases h:de ep (SB+g') with
   |false=>rfl
   |true=>
    exfalso
    obtain⟨q,hq,h3,h4⟩:=gd.1 h;obtain⟨t,ht,hT,_⟩:=M.bound q hq;rw[h3,uV (ze8 SB g')] at ht;cases ht;rcases hT (SB+g') (by simp[xu.ids]) with⟨o',g1,g2,_⟩|⟨_,g1⟩
    ·rw[XN,h1] at g1;cases g1;cases g2
    ·rw[XN,h1] at g1;cases g1
  refine⟨?_,λk=>(hA g' k (λh=>mb h.1) vi).trans (h2 k)⟩;unfold ud;rw[if_neg (by omega),vi]
  simp only;split
  ·rfl
  ·exact h1
end AM
namespace AM
open Go
variable {α:Type}{P:Program}{base:Nat}
def xj:(es:List jG)->hJ es->((e:jG)->Nat->e.den->Prop)->Prop
 | [],d,_=>nomatch d
 | [e],d,Q=>Q e 0 d
 |e::e'::es,d,Q=>match d with
  | .inl d=>Q e 0 d
  | .inr d=>xj (e'::es) d λe n d'=>Q e (n+1) d'
theorem yn: ∀(es:List jG) (x:hJ es) (k:(e:jG)->Nat->e.den->Option α) (r:α),HP es x k=some r->∃e n d',e∈es/\k e n d'=some r/\∀Q,xj es x Q->Q e n d'
 | [],x,_,_,_=>nomatch x
 | [e],x,k,r,h=>⟨e,0,x,zdT ..,h,λQ hQ=>hQ⟩
 |e::e'::es, .inl d,k,r,h=>⟨e,0,d,zdT ..,h,λQ hQ=>hQ⟩
 |e::e'::es, .inr d,k,r,h=>by
  obtain⟨e1,n,d',h1,h2,h3⟩:=yn (e'::es) d _ r h;exact⟨e1,n+1,d',zdS _ h1,h2,λQ hQ=>h3 (λe n d'=>Q e (n+1) d') hQ⟩
theorem ur: ∀(es:List jG) (x:hJ es) {Q Q':(e:jG)->Nat->e.den->Prop},(∀e n d,e∈es->Q e n d->Q' e n d)->xj es x Q->xj es x Q'
 | [],x,_,_,_,_=>nomatch x
 | [e],x,_,_,h,hq=>h e 0 x (zdT ..) hq
 |e::e'::es, .inl d,_,_,h,hq=>h e 0 d (zdT ..) hq
 |e::e'::es, .inr d,Q,Q',h,hq=>ur (e'::es) d (Q:=λe n d'=>Q e (n+1) d') (Q':=λe n d'=>Q' e (n+1) d') (λe n d he=>h e (n+1) d (zdS _ he)) hq
def SC (s:St)(b:kG)(e:jG)(d:e.den):Prop:= ∃ro b',b.le b'/\It s e b' ro d.2/\∀N D w base,kp N D w base s.h->
 kp (jl N b' e.heap) (Bv N D ro) w base (mY (λc=>c) e.heap d.2 (λ_=>none))/\∀y c,cp N D w (s.t y) c->cp (jl N b' e.heap) (Bv N D ro) w (zq (λc=>c) e.jX d.1 y) c
theorem rB {sp:jG}{s:St}{b:kG}{k:sp.den->Option α}{f:Option α}{r:α}(h:oX sp s b (λd _ _=>k d) f=some r)(hc:wM sp):f=some r\/∃d,k d=some r/\SC s b sp d:=by
 rcases qh h hc with h1|⟨d,ro,b',h1,h2,h3,h4⟩
 ·exact .inl h1
 ·exact .inr ⟨d,h1,ro,b',h2,h3,h4⟩
theorem zC {s:St}{b:kG}: ∀(es:List jG) (k:hJ es->Option α) (r:α),DT s b es k=some r->(∀e∈es,wM e)->∃x,k x=some r/\xj es x λe _ d'=>SC s b e d'
 | [],k,r,h,_=>by simp[DT] at h
 | [e],k,r,h,hc=>by
  unfold DT at h;rcases rB h (hc e (zdT ..)) with h1|⟨d,h1,h2⟩
  ·cases h1
  ·exact⟨d,h1,h2⟩
 |e::e'::es,k,r,h,hc=>by
  unfold DT at h;rcases rB (k:=λd=>k (.inl d)) h (hc e (zdT ..)) with h1|⟨d,h1,h2⟩
  ·obtain⟨x,h3,h4⟩:=zC (e'::es) _ r h1 λe he=>hc e (zdS _ he)
   exact⟨.inr x,h3,h4⟩
  ·exact⟨.inl d,h1,h2⟩
def VarId (pre:jG)(c:Nat):Prop:= ∃q∈pre.heap,q.1=c/\q.2.isVar=true
theorem yF {c:Nat}(uF:c<50): ∀(l:List (Nat×aG)),(∃q∈l,q.1=c/\q.2.isVar=true)->kG.get (l.filterMap λo=>match o.2 with| .var _=>(match decide (o.1<50) with|true=>some (o.1, .at_ o.1)|false=>none)|_=>none) c=some (.at_ c)
 | [],h=>by obtain⟨q,hq,_⟩:=h;simp at hq
 |(i, .row t)::l,h=>by
  have: ∃q∈l,q.1=c/\q.2.isVar=true:=by
   obtain⟨q,hq,h1,h2⟩:=h;rcases List.mem_cons.1 hq with rfl|hq
   ·simp[aG.isVar] at h2
   ·exact⟨q,hq,h1,h2⟩
  simp only[ze9];exact yF uF l this
 |(i, .store t)::l,h=>by
  have: ∃q∈l,q.1=c/\q.2.isVar=true:=by
   obtain⟨q,hq,h1,h2⟩:=h;rcases List.mem_cons.1 hq with rfl|hq
   ·simp[aG.isVar] at h2
   ·exact⟨q,hq,h1,h2⟩
  simp only[ze9];exact yF uF l this
 |(i, .var p)::l,h=>by
  by_cases e:i=c
  ·subst e
   simp only[ze9,decide_eq_true uF,kG.get];simp
  ·have: ∃q∈l,q.1=c/\q.2.isVar=true:=by
    obtain⟨q,hq,h1,h2⟩:=h;rcases List.mem_cons.1 hq with rfl|hq
    ·exact absurd h1 e
    ·exact⟨q,hq,h1,h2⟩
   have ih:=yF uF l this;simp only[ze9];cases hd:decide (i<50) with
   |true=>simp only[kG.get];rw[if_neg e];exact ih
   |false=>exact ih
theorem Az {off c:Nat}: ∀(l:List (Nat×aG)),(∃q∈l,q.1=c/\q.2.isVar=true)->(epB off l).get c=some (.at_ (off+(c-50)))
 | [],h=>by obtain⟨q,hq,_⟩:=h;simp at hq
 |(i, .row t)::l,h=>by
  have: ∃q∈l,q.1=c/\q.2.isVar=true:=by
   obtain⟨q,hq,h1,h2⟩:=h;rcases List.mem_cons.1 hq with rfl|hq
   ·simp[aG.isVar] at h2
   ·exact⟨q,hq,h1,h2⟩
  have ih:=Az (off:=off) l this;unfold epB at ih⊢;simp only[ze9];exact ih
 |(i, .store t)::l,h=>by
  have: ∃q∈l,q.1=c/\q.2.isVar=true:=by
   obtain⟨q,hq,h1,h2⟩:=h;rcases List.mem_cons.1 hq with rfl|hq
   ·simp[aG.isVar] at h2
   ·exact⟨q,hq,h1,h2⟩
  have ih:=Az (off:=off) l this;unfold epB at ih⊢;simp only[ze9];exact ih
 |(i, .var p)::l,h=>by
  unfold epB;simp only[ze9,kG.get];by_cases e:i=c
  ·rw[if_pos e,e]
  ·rw[if_neg e]
   have: ∃q∈l,q.1=c/\q.2.isVar=true:=by
    obtain⟨q,hq,h1,h2⟩:=h;rcases List.mem_cons.1 hq with rfl|hq
    ·exact absurd h1 e
    ·exact⟨q,hq,h1,h2⟩
   exact Az (off:=off) l this
structure vj (base:Nat)(pre:jG)(N:Names)(D O:Nat->Prop)(w:World)(e:jG)(Ne:Names)(De:Nat->Prop)(w':World)(d:e.den):Prop where
 nG:kp Ne De w' base (mY (λc=>c) e.heap d.2 (λ_=>none))
 ext:Iu O (zr Ne (mY (λc=>c) e.heap d.2 (λ_=>none))) D De w w'
 s7: ∀c,c<50->VarId pre c->(∃q∈e.heap,q.1=c)->Ne c=N c
 OB: ∀g,de pre.heap (SB+g)=true->de e.heap (SB+g)=true->∀k c nm,N.sub g k c=some nm->nm.row=false->Ne.sub g k c=some nm
theorem JY {N:Names}{D:Nat->Prop}{w:World}{pre:jG}{d:cS pre.heap}(S:kp N D w base (mY (λc=>c) pre.heap d (λ_=>none)))(kf: ∀e∈pre.heap,(e.2.nf=true↔SB<=e.1)){c:Nat}(h:VarId pre c): ∃nm,N c=some nm:=by
 obtain⟨q,hq,h1,hv⟩:=h;have lj: ¬SB<=c:=λh=>by
  have:=(kf q hq).2 (by omega)
  cases hq2:q.2<;>rw[hq2] at this hv<;>simp[aG.isVar,aG.nf] at this hv
 have:=qg (b:=λc=>c) (l:=pre.heap) (d:=d) (h:=λ_=>none) ⟨q,hq,h1⟩;cases e:mY (λc=>c) pre.heap d (λ_=>none) c with
 |none=>exact absurd e this
 |some o=>
  rcases nu e with⟨q',uL,h3,y,_,h4⟩|⟨_,h2⟩
  ·have vi:q'.2.nf=false:=by
    cases hh:q'.2.nf with
    |false=>rfl
    |true=>have:=(kf q' uL).1 hh;have h3:q'.1=c:=h3;omega
   have FY:o.rw=true:=by
    subst h4;obtain⟨qc,qp⟩:=q';cases qp with
    |var p=>rfl
    |row t=>rfl
    |store ep=>cases vi
   exact GU (bl:=0) (S.obj c _ e) FY
  ·cases h2
theorem yG {pre e:jG}(kf: ∀e∈pre.heap,(e.2.nf=true↔SB<=e.1)){N N':Names}{D D':Nat->Prop}{w w':World}{d:cS pre.heap}{s:St}{h':Nat->Option gi}{d':e.den}(S:kp N D w base (mY (λc=>c) pre.heap d (λ_=>none)))(S':kp N' D' w' base h')(x:Ext N D w (mY (λc=>c) pre.heap d (λ_=>none)) N' D' w' h')
  (hs:s.h=h') (t:SC s (Cb pre) e d'): ∃Ne De,vj base pre N D (zr N (mY (λc=>c) pre.heap d (λ_=>none))) w e Ne De w' d'/\∀y c,cp N' D' w' (s.t y) c->cp Ne De w' (zq (λc=>c) e.jX d'.1 y) c:=by
 obtain⟨ro,b',hle,M,ht⟩:=t;obtain⟨h1,h2⟩:=ht N' D' w' base (by rw[hs];exact S')
 refine⟨_,_,⟨h1,⟨λb hb=> .inl (x.frozen b hb),x.os,x.tape,x.output,x.size,x.s7,?_,?_⟩,?_,?_⟩,h2⟩
 ·intro bl lj ho
  obtain⟨i,hi,o,g1,g2⟩:=M.canon ho;rw[hs] at g1;exact x.own bl lj ⟨i,o,g1,g2⟩
 ·rintro bl (hb|⟨i,zaX,nm,a,g1,g2,g3⟩)
  ·exact x.JG bl hb
  ·rcases M.cases (by rw[hs];exact S') zaX g1 g2 with h4|⟨o',h4,h5⟩
   ·exact x.JG bl (g3▸h4)
   ·rw[hs] at h4
    rcases zd5 bl w'.heap.size with lj|rZ
    ·rcases zd5 bl w.heap.size with lj|rZ
     ·exact .inr (.inl (x.own bl lj ⟨i,_,h4,g3▸h5⟩))
     ·exact .inr (.inr rZ)
    ·exact .inr (.inr (zd3 x.size rZ))
 ·intro c uF hc he
  have hk:(Cb pre).get c=some (.at_ c):=yF uF pre.heap hc;rw[(qN (N:=N') (b:=b') (by unfold SB;omega) (λe he=>(M.st e he).1) he).at_ (hle _ _ hk)]
  obtain⟨nm,VB⟩:=JY S kf hc;rw[VB,x.names c nm VB]
 ·intro g _ hg k c nm h3 h4
  rw[vV hg];exact x.names.sub g k c nm h3 h4
def ak.ok (sp:ak):Bool:=sp.pre.closed&&sp.jf.all λe=>Vz sp.pre e&& (!sp.z5||e.flat)
theorem ak.yo {sp:ak}(h:sp.ok=true):wM sp.pre:=by
 simp only[ak.ok,zdO] at h;exact uW h.1
theorem ak.G1 {sp:ak}(h:sp.ok=true){e:jG}(he:e∈sp.jf):P7 sp.pre e/\(sp.z5=true->e.flat=true):=by
 simp only[ak.ok,zdO,zep] at h;have:=h.2 e he;refine⟨GW this.1,λhl=>?_⟩;have h2:=this.2;rw[hl] at h2;simpa using h2
theorem VC {pre e:jG}{s:St}{b:kG}{ro:List Nat}{d:cS pre.heap}(h:P7 pre e)(M:It s pre b ro d)(fresh:Nat){q:Nat×aG}(hq:q∈e.heap)(uF:q.1<50):back b fresh q.1∈iZ pre.heap b:=by
 obtain⟨q',uL,h1,h2⟩:=h.var q hq uF;obtain⟨g,hg,_,h3⟩:=M.bound q' uL;obtain⟨i,rfl⟩:=h3 h2;have lj: ¬SB<=q.1:=by unfold SB;omega
 rw[h1] at hg;have qU:b.get q.1=some (.at_ i):=by rw[<-Dz lj];exact hg
 have hb:back b fresh q.1=i:=by rw[Ox uF];simp[qU]
 rw[hb];exact Bw.2 ⟨q',uL,by unfold El;rw[h1,hg];simp[xu.ids]⟩
theorem JZ {N:Names}{b:kG}{pre e:jG}{Ne:Names}(h: ∀g,de pre.heap (SB+g)=true->de e.heap (SB+g)=true->∀k c nm,(jl N b pre.heap).sub g k c=some nm->nm.row=false->Ne.sub g k c=some nm):
  ∀g,de e.heap (SB+g)=true->∀k c nm,(jl N b pre.heap).sub g k c=some nm->nm.row=false->Ne.sub g k c=some nm:=by
 intro g hg k c nm hn hr;cases hp:de pre.heap (SB+g) with
 |true=>exact h g hp hg k c nm hn hr
 |false=>rw[zB hp] at hn;cases hn
structure Qc (N N':Names)(D D':Nat->Prop)(w:World)(u u':AV):Prop where
 sh:u'.sh=u.sh
 rel: ∀g,an N D w u g->an N' D' w u' g
theorem Qc.val {N N':Names}{D D':Nat->Prop}{w:World}{u u':AV}(h:Qc N N' D D' w u u'){v:Value}(hv:cp N D w u v):cp N' D' w u' v:=Dy h.sh hv h.rel
theorem Et {N N':Names}{D D':Nat->Prop}{w:World}{bk:Nat->Nat}{y:Nat}: ∀{l:List (Nat×cg)} {d:xf l},(∀o∈l,∀x:o.2.den,Qc N N' D D' w (o.2.mk (λc=>c) x) (o.2.mk bk x))->Qc N N' D D' w (zq (λc=>c) l d y) (zq bk l d y)
 | [],_,_=>⟨rfl,λg h=>h⟩
 |o::os,d,h=>by
  simp only[zq];by_cases e:y=o.1
  ·rw[if_pos e,if_pos e];exact h o (zdT ..) d.1
  ·rw[if_neg e,if_neg e];exact Et λo' na=>h o' (zdS _ na)
theorem G2 {N N':Names}{D D':Nat->Prop}{w:World}{β:Type}{f f':β->AV}: ∀{l:List β} {cs:List Value},(∀o∈l,Qc N N' D D' w (f o) (f' o))->bB N D w (l.map f) cs->bB N' D' w (l.map f') cs
 | [],cs,_,h=>by simpa only[List.map_nil,bB] using h
 |o::os,cs,h,hr=>by
  simp only[zeD,bB] at hr⊢;obtain⟨c,tS,rfl,h1,h2⟩:=hr;exact⟨c,tS,rfl,(h o (zdT ..)).val h1,G2 (λo ho=>h o (zdS _ ho)) h2⟩
theorem SD {N N':Names}{D D':Nat->Prop}{w:World}{β:Type}{f f':β->AV}: ∀{l:List β} {v:Value},(∀o∈l,Qc N N' D D' w (f o) (f' o))->cp N D w (rb (l.map f)) v->cp N' D' w (rb (l.map f')) v
 | [],v,_,h=>by
  simp only[List.map_nil,rb] at h⊢;obtain⟨cs,h1,h2⟩:=lT.1 h;exact lT.2 ⟨cs,h1,by simpa only[bB] using h2⟩
 | [o],v,h,hv=>(h o (zdT ..)).val hv
 |o::o'::os,v,h,hv=>by
  simp only[zeD,rb] at hv⊢;obtain⟨cs,h1,h2⟩:=lT.1 hv;exact lT.2 ⟨cs,h1,G2 (l:=o::o'::os) h h2⟩
def rM (P:Program)(base:Nat)(f:FuncId)(sp:ak)(F:sp.pre.den->Option (hJ sp.jf)):Prop:=
 (∃fn,P.funcs[f]?=some fn/\fn.body.isNone=false/\(fn.name== "runtime.NumGoroutine")=false)/\
 ∀d r,F d=some r->∀N D w (lG:List Value),kp N D w base (mY (λc=>c) sp.pre.heap d.2 (λ_=>none))->lG.length=sp.pre.jX.length->(∀y,cp N D w (zq (λc=>c) sp.pre.jX d.1 y) (lG.getD y Go.undef))->
  Calls P f lG.toArray w λe w'=>match e with
   | .returned v=>xj sp.jf r λe _ d'=> ∃Ne De,vj base sp.pre N D (zr N (mY (λc=>c) sp.pre.heap d.2 (λ_=>none))) w e Ne De w' d'/\cp Ne De w' (rb (e.jX.map λo=>zq (λc=>c) e.jX d'.1 o.1)) v
   |_=>False
theorem rC {N:Names}{D:Nat->Prop}{w:World}: ∀{l:List AV} {cs:List Value},bB N D w l cs->cs.length=l.length
 | [],cs,h=>by simp only[bB] at h;simp[h]
 |x::xs,cs,h=>by
  simp only[bB] at h;obtain⟨c,tS,rfl,_,h2⟩:=h;simp[rC h2]
structure Shaped (st:St)(e:jG)(ids:List Nat)(av:AV)(fy:St):Prop where
 res: ∃(bk:Nat->Nat) (d:xf e.jX),av=rb (e.jX.map λo=>zq bk e.jX d o.1)
 heap: ∀i o,fy.h i=some o->(∃q∈e.heap.zip ids,q.2=i/\∃(bk:Nat->Nat) (y:q.1.2.den),o=q.1.2.mk bk y)\/o= .dead\/∃o0,st.h i=some o0/\(o=o0\/∃r t xs,o0= .row r t xs/\o= .row true t xs)
theorem zip_map {β:Type}{f:β->Nat}: ∀{l:List β} {q:β},q∈l->(q,f q)∈l.zip (l.map f)
 | [],_,h=>by simp at h
 |x::xs,q,h=>by
  rcases List.mem_cons.1 h with rfl|h
  ·simp
  ·simp only[zeD,List.zip_cons_cons,zeq]
   exact .inr (zip_map h)
theorem yp {sp:ak}{F:sp.pre.den->Option (hJ sp.jf)}{f:FuncId}{args:List AV}{st:St}{W:List Nat}{fresh:Nat}{k:jG->List Nat->AV->St->Option α}{fail:Option α}{r:α}(h:DU sp F args st W fresh k fail=some r)(mj:sp.ok=true)(hF:rM P base f sp F)(xv:fresh%100=0):
  fail=some r\/∃e ids av fy,k e ids av fy=some r/\yg P base W f args st fresh av fy/\Shaped st e ids av fy:=by
 unfold DU at h;split at h
 ·cases h
 ·rename_i hlen
  simp only[zdU] at hlen;rcases qh h (ak.yo mj) with h1|⟨d,ro,b,h1,_,M,ht⟩
  ·exact .inl h1
  right
  split at h1
  ·cases h1
  ·rename_i x hx
   split at h1
   ·cases h1
   ·rename_i YR
    obtain⟨e,n,d',he,h2,h3⟩:=yn _ _ _ _ h1;split at h2
    ·cases h2
    ·rename_i im
     rw[zdO] at im;obtain⟨im,kf⟩:=im;obtain⟨hex,lj⟩:=ak.G1 mj he;rw[zep] at YR;refine⟨e,_,_,_,h2,⟨hF.1,rfl,rfl,rfl,λid oT hdiv=>?_,λN D w S lG nH=>?_⟩,⟨back b fresh,d'.1,rfl⟩,λi o hi=>?_⟩
     ·have Lo:id∉iZ sp.pre.heap b:=λh'=>oT (by have:=YR id (List.mem_append.2 (.inl h'));simpa using this)
      have zaY:sp.z5=true\/id∉ro:=by
       cases hl:sp.z5 with
       |true=>exact .inl rfl
       |false=>exact .inr λh'=>oT (by have:=YR id (List.mem_append.2 (.inr (by rw[hl];exact h')));simpa using this)
      show mY (back b fresh) e.heap d'.2 (uc sp.z5 st.h sp.pre b ro) id=st.h id
      rw[uX]
      ·unfold uc
       cases hl:sp.z5 with
       |true=>simp only[ml,if_neg Lo]
       |false=>
        rw[hl] at zaY;have:id∉ro:=by simpa using zaY
        simp only[rA,ml,if_neg Lo,if_neg this]
      ·intro q hq e'
       rcases zd5 q.1 50 with uF|uF
       ·exact Lo (e'▸VC hex M fresh hq uF)
       ·unfold oY at im
        rw[zep] at im;have:=im q hq;have hn: ¬q.1<50:=by omega
        by_cases rZ:SB<=q.1
        ·rw[qx rZ] at e'
         rw[zep] at kf;have:=kf q hq;simp only[decide_eq_true rZ,zdJ,ze6] at this;exact oT (by rw[<-e'];simpa using this)
        ·simp only[hn,rZ,decide_false,ze6,zdO,zdU] at this
         rw[Ep hn rZ] at e';omega
     ·obtain⟨S1,T1⟩:=ht N D w base S
      have hl:=rC nH;refine(hF.2 d x hx _ _ w lG S1 (by omega) λy=>T1 y _ ?_).mono λen w' Qd=>?_
      ·show cp N D w ((args[y]?).getD .undef) (lG.getD y Go.undef)
       cases ha:args[y]? with
       |none=>simp only[Option.getD_none];exact py
       |some u=>
        obtain⟨c,hc,hv⟩:=sG _ _ _ _ nH ha;rw[zdW,hc];exact hv
      ·cases en with
       |panicked c=>exact Qd.elim
       |outgrown=>exact Qd.elim
       |returned v=>
        obtain⟨Ne,De,post,hv⟩:=h3 _ Qd;obtain⟨N',D',S',X',tr,_⟩:=Bx (s:={t:=λi=>(args[i]?).getD .undef,h:=st.h,ep:=0,nt:=0}) rfl S M hex im lj (λbl hb=>M.canon hb) post.nG post.ext (λq hq uF=>post.s7 q.1 uF (hex.var q hq uF) ⟨q,hq,rfl⟩) (JZ post.OB);refine⟨N',D',X',S',SD (λo ho=>Et λo' na y=>⟨En _ _ _ _,λg hg=>?_⟩) hv⟩;refine tr o'.2 y g (λc hc=>hex.closed.cs c (.inl (List.mem_flatMap.2 ⟨o',na,hc⟩))) (λg hg=>hex.closed.ks g (.inl (List.mem_flatMap.2 ⟨o',na,hg⟩))) (λe'=>?_) hg;have:=lj e';simp only[jG.flat,zdO,zep] at this;exact this.1 o' na
     ·rcases nu hi with⟨q,hq,h4,y,_,h5⟩|⟨_,h4⟩
      ·exact .inl ⟨(q,back b fresh q.1),zip_map (f:=λo:Nat×aG=>back b fresh o.1) hq,h4,_,y,h5⟩
      ·by_cases hd:o= .dead
       ·exact .inr (.inl hd)
       obtain⟨_,⟨h6,_⟩|⟨_,_,r,t,xs,h6,h7⟩⟩:=Aw M rfl h4 hd
       ·exact .inr (.inr ⟨o,h6, .inl rfl⟩)
       ·exact .inr (.inr ⟨_,h6, .inr ⟨r,t,xs,rfl,h7⟩⟩)
end AM
namespace AM
open Go
variable {α:Type}{P:Program}{base:Nat}
theorem Cy: ∀{args:List AV} {ps:List (Nat×cg)} {j0 j g n c:Nat},xN args ps j0=some (j,g,n,c)->j0<=j/\args[j-j0]?=some (.rf g n c)
 | [],ps,j0,j,g,n,c,h=>by cases ps<;>simp[xN] at h
 |v::vs,[],j0,j,g,n,c,h=>by cases v<;>simp[xN] at h
 |v::vs,(q,p)::ps,j0,j,g,n,c,h=>by
  have tail:xN vs ps (j0+1)=some (j,g,n,c)->j0<=j/\(v::vs)[j-j0]?=some (.rf g n c):=by
   intro h1;obtain⟨h2,h3⟩:=Cy h1;refine⟨by omega,?_⟩
   rw[show j-j0=(j-(j0+1))+1 by omega]
   simpa using h3
  cases v<;>cases p<;>simp only[xN] at h<;>first
   |exact tail h
   |(simp only[zdM,Prod.mk.injEq] at h;obtain⟨rfl,rfl,rfl,rfl⟩:=h;exact⟨zd2 _,by simp⟩)
theorem Cz {N:Names}{D:Nat->Prop}{w:World}: ∀{vs:List AV} {cs:List Value} {i:Nat} {u:AV} {c:Value},bB N D w vs cs->cs[i]?=some c->cp N D w u c->bB N D w (vs.set i u) cs
 | [],cs,i,u,c,h,_,_=>by simpa using h
 |v::vs,cs,0,u,c,h,hc,hu=>by
  simp only[bB,List.set_cons_zero] at h⊢;obtain⟨c',tS,rfl,h1,h2⟩:=h;simp at hc;subst hc;exact⟨_,_,rfl,hu,h2⟩
 |v::vs,cs,i+1,u,c,h,hc,hu=>by
  simp only[bB,List.set_cons_succ] at h⊢;obtain⟨c',tS,rfl,h1,h2⟩:=h;exact⟨_,_,rfl,h1,Cz h2 (by simpa using hc) hu⟩
theorem SE (t:Ty)(x:t.den)(us:List AV):enc t x≠ .A8 us:=by
 cases t<;>simp only[enc]<;>try (intro h;cases h;done)
 split<;>(intro h;cases h)
theorem SF (bk:Nat->Nat)(p:cg)(x:p.den)(us:List AV):p.mk bk x≠ .A8 us:=by
 cases p<;>simp only[cg.mk]<;>first|exact SE _ _ _|(intro h;cases h)
theorem Eu (bk:Nat->Nat)(y:Nat)(us:List AV): ∀(l:List (Nat×cg)) (d:xf l),zq bk l d y≠ .A8 us
 | [],_=>by simp only[zq];intro h;cases h
 |o::os,d=>by
  simp only[zq];split
  ·exact SF _ _ _ _
  ·exact Eu bk y us os d.2
theorem Qe (f:AV->AV){vs:List AV}(h: ∀v∈vs,∀us,v≠ .A8 us):Xt f (rb vs)=rb (vs.map f):=by
 match vs,h with
 | [],_=>rfl
 | [v],h=>
  have:=h v (by simp)
  simp only[rb,zeD,List.map_nil];cases v<;>first|rfl|exact absurd rfl (this _)
 |a::b::l,_=>rfl
theorem SG {vs:List AV}(h: ∀v∈vs,∀us,v≠ .A8 us):Yu (rb vs)=vs:=by
 match vs,h with
 | [],_=>rfl
 | [v],h=>
  have:=h v (by simp)
  simp only[rb];cases v<;>first|rfl|exact absurd rfl (this _)
 |a::b::l,_=>rfl
theorem J0 {N N':Names}{D D':Nat->Prop}{w:World}: ∀{vs us:List AV} {v:Value},vs.length=us.length->(∀(i:Nat) a b,vs[i]?=some a->us[i]?=some b->∀c,cp N D w a c->cp N' D' w b c)->cp N D w (rb vs) v->cp N' D' w (rb us) v:=by
 intro vs us v hl h hv;have each: ∀(vs us:List AV) (cs:List Value),vs.length=us.length->(∀(i:Nat) a b,vs[i]?=some a->us[i]?=some b->∀c,cp N D w a c->cp N' D' w b c)->bB N D w vs cs->bB N' D' w us cs:=by
  intro vs;induction vs with
  |nil=>
   intro us cs hl _ hr;cases us with
   |nil=>simpa only[bB] using hr
   |cons _ _=>simp at hl
  |cons a vs ih=>
   intro us cs hl h hr;cases us with
   |nil=>simp at hl
   |cons b us=>
    simp only[bB] at hr⊢;obtain⟨c,tS,rfl,h1,h2⟩:=hr;exact⟨c,tS,rfl,h 0 a b rfl rfl c h1,ih us tS (by simpa using hl) (λi a b ha hb=>h (i+1) a b (by simpa using ha) (by simpa using hb)) h2⟩
 match vs,us,hl with
 | [],[],_=>
  simp only[rb] at hv⊢;obtain⟨cs,h1,h2⟩:=lT.1 hv;exact lT.2 ⟨cs,h1,each [] [] _ rfl (by simp) h2⟩
 | [a],[b],_=>exact h 0 a b rfl rfl v hv
 |a::a'::vs,b::b'::us,hl=>
  simp only[rb] at hv⊢;obtain⟨cs,h1,h2⟩:=lT.1 hv;exact lT.2 ⟨cs,h1,each _ _ _ hl h h2⟩
 | [],_::_,h=>simp at h
 |_::_,[],h=>simp at h
 | [_],_::_::_,h=>simp at h
 |_::_::_,[_],h=>simp at h
theorem Iy {N' N2:Names}{D:Nat->Prop}{w:World}{ks:List Nat}{bk:Nat->Nat}(kf: ∀i nm,N' i=some nm->N2 i=some nm)(jD: ∀g,g∉ks->∀k c nm,N'.sub g k c=some nm->nm.row=false->N2.sub g k c=some nm){y:Nat}: ∀(l:List (Nat×cg)) (d:xf l),(∀o∈l,Xs ks o.2.ks=true)->∀c,cp N' D w (zq bk l d y) c->cp N2 D w (zq bk l d y) c
 | [],_,_,c,_=>by simp only[zq];exact py
 |o::os,d,h,c,hv=>by
  simp only[zq] at hv⊢;split
  ·rename_i e
   rw[if_pos e] at hv;exact xP (λg hg=>mk_le kf o.2 d.1 (Ix (h o (zdT ..)) jD) g hg) hv
  ·rename_i e
   rw[if_neg e] at hv;exact Iy kf jD os d.2 (λo ho=>h o (zdS _ ho)) c hv
theorem zD {ep:List (Nat×aG)}{c:Nat}(h:GD ep c=true): ∃q∈ep,q.1=c/\q.2.isVar=true:=by
 unfold GD at h;rw[List.any_eq_true] at h;obtain⟨q,hq,h⟩:=h;rw[zdO] at h;refine⟨q,hq,by simpa using h.1,?_⟩
 have h2:=h.2;unfold aG.isVar;exact h2
theorem vY {p:aG}(h:p.isVar=true):p.nf=false:=by cases p<;>simp[aG.isVar] at h;rfl
theorem Mp.By {ep:List (Nat×aG)}(uE:Mp ep){q:Nat×aG}(hq:q∈ep)(h:q.2.nf=false):50<=q.1/\q.1<SB:=by
 have:=uE.ids q hq h;exact⟨this.1,by unfold SB;omega⟩
theorem J1 {off c:Nat}(h:50<=c)(h':c<SB):back [] off c=off+(c-50):=Ep (by omega) (by omega)
theorem J2 {st xi:St}{e:jG}{ids:List Nat}{av:AV}(yS:Shaped st e ids av xi){ep:List (Nat×aG)}{rw:List Nat}(AA:Bf e ids rw (xM ep)=true){i:Nat}{o:gi}(hi:xi.h i=some o)(FY:i∉rw):
  o= .dead\/(∃(p:aG) (bk:Nat->Nat) (y:p.den),o=p.mk bk y/\p.nf=false/\Xs (xM ep) p.ks=true)\/∃o0,st.h i=some o0/\(o=o0\/∃r t xs,o0= .row r t xs/\o= .row true t xs):=by
 rcases yS.heap i o hi with⟨q,hq,h1,bk,y,rfl⟩|h1|h1
 ·right;left
  unfold Bf at AA;rw[zdO,zep,zep] at AA;have:=AA.2 q hq;rw[zeR,zdO] at this;rcases this with h2|⟨h2,h3⟩
  ·rw[h1] at h2
   exact absurd (by simpa using h2) FY
  ·refine⟨q.1.2,bk,y,rfl,?_,h2⟩
   cases hp:q.1.2 with
   |var p=>rfl
   |row t=>rfl
   |store F5=>rw[hp] at h3;cases h3
 ·exact .inl h1
 ·exact .inr (.inr h1)
theorem Ex {e:jG}{ids rw ks:List Nat}(h:Bf e ids rw ks=true): ∀o∈e.jX,Xs ks o.2.ks=true:=by
 unfold Bf at h;rw[zdO,zep] at h;exact h.1
theorem J3 {W:List Nat}{fresh:Nat}{l:List Nat}(h:inW W fresh l=true){i:Nat}(hi:i∈l):i∈W\/i/100=fresh/100:=by
 unfold inW at h;rw[zep] at h;simpa using h i hi
theorem SH {N' N2:Names}{D':Nat->Prop}{w':World}{g n off:Nat}{ep:List (Nat×aG)}{b:kG}(uE:Mp ep)(kf: ∀i,N2 i=N' i)(hn:N2.sub g n=jl N' b ep)(hle:kG.le (epB off ep) b)(mO: ∀i,(∃q∈ep,q.2.isVar=true/\i=off+(q.1-50))->∀nm,N' i=some nm->nm.row=false){u:AV}{v:Value}(hu:cp N' D' w' u v)(hu2:cp N2 D' w' u v):cp N2 D' w' (LI g (n+1) off ep u) v:=by
 unfold LI;split
 ·rename_i i
  split
  ·rename_i hc
   rw[zdO] at hc;obtain⟨q,hq,h1,h2⟩:=zD hc.2;have lj:=uE.By hq (vY h2);have nJ:off<=i:=by simpa using hc.1
   have hi:i=off+(q.1-50):=by omega
   obtain⟨nm,a,o,e1,e2,e3,e4⟩:=jC.1 hu;have hr:=mO i ⟨q,hq,h2,hi⟩ nm e1;have ho:o=0:=by
    have:nm.off []=some 0:=by simp[Nm.off,hr,fX]
    rw[this] at e3;cases e3;rfl
   subst ho;have VD:jl N' b ep (i-off+50)=some nm:=by
    rw[<-h1,(qN (N:=N') (b:=b) lj.2 (λe he=>(uE.closed.st e he).1) ⟨q,hq,rfl⟩).at_ (hle _ _ (Az ep ⟨q,hq,rfl,h2⟩)),<-hi];exact e1
   unfold cp;simp only[AV.isAgg,jJ,an,xO];exact⟨nm,a,by rw[hn];exact VD,hr,e2,by rw[e4]⟩
  ·exact hu2
 ·exact hu2
theorem Ey {M:Names}{D:Nat->Prop}{w:World}: ∀{l:List (Nat×aG)} {d:cS l},kX D w base M l d->∀{q:Nat×aG},q∈l->q.2.isVar=true->∃v,tw M D w base q.1 v
 | [],_,_,q,hq,_=>by simp at hq
 |(c,p)::os,d,h,q,hq,hv=>by
  simp only[kX] at h;rcases List.mem_cons.1 hq with rfl|hq
  ·cases p with
   |var p=>have h1:=h.1;simp only[jr] at h1;exact⟨_,h1⟩
   |row t=>cases hv
   |store e=>cases hv
  ·exact Ey h.2.1 hq hv
theorem J4 {M:Names}{D:Nat->Prop}{w:World}: ∀{l:List (Nat×aG)} {d:cS l},kX D w base M l d->∀{c:Nat} {t:Ty},(c,aG.row t)∈l->AM.nodup (l.map (·.1))=true->∃nm,M c=some nm/\nm.row=true/\True
 | [],_,_,q,_,hq,_=>by simp at hq
 |(c,p)::os,d,h,c',t,hq,hn=>by
  simp only[kX] at h;simp only[zeD,AM.nodup,zdO] at hn;rcases List.mem_cons.1 hq with e|hq
  ·cases e
   have h1:=h.1;simp only[jr] at h1;obtain⟨nm,e1,e2,_⟩:=h1;exact⟨nm,e1,e2,trivial⟩
  ·exact J4 h.2.1 hq hn.2
theorem VE {ep:List (Nat×aG)}{xs:List (cS ep)}{n k:Nat}{d:cS ep}(h:k≠n):ko (β:=cS ep) (JE xs n d) k=ko (β:=cS ep) xs k:=zek (Ne.symm h)
theorem VF {ep:List (Nat×aG)}{xs:List (cS ep)}{n:Nat}{d:cS ep}(h:n<xs.length):ko (β:=cS ep) (JE xs n d) n=some d:=by simp[JE,ko,h]
theorem SJ {ep:List (Nat×aG)}{xs:List (cS ep)}{n:Nat}{d:cS ep}:aM (β:=cS ep) (JE xs n d)=aM (β:=cS ep) xs:=by simp[JE,aM]
theorem Mr {sp:ak}{F:sp.pre.den->Option (hJ sp.jf)}{f:FuncId}{args:List AV}{st:St}{W:List Nat}{fresh:Nat}{k:AV->St->Option α}{fail:Option α}{r:α}(mj:sp.ok=true)(hF:rM P base f sp F)(xv:fresh%100=0){j g n c:Nat}{ep:List (Nat×aG)}{xs:List (cS ep)}{d:cS ep}
  (SK:args[j]?=some (.rf g (n+1) c)) (hs:st.h (SB+g)=some (.store ep xs)) (hd:ko (β:=cS ep) xs n=some d) (uE:Pz ep=true) (hf:oY st.h (fresh+60) [] ep=true) (hWg:W.contains (SB+g)=true) (hWe:ep.all (λo=>W.contains (back [] (fresh+60) o.1))=true) (hc:GD ep c=true)
  (h:DU sp F (args.set j (.ptr (back [] (fresh+60) c) [])) (ue st g (fresh+60) ep d) W fresh (λe ids av fy=>Yv W fresh g n (fresh+60) ep xs e ids av fy k) fail=some r):
  fail=some r\/∃av fy,k av fy=some r/\yg P base W f args st fresh av fy:=by
 rcases yp h mj hF xv with h1|⟨e,ids,av,xi,h1,rN,yS⟩
 ·exact .inl h1
 right
 have uE:=GZ uE;unfold Yv at h1;rcases qh h1 uE.closed with h2|⟨dd,ro,b,h2,hle,M,YZ⟩
 ·cases h2
 split at h2
 ·cases h2
 rename_i J5;simp only[zdO,ze5,zeV,decide_eq_false_iff_not,zeh] at J5;obtain⟨⟨⟨⟨Ol,AA⟩,Qa⟩,XP⟩,Y0⟩:=J5;subst Ol;rw[zep] at hWe XP;have Jr: ∀q∈ep,SB<=q.1->iS (st.h q.1)=true:=by
  intro q hq rZ;unfold oY at hf;rw[zep] at hf;have:=hf q hq;rw[decide_eq_false (JV rZ),decide_eq_true rZ] at this;simpa using this
 have hfn: ∀q∈ep,q.1<SB->50<=q.1->st.h (fresh+60+(q.1-50))=none:=by
  intro q hq lj uF;unfold oY at hf;rw[zep] at hf;have:=hf q hq;rw[decide_eq_false (show¬q.1<50 by omega),decide_eq_false (show¬SB<=q.1 by omega)] at this
  simp only[ze6,zdO,Option.isNone_iff_eq_none] at this;exact this.2
 have Qf:de ep (SB+g)=false:=by
  cases h:de ep (SB+g) with
  |false=>rfl
  |true=>
   obtain⟨q,hq,h1,_⟩:=gd.1 h;have:=Jr q hq (by omega)
   rw[h1,hs] at this;cases this
 have VG: ∀q∈ep,back [] (fresh+60) q.1≠SB+g:=by
  intro q hq hb;cases kf:q.2.nf with
  |true=>
   have rZ:=(uE.closed.st q hq).1 kf;rw[qx rZ] at hb;rw[gd.2 ⟨q,hq,hb,kf⟩] at Qf;cases Qf
  |false=>
   obtain⟨g1,g2⟩:=uE.By hq kf;rw[J1 g1 g2] at hb;have:=hfn q hq g2 g1;rw[hb,hs] at this;cases this
 have N9:(ue st g (fresh+60) ep d).h (SB+g)=some .dead:=by
  show mY (back [] (fresh+60)) ep d (sr st.h [SB+g]) (SB+g)=_
  rw[uX VG,ml];simp
 refine⟨_,_,h2,rN.1,rN.2.1,rN.2.2.1,rN.2.2.2.1,λid oT hdiv=>?_,λN D w S lG nH=>?_⟩
 ·have vi:de ep id=false:=by
   cases h:de ep id with
   |false=>rfl
   |true=>
    obtain⟨q,hq,h1,h2⟩:=gd.1 h;have:=hWe q hq;rw[qx ((uE.closed.st q hq).1 h2),h1] at this;exact absurd (by simpa using this) oT
  have hng:id≠SB+g:=by
   rintro rfl
   exact oT (by simpa using hWg)
  have Lo:(iZ ep b).contains id=false:=by
   cases h:(iZ ep b).contains id with
   |false=>rfl
   |true=>
    rcases J3 Y0 (show id∈iZ ep b by simpa using h) with h1|h1
    ·exact absurd h1 oT
    ·exact absurd h1 hdiv
  show ud xi.h ep (iZ ep b) g _ id=st.h id
  unfold ud;rw[if_neg hng,vi,Lo];simp only[zdN,if_false];rw[rN.2.2.2.2.1 id oT hdiv];show mY (back [] (fresh+60)) ep d (sr st.h [SB+g]) id=st.h id
  rw[uX (λq hq e=>oT (by have:=hWe q hq;rw[e] at this;simpa using this)),ml]
  simp[hng]
 ·obtain⟨N1,D1,S1,X1,r4,r5,r7,r6⟩:=Mq S hs hd uE hf
  obtain⟨cv,hcj,hvj⟩:=sG _ _ _ _ nH SK;unfold cp at hvj;simp only[AV.isAgg,jJ,an,xO] at hvj;obtain⟨nm,a,e1,e2,e3,e4⟩:=hvj;simp only[zdM] at e4;obtain⟨qc,hqc,zcM,zcN⟩:=zD hc;have zdw:=uE.By hqc (vY zcN);have hargs1:bB N1 D1 w (args.set j (.ptr (back [] (fresh+60) c) [])) lG:=
   Cz (pL X1.names X1.frozen (X1.JH S) _ _ nH) hcj (jC.2 ⟨nm,a,0,r4 c ⟨by omega,qc,hqc,zcM⟩ nm e1,e3,by simp[Nm.off,e2,fX],e4⟩)
  refine(rN.2.2.2.2.2 N1 D1 w S1 lG hargs1).mono λen w' Qd=>?_;cases en with
  |panicked c=>exact Qd.elim
  |outgrown=>exact Qd.elim
  |returned v=>
   obtain⟨N',D',X2,S',hv⟩:=Qd;have X:=X1.trans X2;obtain⟨Sc,_⟩:=YZ N' D' w' base S';rw[Ax] at Sc;have VH: ∀k,N'.sub g k=N.sub g k:=λk=>((X2.oT g N9).2 k).trans (r5 g Qf k);have nq:jr D w base N (SB+g) (.store ep) xs:=S.obj _ _ hs;simp only[jr,wP] at nq;have SL:=ym (l:=ep) (d:=dd.2) uE.nodup (λc nm hc=>by obtain⟨e,he,h1,h2⟩:=tV hc;exact⟨e,he,h1,yl h2⟩) Sc
   have hxn:n<xs.length:=(List.getElem?_eq_some_iff.1 hd).1;have hzk: ∀k dk,k≠n->ko (β:=cS ep) (JE xs n dd.2) k=some dk->ko (β:=cS ep) xs k=some dk:=λk dk hk h=>(VE hk).symm.trans h;have SM: ∀k dk,k≠n->ko (β:=cS ep) xs k=some dk->∀bl,pM (N.sub g k) ep dk bl->¬zr N1 (ue st g (fresh+60) ep d).h bl/\zr N st.h bl/\GG D w base bl:=by
    intro k dk hk hx bl ho;have hO:jd N (SB+g) (.store ep xs) bl:=by
     show pZ N (SB+g) (.store ep) xs bl
     simp only[pZ,wP];exact⟨k,dk,hx,ho⟩
    refine⟨?_,⟨SB+g,_,hs,hO⟩,S.px hs hO⟩;rintro⟨i,oi,h1,h2⟩
    rcases r6 i oi bl h1 h2 with h3|⟨h3,h4,h5⟩
    ·exact hk (nq.2.2.2 k n dk d bl hx hd ho h3)
    ·exact h5 (S.apart i (SB+g) oi _ bl h3 hs h4 hO)
   have XQ: ∀q∈ep,q.2.isVar=true->jl N' b ep q.1=N' (fresh+60+(q.1-50)):=λq hq hv=>
    (qN (N:=N') (b:=b) (uE.By hq (vY hv)).2 (λe he=>(uE.closed.st e he).1) ⟨q,hq,rfl⟩).at_ (hle _ _ (Az ep ⟨q,hq,rfl,hv⟩))
   obtain⟨N2,t1,t2,t3,t4,t5⟩:=Es S X S' uE (s':=xi) rfl M Sc (g:=g) (n:=n) (zs:=JE xs n dd.2) (VF hxn) Qf
    (λk dk hk hz=>by
     have hx:=hzk k dk hk hz;rw[VH];obtain⟨p1,p2⟩:=nq.2.1 k dk hx;refine⟨⟨kX.congr X.frozen (X.JH S) p1 λbl ho=>?_,p2⟩,λbl ho=>⟨λj' o hj na tH=>?_,λ_=>(SM k dk hk hx bl ho).2.1⟩⟩
     ·obtain⟨q1,_,q3⟩:=SM k dk hk hx bl ho
      refine⟨X2.s7 bl q3.2.2 q1,λhnd LN=>?_⟩;rcases X2.JG bl LN with h3|h3|h3
      ·exact hnd (r7 bl h3)
      ·exact q1 h3
      ·have:=q3.2.2;omega
     ·obtain⟨q1,_,q3⟩:=SM k dk hk hx bl ho
      exact q1 (X2.own bl q3.2.2 ⟨j',o,na,tH⟩))
    (λk k' dk U0 bl hk tC hz UX ho na=>by
     rw[VH] at ho na;exact nq.2.2.2 k k' dk U0 bl (hzk k dk hk hz) (hzk k' U0 tC UX) ho na)
    (λk hk=>by
     rw[VH];exact nq.2.2.1 k (SJ▸hk))
    (λl hl k=>by
     obtain⟨q,hq,h3,_⟩:=gd.1 hl;refine S.iS l ?_ k;rw[<-h3];exact Jr q hq (by omega))
    (λc nm hc hr=>by
     rw[VH] at hc;obtain⟨q,hq,h3,h4⟩:=(nq.2.1 n d hd).2.1 c nm hc;have hv:q.2.isVar=true:=by
      obtain⟨q1,qp⟩:=q;cases qp with
      |var p=>rfl
      |store e=>cases h4
      |row t=>
       exfalso
       have:=J4 (nq.2.1 n d hd).1 hq uE.nodup;obtain⟨mN,f1,f2,_⟩:=this;have h3:q1=c:=h3;rw[h3,hc] at f1;cases f1;rw[hr] at f2;cases f2
     rw[<-h3,XQ q hq hv];have lj:=uE.By hq (vY hv);have:=X2.names _ _ (r4 c ⟨by omega,q,hq,h3⟩ nm hc)
     rw[<-h3,J1 lj.1 lj.2] at this;exact this)
    (by rw[hs];intro h;cases h) Qa
    (λi o hi FY mb vi=>by
     rcases J2 yS AA hi FY with h3|h3|⟨o0,h3,h4⟩
     ·exact .inl h3
     ·exact .inr (.inl h3)
     ·have h3:mY (back [] (fresh+60)) ep d (sr st.h [SB+g]) i=some o0:=h3
      rcases nu h3 with⟨q,hq,h5,y,_,_⟩|⟨_,h5⟩
      ·left
       have:=XP q hq;rw[h5] at this;simp only[zeR] at this;rcases this with(h6|h6)|h6
       ·rw[qx ((uE.closed.st q hq).1 h6)] at h5
        rw[gd.2 ⟨q,hq,h5,h6⟩] at vi;cases vi
       ·exact absurd (by simpa using h6) FY
       ·rw[hi] at h6
        cases o<;>simp[RM] at h6
        rfl
      ·rw[ml] at h5
       split at h5
       ·rename_i h6;exact absurd (by simpa using h6) mb
       ·exact .inr (.inr ⟨o0,h5,h4⟩))
   refine⟨N2,D',t5,t4,?_⟩;obtain⟨bk,ds,hav⟩:=yS.res;subst hav;rw[Qe _ (λv hv us=>by
    obtain⟨o,_,rfl⟩:=List.mem_map.1 hv;exact Eu _ _ _ _ _)]
   refine J0 (by simp) (λi a b' ha hb c' hvc=>?_) hv
   rw[zeM,ha] at hb;simp only[zdV,zdM] at hb;subst hb;rw[zeM] at ha;cases ho:e.jX[i]? with
   |none=>rw[ho] at ha;cases ha
   |some o=>
    rw[ho] at ha;simp only[zdV,zdM] at ha;subst ha;refine SH uE t1 t3 hle (λi' ⟨q,hq,hqv,nM⟩ nm VB=>?_) hvc (Iy (λi nm h=>by rw[t1];exact h) t2 e.jX ds (Ex AA) c' hvc)
    obtain⟨v',mN,a',f1,f2,f3,_⟩:=Ey SL.1 hq hqv;rw[XQ q hq hqv,<-nM,VB] at f1;cases f1;exact f3
theorem Iz {ep:List (Nat×aG)}{o:Option gi}{k:List (cS ep)->Option α}{r:α}(h:storeAt ep o k=some r): ∃xs,k xs=some r/\(o=some (.store ep xs)\/iS o=true/\xs=[]):=by
 unfold storeAt at h;split at h
 ·split at h
  ·rename_i F5 xs ys hc
   obtain⟨rfl,rfl⟩:=Ek hc;exact⟨_,h, .inl rfl⟩
  ·cases h
 ·exact⟨_,h, .inr ⟨rfl,rfl⟩⟩
 ·exact⟨_,h, .inr ⟨rfl,rfl⟩⟩
 ·cases h
theorem SN {ep:List (Nat×aG)}{xs:List (cS ep)}{d:cS ep}:ko (β:=cS ep) (Ca xs d) (LJ xs)=some d:=by simp[Ca,ko,LJ]
theorem Ez {ep:List (Nat×aG)}{xs:List (cS ep)}{d dk:cS ep}{k:Nat}(hk:k≠LJ xs)(h:ko (β:=cS ep) (Ca xs d) k=some dk):ko (β:=cS ep) xs k=some dk:=by
 simp only[Ca,ko,LJ] at*;have lj:=(List.getElem?_eq_some_iff.1 h).1;simp at lj;rw[zew (by omega)] at h
 exact h
theorem Qg {sp:ak}{F:sp.pre.den->Option (hJ sp.jf)}{f:FuncId}{args:List AV}{st:St}{W:List Nat}{fresh:Nat}{k:AV->St->Option α}{fail:Option α}{r:α}(mj:sp.ok=true)(hF:rM P base f sp F)(xv:fresh%100=0){i g:Nat}{ep:List (Nat×aG)}
  (hWg:W.contains (SB+g)=true) (hWe:ep.all (λo=>W.contains o.1)=true) (uE:Pz ep=true) (Vx:ep.all (λo=>!o.2.nf||iS (st.h o.1))=true)
  (h:DU sp F args st W fresh (λe ids av fy=>Yw W fresh i g ep e ids av fy k) fail=some r):
  fail=some r\/∃av fy,k av fy=some r/\yg P base W f args st fresh av fy:=by
 rcases yp h mj hF xv with h1|⟨e,ids,av,xi,h1,rN,yS⟩
 ·exact .inl h1
 right
 have uE:=GZ uE;unfold Yw at h1;split at h1
 ·rename_i j hj
  obtain⟨xs,h1,L5⟩:=Iz h1;rcases qh h1 uE.closed with h2|⟨dd,ro,b,h2,hle,M,YZ⟩
  ·cases h2
  split at h2
  ·cases h2
  rename_i J5;simp only[zdO,ze5,zeV,decide_eq_false_iff_not,zeh] at J5;obtain⟨⟨⟨⟨⟨Ol,AA⟩,Qa⟩,zcO⟩,Qf⟩,Y0⟩:=J5;subst Ol;rw[zep] at hWe Vx;refine⟨_,_,h2,rN.1,rN.2.1,rN.2.2.1,rN.2.2.2.1,λid oT hdiv=>?_,λN D w S lG nH=>?_⟩
  ·have vi:de ep id=false:=by
    cases h:de ep id with
    |false=>rfl
    |true=>
     obtain⟨q,hq,h1,h2⟩:=gd.1 h;have:=hWe q hq;rw[h1] at this;exact absurd (by simpa using this) oT
   have hng:id≠SB+g:=by
    rintro rfl
    exact oT (by simpa using hWg)
   have Lo:(iZ ep b).contains id=false:=by
    cases h:(iZ ep b).contains id with
    |false=>rfl
    |true=>
     rcases J3 Y0 (show id∈iZ ep b by simpa using h) with h1|h1
     ·exact absurd h1 oT
     ·exact absurd h1 hdiv
   show ud xi.h ep (iZ ep b) g _ id=st.h id
   unfold ud;rw[if_neg hng,vi,Lo];simp only[zdN,if_false];exact rN.2.2.2.2.1 id oT hdiv
  ·refine(rN.2.2.2.2.2 N D w S lG nH).mono λen w' Qd=>?_
   cases en with
   |panicked c=>exact Qd.elim
   |outgrown=>exact Qd.elim
   |returned v=>
    obtain⟨N',D',X,S',hv⟩:=Qd;obtain⟨Sc,_⟩:=YZ N' D' w' base S';rw[Ax] at Sc;have SL:=ym (l:=ep) (d:=dd.2) uE.nodup (λc nm hc=>by obtain⟨e,he,h1,h2⟩:=tV hc;exact⟨e,he,h1,yl h2⟩) Sc
    have nq:jr D' w' base N' (SB+g) (.store ep) xs:=by
     rcases L5 with h3|⟨h3,rfl⟩
     ·exact S'.obj _ _ h3
     ·simp only[jr,wP]
      exact⟨ze8 SB g,λk d hk=>by simp[ko] at hk,λk _=>S'.iS g h3 k,λk k' d d' b hk=>by simp[ko] at hk⟩
    simp only[jr,wP] at nq;have tH: ∀k dk bl,ko (β:=cS ep) xs k=some dk->pM (N'.sub g k) ep dk bl->xi.h (SB+g)=some (.store ep xs)/\jd N' (SB+g) (.store ep xs) bl:=by
     intro k dk bl hx ho;rcases L5 with h3|⟨h3,rfl⟩
     ·refine⟨h3,?_⟩
      show pZ N' (SB+g) (.store ep) xs bl
      simp only[pZ,wP];exact⟨k,dk,hx,ho⟩
     ·simp[ko] at hx
    obtain⟨q50,Y1,uF,XR⟩:=zD zcO;have VD:jl N' b ep 50=N' j:=by
     have:=(qN (N:=N') (b:=b) (uE.By Y1 (vY XR)).2 (λe he=>(uE.closed.st e he).1) ⟨q50,Y1,rfl⟩);rw[uF] at this;exact this.at_ (hle 50 (.at_ j) (by simp[kG.get]))
    obtain⟨N2,t1,t2,t3,t4,t5⟩:=Es S X S' uE (s':=xi) rfl M Sc (g:=g) (n:=LJ xs) (zs:=Ca xs dd.2) SN Qf
     (λk dk hk hz=>by
      have hx:=Ez hk hz;refine⟨nq.2.1 k dk hx,λbl ho=>?_⟩;obtain⟨h3,h4⟩:=tH k dk bl hx ho;exact⟨λj' o Ch na zaZ=>Ch (S'.apart j' (SB+g) o _ bl na h3 zaZ h4),λlj=>X.own bl lj ⟨SB+g,_,h3,h4⟩⟩)
     (λk k' dk U0 bl hk tC hz UX ho na=>nq.2.2.2 k k' dk U0 bl (Ez hk hz) (Ez tC UX) ho na)
     (λk hk=>nq.2.2.1 k (by
      have:(Ca xs dd.2).length<=k:=hk;simp only[Ca,zdP] at this;simp only[aM];omega))
     (λl hl k=>by
      obtain⟨q,hq,h3,h4⟩:=gd.1 hl;refine S.iS l ?_ k;have:=Vx q hq;rw[h4,h3] at this;simpa using this)
     (λc nm hc hr=>by
      rw[nq.2.2.1 (LJ xs) (zd2 _)] at hc;cases hc)
     (λhd=>by
      have:=(X.oT g hd).1;rcases L5 with h3|⟨h3,_⟩
      ·rw[this] at h3;cases h3
      ·rw[this] at h3;cases h3)
     Qa (λi' o hi FY _ _=>J2 yS AA hi FY)
    refine⟨N2,D',t5,t4,?_⟩;obtain⟨bk,ds,hav⟩:=yS.res;subst hav;have Sp: ∀v∈e.jX.map (λo=>zq bk e.jX ds o.1),∀us,v≠ .A8 us:=λv hv us=>by
     obtain⟨o,_,rfl⟩:=List.mem_map.1 hv;exact Eu _ _ _ _ _
    unfold Xu;rw[SG Sp] at hj⊢;refine J0 (by simp) (λi' a b' ha hb c' hvc=>?_) hv
    by_cases UT:i'=i
    ·subst UT
     rw[hj] at ha;cases ha;have lj:i'<(e.jX.map (λo=>zq bk e.jX ds o.1)).length:=(List.getElem?_eq_some_iff.1 hj).1;rw[List.getElem?_set_self lj] at hb;cases hb;obtain⟨nm,a,o,e1,e2,e3,e4⟩:=jC.1 hvc;obtain⟨v',mN,a',f1,f2,f3,_⟩:=Ey SL.1 Y1 XR;rw[uF,VD,e1] at f1;cases f1;have ho:o=0:=by
      have:nm.off []=some 0:=by simp[Nm.off,f3,fX]
      rw[this] at e3;cases e3;rfl
     subst ho;unfold cp;simp only[AV.isAgg,jJ,an,xO];exact⟨nm,a,by rw[t3,VD];exact e1,f3,e2,by rw[e4]⟩
    ·rw[zek (Ne.symm UT)] at hb
     rw[ha] at hb;cases hb;rw[zeM] at ha;cases ho:e.jX[i']? with
     |none=>rw[ho] at ha;cases ha
     |some o=>
      rw[ho] at ha;simp only[zdV,zdM] at ha;subst ha;exact Iy (λi nm h=>by rw[t1];exact h) t2 e.jX ds (Ex AA) c' hvc
 ·exact⟨_,_,h1,rN⟩
 ·cases h1
def AB (P:Program)(base:Nat)(f:FuncId)(oZ:oF):Prop:=oZ.sp.ok=true/\rM P base f oZ.sp oZ.f
theorem J6 {oZ:oF}{f:FuncId}{args:List AV}{st:St}{W:List Nat}{fresh:Nat}{k:AV->St->Option α}{fail:Option α}{r:α}(hc:AB P base f oZ)(xv:fresh%100=0)(h:RO oZ args st W fresh k fail=some r):
  fail=some r\/∃av fy,k av fy=some r/\yg P base W f args st fresh av fy:=by
 unfold RO at h;split at h
 ·split at h
  ·rcases yp h hc.1 hc.2 xv with h1|⟨e,ids,av,xi,h1,rN,_⟩
   ·exact .inl h1
   ·exact .inr ⟨av,xi,h1,rN⟩
  ·split at h
   ·rename_i hw
    simp only[zdO] at hw;exact Qg hc.1 hc.2 xv hw.1.1.1 hw.1.1.2 hw.1.2 hw.2 h
   ·cases h
 ·rename_i j g n c SK
  split at h
  ·rename_i ep xs hs
   split at h
   ·cases h
   ·rename_i n'
    split at h
    ·cases h
    ·rename_i d hd
     split at h
     ·cases h
     ·rename_i hw
      simp only[zdO] at hw;have:=(Cy SK).2;rw[Nat.sub_zero] at this;exact Mr hc.1 hc.2 xv this hs hd hw.1.1.1.1 hw.1.1.1.2 hw.1.1.2 hw.1.2 hw.2 h
  ·cases h
theorem wQ {f:FuncId}{args:List AV}{st:St}{W:List Nat}{fresh:Nat}{k:AV->St->Option α}{r:α}(xv:fresh%100=0): ∀(cs:List oF),(∀c∈cs,AB P base f c)->Bi args st W fresh k cs=some r->∃av fy,k av fy=some r/\yg P base W f args st fresh av fy
 | [],_,h=>by simp[Bi] at h
 |c::cs,hc,h=>by
  unfold Bi at h;rcases J6 (hc c (zdT ..)) xv h with h1|h1
  ·exact wQ xv cs (λc' LQ=>hc c' (zdS _ LQ)) h1
  ·exact h1
end AM
namespace AM
open Go
variable {α:Type}{P:Program}{base:Nat}
noncomputable def EA (P:Program)(tmps:Array Value):ResultVar->Sem Value
 | .tmp t=>pure (tmps.getD t Go.undef)
 | .cell a t=>do loadVar t (<-asAddr (tmps.getD a Go.undef))
def Ms:List Value->Value
 | [v]=>v
 |vs=> .tuple vs.toArray
theorem Mt (fn:Func)(tmps:Array Value)(w:World){vs:List Value}(h:(fn.results.toList.mapM (EA P tmps)).run P w= .ok vs w):(results fn tmps).run P w= .ok (Ms vs) w:=by
 have e:results fn tmps=(do let vs<-fn.results.mapM (EA P tmps);pure (if h:vs.size=1 then vs[0] else .tuple vs)):=rfl
 rw[e,<-Array.toArray_toList (xs:=fn.results),List.mapM_toArray];simp only[zd7,Sem.run_map,h,zd8,zd9];match vs with
 | []=>rfl
 | [v]=>rfl
 |a::b::l=>simp[Ms]
theorem tj {st:St}: ∀(l:List ResultVar) (k:List AV->Option α) (r:α),tR P st l k=some r->
  ∃vs,k vs=some r/\vs.length=l.length/\∀N D w a,kI N D w base st a->∃cs,(l.mapM (EA P a.tmps)).run P w= .ok cs w/\bB N D w vs cs
 | [],k,r,h=>⟨[],h,rfl,λN D w a s=>⟨[],by simp,by simp only[bB]⟩⟩
 | .tmp t::l,k,r,h=>by
  unfold tR at h;obtain⟨vs,h1,h2,h3⟩:=tj l _ r h;refine⟨_,h1,by simp[h2],λN D w a s=>?_⟩
  obtain⟨cs,g1,g2⟩:=h3 N D w a s;refine⟨a.tmps.getD t Go.undef::cs,?_,?_⟩
  ·simp only[List.mapM_cons,EA,zd7,zd9,zd8,g1]
  ·simp only[bB]
   exact⟨_,_,rfl,s.tmps t,g2⟩
 | .cell x t::l,k,r,h=>by
  unfold tR at h;split at h
  ·rename_i i p hx
   obtain⟨u,h0,_,qU⟩:=pN h;split at h0
   ·rename_i lB
    obtain⟨vs,h1,h2,h3⟩:=tj l _ r h0;refine⟨_,h1,by simp[h2],λN D w a s=>?_⟩
    obtain⟨cs,g1,g2⟩:=h3 N D w a s;have hv:=s.tmps x;rw[hx] at hv;obtain⟨nm,ad,o,e1,e2,e3,e4⟩:=jC.1 hv;obtain⟨f1,f2,_⟩:=qU N D w base s.nG nm ad o e1 e2 e3;obtain⟨c,q1,q2⟩:=DY (P:=P) (N:=N) (D:=D) (w:=w) (ad:=Addr.at_ ad o) (v:=u) rfl lB (mF f2 λj=>by simp[aX,Addr.at_,zd1])
    simp only[Instr.loadAt,Instr.sureAddr,zd7,zd9,zd8] at q1;refine⟨c::cs,?_,?_⟩
    ·simp only[List.mapM_cons,EA,zd7,e4,asAddr,zd9,zd8,q1,g1]
    ·simp only[bB]
     exact⟨_,_,rfl,q2,g2⟩
   ·cases h0
  ·cases h
theorem Mu {N:Names}{D:Nat->Prop}{w:World}{l:List (Nat×cg)}{f:Nat->AV}{cs:List Value}(hl:l.map (·.1)=List.range cs.length)(h: ∀y,cp N D w (f y) (cs.getD y Go.undef)):bB N D w (l.map λo=>f o.1) cs:=by
 have e:(l.map λo=>f o.1)=(List.range cs.length).map f:=by rw[<-hl,List.map_map];rfl
 rw[e];clear e hl;have key: ∀(cs:List Value) (g:Nat->AV),(∀y,cp N D w (g y) (cs.getD y Go.undef))->bB N D w ((List.range cs.length).map g) cs:=by
  intro cs;induction cs with
  |nil=>intro g _;simp only[zdR,List.range_zero,List.map_nil,bB]
  |cons c cs ih=>
   intro g hg;simp only[zdQ,List.range_succ_eq_map,zeD,List.map_map,bB];exact⟨c,cs,rfl,(by have:=hg 0;exact this),ih (g∘Nat.succ) λy=>by simpa using hg (y+1)⟩
 exact key cs f h
theorem Qh {N:Names}{D:Nat->Prop}{w:World}{l:List (Nat×cg)}{f:Nat->AV}{cs:List Value}(hl:l.map (·.1)=List.range cs.length)(h: ∀y,cp N D w (f y) (cs.getD y Go.undef)):cp N D w (rb (l.map λo=>f o.1)) (Ms cs):=by
 have he:=Mu hl h;have hlen:=rC he;match l,cs,he,hlen with
 | [],[],he,_=>exact lT.2 ⟨_,rfl,he⟩
 | [o],[v],he,_=>
  simp only[zeD,List.map_nil,bB] at he;obtain⟨c,tS,e,h1,_⟩:=he;cases e;exact h1
 |o::o'::os,c::c'::cs,he,_=>exact lT.2 ⟨_,rfl,he⟩
 | [],_::_,_,h=>simp at h
 |_::_,[],_,h=>simp at h
 | [_],_::_::_,_,h=>simp at h
 |_::_::_,[_],_,h=>simp at h
structure J7 (P:Program)(f:FuncId)(fn:Func)(sp:ak):Prop where
 here:P.funcs[f]?=some fn
 name:(fn.name== "runtime.NumGoroutine")=false
 ok:sp.ok=true
 nt:sp.pre.jX.length<=fn.ntmps
 res: ∀e∈sp.jf,e.jX.map (·.1)=List.range fn.results.size
 body: ∃c,fn.body=some c/\nr fn c/\pP c
theorem SO {f:FuncId}{fn:Func}{sp:ak}{F:sp.pre.den->Option (hJ sp.jf)}{env:Env (hJ sp.jf)}(hi:J7 P f fn sp)(hm:P.follows .mixedOrders=true)(he:sL P base env)(hl:yi P base fn env)(hF: ∀d,re P sp env fn d=F d):rM P base f sp F:=by
 obtain⟨c,hb,Mv,Mw⟩:=hi.body;refine⟨⟨fn,hi.here,by simp[hb],hi.name⟩,λd r hr N D w lG S hlen nH=>?_⟩
 have hex:exec P env 100000 [.code c] (sp.pre.st fn.ntmps d) (RP P sp fn)=some r:=by
  rw[<-hr,<-hF];simp[re,hb]
 have hg:Good fn [.code c]:=⟨by simpa [Item.ok] using Mv,by simpa [Item.YS] using Mw,by simp,by intro _ _ _ _ _ e;cases e⟩
 refine calls_of_wp hi.here hb ?_;have s:kI N D w base (sp.pre.st fn.ntmps d) {tmps:=lG.toArray++Array.replicate (fn.ntmps-lG.toArray.size) Go.undef,defers:=[]}:=by
  refine⟨S,λy=>?_,?_,rfl⟩
  ·have e:(lG.toArray++Array.replicate (fn.ntmps-lG.toArray.size) Go.undef).getD y Go.undef=lG.getD y Go.undef:=by
    rw[zeZ,zdW,Array.getElem?_append];split
    ·simp
    ·rename_i hy
     rw[Array.getElem?_replicate,List.getElem?_eq_none (by simpa using hy)]
     split<;>rfl
   rw[e];exact nH y
  ·have:=hi.nt
   simp only[Array.size_append,List.size_toArray,Array.size_replicate,jG.st];omega
 refine Ej he hl hm _ _ _ _ _ hex hg N D w _ (bodyPost P fn _) s λout fy hK N' D' w' a' s' x'=>?_;have XS:RP P sp fn .norm fy=some r->a'.defers=[]/\∃v,(results fn a'.tmps).run P w'= .ok v w'/\xj sp.jf r λe _ d'=> ∃Ne De,vj base sp.pre N D (zr N (mY (λc=>c) sp.pre.heap d.2 (λ_=>none))) w e Ne De w' d'/\cp Ne De w' (rb (e.jX.map λo=>zq (λc=>c) e.jX d'.1 o.1)) v:=by
  intro hK;unfold RP at hK;simp only at hK;obtain⟨vs,h1,h2,h3⟩:=tj (base:=base) _ _ _ hK;obtain⟨cs,g1,g2⟩:=h3 N' D' w' a' s';obtain⟨x,hx,J8⟩:=zC _ _ _ h1 λe he=>(ak.G1 hi.ok he).1.closed;cases hx;refine⟨s'.defers,_,Mt fn a'.tmps w' g1,ur _ _ (λe n d' tJ ht=>?_) J8⟩;obtain⟨Ne,De,post,EB⟩:=yG (ak.yo hi.ok).st (d:=d.2) (s:={fy with t:=λi=>(vs[i]?).getD .undef}) S s'.nG x' rfl ht;refine⟨Ne,De,post,?_⟩;have Gh:=rC g2;refine Qh (f:=λy=>zq (λc=>c) e.jX d'.1 y) (by rw[hi.res e tJ,Gh,h2];simp) λy=>EB y _ ?_
  show cp N' D' w' ((vs[y]?).getD .undef) (cs.getD y Go.undef)
  cases ha:vs[y]? with
  |none=>simp only[Option.getD_none];exact py
  |some u=>
   obtain⟨c',LQ,hv⟩:=sG _ _ _ _ g2 ha;rw[zdW,LQ];exact hv
 cases out with
 |norm=>exact XS hK
 |ret=>exact XS hK
 |exit id=>simp[RP] at hK
end AM
namespace AM
open Go
variable {α:Type}{P:Program}{base:Nat}
theorem J9 {a b:Out}(h:N5 a b=true):a=b:=by
 cases a<;>cases b<;>simp[N5] at h<;>first|rfl|(subst h;rfl)
theorem AD {s:St}{b:kG}{o:Out}: ∀(es:List jG) (outs:List Out) (k:hJ es->Option α) (r:α),rk s b o es outs k=some r->(∀e∈es,wM e)->∃x,k x=some r/\xj es x λe n d'=>SC s b e d'/\(outs[n]?).getD .norm=o
 | [],outs,k,r,h,_=>by simp[rk] at h
 | [e],[],k,r,h,hc=>by simp[rk] at h
 | [e],o'::outs,k,r,h,hc=>by
  unfold rk at h;simp only at h;split at h
  ·rename_i ho
   rcases rB h (hc e (zdT ..)) with h1|⟨d,h1,h2⟩
   ·cases h1
   ·exact⟨d,h1,h2,by simp[J9 ho]⟩
  ·cases h
 |e::e'::es,[],k,r,h,hc=>by simp[rk] at h
 |e::e'::es,o'::outs,k,r,h,hc=>by
  unfold rk at h;simp only at h;have XT:rk s b o (e'::es) outs (λd=>k (.inr d))=some r->∃x,k x=some r/\xj (e::e'::es) x λe n d'=>SC s b e d'/\((o'::outs)[n]?).getD .norm=o:=by
   intro h1;obtain⟨x,h3,h4⟩:=AD (e'::es) outs _ r h1 λe he=>hc e (zdS _ he);exact⟨.inr x,h3,by simpa [xj] using h4⟩
  split at h
  ·rename_i ho
   rcases rB (k:=λd=>k (.inl d)) h (hc e (zdT ..)) with h1|⟨d,h1,h2⟩
   ·exact XT h1
   ·exact⟨.inl d,h1,h2,by simp[J9 ho]⟩
  ·exact XT h
def G3 (base:Nat)(sp:bu)(N:Names)(D O:Nat->Prop)(w:World)(x:hJ sp.jf)(e:Exit)(a':Act)(w':World):Prop:=
 e≠ .normal/\xj sp.jf x λe' n d'=>e=Ar ((sp.outs[n]?).getD .norm)/\∃Ne De,vj base sp.pre N D O w e' Ne De w' d'/\kI Ne De w' base (e'.st sp.nt d') a'
def EC (base:Nat)(sp:bu)(N:Names)(D O:Nat->Prop)(w:World):sp.pre.den⊕hJ sp.jf->Exit->Act->World->Prop
 | .inl d',e,a',w'=>e= .normal/\∃Ne De,vj base sp.pre N D O w sp.pre Ne De w' d'/\kI Ne De w' base (sp.pre.st sp.nt d') a'
 | .inr x,e,a',w'=>G3 base sp N D O w x e a' w'
def nv (P:Program)(base:Nat)(fn:Func)(id:Nat)(sp:bu)(F:sp.pre.den->Option (sp.pre.den⊕hJ sp.jf)):Prop:=
 ∀d r,F d=some r->∀N D w a,kI N D w base (sp.pre.st sp.nt d) a->(rh id fn).wp P (EC base sp N D (zr N (mY (λc=>c) sp.pre.heap d.2 (λ_=>none))) w r) a w
def bu.ok (sp:bu):Bool:=sp.pre.closed&&sp.jf.all λe=>Vz sp.pre e
theorem bu.G1 {sp:bu}(h:sp.ok=true){e:jG}(he:e∈sp.jf):P7 sp.pre e:=by
 simp only[bu.ok,zdO,zep] at h;exact GW (h.2 e he)
theorem bu.yo {sp:bu}(h:sp.ok=true):wM sp.pre:=by
 simp only[bu.ok,zdO] at h;exact uW h.1
theorem Ka {fn:Func}{id:Nat}{sp:bu}{F:sp.pre.den->Option (sp.pre.den⊕hJ sp.jf)}{env:Env (sp.pre.den⊕hJ sp.jf)}(mj:sp.ok=true)(Mv:nr fn (rh id fn))(Mw:pP (rh id fn))(hm:P.follows .mixedOrders=true)(he:sL P base env)(hl:yi P base fn env)
  (hF: ∀d,uf P sp env fn id d=F d):nv P base fn id sp F:=by
 intro d r hr N D w a s;have hex:exec P env 100000 [.code (rh id fn)] (sp.pre.st sp.nt d) (RQ sp)=some r:=by
  rw[<-hr,<-hF];rfl
 have hg:Good fn [.code (rh id fn)]:=⟨by simpa [Item.ok] using Mv,by simpa [Item.YS] using Mw,by simp,by intro _ _ _ _ _ e;cases e⟩
 refine Ej he hl hm _ _ _ _ _ hex hg N D w _ (EC base sp N D (zr N (mY (λc=>c) sp.pre.heap d.2 (λ_=>none))) w r) s λout fy hK N' D' w' a' s' x'=>?_;unfold RQ at hK;split at hK
 ·cases hK
 ·rename_i Sp
  simp only[zdU] at Sp;have za0: ∀o,o≠ .norm->rk fy (Cb sp.pre) o sp.jf sp.outs (λd=>some (.inr d))=some r->EC base sp N D (zr N (mY (λc=>c) sp.pre.heap d.2 (λ_=>none))) w r (Ar o) a' w':=by
   intro o ho h1;obtain⟨x,hx,J8⟩:=AD _ _ _ _ h1 λe he=>(bu.G1 mj he).closed;cases hx;refine⟨by cases o<;>simp[Ar] at ho⊢,ur _ _ (λe n d' tJ ht=>?_) J8⟩
   obtain⟨ht,jD⟩:=ht;obtain⟨Ne,De,post,EB⟩:=yG (bu.yo mj).st (d:=d.2) s.nG s'.nG x' rfl ht;exact⟨by rw[jD],Ne,De,post,post.nG,λy=>EB y _ (s'.tmps y),by rw[s'.nt,Sp];rfl,s'.defers⟩
  cases out with
  |ret=>exact za0 .ret (by intro e;cases e) hK
  |exit id=>exact za0 (.exit id) (by intro e;cases e) hK
  |norm=>
   rcases rB (k:=λd=>some (Sum.inl d)) (show oX sp.pre fy (Cb sp.pre) (λd _ _=>some (Sum.inl d)) none=some r from hK) (bu.yo mj) with h1|⟨d',h1,ht⟩
   ·cases h1
   ·cases h1
    obtain⟨Ne,De,post,EB⟩:=yG (bu.yo mj).st (d:=d.2) s.nG s'.nG x' rfl ht;exact⟨rfl,Ne,De,post,post.nG,λy=>EB y _ (s'.tmps y),by rw[s'.nt,Sp];rfl,s'.defers⟩
theorem CA {c:Code}{Q Q':Exit->Act->World->Prop}(h: ∀e a w,Q e a w->Q' e a w): ∀(n:Nat) (a:Act) (w:World),Code.rounds P c Q n a w->Code.rounds P c Q' n a w
 |0,_,_,h'=>h'.elim
 |n+1,a,w,h'=>by
  refine wp_mono h' λe a' w' hq=>?_;cases e with
  |normal=>exact CA h n a' w' hq
  |exit id=>exact h _ _ _ hq
  |goto l=>exact h _ _ _ hq
  |ret=>exact h _ _ _ hq
  |panic ch=>exact h _ _ _ hq
  |outgrown=>exact h _ _ _ hq
theorem vj.trans {pre e:jG}{N N1 Ne:Names}{D D1 De O O1:Nat->Prop}{w w1 w':World}{d1:pre.den}{d:e.den}(hO:O1=zr N1 (mY (λc=>c) pre.heap d1.2 (λ_=>none)))(h1:vj base pre N D O w pre N1 D1 w1 d1)(h2:vj base pre N1 D1 O1 w1 e Ne De w' d):vj base pre N D O w e Ne De w' d:=by
 subst hO;refine⟨h2.nG,h1.ext.trans h2.ext,λc uF hc he=>?_,λg hg he k c nm h3 h4=>h2.OB g hg he k c nm (h1.OB g hg hg k c nm h3 h4) h4⟩;rw[h2.s7 c uF hc he];obtain⟨q,hq,h3,_⟩:=id hc;exact h1.s7 c uF hc ⟨q,hq,h3⟩
theorem G3.trans {sp:bu}{N N1:Names}{D D1 O O1:Nat->Prop}{w w1:World}{d1:sp.pre.den}(hO:O1=zr N1 (mY (λc=>c) sp.pre.heap d1.2 (λ_=>none)))(h1:vj base sp.pre N D O w sp.pre N1 D1 w1 d1){x:hJ sp.jf}{e:Exit}{a':Act}{w':World}(h2:G3 base sp N1 D1 O1 w1 x e a' w'):G3 base sp N D O w x e a' w':=by
 refine⟨h2.1,ur _ _ (λe' n d' _ hq=>?_) h2.2⟩;obtain⟨g1,Ne,De,g2,g3⟩:=hq;exact⟨g1,Ne,De,h1.trans hO g2,g3⟩
theorem ED {fn:Func}{id:Nat}{sp:bu}{F:sp.pre.den->Option (sp.pre.den⊕hJ sp.jf)}(hR:nv P base fn id sp F): ∀(n:Nat) (d:sp.pre.den) (x:hJ sp.jf),iter F n d=some x->∀N D w a,kI N D w base (sp.pre.st sp.nt d) a->
  Code.rounds P (rh id fn) (G3 base sp N D (zr N (mY (λc=>c) sp.pre.heap d.2 (λ_=>none))) w x) n a w
 |0,d,x,h,_,_,_,_,_=>by simp[iter] at h
 |n+1,d,x,h,N,D,w,a,s=>by
  simp only[iter] at h;split at h
  ·cases h
  ·rename_i y hy
   cases h;refine wp_mono (hR d _ hy N D w a s) λe a' w' hq=>?_;have mb:=hq.1;cases e with
   |normal=>exact absurd rfl mb
   |exit id=>exact hq
   |goto l=>exact hq
   |ret=>exact hq
   |panic ch=>exact hq
   |outgrown=>exact hq
  ·rename_i d1 hd
   refine wp_mono (hR d _ hd N D w a s) λe a' w' hq=>?_;obtain⟨rfl,N1,D1,post,s1⟩:=hq;exact CA (λe a2 w2 h2=>G3.trans rfl post h2) n a' w' (ED hR n d1 x h N1 D1 w' a' s1)
theorem IA {fn:Func}{id:Nat}{sp:bu}{F:sp.pre.den->Option (sp.pre.den⊕hJ sp.jf)}(mj:sp.ok=true)(hR:nv P base fn id sp F){st:St}{k:Out->St->Option α}{fail:Option α}{r:α}(h:LK sp F st k fail=some r):
  fail=some r\/∃out fy,k out fy=some r/\Si P base fn id st out fy:=by
 unfold LK at h;split at h
 ·cases h
 ·rename_i Sp
  simp only[zdU] at Sp;rcases qh h (bu.yo mj) with h1|⟨d,ro,b,h1,_,M,ht⟩
  ·exact .inl h1
  ·right
   split at h1
   ·cases h1
   ·rename_i x hx
    obtain⟨e,n,d',he,h2,h3⟩:=yn _ _ _ _ h1;split at h2
    ·cases h2
    ·rename_i im
     have hex:=bu.G1 mj he;refine⟨_,_,h2,λN D w a s=>?_⟩;obtain⟨m,hm⟩:=pw.1 hx;obtain⟨S1,T1⟩:=ht N D w base s.nG;have s1:kI (jl N b sp.pre.heap) (Bv N D ro) w base (sp.pre.st sp.nt d) a:=⟨S1,λy=>T1 y _ (s.tmps y),by rw[s.nt,Sp];rfl,s.defers⟩
     refine wp_mono (wp_loop_rounds m (ED hR m d x hm _ _ w a s1)) λen a' w' Qd=>?_;obtain⟨jD,Ne,De,post,se⟩:=h3 _ Qd.2;obtain⟨N',D',S',X',tr,_⟩:=Bx (s:=st) rfl s.nG M hex im (lt:=false) (by intro e';cases e') (λbl hb=>M.canon hb) post.nG post.ext (λq hq uF=>post.s7 q.1 uF (hex.var q hq uF) ⟨q,hq,rfl⟩) (JZ post.OB)
     refine⟨jD,N',D',⟨S',λy=>?_,by rw[se.nt];exact Sp.symm,se.defers⟩,X'⟩
     exact(Et λo' na z=>⟨En _ _ _ _,λg hg=>tr o'.2 z g (λc hc=>hex.closed.cs c (.inl (List.mem_flatMap.2 ⟨o',na,hc⟩))) (λg hg=>hex.closed.ks g (.inl (List.mem_flatMap.2 ⟨o',na,hg⟩))) (by intro e';cases e') hg⟩).val (se.tmps y)
def pa (P:Program)(base:Nat)(calls:List (Nat×List oF)):Prop:= ∀p∈calls,∀c∈p.2,AB P base p.1 c
def nQ (P:Program)(base:Nat)(fn:Func)(loops:List (Nat×List uG)):Prop:= ∀p∈loops,∀l∈p.2,l.sp.ok=true/\nv P base fn p.1 l.sp l.f
theorem vZ {β:Type}{n:Nat}{x:β}: ∀{l:List (Nat×β)},uQ n l=some x->(n,x)∈l
 | [],h=>by simp[uQ] at h
 |p::l,h=>by
  simp only[uQ] at h;split at h
  ·rename_i e
   cases h;subst e;exact zdT ..
  ·exact zdS _ (vZ h)
theorem Bz {calls:List (Nat×List oF)}{loops:List (Nat×List uG)}(h:pa P base calls):sL P base (sF (α:=α) calls loops):=by
 intro f args st fresh k r xv hc;simp only[sF] at hc⊢;cases hf:uQ f calls with
 |none=>rw[hf] at hc;cases hc
 |some c=>
  rw[hf] at hc;exact wQ xv c (h _ (vZ hf)) hc
theorem BA {fn:Func}{calls:List (Nat×List oF)}{loops:List (Nat×List uG)}(h:nQ P base fn loops):yi P base fn (sF (α:=α) calls loops):=by
 intro id st k r hc;simp only[sF] at hc;cases hf:uQ id loops with
 |none=>rw[hf] at hc;cases hc
 |some ls=>
  rw[hf] at hc;have hls:=h _ (vZ hf);simp only at hls hc;clear hf h;induction ls with
  |nil=>simp[Dt] at hc
  |cons l ls ih=>
   unfold Dt at hc;obtain⟨g1,g2⟩:=hls l (zdT ..);rcases IA g1 g2 hc with h1|h1
   ·exact ih h1 λl hl=>hls l (zdS _ hl)
   ·exact h1
end AM
namespace AM
open Go
variable {α:Type}{P:Program}{base:Nat}
def pb:Code->List Nat
 | .seq a b=>pb a++pb b
 | .cond _ a b=>pb a++pb b
 | .block _ c=>pb c
 | .scope c=>pb c
 | .loop c=>(mw c).toList++pb c
 |_=> []
def pW:Code->Bool
 | .seq a b=>pW a&&pW b
 | .cond _ a b=>pW a&&pW b
 | .block _ c=>pW c
 | .scope c=>pW c
 | .loop c=>pW c
 | .region _ ops draw=>!draw||ta ops
 |_=>true
theorem sO: ∀(c:Code),pW c=true->pP c
 | .seq a b,h=>by simp only[pW,zdO] at h;exact⟨sO a h.1,sO b h.2⟩
 | .cond _ a b,h=>by simp only[pW,zdO] at h;exact⟨sO a h.1,sO b h.2⟩
 | .block _ c,h=>sO c h
 | .scope c,h=>sO c h
 | .region _ ops draw,h=>by
  intro hd;subst hd;simpa [pW] using h
 | .loop _,_=>trivial
 | .skip,_=>trivial
 | .exit _,_=>trivial
 | .ret,_=>trivial
 | .label _,_=>trivial
 | .goto _,_=>trivial
 | .rangeFunc _ _ _ _,_=>trivial
 | .refuse _,_=>trivial
theorem kx {id:Nat}: ∀(c:Code) {c':Code},dm id c=some c'->id∈pb c
 | .seq a b,c',h=>by
  simp only[dm] at h;split at h
  ·exact zdX _ (kx a ‹_›)
  ·exact zdY _ (kx b h)
 | .cond _ a b,c',h=>by
  simp only[dm] at h;split at h
  ·exact zdX _ (kx a ‹_›)
  ·exact zdY _ (kx b h)
 | .block _ c,_,h=>by simp only[dm] at h;exact kx c h
 | .scope c,_,h=>by simp only[dm] at h;exact kx c h
 | .loop c,_,h=>by
  simp only[dm] at h;split at h
  ·rename_i e;exact zdX _ (by rw[e];simp)
  ·exact zdY _ (kx c h)
 | .region _ _ _,_,h=>by simp[dm] at h
 | .skip,_,h=>by simp[dm] at h
 | .exit _,_,h=>by simp[dm] at h
 | .ret,_,h=>by simp[dm] at h
 | .label _,_,h=>by simp[dm] at h
 | .goto _,_,h=>by simp[dm] at h
 | .rangeFunc _ _ _ _,_,h=>by simp[dm] at h
 | .refuse _,_,h=>by simp[dm] at h
theorem EE {a b:List Nat}(h:AM.nodup (a++b)=true):AM.nodup a=true:=by
 induction a with
 |nil=>rfl
 |cons x xs ih=>
  simp only[zel,AM.nodup,zdO,ze5,zeV,decide_eq_false_iff_not,ze3,not_or] at h⊢;exact⟨h.1.1,ih h.2⟩
theorem qO {fn:Func}: ∀(c:Code),(∀id c',dm id c=some c'->rh id fn=c')->AM.nodup (pb c)=true->nr fn c
 | .seq a b,H,h=>by
  simp only[pb] at h;obtain⟨h1,h2⟩:=nodup_append h;refine⟨qO a (λid c' e=>H id c' (by simp only[dm,e])) (EE h),qO b (λid c' e=>H id c' ?_) h1⟩
  have hn:dm id a=none:=by
   cases ha:dm id a with
   |none=>rfl
   |some x=>exact absurd (kx b e) (h2 id (kx a ha))
  simp only[dm,hn,e]
 | .cond o a b,H,h=>by
  simp only[pb] at h;obtain⟨h1,h2⟩:=nodup_append h;refine⟨qO a (λid c' e=>H id c' (by simp only[dm,e])) (EE h),qO b (λid c' e=>H id c' ?_) h1⟩
  have hn:dm id a=none:=by
   cases ha:dm id a with
   |none=>rfl
   |some x=>exact absurd (kx b e) (h2 id (kx a ha))
  simp only[dm,hn,e]
 | .block i c,H,h=>qO c (λid c' e=>H id c' (by simpa only[dm] using e)) h
 | .scope c,H,h=>qO c (λid c' e=>H id c' (by simpa only[dm] using e)) h
 | .loop c,H,h=>by
  simp only[pb] at h;obtain⟨h1,h2⟩:=nodup_append h;refine⟨λid e=>H id c (by simp only[dm,e,if_true]),qO c (λid c' e=>H id c' ?_) h1⟩
  have mb: ¬mw c=some id:=λe'=>h2 id (by rw[e'];simp) (kx c e)
  simp only[dm,if_neg mb,e]
 | .region _ _ _,_,_=>trivial
 | .skip,_,_=>trivial
 | .exit _,_,_=>trivial
 | .ret,_,_=>trivial
 | .label _,_,_=>trivial
 | .goto _,_,_=>trivial
 | .rangeFunc _ _ _ _,_,_=>trivial
 | .refuse _,_,_=>trivial
theorem Kb {fn:Func}{c:Code}(hb:fn.body=some c)(h:AM.nodup (pb c)=true):nr fn c:=
 qO c (λid c' e=>by simp only[rh,hb,e,ze0]) h
theorem uY {fn:Func}{id:Nat}: ∀(c:Code) {c':Code},dm id c=some c'->nr fn c->pW c=true->nr fn c'/\pW c'=true
 | .seq a b,c',h,hl,hd=>by
  simp only[pW,zdO] at hd;simp only[dm] at h;split at h
  ·rename_i x e
   cases h;exact uY a e hl.1 hd.1
  ·exact uY b h hl.2 hd.2
 | .cond _ a b,c',h,hl,hd=>by
  simp only[pW,zdO] at hd;simp only[dm] at h;split at h
  ·rename_i x e
   cases h;exact uY a e hl.1 hd.1
  ·exact uY b h hl.2 hd.2
 | .block _ c,_,h,hl,hd=>by simp only[dm] at h;exact uY c h hl hd
 | .scope c,_,h,hl,hd=>by simp only[dm] at h;exact uY c h hl hd
 | .loop c,_,h,hl,hd=>by
  simp only[dm] at h;split at h
  ·cases h;exact⟨hl.2,hd⟩
  ·exact uY c h hl.2 hd
 | .region _ _ _,_,h,_,_=>by simp[dm] at h
 | .skip,_,h,_,_=>by simp[dm] at h
 | .exit _,_,h,_,_=>by simp[dm] at h
 | .ret,_,h,_,_=>by simp[dm] at h
 | .label _,_,h,_,_=>by simp[dm] at h
 | .goto _,_,h,_,_=>by simp[dm] at h
 | .rangeFunc _ _ _ _,_,h,_,_=>by simp[dm] at h
 | .refuse _,_,h,_,_=>by simp[dm] at h
def zh (fn:Func):Bool:=match fn.body with|some c=>AM.nodup (pb c)&&pW c|none=>false
theorem Mx {fn:Func}(h:zh fn=true): ∃c,fn.body=some c/\nr fn c/\pP c:=by
 unfold zh at h;split at h
 ·rename_i c hc
  simp only[zdO] at h;exact⟨c,hc,Kb hc h.1,sO c h.2⟩
 ·cases h
theorem yH {fn:Func}(h:zh fn=true)(id:Nat):nr fn (rh id fn)/\pP (rh id fn):=by
 unfold zh at h;split at h
 ·rename_i c hc
  simp only[zdO] at h;unfold rh;rw[hc];simp only;cases hf:dm id c with
  |none=>exact⟨trivial,trivial⟩
  |some c'=>
   obtain⟨h1,h2⟩:=uY c hf (Kb hc h.1) h.2;exact⟨h1,sO _ h2⟩
 ·cases h
def BB:List Nat->List Nat->Bool
 | [],[]=>true
 |a::l,b::m=>decide (a=b)&&BB l m
 |_,_=>false
theorem G4: ∀{l m:List Nat},BB l m=true->l=m
 | [],[],_=>rfl
 |a::l,b::m,h=>by
  simp only[BB,zdO,zdU] at h;rw[h.1,G4 h.2]
 | [],_::_,h=>by simp[BB] at h
 |_::_,[],h=>by simp[BB] at h
def SP (fn:Func)(sp:ak):Bool:=sp.ok&&decide (sp.pre.jX.length<=fn.ntmps)&& (sp.jf.all λe=>BB (e.jX.map (·.1)) (List.range fn.results.size))&&zh fn
theorem J7.of {f:FuncId}{fn:Func}{sp:ak}(h1:P.funcs[f]?=some fn)(h2:(fn.name== "runtime.NumGoroutine")=false)(h3:SP fn sp=true):J7 P f fn sp:=by
 simp only[SP,zdO,zdU,zep] at h3;exact⟨h1,h2,h3.1.1.1,h3.1.1.2,λe he=>G4 (h3.1.2 e he),Mx h3.2⟩
theorem DB {f:FuncId}{fn:Func}{sp:ak}{F:sp.pre.den->Option (hJ sp.jf)}{calls:List (Nat×List oF)}{loops:List (Nat×List uG)}(h1:P.funcs[f]?=some fn)(h2:(fn.name== "runtime.NumGoroutine")=false)(h3:SP fn sp=true)
  (hm:P.follows .mixedOrders=true) (hc:pa P base calls) (hl:nQ P base fn loops) (hF: ∀d,re P sp (sF calls loops) fn d=F d):rM P base f sp F:=
 SO (J7.of h1 h2 h3) hm (Bz hc) (BA hl) hF
theorem AE {fn:Func}{id:Nat}{sp:bu}{F:sp.pre.den->Option (sp.pre.den⊕hJ sp.jf)}{calls:List (Nat×List oF)}{loops:List (Nat×List uG)}(mj:sp.ok=true)(hb:zh fn=true)
  (hm:P.follows .mixedOrders=true) (hc:pa P base calls) (hl:nQ P base fn loops) (hF: ∀d,uf P sp (sF calls loops) fn id d=F d):nv P base fn id sp F:=
 Ka mj (yH hb id).1 (yH hb id).2 hm (Bz hc) (BA hl) hF
theorem aa:pa P base []:=λp hp=>by simp at hp
theorem dC {i:Nat}{cs:List oF}{l:List (Nat×List oF)}(h1: ∀c∈cs,AB P base i c)(h:pa P base l):pa P base ((i,cs)::l):=List.forall_mem_cons.2 ⟨h1,h⟩
theorem mf {i:Nat}{c:oF}{cs:List oF}(h1:c.sp.ok=true)(h2:rM P base i c.sp c.f)(h: ∀y∈cs,AB P base i y): ∀y∈c::cs,AB P base i y:=List.forall_mem_cons.2 ⟨⟨h1,h2⟩,h⟩
theorem oU {i:Nat}: ∀y∈([]:List oF),AB P base i y:=λp hp=>by simp at hp
theorem ae {fn:Func}:nQ P base fn []:=λp hp=>by simp at hp
theorem lK {fn:Func}{i:Nat}{ls:List uG}{l:List (Nat×List uG)}(h1: ∀x∈ls,x.sp.ok=true/\nv P base fn i x.sp x.f)(h:nQ P base fn l):nQ P base fn ((i,ls)::l):=List.forall_mem_cons.2 ⟨h1,h⟩
theorem za1 {fn:Func}{i:Nat}{x:uG}{ls:List uG}(h1:x.sp.ok=true)(h2:nv P base fn i x.sp x.f)(h: ∀y∈ls,y.sp.ok=true/\nv P base fn i y.sp y.f): ∀y∈x::ls,y.sp.ok=true/\nv P base fn i y.sp y.f:=List.forall_mem_cons.2 ⟨⟨h1,h2⟩,h⟩
theorem BC {fn:Func}{i:Nat}: ∀y∈([]:List uG),y.sp.ok=true/\nv P base fn i y.sp y.f:=λp hp=>by simp at hp
end AM
namespace AM
open Go
variable {α:Type}{P:Program}{base:Nat}
inductive Prim where
 |load (k:IntKind) (p:List Step)
 |add (k:IntKind) (p:List Step)
 |swap (k:IntKind) (p:List Step)
 |once (pd pm:List Step)
def AF (st:St)(i:Nat)(q p:List Step)(off:Nat)(kd:IntKind)(k:Int->Option α):Option α:=
 st.get i q λu=>match decide (fX p u.sh=some off) with
  |true=>st.get i (q++p) λv=>(match v with
   | .val (.int k' x)=>(match decide (k'=kd) with|true=>k x|false=>none)
   |_=>none)
  |false=>none
def DC:AV->Option (FuncId×List AV)
 | .xq (.func g) cs=>some (g,cs)
 | .xr (.func g) cs=>some (g,cs)
 |_=>none
noncomputable def BD (calls:List (Nat×List oF))(pr:Prim)(args:List AV)(st:St)(fresh:Nat)(K:AV->St->Option α):Option α:=match pr,args with
 | .load kd p,[.ptr i q]=>AF st i q p 0 kd λx=>K (.val (.int kd x)) st
 | .add kd p,[.ptr i q, .val (.int k' y)]=>(match decide (k'=kd) with
  |true=>AF st i q p 0 kd λx=>st.store i (q++p) (.val (.int kd (wr kd (x+y)))) λfy=>K (.val (.int kd (wr kd (x+y)))) fy
  |false=>none)
 | .swap kd p,[.ptr i q, .val (.int k' y)]=>(match decide (k'=kd) with
  |true=>AF st i q p 0 kd λx=>st.store i (q++p) (.val (.int kd y)) λfy=>K (.val (.int kd x)) fy
  |false=>none)
 | .once pd pm,[.ptr i q,cv]=>(match DC cv with
  |none=>none
  |some (g,cs)=>AF st i q pd 0 .u32 λd=>(match af (d=0) with
  |false=>K (.A8 []) st
  |true=>AF st i q pm 1 .i32 λm=>(match af (m=0) with
   |false=>none
   |true=>match st.store i (q++pm) (.val (.int .i32 1)) some,uQ g calls with
    |some xi,some c=>Bi cs xi (PA cs xi fresh c).2 fresh (λav Im=>(match av with
     | .A8 []=>AF Im i q pd 0 .u32 λ_=>AF Im i q pm 1 .i32 λm2=>(match af (m2=1) with
      |true=>Im.store i (q++pd) (.val (.int .u32 1)) λst3=>st3.store i (q++pm) (.val (.int .i32 0)) λst4=>K (.A8 []) st4
      |false=>none)
     |_=>none)) c
    |_,_=>none)))
 |_,_=>none
noncomputable def EF (calls:List (Nat×List oF))(pr:Prim)(args:List AV)(st:St)(fresh:Nat):List Nat×List Nat:=match pr,args with
 | .load _ _,[.ptr i _]=>([i],[])
 | .add _ _,[.ptr i _,_]=>([],[i])
 | .swap _ _,[.ptr i _,_]=>([],[i])
 | .once _ pm,[.ptr i q,cv]=>(match DC cv with
  |none=>([],[i])
  |some (g,cs)=>(match st.store i (q++pm) (.val (.int .i32 1)) some,uQ g calls with
   |some xi,some c=>((PA cs xi fresh c).1,i::(PA cs xi fresh c).2)
   |_,_=>([],[i])))
 |_,_=>([],[])
noncomputable def yq (tD:List (Nat×Prim))(calls:List (Nat×List oF))(loops:List (Nat×List uG)):Env α where
 call f args st fresh k:=match uQ f tD with
  |some pr=>BD calls pr args st fresh k
  |none=>(sF calls loops).call f args st fresh k
 loop id st k:=(sF calls loops).loop id st k
 fp f args st fresh:=match uQ f tD with
  |some pr=>EF calls pr args st fresh
  |none=>(sF (α:=α) calls loops).fp f args st fresh
def OC (P:Program)(f:FuncId):Prop:= ∃fn,P.funcs[f]?=some fn/\fn.body.isNone=false/\(fn.name== "runtime.NumGoroutine")=false
def XU (P:Program)(f:FuncId)(k:IntKind):Prop:=OC P f/\∀(b o:Nat) (x:Int) (w:World),w.cell? ⟨b,o,none⟩=some (.int k x)->Calls P f #[.pointer (some ⟨b,o,none⟩)] w λe w'=>e= .returned (.int k x)/\w'=w
def za2 (P:Program)(f:FuncId)(k:IntKind):Prop:=OC P f/\∀(b o:Nat) (x y:Int) (w:World),w.cell? ⟨b,o,none⟩=some (.int k x)->w.frozen? ⟨b,o,none⟩=false->
 Calls P f #[.pointer (some ⟨b,o,none⟩), .int k y] w λe w'=>e= .returned (.int k (k.wrap (x+y)))/\w'=w.setCell ⟨b,o,none⟩ (.int k (k.wrap (x+y)))
def za3 (P:Program)(f:FuncId)(k:IntKind):Prop:=OC P f/\∀(b o:Nat) (x y:Int) (w:World),w.cell? ⟨b,o,none⟩=some (.int k x)->w.frozen? ⟨b,o,none⟩=false->
 Calls P f #[.pointer (some ⟨b,o,none⟩), .int k y] w λe w'=>e= .returned (.int k x)/\w'=w.setCell ⟨b,o,none⟩ (.int k y)
def XV (P:Program)(f:FuncId):Prop:=OC P f/\
 (∀(a:Addr) (d:Int),¬d=0->∀(fv:Value) (w:World),w.cell? a=some (.int .u32 d)->Calls P f #[.pointer (some a),fv] w λe w'=>e= .returned (.tuple #[])/\w'=w)/\
 (∀(b off:Nat) (g:FuncId) (first sP:Array Value) (EG:World->Prop) (w:World),(∀w:World,(callFunc g (first++sP)).run P w= .ok (.enter g (first++sP)) w)->
  w.cell? ⟨b,off,none⟩=some (.int .u32 0)->w.cell? ⟨b,off+1,none⟩=some (.int .i32 0)->w.frozen? ⟨b,off+1,none⟩=false->
  (Calls P g (first++sP) (w.setCell ⟨b,off+1,none⟩ (.int .i32 1)) λe w'=>e= .returned (.tuple #[])/\EG w'/\(∃x,w'.cell? ⟨b,off,none⟩=some x)/\w'.frozen? ⟨b,off,none⟩=false/\w'.cell? ⟨b,off+1,none⟩=some (.int .i32 1)/\w'.frozen? ⟨b,off+1,none⟩=false)->
  Calls P f #[.pointer (some ⟨b,off,none⟩), .func (.func g) first sP] w λe w'=>e= .returned (.tuple #[])/\∃w1,EG w1/\w'=(w1.drew.setCell ⟨b,off,none⟩ (.int .u32 1)).setCell ⟨b,off+1,none⟩ (.int .i32 0))
theorem yI: ∀(q p:List Step) (sh t:Sh) (o o':Nat),fX q sh=some o->zW q sh=some t->fX p t=some o'->fX (q++p) sh=some (o+o')
 | [],p,sh,t,o,o',h1,h2,h3=>by
  simp only[fX,zdM] at h1;simp only[zW,zdM] at h2;subst h1;subst h2;rw[zeG,h3,zev]
 | .iH n::q,p, .agg l,t,o,o',h1,h2,h3=>by
  simp only[zel,fX,zW] at h1 h2⊢;cases hl:l[n]? with
  |none=>simp[hl] at h1
  |some s=>
   simp only[hl] at h1 h2⊢;cases hq:fX q s with
   |none=>simp[hq] at h1
   |some o1=>
    simp only[hq,zdV,zdM] at h1;rw[yI q p s t o1 o' hq h2 h3];simp only[zdV,zdM];omega
 | .idx i::q,p, .arr n e,t,o,o',h1,h2,h3=>by
  simp only[zel,fX,zW] at h1 h2⊢;split at h1
  ·rename_i hi
   rw[if_pos hi];cases hq:fX q e with
   |none=>simp[hq] at h1
   |some o1=>
    simp only[hq,zdV,zdM] at h1;rw[yI q p e t o1 o' hq h2 h3];simp only[zdV,zdM];omega
  ·cases h1
 | .iH n::q,p, .one,t,o,o',h1,h2,h3=>by simp[fX] at h1
 | .iH n::q,p, .arr _ _,t,o,o',h1,h2,h3=>by simp[fX] at h1
 | .idx i::q,p, .one,t,o,o',h1,h2,h3=>by simp[fX] at h1
 | .idx i::q,p, .agg _,t,o,o',h1,h2,h3=>by simp[fX] at h1
theorem VJ {N:Names}{D:Nat->Prop}{w:World}{s:St}(S:kp N D w base s.h){i:Nat}{q p:List Step}{t:Sh}{nm:Nm}{o o':Nat}(hn:N i=some nm)(hs:s.shape i q=some t)(ho:nm.off q=some o)(hp:fX p t=some o'):nm.off (q++p)=some (o+o'):=by
 unfold St.shape at hs;split at hs
 ·rename_i v hv
  obtain⟨mN,a,e1,_,e3,e4,_⟩:=S.obj i _ hv;rw[hn] at e1;cases e1;have key: ∀x:List Step,nm.off x=fX x nm.sh:=λx=>by unfold Nm.off;split<;>simp[e3]
  rw[key] at ho⊢;rw[e4] at ho⊢;exact yI q p _ t o o' ho hs hp
 ·rename_i ro ty xs hv
  obtain⟨mN,e1,e2,e3,_⟩:=S.obj i _ hv;rw[hn] at e1;cases e1;split at hs
  ·rename_i j q'
   simp only[zel,Nm.off,e2,if_true] at ho⊢;split at ho
   ·rename_i hj
    rw[if_pos hj];cases hq:fX q' nm.sh with
    |none=>simp[hq] at ho
    |some o1=>
     simp only[hq,zdV,zdM] at ho;rw[yI q' p nm.sh t o1 o' hq (by rw[e3];exact hs) hp]
     simp only[zdV,zdM];omega
   ·cases ho
  ·cases hs
 ·cases hs
theorem pD {st:St}{i:Nat}{q p:List Step}{off:Nat}{kd:IntKind}{k:Int->Option α}{r:α}(h:AF st i q p off kd k=some r):
  ∃x,k x=some r/\∀N D w,kp N D w base st.h->∀nm a o,N i=some nm->nm.base=some a->nm.off q=some o->a.spot=none/\nm.off (q++p)=some (o+off)/\w.cell? ⟨a.block,a.off+o+off,none⟩=some (.int kd x):=by
 unfold AF at h;obtain⟨u,h1,h2,_⟩:=pN h;split at h1
 ·rename_i nJ
  simp only[zdU] at nJ;obtain⟨v,h4,h5,h6⟩:=pN h1;split at h4
  ·rename_i k' x
   split at h4
   ·rename_i hk
    simp only[zdU] at hk;subst hk;refine⟨x,h4,λN D w S nm a o hn hb ho=>?_⟩;have ho2:=VJ S hn h2 ho nJ;obtain⟨g1,g2,_⟩:=h6 N D w base S nm a _ hn hb ho2;refine⟨g1,ho2,?_⟩;simp only[an,aX] at g2;rw[show a.off+(o+off+0)=a.off+o+off by omega] at g2
    exact g2
   ·cases h4
  ·cases h4
 ·cases h1
theorem AG {N:Names}{D:Nat->Prop}{w:World}(k:IntKind)(x:Int):cp N D w (.val (.int k x)) (.int k x):=eE.2 rfl
theorem Qi (k:IntKind)(x:Int):(AV.val (.int k x)).size=1:=rfl
theorem AH {s:St}{i:Nat}{p:List Step}{kd:IntKind}{x:Int}{k:St->Option α}{r:α}(h:s.store i p (.val (.int kd x)) k=some r):
  ∃s',k s'=some r/\s'.t=s.t/\s'.nt=s.nt/\s'.ep=s.ep/\(∀j,j≠i->s'.h j=s.h j)/\∀N D w,kp N D w base s.h->∀nm a o,N i=some nm->nm.base=some a->nm.off p=some o->
   w.frozen? ⟨a.block,a.off+o,none⟩=false/\(∃y,w.cell? ⟨a.block,a.off+o,none⟩=some y)/\∃D',kp N D' (w.setCell ⟨a.block,a.off+o,none⟩ (.int kd x)) base s'.h/\Ext N D w s.h N D' (w.setCell ⟨a.block,a.off+o,none⟩ (.int kd x)) s'.h:=by
 obtain⟨s',h1,h2,h3,h4,h5,h6⟩:=xW h rfl;refine⟨s',h1,h2,h3,h4,λj hj=>h5 j hj (by simp[AV.ids]),λN D w S nm a o hn hb ho=>?_⟩
 obtain⟨g1,⟨cs,ty,fz,g2,g3,g4⟩,D',g5,g6⟩:=h6 N D w base S nm a o (.int kd x) hn hb ho (AG kd x);rw[Qi] at g4;have hc:=jk g2 (o:=a.off+o) (by omega)
 refine⟨wF g2 g3 (by omega),Option.isSome_iff_exists.1 hc,D',?_⟩
 exact⟨g5,g6⟩
theorem AI {N:Names}{D:Nat->Prop}{w:World}{i:Nat}{q:List Step}{l:List AV}{lG:List Value}(h:bB N D w (.ptr i q::l) lG): ∃nm a o rest,N i=some nm/\nm.base=some a/\nm.off q=some o/\lG= .pointer (some ⟨a.block,a.off+o,none⟩)::rest/\bB N D w l rest:=by
 simp only[bB] at h;obtain⟨c,cs,rfl,h1,h2⟩:=h;obtain⟨nm,a,o,g1,g2,g3,g4⟩:=jC.1 h1;exact⟨nm,a,o,cs,g1,g2,g3,by rw[g4];rfl,h2⟩
def BE (P:Program)(base:Nat)(calls:List (Nat×List oF))(f:FuncId)(pr:Prim):Prop:= ∀(α:Type) (args:List AV) (st:St) (fresh:Nat) (k:AV->St->Option α) (r:α),fresh%100=0->BD calls pr args st fresh k=some r->
 ∃av fy,k av fy=some r/\yg P base (EF calls pr args st fresh).2 f args st fresh av fy
theorem zaz {calls:List (Nat×List oF)}{f:FuncId}{kd:IntKind}{p:List Step}(hw:XU P f kd):BE P base calls f (.load kd p):=by
 intro α args st fresh k r _ h;unfold BD at h;split at h<;>first|(rename_i heq;cases heq)|skip
 all_goals first|cases h|skip
 rename_i i q;obtain⟨x,h1,h2⟩:=pD (base:=base) h;refine⟨_,_,h1,hw.1,rfl,rfl,rfl,λ_ _ _=>rfl,λN D w S lG hc=>?_⟩;obtain⟨nm,a,o,rest,g1,g2,g3,rfl,g5⟩:=AI hc;simp only[bB] at g5;subst g5;obtain⟨_,_,zi⟩:=h2 N D w S nm a o g1 g2 g3;refine(hw.2 _ _ _ _ zi).mono λe w' he=>?_;obtain⟨rfl,rfl⟩:=he;exact⟨N,D,Ext.refl _ _ _ _,S,AG _ _⟩
theorem OD {N:Names}{D:Nat->Prop}{w:World}{k:IntKind}{y:Int}{rest:List Value}(h:bB N D w [.val (.int k y)] rest):rest=[.int k y]:=by
 simp only[bB] at h;obtain⟨c,cs,rfl,h1,rfl⟩:=h;rw[eE.1 h1]
theorem SQ {calls:List (Nat×List oF)}{f:FuncId}{kd:IntKind}{p:List Step}(hw:za2 P f kd):BE P base calls f (.add kd p):=by
 intro α args st fresh k r _ h;unfold BD at h;split at h<;>first|(rename_i heq;cases heq)|skip
 all_goals first|cases h|skip
 rename_i i q k' y;split at h
 ·rename_i hk
  simp only[zdU] at hk;subst hk;obtain⟨x,h1,h2⟩:=pD (base:=base) h;obtain⟨fy,h3,h4,h5,h6,h7,h8⟩:=AH (base:=base) h1;refine⟨_,_,h3,hw.1,h4,h5,h6,λj hj _=>h7 j (λe=>hj (by subst e;simp[EF])),λN D w S lG hc=>?_⟩
  obtain⟨nm,a,o,rest,g1,g2,g3,rfl,g5⟩:=AI hc;rw[OD g5];obtain⟨_,nJ,zi⟩:=h2 N D w S nm a o g1 g2 g3;rw[zeF] at nJ zi;obtain⟨z1,_,D',z2,z3⟩:=h8 N D w S nm a o g1 g2 nJ;refine(hw.2 _ _ _ _ _ zi z1).mono λe w' he=>?_;obtain⟨rfl,rfl⟩:=he;rw[<-pU];exact⟨N,D',z3,z2,AG _ _⟩
 ·cases h
theorem zaA {calls:List (Nat×List oF)}{f:FuncId}{kd:IntKind}{p:List Step}(hw:za3 P f kd):BE P base calls f (.swap kd p):=by
 intro α args st fresh k r _ h;unfold BD at h;split at h<;>first|(rename_i heq;cases heq)|skip
 all_goals first|cases h|skip
 rename_i i q k' y;split at h
 ·rename_i hk
  simp only[zdU] at hk;subst hk;obtain⟨x,h1,h2⟩:=pD (base:=base) h;obtain⟨fy,h3,h4,h5,h6,h7,h8⟩:=AH (base:=base) h1;refine⟨_,_,h3,hw.1,h4,h5,h6,λj hj _=>h7 j (λe=>hj (by subst e;simp[EF])),λN D w S lG hc=>?_⟩
  obtain⟨nm,a,o,rest,g1,g2,g3,rfl,g5⟩:=AI hc;rw[OD g5];obtain⟨_,nJ,zi⟩:=h2 N D w S nm a o g1 g2 g3;rw[zeF] at nJ zi;obtain⟨z1,_,D',z2,z3⟩:=h8 N D w S nm a o g1 g2 nJ;refine(hw.2 _ _ _ _ _ zi z1).mono λe w' he=>?_;obtain⟨rfl,rfl⟩:=he;exact⟨N,D',z3,z2,AG _ _⟩
 ·cases h
end AM
namespace AM
open Go
variable {α:Type}{P:Program}{base:Nat}
theorem kp.drew {N:Names}{D:Nat->Prop}{w:World}{h:Nat->Option gi}(S:kp N D w base h):kp N D w.drew base h/\Ext N D w h N D w.drew h:=
 ⟨⟨λi o hi=>oc (S.obj i o hi) (Names.le_refl _) (λ_ h=>h) (λ_ _=>rfl) (λ_ _=>⟨rfl,λh=>h⟩) (λ_ _ _ _=>rfl),S.apart,S.frozen,S.named,S.size,S.iS⟩,
  Names.le_refl _,λ_ h=>h,rfl,rfl,rfl,zd2 _,λ_ _ _=>rfl,λ_ _ h=>h,λ_ h=> .inl h,λ_ _ h=> .inl h,λ_ h=>h,λ_ h=>⟨h,λ_=>rfl⟩⟩
theorem Kc {N:Names}{D:Nat->Prop}{w:World}{cv:AV}{g:FuncId}{cs:List AV}{c:Value}(h:DC cv=some (g,cs))(hv:cp N D w cv c): ∃first sP:Array Value,c= .func (.func g) first sP/\bB N D w cs (first++sP).toList:=by
 unfold DC at h;split at h
 ·cases h
  unfold cp at hv;simp only[AV.isAgg,jJ,an] at hv;obtain⟨cc,q1,q2⟩:=hv;simp only[zdM] at q1;exact⟨#[],cc,q1,by simpa using q2⟩
 ·cases h
  unfold cp at hv;simp only[AV.isAgg,jJ,an] at hv;obtain⟨cc,q1,q2⟩:=hv;simp only[zdM] at q1;exact⟨cc,#[],q1,by simpa using q2⟩
 ·cases h
theorem G5 {calls:List (Nat×List oF)}{f:FuncId}{pd pm:List Step}(hw:XV P f)(yV:pa P base calls):BE P base calls f (.once pd pm):=by
 intro α args st fresh k r xv h;unfold BD at h;split at h<;>first|(rename_i heq;cases heq)|skip
 all_goals first|cases h|skip
 rename_i i q cv;split at h
 ·cases h
 rename_i g cs hcv;obtain⟨d,h1,h2⟩:=pD (base:=base) h;split at h1
 ·rename_i hd
  have hd0: ¬d=0:=λe=>by rw[kZ.2 e] at hd;cases hd
  refine⟨_,_,h1,hw.1,rfl,rfl,rfl,λ_ _ _=>rfl,λN D w S lG hc=>?_⟩;obtain⟨nm,a,o,rest,g1,g2,g3,rfl,g5⟩:=AI hc;obtain⟨c1,Y2,rfl,_,hr⟩: ∃c1 Y2,rest=c1::Y2/\cp N D w cv c1/\bB N D w [] Y2:=by unfold bB at g5;exact g5
  simp only[bB] at hr;subst hr;obtain⟨_,_,zi⟩:=h2 N D w S nm a o g1 g2 g3;rw[zeF] at zi;refine(hw.2.1 _ d hd0 c1 w zi).mono λe w' he=>?_;obtain⟨rfl,rfl⟩:=he;exact⟨N,D,Ext.refl _ _ _ _,S,lT.2 ⟨#[],rfl,by simp only[bB]⟩⟩
 ·rename_i hd
  have hd0:=kZ.1 hd;subst hd0;obtain⟨m,h3,h4⟩:=pD (base:=base) h1;split at h3
  ·cases h3
  rename_i hm;have hm0:=kZ.1 hm;subst hm0;split at h3
  ·rename_i xi c za4 hc
   obtain⟨s',e1,t1,t2,t3,t4,t5⟩:=AH (base:=base) za4;cases e1;obtain⟨av,Im,h5,rN⟩:=wQ xv c (yV _ (vZ hc)) h3;obtain⟨⟨fn,f1,f2,f3⟩,c1,c2,c3,c4,c5⟩:=rN;split at h5
   ·obtain⟨d2,h6,h7⟩:=pD (base:=base) h5
    obtain⟨m2,h8,h9⟩:=pD (base:=base) h6;split at h8
    ·rename_i hm2
     have zcP:=kZ.1 hm2;subst zcP;obtain⟨st3,GH,u1,u2,u3,u4,u5⟩:=AH (base:=base) h8;obtain⟨st4,N8,v1,v2,v3,v4,v5⟩:=AH (base:=base) GH;refine⟨_,_,N8,hw.1,by rw[v1,u1,c1,t1],by rw[v2,u2,c2,t2],by rw[v3,u3,c3,t3],λj hj YA=>?_,λN D w S lG hcr=>?_⟩
     ·simp only[EF,hcv,za4,hc,zeq,not_or] at hj
      rw[v4 j hj.1,u4 j hj.1,c4 j hj.2 YA,t4 j hj.1]
     ·obtain⟨nm,a,o,rest,g1,g2,g3,rfl,g5⟩:=AI hcr
      obtain⟨cl,Y2,rfl,Gh,hr⟩: ∃c1 Y2,rest=c1::Y2/\cp N D w cv c1/\bB N D w [] Y2:=by unfold bB at g5;exact g5
      simp only[bB] at hr;subst hr;obtain⟨first,sP,rfl,q2⟩:=Kc hcv Gh;obtain⟨_,za5,Sq⟩:=h2 N D w S nm a o g1 g2 g3;obtain⟨_,za6,hcm⟩:=h4 N D w S nm a o g1 g2 g3;rw[zeF] at za5 Sq;obtain⟨z1,_,D1,S1,X1⟩:=t5 N D w S nm a (o+1) g1 g2 za6;rw[<-zd1] at z1 S1 X1;have hg: ∀w:World,(callFunc g (first++sP)).run P w= .ok (.enter g (first++sP)) w:=by
       intro w;simp only[callFunc,zd7,run_program,zd8,f1,f3,f2,zdN,if_false,zd9]
      have hq2:bB N D1 (w.setCell ⟨a.block,a.off+o+1,none⟩ (.int .i32 1)) cs (first++sP).toList:=pL X1.names X1.frozen (X1.JH S) _ _ q2;have xF:=c5 N D1 _ S1 (first++sP).toList hq2;refine(hw.2.2 a.block (a.off+o) g first sP (λw1=> ∃N' D',Ext N D w st.h N' D' w1 Im.h/\kp N' D' w1 base Im.h) w hg Sq hcm z1 (xF.mono λe w1 he=>?_)).mono λe w' he=>?_
      ·cases e with
       |returned v=>
        obtain⟨N',D',x2,s2,hv⟩:=he;obtain⟨l,rfl,hl⟩:=lT.1 hv;simp only[bB] at hl;obtain rfl:l= #[]:=by apply Array.ext';simpa using hl
        have VK:=x2.names i nm g1;obtain⟨_,EH,za7⟩:=h7 N' D' w1 s2 nm a o VK g2 g3;obtain⟨_,My,zcQ⟩:=h9 N' D' w1 s2 nm a o VK g2 g3;rw[zeF] at EH za7;obtain⟨y1,_,D3,S3,X3⟩:=u5 N' D' w1 s2 nm a o VK g2 EH;refine⟨rfl,⟨N',D',X1.trans x2,s2⟩,⟨_,za7⟩,y1,zcQ,?_⟩;obtain⟨y2,_,_⟩:=v5 N' D3 _ S3 nm a (o+1) VK g2 My;rw[<-zd1] at y2;rw[World.frozen?_setCell] at y2;exact y2
       |panicked c=>exact he.elim
       |outgrown=>exact he.elim
      ·obtain⟨rfl,w1,⟨N',D',x2,s2⟩,rfl⟩:=he
       have VK:=x2.names i nm g1;obtain⟨_,EH,_⟩:=h7 N' D' w1 s2 nm a o VK g2 g3;obtain⟨_,My,_⟩:=h9 N' D' w1 s2 nm a o VK g2 g3;rw[zeF] at EH;obtain⟨s3,x3⟩:=s2.drew;obtain⟨_,_,D3,S3,X3⟩:=u5 N' D' _ s3 nm a o VK g2 EH;obtain⟨_,_,D4,S4,X4⟩:=v5 N' D3 _ S3 nm a (o+1) VK g2 My;rw[<-zd1] at S4 X4;exact⟨N',D4,((x2.trans x3).trans X3).trans X4,S4,lT.2 ⟨#[],rfl,by simp only[bB]⟩⟩
    ·cases h8
   ·cases h5
  ·cases h3
def yJ (P:Program)(base:Nat)(calls:List (Nat×List oF))(tD:List (Nat×Prim)):Prop:= ∀p∈tD,BE P base calls p.1 p.2
theorem EI {tD:List (Nat×Prim)}{calls:List (Nat×List oF)}{loops:List (Nat×List uG)}(hp:yJ P base calls tD)(h:pa P base calls):sL P base (yq (α:=α) tD calls loops):=by
 intro f args st fresh k r xv hc;simp only[yq] at hc⊢;cases hf:uQ f tD with
 |none=>rw[hf] at hc;exact Bz h f args st fresh k r xv hc
 |some pr=>rw[hf] at hc;exact hp _ (vZ hf) α args st fresh k r xv hc
theorem EJ {fn:Func}{tD:List (Nat×Prim)}{calls:List (Nat×List oF)}{loops:List (Nat×List uG)}(h:nQ P base fn loops):yi P base fn (yq (α:=α) tD calls loops):=λid st k r hc=>BA (calls:=calls) h id st k r hc
theorem EK {f:FuncId}{fn:Func}{sp:ak}{F:sp.pre.den->Option (hJ sp.jf)}{tD:List (Nat×Prim)}{calls:List (Nat×List oF)}{loops:List (Nat×List uG)}(h1:P.funcs[f]?=some fn)(h2:(fn.name== "runtime.NumGoroutine")=false)(h3:SP fn sp=true)
  (hm:P.follows .mixedOrders=true) (hp:yJ P base calls tD) (hc:pa P base calls) (hl:nQ P base fn loops) (hF: ∀d,re P sp (yq tD calls loops) fn d=F d):rM P base f sp F:=
 SO (J7.of h1 h2 h3) hm (EI hp hc) (EJ hl) hF
theorem zaB {fn:Func}{id:Nat}{sp:bu}{F:sp.pre.den->Option (sp.pre.den⊕hJ sp.jf)}{tD:List (Nat×Prim)}{calls:List (Nat×List oF)}{loops:List (Nat×List uG)}(mj:sp.ok=true)(hb:zh fn=true)
  (hm:P.follows .mixedOrders=true) (hp:yJ P base calls tD) (hc:pa P base calls) (hl:nQ P base fn loops) (hF: ∀d,uf P sp (yq tD calls loops) fn id d=F d):nv P base fn id sp F:=
 Ka mj (yH hb id).1 (yH hb id).2 hm (EI hp hc) (EJ hl) hF
theorem BF {calls:List (Nat×List oF)}:yJ P base calls []:=λp hp=>by simp at hp
theorem zE {calls:List (Nat×List oF)}{p:Nat×Prim}{l:List (Nat×Prim)}(h1:BE P base calls p.1 p.2)(h:yJ P base calls l):yJ P base calls (p::l):=List.forall_mem_cons.2 ⟨h1,h⟩
end AM
