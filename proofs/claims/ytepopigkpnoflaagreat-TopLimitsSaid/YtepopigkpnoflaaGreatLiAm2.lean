/- An abstract machine over programs of the model, and its soundness: what it tells of a function, the model's machine does, continued. Conditions: none. -/
import Derived.Laws.Tables
import Derived.Great.BuildSlice
import Derived.Laws.StructEq
import Derived.ChangeKeysEq
import Derived.Orders
import Derived.LoopN
import Derived.Test.YtepopigkpnoflaaGreatLiAm1
set_option linter.unusedVariables false
set_option linter.unusedSimpArgs false
namespace AM
open Go
variable {α:Type}{P:Program}{base:Nat}
theorem R3 {dst ty pos after guard}{x:Operand}{args:Array Operand}{tys:Array TypeId}{t:TypeId}{Bc:List TypeId}{st:St}{k:AV->St->Option α}{r:α}(ha:args.toList=[x])(ht:tys.toList=t::Bc)
  (h:(match st.ev x with| .val (.slice none 0 0)=>(match na P t with|true=>k (.val (.int .i64 0)) st|false=>none)|_=>none)=some r):nW P base ⟨dst, .call ⟨.builtin .cap,args,tys⟩,ty,pos,after,guard⟩ st k r:=by
 have nz:args= #[x]:=by cases args;simp at ha;subst ha;rfl
 have zZ:tys[0]?=some t:=by cases tys;simp at ht;subst ht;simp
 subst nz;split at h
 ·rename_i e1
  split at h
  ·rename_i hs
   obtain⟨e,hu⟩:=sj hs;refine⟨_,_,h,ll.pure λN D w a s=>⟨.int .i64 0,?_,dY.2 rfl⟩⟩;simp[execOp,resolve,invoke,builtin,Builtin.cap_,zZ,s.sV e1,run_underlying hu,goInt]
  ·cases h
 ·cases h
theorem R4 {dst ty pos after guard}{x y:Operand}{args:Array Operand}{tys:Array TypeId}{st:St}{k:AV->St->Option α}{r:α}(ha:args.toList=[x,y])
  (h:(match st.ev x,st.ev y with| .val (.int ka a), .val (.int kb b)=>(if ka=kb then k (.val (.int ka (tp a b))) st else none)|_,_=>none)=some r):nW P base ⟨dst, .call ⟨.builtin .min,args,tys⟩,ty,pos,after,guard⟩ st k r:=by
 have nz:args= #[x,y]:=by cases args;simp at ha;subst ha;rfl
 subst nz;split at h
 ·rename_i ka a kb b e1 e2
  split at h
  ·rename_i hk
   subst hk;refine⟨_,_,h,ll.pure λN D w act s=>⟨.int ka (tp a b),?_,dY.2 rfl⟩⟩;by_cases hc:b<a<;>simp[execOp,resolve,invoke,builtin,Builtin.min_,Builtin.min2,s.sV e1,s.sV e2,tp,kM,hc]
  ·cases h
 ·cases h
theorem R5 {dst ty pos after guard}{x y:Operand}{args:Array Operand}{tys:Array TypeId}{st:St}{k:AV->St->Option α}{r:α}(ha:args.toList=[x,y])
  (h:(match st.ev x,st.ev y with| .val (.int ka a), .val (.int kb b)=>(if ka=kb then k (.val (.int ka (imax a b))) st else none)|_,_=>none)=some r):nW P base ⟨dst, .call ⟨.builtin .max,args,tys⟩,ty,pos,after,guard⟩ st k r:=by
 have nz:args= #[x,y]:=by cases args;simp at ha;subst ha;rfl
 subst nz;split at h
 ·rename_i ka a kb b e1 e2
  split at h
  ·rename_i hk
   subst hk;refine⟨_,_,h,ll.pure λN D w act s=>⟨.int ka (imax a b),?_,dY.2 rfl⟩⟩;by_cases hc:b>a<;>simp[execOp,resolve,invoke,builtin,Builtin.max_,Builtin.max2,s.sV e1,s.sV e2,imax,kM,hc]
  ·cases h
 ·cases h
theorem DV: ∀(l:List Int) (r:ByteArray),l.foldl (λr n=>r.push (UInt8.ofNat n.toNat)) r=⟨r.data++(l.map λn=>n.toNat.toUInt8).toArray⟩
 | [],r=>by simp
 |n::l,r=>by
  simp only[zeJ];rw[DV l];simp[ByteArray.push]
theorem R6 (b:ByteArray):(b.data.toList.map λc=>((c.toNat:Nat):Int)).length=b.size:=by simp
theorem FV (b:ByteArray)(c:Nat)(h:b.size<=c):(bytesRow b c).size=c:=by
 have e:b.data.size=b.size:=rfl;simp[bytesRow,e];omega
theorem Ma (w:World)(ba:Addr)(xs:List Int)(cap:Nat)(h:xs.length≠0->ba.spot=none/\∀j y,xs[j]?=some y->w.cell? ⟨ba.block,ba.off+j,none⟩=some (.int .u8 y)):
  (Conv.bytesToString (.slice (some ba) xs.length cap)).run P w= .ok (.string (uI xs)) w:=by
 have ua:(loadCells ba xs.length).run P w= .ok (xs.map (Value.int .u8)).toArray w:=by
  have:=run_loadCells_list (P:=P) w ba (xs.map (Value.int .u8)) λj v hv=>by
   rw[zeG,zew] at hv;obtain⟨y,hy,rfl⟩:=hv;have lF:xs.length≠0:=by
    have:=(List.getElem?_eq_some_iff.1 hy).1;omega
   obtain⟨f1,f2⟩:=h lF;have:=f2 j y hy;obtain⟨bb,oo,sp⟩:=ba;simp only at f1;subst f1;rw[ow];exact this
  rwa [zeK] at this
 rw[run_bytesToString w ba _ cap _ ua,DV];simp[uI]
theorem Mb {w:World}{b:Nat}{c:Array Value}{ty:TypeId}{fz:Nat×Nat}(h:w.heap[b]?=some (.cells c ty fz)):
  (w.freeze ⟨b,c.size,none⟩ 1).heap[b]?=some (.cells c ty (if fz.1==fz.2 then(c.size,c.size+1) else(min fz.1 c.size,max fz.2 (c.size+1))))/\∀b',b'≠b->(w.freeze ⟨b,c.size,none⟩ 1).heap[b']?=w.heap[b']?:=by
 constructor
 ·simp[World.freeze,zeg,h]
 ·intro b' hb
  simp[World.freeze,zeg];intro e;exact absurd e.symm hb
theorem HS {dst ty pos after guard}{src dt:TypeId}{x:Operand}{st:St}{id:Nat}(pQ:id=name st.ep (dst.getD 999) 0){k:AV->St->Option α}{r:α}(h:A1 P st id src dt (st.ev x) k=some r):nW P base ⟨dst, .convert src dt x,ty,pos,after,guard⟩ st k r:=by
 unfold A1 at h;split at h
 ·rename_i ki n e1
  split at h
  ·rename_i ks kd h1 h2
   refine⟨_,_,h,ll.pure λN D w a s=>⟨_,?_,dY.2 rfl⟩⟩;simp[execOp,s.sV e1,Go.convert,run_underlying h1,run_underlying h2,Conv.intToInt,pP]
  ·cases h
 ·rename_i b e1
  split at h
  ·rename_i h1 h2
   refine⟨_,_,h,ll.pure λN D w a s=>⟨_,?_,dY.2 rfl⟩⟩;simp[execOp,s.sV e1,Go.convert,run_underlying h1,run_underlying h2]
  ·rename_i e h1 h2
   split at h
   ·rename_i h3
    obtain⟨h4,h5⟩:=z7 h;refine⟨_,_,h5,rfl,rfl,rfl,λj _ hj=>by
     have:j≠id:=λe=>by subst e;subst pQ;simp[qD,makes,rq] at hj
     simp[St.set,this],λN D w a s=>?_⟩
    have jG:=run_bytes_of_string (P:=P) w src dt e b h1 h2 h3;have sG:=grownCap_ge w b.size 0 e;have hl:aQ (β:=(Ty.int .u8).den) (b.data.toList.map λc=>((c.toNat:Nat):Int))=b.size:=by
     exact R6 b
    obtain⟨N',n1,n2,n3⟩:=s.ny.HQ (t:= .int .u8) (xs:=(b.data.toList.map λc=>((c.toNat:Nat):Int))) h4 w.drew (bytesRow b (grownCap w b.size 0 e)) e ((bytesRow b (grownCap w b.size 0 e)).size,(bytesRow b (grownCap w b.size 0 e)).size+1) (grownCap w b.size 0 e) rfl rfl rfl rfl (by rw[hl];exact sG)
     (by rw[FV _ _ sG];simp[Ty.size]) (.inr ⟨zdV _,rfl⟩) ((Gu b).congr λj hj=>by
      rw[hl] at hj;simp only[Ty.size,zeI] at hj;have BZ:j<b.data.size:=hj;rw[bytesRow_at b _ j BZ];simp only[zeG,Array.getElem?_toList,zei BZ,zdO])
    rw[hl] at n3;refine⟨N',D,_,_, .inl ?_,by rw[St.th];exact n2,by rw[St.th];exact n1,n3⟩
    simp only[execOp,s.sV e1,zd0,jG,zd1,zd2]
   ·cases h
  ·cases h
 ·split at h
  ·rename_i e h1 h2
   split at h
   ·rename_i h3
    obtain⟨xs,ids,h4,h5⟩:=uP h;refine⟨_,_,h4,ll.pure λN D w a s=>⟨_,?_,dY.2 rfl⟩⟩;obtain⟨ba,cap,g1,g2,g3,g4⟩:=h5 N D w base s.ny _ (s.FJ x);simp only[execOp,g1,zd0,run_convert_bytes_string w src dt e ba _ cap h1 h3 h2];cases ba with
    |none=>
     have:=g3 rfl;have L3:xs=[]:=zd8 (by simp only[aQ] at g2;omega)
     subst L3;simp[Conv.bytesToString,uI];rfl
    |some ba=>
     have hb:=Ma (P:=P) w ba xs cap λlF=>⟨(g4 ba rfl lF).1,λj y hy=>by
      have h9:aX w ba (j*1+0)=some (.int .u8 y):=(g4 ba rfl lF).2 j y hy;simpa [aX] using h9⟩
     exact(congrArg (λq:Result Value=>q.andThen λa w'=>(pure (Next.value a):Sem Next).run P w') hb)
   ·cases h
  ·rename_i e0 e h1 h2
   split at h
   ·rename_i j off h3 JM hv
    simp only[zdN] at JM;subst JM;split at h
    ·rename_i xs ho
     split at h
     ·rename_i kQ
      simp only[zdN] at kQ;refine⟨_,_,h,rfl,rfl,rfl,λ_ _ _=>rfl,λN D w a s=>?_⟩;have hr:=s.uB hv;have Lp:=hr;unfold ck at hr;simp only[AV.isAgg,jv,ar] at hr;obtain⟨nm,n1,n2,n3,n4,n5⟩:=hr;obtain⟨mM,o1,o2,o3,o4,o5,o6⟩:=s.ny.obj j _ ho;rw[n1] at o1;cases o1;cases hb:nm.base with
      |none=>
       rw[hb] at n5;have:=n5.1;simp only[aQ] at o4;omega
      |some ad=>
       rw[hb] at n5 o6;obtain⟨v,rm,g1,g2,a2,cap,g3,g4,g5,g6⟩:=n5;simp only[aQ] at o4;have ha2:a2=Addr.at_ ad (off*nm.sh.size):=by
        rcases g6 with g6|g6
        ·exact g6
        ·omega
       subst ha2;simp only[zdF] at g1;obtain⟨p1,⟨c,ty,fz,p2,p3,p4⟩,p5,p6⟩:=o6;obtain⟨z1,z2⟩:=Mb p2;have jG:(Go.convert src src (a.eval x)).run P w= .ok (a.eval x) (w.freeze ⟨ad.block,c.size,none⟩ 1):=by
        have yI:w.shape? ad.block=some (ty,c.size):=by unfold World.shape?;rw[p2]
        rw[g1,g3];rw[h1] at h2;cases h2;simp[Go.convert,run_underlying h1,run_underlying h3,markStringish,yI,Addr.at_]
       have zcx:kf st.h j (.row false (.int .u8) xs)=st.h:=by
        funext i
        simp only[kf];split
        ·rename_i e;subst e;exact ho.symm
        ·rfl
       have ua: ∀jj,aX (w.freeze ⟨ad.block,c.size,none⟩ 1) ad jj=aX w ad jj:=λjj=>by
        simp only[aX,World.cell?,z1,p2]
       obtain⟨W1,W2⟩:=s.ny.write (w':=w.freeze ⟨ad.block,c.size,none⟩ 1) (o':= .row false (.int .u8) xs) ho rfl n1 hb (by simp[World.freeze]) (by simp[World.freeze]) (by simp[World.freeze]) (by simp[World.freeze]) z2 (by
        refine⟨nm,n1,n2,o3,o4,o5,?_⟩;rw[hb];refine⟨p1,⟨c,ty,_,z1,p3,λOh=>?_⟩,p5,λi y hy=>?_⟩
        ·right
         refine⟨?_,rfl⟩;rcases(p4 Oh).imp_right And.left with e|e
         ·rw[e];simp
         ·obtain⟨lo,hi⟩:=fz
          simp only at e⊢;split
          ·exact zdV _
          ·simp only;omega
        ·have hD: ∀b,D b->(w.freeze ⟨ad.block,c.size,none⟩ 1).heap[b]?=w.heap[b]?:=λb vl=>z2 b λe=>by
          subst e;simp at p5;exact p5.2 vl
         have h9:=kt (Names.le_refl _) (λ_ h=>h) hD (.int .u8) y _ (p6 i y hy);have e:(λjj=>aX (w.freeze ⟨ad.block,c.size,none⟩ 1) ad (i*(Ty.int .u8).size+jj))=λjj=>aX w ad (i*(Ty.int .u8).size+jj):=by funext jj;exact ua _
         rw[e];exact h9)
       rw[zcx] at W1 W2;refine⟨N,D,_,a.eval x, .inl ?_,W2,W1,?_⟩
       ·simp only[execOp,zd0,jG,zd1,zd2]
       ·exact W2.val s.ny (by rw[<-hv];exact s.FJ x)
     ·cases h
    ·cases h
   ·cases h
  ·cases h
end AM
namespace AM
open Go
def part (h:Nat->Option fK)(F:Nat->Bool):Nat->Option fK:=λid=>if F id then h id else some .dead
def join (h h':Nat->Option fK)(W:Nat->Bool):Nat->Option fK:=λid=>if W id then h' id else h id
section
variable {N N':Names}{D D':Nat->Prop}{w w':World}{base:Nat}{h h':Nat->Option fK}{F W:Nat->Bool}
theorem z8 {id b:Nat}{o:fK}(e:AM.part h F id=some o)(hr:iP N id o b):F id=true/\h id=some o:=by
 unfold AM.part at e;split at e
 ·exact⟨‹_›,e⟩
 ·cases e;exact hr.elim
theorem DW {b:Nat}(ho:zi N (AM.part h F) b):zi N h b:=by
 obtain⟨id,o,h1,h2⟩:=ho;exact⟨id,o,(z8 h1 h2).2,h2⟩
theorem jU.part (S:jU N D w base h)(F:Nat->Bool):jU N D w base (AM.part h F):=by
 refine⟨λid o e=>?_,λi j oi oj b hi hj ri rj=>S.apart i j oi oj b (z8 hi ri).2 (z8 hj rj).2 ri rj,S.frozen,λid nm hn=>?_,S.size,λg hg=>?_⟩
 ·unfold AM.part at e
  split at e
  ·exact S.obj id o e
  ·cases e;trivial
 ·unfold AM.part
  split
  ·exact S.named id nm hn
  ·simp
 ·unfold AM.part at hg
  split at hg
  ·exact S.iG g hg
  ·cases hg
theorem Be (S:jU N D w base h){id b:Nat}{o:fK}(ho:h id=some o)(hr:iP N id o b)(hF:F id=false):
  ¬zi N (AM.part h F) b/\b<w.heap.size/\¬D b:=by
 refine⟨λhO=>?_,(S.pb ho hr).2.2,(S.pb ho hr).1⟩;obtain⟨id2,o2,h1,h2⟩:=hO;obtain⟨h6,h7⟩:=z8 h1 h2;have:=S.apart id id2 o o2 b ho h7 hr h2;subst this;rw[hF] at h6;cases h6
theorem jU.ub (S:jU N D w base h){id:Nat}{ep:List (Nat×aK)}{xs:List (cM ep)}(ho:h id=some (.store ep xs)):SB+(id-SB)=id:=by
 have:=S.obj id _ ho;simp only[qF,jc] at this;omega
theorem jU.join (S:jU N D w base h)(x:Ext N D w (AM.part h F) N' D' w' h')(S':jU N' D' w' base h')(hW: ∀id,W id=true->F id=true)(Ji: ∀id,F id=true->W id=false->h' id=AM.part h F id):
  jU N' D' w' base (AM.join h h' W)/\Ext N D w h N' D' w' (AM.join h h' W):=by
 have xk: ∀id,F id=true->AM.join h h' W id=h' id:=by
  intro id hF;unfold AM.join;cases hw:W id with
  |true=>simp
  |false=>rw[Ji id hF hw];simp[AM.part,hF]
 have jr: ∀id,F id=false->AM.join h h' W id=h id:=by
  intro id hF;unfold AM.join;cases hw:W id with
  |true=>rw[hW id hw] at hF;cases hF
  |false=>simp
 have vE: ∀id,F id=false->∀nm,N' id=some nm->N id=some nm:=by
  intro id hF nm hn;rcases x.fresh id nm hn with h1|h1
  ·exact h1
  ·unfold AM.part at h1;simp[hF] at h1
 have Mc: ∀id,F id=false->N' id=N id:=by
  intro id hF;cases e:N' id with
  |some nm=>exact(vE id hF nm e).symm
  |none=>
   cases e':N id with
   |none=>rfl
   |some nm=>rw[x.names id nm e'] at e;cases e
 have zX: ∀g,F (SB+g)=false->∀k,N'.sub g k=N.sub g k:=λg hF=>(x.pQ g (by simp[AM.part,hF])).2
 have hold: ∀id o b,F id=false->h id=some o->(iP N' id o b↔iP N id o b):=by
  intro id o b hF ho;by_cases kg: ∃ep xs,o= .store ep xs
  ·obtain⟨ep,xs,rfl⟩:=kg
   have e:=S.ub ho;exact iP.names (Mc id hF) (zX _ (by rw[e];exact hF))
  ·cases o with
   |dead=>exact Iff.rfl
   |void=>exact Iff.rfl
   |var v=>exact oh.eq (Mc id hF)
   |row ro t xs=>
    cases ro with
    |true=>exact Iff.rfl
    |false=>exact oh.eq (Mc id hF)
   |store ep xs=>exact absurd ⟨ep,xs,rfl⟩ kg
 have zaK: ∀b,b<w.heap.size->zi N' (AM.join h h' W) b->zi N h b:=by
  rintro b kQ ⟨id,o,h1,h2⟩
  cases hF:F id with
  |true=>
   rw[xk id hF] at h1;exact DW (x.own b kQ ⟨id,o,h1,h2⟩)
  |false=>
   rw[jr id hF] at h1;exact⟨id,o,h1,(hold id o b hF h1).1 h2⟩
 have HT:=x.JC (S.part F);refine⟨⟨λid o e=>?_,?_,S'.frozen,λid nm hn=>?_,S'.size,λg hg=>?_⟩,⟨x.names,x.frozen,x.os,x.tape,x.output,x.size,λb hb ho=>x.sU b hb (λmX=>ho (DW mX)),zaK,λb hb=>?_,λi nm hn=>?_,λi hi=>?_,λg hg=>?_⟩⟩
 ·cases hF:F id with
  |true=>rw[xk id hF] at e;exact S'.obj id o e
  |false=>
   rw[jr id hF] at e;refine nQ (S.obj id o e) x.names x.frozen HT (λb hO=>?_) (λep xs eo=>?_)
   ·obtain⟨g1,g2,g3⟩:=Be (F:=F) S e hO hF
    refine⟨x.sU _ g2 g1,λ_ hd=>?_⟩;rcases x.JB _ hd with h1|h1|h1
    ·exact g3 h1
    ·exact g1 h1
    ·omega
   ·subst eo
    have e':=S.ub e;exact zX _ (by rw[e'];exact hF)
 ·intro i j oi oj b hi hj ri rj
  cases YI:F i<;>cases YJ:F j
  ·rw[jr i YI] at hi
   rw[jr j YJ] at hj;exact S.apart i j oi oj b hi hj ((hold i oi b YI hi).1 ri) ((hold j oj b YJ hj).1 rj)
  ·exfalso
   rw[jr i YI] at hi;rw[xk j YJ] at hj;obtain⟨g1,g2,g3⟩:=Be (F:=F) S hi ((hold i oi b YI hi).1 ri) YI;exact g1 (x.own _ g2 ⟨j,oj,hj,rj⟩)
  ·exfalso
   rw[xk i YI] at hi;rw[jr j YJ] at hj;obtain⟨g1,g2,g3⟩:=Be (F:=F) S hj ((hold j oj b YJ hj).1 rj) YJ;exact g1 (x.own _ g2 ⟨i,oi,hi,ri⟩)
  ·rw[xk i YI] at hi
   rw[xk j YJ] at hj;exact S'.apart i j oi oj b hi hj ri rj
 ·cases hF:F id with
  |true=>rw[xk id hF];exact S'.named id nm hn
  |false=>rw[jr id hF];exact S.named id nm (vE id hF nm hn)
 ·cases hF:F (SB+g) with
  |true=>rw[xk _ hF] at hg;exact S'.iG g hg
  |false=>
   rw[jr _ hF] at hg;exact λk=>(zX g hF k).trans (S.iG g hg k)
 ·rcases x.JB b hb with h1|h1|h1
  ·exact .inl h1
  ·exact .inr (.inl (DW h1))
  ·exact .inr (.inr h1)
 ·rcases x.fresh i nm hn with h1|h1
  ·exact .inl h1
  ·right
   unfold AM.part at h1;split at h1
   ·exact h1
   ·cases h1
 ·cases hF:F i with
  |true=>
   rw[xk i hF] at hi;have:=x.live i hi;simpa [AM.part,hF] using this
  |false=>rw[jr i hF] at hi;exact hi
 ·cases hF:F (SB+g) with
  |true=>
   rw[xk _ hF];exact x.pQ g (by simp[AM.part,hF,hg])
  |false=>
   rw[jr _ hF];exact⟨hg,zX g hF⟩
end
end AM
namespace AM
open Go
variable {α:Type}{P:Program}{base:Nat}
def Bf:List AV->List (Nat×AV)->List AV->Prop
 |l,[],l'=>l'=l
 |l,(i,u)::ps,l'=>(∃v,l[i]?=some v/\u.size=v.size)/\Bf (l.set i u) ps l'
def Gw (N:Names)(D:Nat->Prop)(w:World):List (Nat×AV)->List (Nat×Value)->Prop
 | [],cs=>cs=[]
 |p::ps,cs=> ∃c tK,cs=(p.1,c)::tK/\c.cells.size=p.2.size/\ar N D w p.2 (c.cells[·]?)/\Gw N D w ps tK
theorem Gx (off:Nat): ∀(l:List Value) (k:Nat) (cells:Array Value),off+k+l.length<=cells.size->
  ((l.zipIdx k).foldl (λcs (c,j)=>cs.setIfInBounds (off+j) c) cells).size=cells.size/\
  ∀j,((l.zipIdx k).foldl (λcs (c,j)=>cs.setIfInBounds (off+j) c) cells)[j]?=if off+k<=j/\j<off+k+l.length then l[j-(off+k)]? else cells[j]?
 | [],k,cells,_=>⟨rfl,λj=>by simp;intro h1 h2;omega⟩
 |c::l,k,cells,h=>by
  simp only[List.zipIdx_cons,zeJ];simp only[zdJ] at h;obtain⟨h1,h2⟩:=Gx off l (k+1) (cells.setIfInBounds (off+k) c) (by simp;omega)
  refine⟨by rw[h1];simp,λj=>?_⟩
  rw[h2 j];by_cases e:j=off+k
  ·subst e
   rw[if_neg (by omega),if_pos (by simp)]
   simp[show off+k<cells.size by omega]
  ·by_cases e2:off+(k+1)<=j/\j<off+(k+1)+l.length
   ·rw[if_pos e2,if_pos (by simp only[zdJ];omega),show j-(off+k)=(j-(off+(k+1)))+1 by omega,zeL]
   ·rw[if_neg e2,if_neg (by simp only[zdJ];omega),Array.getElem?_setIfInBounds_ne (by omega)]
theorem Gy: ∀(l:List AV) (i:Nat) (v u:AV),l[i]?=some v->u.size=v.size->AV.dR (l.set i u)=AV.dR l/\(∀j,AV.dR ((l.set i u).take j)=AV.dR (l.take j))/\∀(j:Nat) (v':AV),(l.set i u)[j]?=some v'->∃v'',l[j]?=some v''/\v'.size=v''.size
 | [],i,v,u,h,_=>by simp at h
 |x::xs,0,v,u,h,e=>by
  simp at h;subst h;refine⟨by simp[AV.dR,e],λj=>?_,λj v' hj=>?_⟩
  ·cases j<;>simp[AV.dR,e]
  ·cases j with
   |zero=>simp at hj;subst hj;exact⟨x,rfl,e⟩
   |succ j=>exact⟨v',by simpa using hj,rfl⟩
 |x::xs,i+1,v,u,h,e=>by
  obtain⟨h1,h2,h3⟩:=Gy xs i v u (by simpa using h) e
  refine⟨by simp[AV.dR,h1],λj=>?_,λj v' hj=>?_⟩
  ·cases j with
   |zero=>simp[AV.dR]
   |succ j=>simp[AV.dR,h2 j]
  ·cases j with
   |zero=>simp at hj;subst hj;exact⟨x,rfl,rfl⟩
   |succ j=>simpa using h3 j v' (by simpa using hj)
theorem wE {N:Names}{D:Nat->Prop}{w:World}{place:Nat->Option (Nat×Nat)}: ∀(ps:List (Nat×AV)) (l l':List AV) (cs:List (Nat×Value)) (cells:Array Value),Bf l ps l'->Gw N D w ps cs->cells.size=AV.dR l->fg N D w l (cells[·]?)->
  (∀(i:Nat) (v:AV),l[i]?=some v->place i=some (AV.dR (l.take i),v.size))->∃lv,Instr.fill place cells cs=some lv/\lv.size=AV.dR l'/\AV.dR l'=AV.dR l/\fg N D w l' (lv[·]?)
 | [],l,l',cs,cells,hf,hp,hs,hr,hpl=>by
  simp only[Bf] at hf;simp only[Gw] at hp;subst hf;subst hp;exact⟨cells,rfl,hs,rfl,hr⟩
 |(i,u)::ps,l,l',cs,cells,hf,hp,hs,hr,hpl=>by
  obtain⟨⟨v,hv,hu⟩,hf⟩:=hf;obtain⟨c,tK,rfl,hc,hrc,hp⟩:=hp;simp only at hc hrc;have hle:=uZ l i v hv;obtain⟨p1,p2⟩:=Gx (AV.dR (l.take i)) c.cells.toList 0 cells (by simp;omega)
  obtain⟨q1,q2,q3⟩:=Gy l i v u hv hu;have hz:c.cells.zipIdx.foldl (λcs (c,j)=>cs.setIfInBounds (AV.dR (l.take i)+j) c) cells=(c.cells.toList.zipIdx 0).foldl (λcs (c,j)=>cs.setIfInBounds (AV.dR (l.take i)+j) c) cells:=by
   rw[<-Array.foldl_toList,Array.toList_zipIdx]
  obtain⟨lv,r1,r2,r3,r4⟩:=wE (place:=place) ps (l.set i u) l' tK ((c.cells.toList.zipIdx 0).foldl (λcs (c,j)=>cs.setIfInBounds (AV.dR (l.take i)+j) c) cells) hf hp (by rw[p1,hs,q1]) (by
   refine zj l i v u (cells[·]?) _ hv hu hr (λj hj=>?_) (jN u _ _ (λj hj=>?_) hrc)
   ·simp only[p2]
    rw[if_neg (by simp only[Array.length_toList];omega)]
   ·simp only[p2]
    rw[if_pos (by simp only[Array.length_toList];omega)]
    simp) (λj v' hj=>by
   obtain⟨v'',g1,g2⟩:=q3 j v' hj;rw[hpl j v'' g1,q2 j,g2])
  refine⟨lv,?_,r2,r3.trans q1,r4⟩;unfold Instr.fill;rw[hpl i v hv];simp only;rw[if_neg (by simp only[zeM,zdN,not_or];constructor<;>omega),hz]
  exact r1
theorem HU {v u:AV}(h:v.lh u=true):u.size=v.size:=by rw[<-kN,<-wv v u h,kN]
theorem Aa: ∀(ps:List (Nat×AV)) (l l':List AV),zL l ps=some l'->Bf l ps l'/\∀p∈ps,p.2.nw=true
 | [],l,l',h=>by
  simp only[zL,zdF] at h;exact⟨h.symm,λp hp=>by simp at hp⟩
 |(i,u)::ps,l,l',h=>by
  simp only[zL] at h;split at h
  ·rename_i v hv
   split at h
   ·rename_i hs
    simp only[zdH] at hs;obtain⟨h1,h2⟩:=Aa ps _ l' h;exact⟨⟨⟨v,hv,HU hs.1⟩,h1⟩,List.forall_mem_cons.2 ⟨hs.2,h2⟩⟩
   ·cases h
  ·cases h
theorem B5 {sz:Nat}: ∀(ps:List (Nat×AV)) (l l':List AV),(∀v∈l,v.size=sz)->Dy sz l ps=some l'->Bf l ps l'/\(∀p∈ps,p.2.nw=true)/\l'.length=l.length/\(∀v∈l',v.size=sz)
 | [],l,l',hl,h=>by
  simp only[Dy,zdF] at h;subst h;exact⟨rfl,(λp hp=>by simp at hp),rfl,hl⟩
 |(i,u)::ps,l,l',hl,h=>by
  simp only[Dy] at h;split at h
  ·rename_i hs
   simp only[zdH,zdN] at hs;obtain⟨h1,h2,h3,h4⟩:=B5 ps _ l' (λv hv=>by
    rcases zeN hv with hv|rfl
    ·exact hl v hv
    ·exact hs.2) h
   refine⟨⟨⟨l[i]'hs.1.1,zdE _,?_⟩,h1⟩,List.forall_mem_cons.2 ⟨hs.1.2,h2⟩,by rw[h3];simp,h4⟩
   exact hs.2.trans (hl _ (zeO _)).symm
  ·cases h
theorem Ab {N:Names}{D:Nat->Prop}{w:World}{st:St}{a:Act}(s:kp N D w base st a): ∀(ps:List (Nat×Operand)),(∀p∈ps,(st.ev p.2).nw=true)->Gw N D w (ps.map λp=>(p.1,st.ev p.2)) (ps.map λp=>(p.1,a.eval p.2))
 | [],_=>rfl
 |p::ps,h=>by
  obtain⟨h1,h2,_⟩:=tX (h p (zdM ..)) (s.FJ p.2);exact⟨_,_,rfl,h1,h2,Ab s ps λp hp=>h p (zdL _ hp)⟩
theorem xU {N:Names}{D:Nat->Prop}{w:World}{t:Ty}: ∀(xs:List t.den) (g:Nat->Option Value),fg N D w (xs.map (enc t)) g↔dX N D w t xs g
 | [],g=>by simp only[List.map_nil,fg,true_iff];exact dX.nil
 |x::xs,g=>by
  simp only[zex,fg];rw[kH,xU xs,nF];constructor
  ·rintro⟨h1,h2⟩ i y hy
   cases i with
   |zero=>
    simp only[jT,zeb,zdF] at hy;subst hy;exact iw.func h1 λj=>by simp
   |succ i=>
    exact iw.func (h2 i y (by simpa [jT] using hy)) λj=>congrArg g (by rw[zdT];omega)
  ·intro h
   refine⟨iw.func (h 0 x rfl) λj=>by simp,λi y hy=>?_⟩
   exact iw.func (h (i+1) y (by simpa [jT] using hy)) λj=>congrArg g (by rw[zdT];omega)
theorem wF {t:Ty}: ∀(xs:List t.den),AV.dR (xs.map (enc t))=xs.length*t.size
 | []=>by simp[AV.dR]
 |x::xs=>by simp only[zex,AV.dR,nF,wF xs,zdJ,zdT];omega
theorem Ac {s:St}{t:Ty}: ∀(ps:List (Nat×AV)) (xs:List t.den) (k:List t.den->Option α) (r:α),C4 s t xs ps k=some r->
  ∃B4 us,k B4=some r/\Bf (xs.map (enc t)) us (B4.map (enc t))/\B4.length=xs.length/\(∀p∈ps,p.2.nw=true)/\∀N D w base,jU N D w base s.h->∀cs,Gw N D w ps cs->Gw N D w us cs
 | [],xs,k,r,h=>⟨xs,[],h,rfl,rfl,(λp hp=>by simp at hp),λ_ _ _ _ _ cs hp=>hp⟩
 |(i,u)::ps,xs,k,r,h=>by
  simp only[C4] at h;obtain⟨hsz,x,ids,h1,h2⟩:=mO t u _ r h;split at h1
  ·split at h1
   ·rename_i hi
    simp only[zdH,zdN] at hi;obtain⟨B4,us,g1,g2,g3,g4,g5⟩:=Ac ps _ k r h1;refine⟨B4,(i,enc t x)::us,g1,⟨⟨enc t (xs[i]'hi.1),by simp[hi.1],by rw[nF,nF]⟩,by rw[<-List.map_set];exact g2⟩,by rw[g3];simp,List.forall_mem_cons.2 ⟨hi.2,g4⟩,λN D w base S cs hp=>?_⟩
    obtain⟨c,tK,rfl,c1,c2,c3⟩:=hp;exact⟨c,tK,rfl,by rw[c1,nF,hsz],(kH t x _).2 (h2 N D w base S _ c2 D (λ_ h=>h) (by intro q hq;simp at hq)),g5 N D w base S tK c3⟩
   ·cases h1
  ·cases h1
theorem xV: ∀(fl:List Field) (off:Nat) (fs:List AV),tH P fl off fs=true->∃Bg,fl.mapM (λf=>(P.info? f.type).map λi=>(f.offset,i.size))=some Bg/\∀(i:Nat) (v:AV),fs[i]?=some v->Bg[i]?=some (off+AV.dR (fs.take i),v.size)
 | [],off,[],_=>⟨[],rfl,λi v h=>by simp at h⟩
 |f::fl,off,v::vs,h=>by
  simp only[tH,zdH,zdN] at h;obtain⟨⟨⟨h1,h2⟩,h3⟩,h4⟩:=h;obtain⟨Bg,g1,g2⟩:=xV fl _ vs h4;obtain⟨i,hi⟩:=Option.isSome_iff_exists.1 h3;have hsz:i.size=v.size:=by rw[<-h2];simp[Program.cellsOf,hi]
  refine⟨(f.offset,i.size)::Bg,by simp[List.mapM_cons,hi,g1],λj u hj=>?_⟩
  cases j with
  |zero=>simp at hj;subst hj;simp[AV.dR,h1,hsz]
  |succ j=>
   simp only[zeL] at hj⊢;rw[g2 j u hj];simp[AV.dR,zdU]
 | [],_,_::_,h=>by simp[tH] at h
 |_::_,_,[],h=>by simp[tH] at h
theorem Md {dst ty pos after guard}{t:TypeId}{parts:Array (Nat×Operand)}{st:St}{k:AV->St->Option α}{r:α}(h:Hv P st t (parts.toList.map λp=>(p.1,st.ev p.2)) k=some r):nW P base ⟨dst, .build t parts,ty,pos,after,guard⟩ st k r:=by
 unfold Hv at h;obtain⟨v,i,z,h,hi,hz,_,_,g1,g2⟩:=rU h;split at h
 ·rename_i fl fs hu _ _
  split at h
  ·rename_i la
   split at h
   ·rename_i fs' zaL
    obtain⟨h1,h2⟩:=Aa _ _ _ zaL;obtain⟨Bg,p1,p2⟩:=xV _ _ _ la;refine⟨_,_,h,ll.pure λN D w a s=>?_⟩;have hp:=Ab s parts.toList λp hp=>h2 (p.1,st.ev p.2) (List.mem_map_of_mem hp);obtain⟨lv,r1,r2,r3,r4⟩:=wE _ _ _ _ z.cells h1 hp g1 (by have:=g2 N D w;simpa only[ar] using this) (place:=(Bg.toArray[·]?)) λj u hj=>by simp only[List.getElem?_toArray];rw[p2 j u hj,zep]
    refine⟨.agg lv,?_,xH.2 ⟨lv,rfl,r2,r4⟩⟩;have hb:P.built t (parts.map λp=>(p.1,a.eval p.2)).toList=some lv:=by
     simp only[Program.built,hi,hu,hz,p1,Array.toList_map];exact r1
    simp only[execOp,zd0,run_build w t _ lv hb,zd1,zd2]
   ·cases h
  ·cases h
 ·rename_i m e n te xs hu _ _
  split at h
  ·rename_i hc
   simp only[zdH,zdN] at hc;obtain⟨⟨rfl,PQ⟩,hie⟩:=hc;obtain⟨ie,hie⟩:=Option.isSome_iff_exists.1 hie;have zcy:ie.size=te.size:=by rw[<-PQ];simp[Program.cellsOf,hie]
   obtain⟨B4,us,q1,q2,q3,q4,q5⟩:=Ac _ _ _ _ h;refine⟨_,_,q1,ll.pure λN D w a s=>?_⟩;have hp:=q5 N D w base s.ny _ (Ab s parts.toList λp hp=>q4 (p.1,st.ev p.2) (List.mem_map_of_mem hp));have R7:=g2 N D w;simp only[ar,iw] at R7;have hlen:List.length (α:=te.den) xs=m:=R7.1;obtain⟨lv,r1,r2,r3,r4⟩:=wE _ _ _ _ z.cells q2 hp (by rw[g1,wF,hlen];rfl) ((xU xs _).2 R7.2) (place:=λi=>some (i*ie.size,ie.size)) λj u hj=>by
    rw[zeG] at hj;obtain⟨y,hy,rfl⟩:=Option.map_eq_some_iff.1 hj;have hjl:=(List.getElem?_eq_some_iff.1 hy).1;rw[<-List.map_take,wF,nF,zcy,zd3,zeD (by omega)]
   refine⟨.agg lv,?_,vr.2 ⟨lv,rfl,?_,?_⟩⟩
   ·have hb:P.built t (parts.map λp=>(p.1,a.eval p.2)).toList=some lv:=by
     simp only[Program.built,hi,hu,hz,hie,Array.toList_map];exact r1
    simp only[execOp,zd0,run_build w t _ lv hb,zd1,zd2]
   ·rw[r2,wF,q3,hlen]
   ·exact⟨by show List.length (α:=te.den) B4=m;rw[q3,hlen],(xU B4 _).1 r4⟩
  ·cases h
 ·cases h
theorem B6: ∀(ids:List Nat) (s s':St),s.freeze ids=some s'->∀j,j∉ids->s'.h j=s.h j
 | [],s,s',h,j,_=>by simp only[St.freeze,zdF] at h;subst h;rfl
 |i::l,s,s',h,j,hj=>by
  simp only[St.freeze] at h;simp only[zek,not_or] at hj;split at h
  ·rw[B6 l _ s' h j hj.2]
   simp[St.set,hj.1]
  ·cases h
theorem B7 {s:St}{t:Ty}: ∀(l:List AV) (k:List t.den->List Nat->Option α) (r:α),elems s t l k=some r->
  ∃xs ids,k xs ids=some r/\xs.length=l.length/\∀N D w base,jU N D w base s.h->∀D',(∀b,D b->D' b)->lq N D' ids->∀g,fg N D w l g->dX N D' w t xs g
 | [],k,r,h=>⟨[],[],h,rfl,λN D w base S D' _ _ g _=>dX.nil⟩
 |v::vs,k,r,h=>by
  simp only[elems] at h;obtain⟨hsz,x,ids,h1,h2⟩:=mO t v _ r h;obtain⟨xs,Yw,h3,h4,h5⟩:=B7 vs _ r h1;refine⟨x::xs,ids++Yw,h3,by simp[h4],λN D w base S D' hD hF g hg=>?_⟩
  simp only[fg] at hg;have a1:=h2 N D w base S g hg.1 D' hD hF.left;have a2:=h5 N D w base S D' hD hF.right _ hg.2;intro i y hy;cases i with
  |zero=>
   simp only[jT,zeb,zdF] at hy;subst hy;exact iw.func a1 λj=>by simp
  |succ i=>
   exact iw.func (a2 i y (by simpa [jT] using hy)) λj=>congrArg g (by rw[hsz,zdT];omega)
theorem vF {N:Names}{D:Nat->Prop}{w:World}{v:AV}{z:Array Value}(hz:z.size=v.size)(hr:ar N D w v (z[·]?)): ∀(n:Nat) (g:Nat->Option Value),(∀j,j<n*v.size->g j=z[j%v.size]?)->fg N D w (List.replicate n v) g
 |0,g,_=>by simp only[zeP,fg]
 |n+1,g,hg=>by
  simp only[zem,fg];refine⟨jN v _ _ (λj hj=>?_) hr,vF hz hr n _ λj hj=>?_⟩
  ·rw[hg j (by rw[zdT];omega),Nat.mod_eq_of_lt hj]
  ·rw[hg (v.size+j) (by rw[zdT];omega),Nat.add_mod_left]
theorem qn (v:AV): ∀n,AV.dR (List.replicate n v)=n*v.size
 |0=>by simp[AV.dR]
 |n+1=>by simp only[zem,AV.dR,qn v n,zdT];omega
theorem CG {dst ty pos after guard}{t:TypeId}{len:Nat}{parts:Array (Nat×Operand)}{st:St}{id:Nat}(pQ:id=name st.ep (dst.getD 999) 0){k:AV->St->Option α}{r:α}(h:wi P st id t len (parts.toList.map λp=>(p.1,st.ev p.2)) k=some r):nW P base ⟨dst, .buildSlice t len parts,ty,pos,after,guard⟩ st k r:=by
 unfold wi at h;split at h
 ·rename_i e te he
  obtain⟨hu,Oc,hsz,hb,i,hi,vB,R0,_⟩:=qw he;obtain⟨v,i',z,h,nb,hz,YF,zn,uC,hzr⟩:=rU h;rw[hi] at nb;cases nb;have zcz:z.cells.size=te.size:=by
   have:=tL 12 e te v Oc YF;rw[<-zn] at this;rw[<-mZ te,<-this];simp
  have hvs:v.size=te.size:=by rw[<-uC,zcz]
  split at h
  ·cases h
  ·rename_i l uD
   obtain⟨f1,f2,f3,f4⟩:=B5 _ _ _ (λu hu=>by rw[List.eq_of_mem_replicate hu,hvs]) uD
   have ua: ∀N D w a,kp N D w base st a->∃lv,Instr.fill (λi'=>some (i'*i.size,i.size)) ((Array.range (len*i.size)).map (z.cells[·%z.cells.size]!)) (parts.toList.map λp=>(p.1,a.eval p.2))=some lv/\lv.size=AV.dR l/\AV.dR l=AV.dR (List.replicate len v)/\fg N D w l (lv[·]?):=by
    intro N D w a s;have hp:=Ab s parts.toList λp hp=>f2 (p.1,st.ev p.2) (List.mem_map_of_mem hp);refine wE _ _ _ _ _ f1 hp (by rw[qn,hvs,vB];simp) (vF uC (hzr N D w) len _ λj hj=>?_) λq u hq=>?_
    ·have hp0:0<v.size:=by
      rcases zdZ v.size with q|q
      ·rw[q] at hj;omega
      ·exact q
     have hm:j%v.size<z.cells.size:=by rw[uC];exact Nat.mod_lt _ hp0
     rw[hvs,<-vB] at hj;simp only[Array.getElem?_map,Array.getElem?_range,hj,if_true,zdO];rw[uC,getElem!_pos z.cells _ hm,zei hm]
    ·have hql:=(List.getElem?_eq_some_iff.1 hq).1
     have hu':=List.eq_of_mem_replicate (zeB hq);subst hu';rw[List.take_replicate,qn,zeD (by simp at hql;omega),hvs,vB]
   have zaM:Hw st id len te.size l k=some r->nW P base ⟨dst, .buildSlice t len parts,ty,pos,after,guard⟩ st k r:=by
    intro h1;unfold Hw at h1;split at h1;rotate_left
    ·cases h1
    rename_i HV;simp only[zdN] at HV;obtain⟨Vm,_⟩:=HV;have vG:st.h id=none:=by
     unfold St.new at h1;split at h1
     ·assumption
     ·cases h1
    have uD:st.new id (.var (.agg l)) (λs=>some s)=some (st.set id (.var (.agg l))):=by unfold St.new;rw[vG]
    have g1:k (.ux id len) (st.set id (.var (.agg l)))=some r:=by unfold St.new at h1;rw[vG] at h1;exact h1
    obtain⟨s',q0,g2,g3,g4,Ji,g5⟩:=HN uD;simp only[zdF] at q0;subst q0;refine⟨_,_,g1,g2,g3,g4,λj _ hn=>Ji j (λe=>by subst e;subst pQ;simp[qD,makes,rq] at hn),λN D w a s=>?_⟩
    obtain⟨lv,r1,r2,r3,r4⟩:=ua N D w a s;obtain⟨N',n1,n2,n3⟩:=g5 N D w base s.ny lv e (by simpa [AV.size] using r2) (by simp only[ar];exact r4)
    refine⟨N',D,_, .slice (some ⟨w.heap.size,0,none⟩) len len, .inl ?_,n2,n1,?_⟩
    ·have hpm:(parts.map λp=>(p.1,a.eval p.2)).toList=parts.toList.map λp=>(p.1,a.eval p.2):=by simp
     have:=run_buildSlice (P:=P) w t e len (parts.map λp=>(p.1,a.eval p.2)) lv i z hu hi hz (by rw[vB];omega) (by rw[vB];omega) (by rw[hpm];exact r1)
     simp only[execOp,zd0,this,zd1,zd2]
    ·unfold ck at n3⊢
     simp only[AV.isAgg,jv,ar] at n3⊢;obtain⟨nm,ad,o,q1,q2,q3,q4⟩:=n3;have FA:nm.row=false:=by
      cases hr:nm.row with
      |false=>rfl
      |true=>simp[Nm.off,hr] at q3
     simp only[Nm.off,FA,fE,zdG,if_false,zdF] at q3;subst q3;refine⟨nm,ad,q1,q2,FA,?_⟩;simp only[zdF,Value.pointer.injEq,Addr.at_,zez,Addr.mk.injEq] at q4;obtain⟨q5,q6,_⟩:=q4;have FB:ad.spot=none:=by
      obtain⟨mM,ad',e1,e2,_,_,e5,_⟩:=n1.obj id (.var (.agg l)) (by simp[St.set])
      rw[q1] at e1;cases e1;rw[q2] at e2;cases e2;exact e5
     obtain⟨b,off,sp⟩:=ad;simp only at q5 q6 FB;rw[q5,q6,FB]
   split at h
   ·exact zaM h
   obtain⟨xs,ids,h1,XD,mN⟩:=B7 _ _ _ h;split at h1;rotate_left
   ·exact zaM h1
   ·rename_i s1 zdp
    split at h1;rotate_left
    ·cases h1
    rename_i s1 hfz;obtain⟨z1,z2,z3,z4⟩:=wA _ _ _ hfz;split at h1
    ·rename_i HV
     simp only[zdH,zdN,zej,zeQ] at HV;obtain⟨s',g1,g2,g3,g4,Ji,g5⟩:=Oe h1;refine⟨_,_,g1,by rw[g2,z1],by rw[g3,z2],by rw[g4,z3],λj hj hn=>?_,λN D w a s=>?_⟩
     ·rw[Ji j (λe=>by subst e;subst pQ;simp[qD,makes,rq] at hn)]
      refine B6 _ _ _ hfz j λBZ=>hj ?_;have:=HV.2 j BZ;simp only[NX];rw[List.flatMap_map] at this;exact this
     ·obtain⟨D1,y1,y2,y3,y4⟩:=z4 N D w base s.ny
      have hlen:List.length (α:=te.den) xs=len:=by rw[XD,f3];simp
      obtain⟨lv,r1,r2,r3,r4⟩:=ua N D w a s;have yK:lv.size=len*te.size:=by rw[r2,r3,qn,hvs]
      obtain⟨N',n1,n2,n3⟩:=g5 N D1 w base y3 w lv e (0,0) len rfl rfl rfl rfl (by show List.length (α:=te.den) xs<=len;omega) (by omega) (.inl rfl) (mN N D w base s.ny D1 y1 y2 _ r4)
      refine⟨N',D1,_,_, .inl ?_,y4.trans n2,n1,n3⟩;have hpm:(parts.map λp=>(p.1,a.eval p.2)).toList=parts.toList.map λp=>(p.1,a.eval p.2):=by simp
      have PM:aQ (β:=te.den) xs=len:=hlen;rw[PM];by_cases Vm:len*i.size=0
      ·have ox:Instr.fill (λi'=>some (i'*i.size,i.size)) #[] (parts.toList.map λp=>(p.1,a.eval p.2))=some lv:=by
        rw[<-r1];congr 1;rw[Vm];simp
       simp only[execOp,zd0];have PQ:P.cellsOf e=i.size:=by rw[vB,hsz]
       simp only[Instr.buildSlice,zd0,run_underlying hu,zd1,run_sizeOf w hi,PQ,Vm,Nat.not_lt_zero,gt_iff_lt,if_false,if_true,zd2];have he0:(Array.range 0).map ((#[]:Array Value)[·% (#[]:Array Value).size]!)= #[]:=by simp
       have hpe:(parts.map λx=>(x.1,a.eval x.2)).toList=parts.toList.map λp=>(p.1,a.eval p.2):=by simp
       rw[he0,hpe,ox];simp[newRow]
      ·have:=run_buildSlice (P:=P) w t e len (parts.map λp=>(p.1,a.eval p.2)) lv i z hu hi hz (by rw[vB];omega) Vm (by rw[hpm];exact r1)
       simp only[execOp,zd0,this,zd1,zd2]
    ·cases h1
 ·cases h
end AM
namespace AM
open Go
variable {α:Type}{P:Program}{base:Nat}
theorem R8 {e:TypeId}{k:IntKind}(h:vo P 12 e=some (.int k)):P.underlying e=some (.int k):=by
 unfold vo at h;split at h
 ·rename_i k' hu
  simp only[zdF,Ty.int.injEq] at h;rw[hu,h]
 ·simp at h
 ·simp at h
 ·rename_i fs hu
  exfalso
  cases hl:fs.toList with
  |nil=>rw[hl] at h;simp at h
  |cons f fl=>
   rw[hl] at h;simp only[zev] at h;split at h<;>simp at h
 ·simp only[zew] at h
  obtain⟨_,_,h⟩:=h;cases h
 ·simp only[zew] at h
  obtain⟨_,_,h⟩:=h;cases h
 ·simp at h
 ·cases h
theorem B8 {e:TypeId}{k:IntKind}(hu:P.underlying e=some (.int k))(hf: ∀x:Int,sx P e (enc (.int k) x)=true)(hc:P.cellsOf e=1){D:Nat}(hD:1<=D){w:World}{cx cy:Array Value}: ∀(xs ys:List Int) (s:Nat),xs.length=ys.length->(∀i x,xs[i]?=some x->cx[s+i]?=some (.int k x))->(∀i y,ys[i]?=some y->cy[s+i]?=some (.int k y))->
  (Op.eqItems D e (P.cellsOf e) cx cy (List.range' s xs.length)).run P w= .ok ((xs.zip ys).all λp=>ak p.1 p.2) w
 | [],ys,s,hl,_,_=>by simp[Op.eqItems]
 |x::xs,[],s,hl,_,_=>by simp at hl
 |x::xs,y::ys,s,hl,hx,hy=>by
  obtain⟨D',rfl⟩: ∃D',D=D'+1:=⟨D-1,by omega⟩
  have hpx:(Go.part e cx (s*1)).run P w= .ok (.int k x) w:=by
   obtain⟨c,h1,h2⟩:=tY (P:=P) (N:=Names.nil) (D:=λ_=>False) (w:=w) (cs:=cx) (off:=s*1) (hf x) (by
    have:=hx 0 x rfl;simp only[enc,ar];rw[zeI,<-this])
   have:c= .int k x:=by simpa [enc] using dY.1 h2
   rw[h1,this]
  have hpy:(Go.part e cy (s*1)).run P w= .ok (.int k y) w:=by
   obtain⟨c,h1,h2⟩:=tY (P:=P) (N:=Names.nil) (D:=λ_=>False) (w:=w) (cs:=cy) (off:=s*1) (hf y) (by
    have:=hy 0 y rfl;simp only[enc,ar];rw[zeI,<-this])
   have:c= .int k y:=by simpa [enc] using dY.1 h2
   rw[h1,this]
  have ih:=B8 hu hf hc hD (w:=w) (cx:=cx) (cy:=cy) xs ys (s+1) (by simpa using hl) (λi z hz=>by rw[show s+1+i=s+(i+1) by omega];exact hx (i+1) z (by simpa using hz)) (λi z hz=>by rw[show s+1+i=s+(i+1) by omega];exact hy (i+1) z (by simpa using hz))
  rw[hc] at ih⊢;simp only[zdJ,List.range'_succ,Op.eqItems,zd0,hpx,hpy,zd1,run_equalIn_int w D' e k k x y hu,List.zip_cons_cons,List.all_cons];have hxy:(x==y)=ak x y:=by simp only[ak,kM];rfl
  rw[hxy];cases ak x y with
  |false=>simp
  |true=>simpa using ih
def XE (P:Program)(d:Nat):Prop:= ∀(t:TypeId) (x y:AV) (b:Bool),UN P d t x y=some b->∀D,d<=D->∀N Dd w vx vy,ck N Dd w x vx->ck N Dd w y vy->(Op.equalIn D t vx vy).run P w= .ok b w
theorem R9 {d:Nat}(hA:XE P d): ∀(fs:List Field) (off:Nat) (xs ys:List AV) (b:Bool),UN.LA P d fs off xs ys=some b->∀D,d<=D->∀N Dd w (cx cy:Array Value),fg N Dd w xs (λj=>cx[off+j]?)->fg N Dd w ys (λj=>cy[off+j]?)->(Op.eqFields D cx cy fs).run P w= .ok b w:=by
 intro fs;induction fs with
 |nil=>
  intro off xs ys b h D hD N Dd w cx cy hx hy;cases xs<;>cases ys<;>simp[UN.LA] at h
  subst h;simp[Op.eqFields]
 |cons f fs ih=>
  intro off xs ys b h D hD N Dd w cx cy hx hy;cases xs with
  |nil=>simp[UN.LA] at h
  |cons x xs=>
   cases ys with
   |nil=>simp[UN.LA] at h
   |cons y ys=>
    simp only[UN.LA] at h;split at h
    ·cases h
    ·rename_i hn
     simp only[not_or,Decidable.not_not] at hn;split at h
     ·cases h
     ·rename_i la
      simp only[zdH,zdN] at la;split at h
      ·rename_i a b' ha hb
       cases h;simp only[fg] at hx hy;obtain⟨c1,p1,v1⟩:=tY (P:=P) (N:=N) (D:=Dd) (w:=w) (cs:=cx) (off:=off) la.1.1 hx.1;obtain⟨c2,p2,v2⟩:=tY (P:=P) (N:=N) (D:=Dd) (w:=w) (cs:=cy) (off:=off) la.1.2 hy.1;have h1:=hA f.type x y a ha D hD N Dd w c1 c2 v1 v2;have h2:=ih (off+x.size) xs ys b' hb D hD N Dd w cx cy (by have:=hx.2;simpa only[zdU] using this) (by have:=hy.2;rw[<-la.2] at this;simpa only[zdU] using this)
       simp only[Op.eqFields,hn.1,ne_eq,not_false_eq_true,if_true,zd0,hn.2,p1,p2,zd1,h1];cases a with
       |false=>simp
       |true=>simpa using h2
      ·cases h
theorem Oi: ∀d:Nat,XE P d
 |0=>λt x y b h=>by simp[UN] at h
 |d+1=>by
  intro t x y b h D hD N Dd w vx vy hx hy;obtain⟨D',rfl⟩: ∃D',D=D'+1:=⟨D-1,by omega⟩
  unfold UN at h;split at h
  ·rename_i k ka a kb c hu
   split at h
   ·rename_i hk
    obtain⟨rfl,rfl⟩:=hk;cases h;rw[dY.1 hx,dY.1 hy,run_equalIn_int w D' t _ _ a c hu];simp only[ak,kM];rfl
   ·cases h
  ·rename_i a c hu
   cases h;rw[dY.1 hx,dY.1 hy,run_equalIn_bool' w D' t a c hu];rfl
  ·rename_i a c hu
   cases h;rw[dY.1 hx,dY.1 hy,run_equalIn_string w D' t a c hu];rfl
  ·rename_i fs xs ys hu
   split at h
   ·cases h
   ·rename_i kg
    obtain⟨cx,rfl,_,hcx⟩:=xH.1 hx;obtain⟨cy,rfl,_,hcy⟩:=xH.1 hy;have hfo:P.fieldsOf t=fs:=by simp[Program.fieldsOf,hu]
    rw[run_equalIn_struct w D' t cx cy (by rw[hfo];exact hu) kg,hfo]
    exact R9 (Oi d) fs.toList 0 xs ys b h D' (by omega) N Dd w cx cy (by simpa using hcx) (by simpa using hcy)
  ·rename_i n e m t' xs m' t'' ys hu
   split at h
   ·rename_i te ys' Oc xW
    obtain⟨rfl,rfl⟩:=iV xW;split at h
    ·rename_i hc
     obtain⟨rfl,rfl,rfl,hint,hd,PQ,hie⟩:=hc;cases h;obtain⟨cx,rfl,_,hcx⟩:=vr.1 hx;obtain⟨cy,rfl,_,hcy⟩:=vr.1 hy;obtain⟨i,hi⟩:=Option.isSome_iff_exists.1 hie;rw[run_equalIn_array w D' cx cy hu hi];cases te with
     |int k=>
      have h1:List.length (α:=Int) xs=m':=hcx.1;have h2:List.length (α:=Int) ys'=m':=hcy.1;have:=B8 (P:=P) (e:=e) (k:=k) (D:=D') (w:=w) (cx:=cx) (cy:=cy) (R8 Oc) (λx=>DR Oc (by rw[PQ];rfl) x) PQ (by omega) xs ys' 0 (by rw[h1,h2]) (λi x hx=>by
       have:=hcx.2 i x hx;simp only[iw,Ty.size,zeI,zez] at this;rw[zep];exact this) (λi x hx=>by
       have:=hcy.2 i x hx;simp only[iw,Ty.size,zeI,zez] at this;rw[zep];exact this)
      rw[h1] at this;rw[List.range_eq_range'];exact this
     |_=>simp[NU] at hint
    ·cases h
   ·cases h
  ·cases h
theorem PR {op:BinOp}{t:TypeId}{x y:Operand}{st:St}{b:Bool}(h:Ve P t (st.ev x) (st.ev y)=some b): ∀N D w a,kp N D w base st a->(op= .eql\/op= .neq)->(do eqGuard op t x y (a.eval x) (a.eval y);Go.binOp op t (a.eval x) (a.eval y):Sem Value).run P w= .ok (.bool (zV op b)) w:=by
 intro N D w a s uN;unfold Ve at h;split at h
 ·rename_i Fz
  simp only[zdH] at Fz;obtain⟨Fz,zcA⟩:=Fz;split at h
  ·cases h
  ·rename_i hg
   have hx:=s.FJ x;have hy:=s.FJ y;have jG:=Oi (P:=P) 12 t _ _ b h 10000 (by omega) N D w _ _ hx hy
   have hvx: ∃cx,a.eval x= .agg cx:=by
    unfold ck at hx;rw[Fz] at hx;obtain⟨c,h1,_⟩:=hx;exact⟨c,h1⟩
   have hvy: ∃cy,a.eval y= .agg cy:=by
    unfold ck at hy;rw[zcA] at hy;obtain⟨c,h1,_⟩:=hy;exact⟨c,h1⟩
   obtain⟨cx,ex⟩:=hvx;obtain⟨cy,ey⟩:=hvy;rw[ex,ey] at jG⊢;rw[zd0,run_eqGuard_agg w op t x y cx cy hg,zd1];rcases uN with rfl|rfl
   ·rw[run_eql_struct w t cx cy,jG];rfl
   ·rw[run_neq_struct w t cx cy,jG];rfl
 ·cases h
end AM
namespace AM
open Go
variable {α:Type}{P:Program}{base:Nat}
theorem RY.first {N:Names}{w:World}{t:Ty}{ys:List t.den}{D:Nat->Prop}{c:Value}(h:RY N D w t ys c){n:Nat}(hn:n<=aQ (β:=t.den) ys): ∃cs:List Value,cs.length=n*t.size/\dX N D w t (ys.take n:List t.den) (cs[·]?)/\(∀v∈cs,v.oneCell'=true)/\
  (Builtin.firstCells t.size n c).run P w= .ok cs.toArray w/\(Builtin.lenOf c).run P w= .ok (aQ (β:=t.den) ys) w:=by
 obtain⟨a,cap,rfl,h1,h2,h3⟩:=h;have htk:aQ (β:=t.den) (ys.take n)=n:=by simp only[aQ,zd3];simp only[aQ] at hn;omega
 by_cases h0:aQ (β:=t.den) ys=0
 ·have XB:n=0:=by omega
  subst XB;refine⟨[],by simp,by simpa using dX.nil,by simp,?_,xS _ _ _ _⟩
  cases a with
  |none=>exact run_firstCells_none (P:=P) w _ _ _ _
  |some a=>exact run_firstCells_some (P:=P) w t.size 0 a _ cap [] (by simp) (by simp)
 ·cases a with
  |none=>have:=h2 rfl;omega
  |some a=>
   obtain⟨f1,f2⟩:=h3 a rfl h0;obtain⟨cs,g1,g2,g3,g4⟩:=(f2.take n).cells;rw[htk] at g1;refine⟨cs,g1,g3,g4,?_,xS _ _ _ _⟩;refine run_firstCells_some (P:=P) w t.size n a _ cap cs g1 λj v hv=>?_;obtain⟨b,o,sp⟩:=a;simp only at f1;subst f1;rw[ow];exact g2 j v hv
theorem HW {w:World}{b o:Nat}{v:Value}(h:w.cell? ⟨b,o,none⟩=some v):w.setCell ⟨b,o,none⟩ v=w:=by
 have e:(w.setCell ⟨b,o,none⟩ v).heap=w.heap:=by
  apply Array.ext_getElem?;intro i;simp only[World.setCell,zeg];by_cases hi:b=i
  ·subst hi
   unfold World.cell? at h;split at h
   ·rename_i c el fz hb
    simp only[zeR,zdG,if_false] at h;simp only at hb;rw[hb];simp only[if_true,zdO,zeR,zdG,if_false];have:c.setIfInBounds o v=c:=by
     apply Array.ext_getElem?;intro j;rw[Array.getElem?_setIfInBounds];split
     ·rename_i hj;subst hj
      split
      ·exact h.symm
      ·rename_i kQ;rw[Array.getElem?_eq_none (by omega)] at h;cases h
     ·rfl
    rw[this]
   ·cases h
  ·rw[if_neg hi]
 have e2:w.setCell ⟨b,o,none⟩ v={w with heap:=(w.setCell ⟨b,o,none⟩ v).heap}:=rfl;rw[e2,e]
theorem sW (b:Nat): ∀(xs ys:List Value) (o:Nat) (w:World),w.setCells b o (xs++ys)=(w.setCells b o xs).setCells b (o+xs.length) ys
 | [],ys,o,w=>rfl
 |x::xs,ys,o,w=>by
  simp only[zef,World.setCells,zdJ];rw[sW b xs ys,show o+1+xs.length=o+(xs.length+1) by omega]
theorem u9 (b:Nat): ∀(xs:List Value) (o:Nat) (w:World),(∀j v,xs[j]?=some v->w.cell? ⟨b,o+j,none⟩=some v)->w.setCells b o xs=w
 | [],o,w,_=>rfl
 |x::xs,o,w,h=>by
  rw[World.setCells,HW (by simpa using h 0 x rfl)]
  exact u9 b xs (o+1) w λj v hv=>by
   have:=h (j+1) v (by simpa using hv)
   rwa [show o+1+j=o+(j+1) by omega]
theorem HX {b o:Nat}{w:World}{pre cs suf:List Value}(h1: ∀j v,pre[j]?=some v->w.cell? ⟨b,o+j,none⟩=some v)(h2: ∀j v,suf[j]?=some v->w.cell? ⟨b,o+pre.length+cs.length+j,none⟩=some v):
  w.setCells b o (pre++(cs++suf))=w.setCells b (o+pre.length) cs:=by
 rw[sW,u9 b pre o w h1,sW];refine u9 b suf _ _ λj v hv=>?_;rw[World.cell?_setCells_out _ _ _ _ _ (λ_ _=>by simp only;omega)]
 exact h2 j v hv
theorem HY {dst rt pos after guard}{x y:Operand}{args:Array Operand}{tys:Array TypeId}{tx e:TypeId}{te:Ty}{Bc:List TypeId}{st:St}{k:AV->St->Option α}{r:α}(ha:args.toList=[x,y])(ht:tys.toList=tx::Bc)(he:zK P tx=some (e,te))
  {ys xs:List te.den} {q n off len:Nat} {p:List Step} (hx:st.ev x= .slice q p off len) (mN:(p.isEmpty&&zI st q)=false) (FT: ∀N D w base,jU N D w base st.h->∀c,ck N D w (st.ev y) c->RY N D w te ys c)
  (yI:st.shape q p=some (.arr n (sw te))) (qQ: ∀N D w base,jU N D w base st.h->∀nm a o,N q=some nm->nm.base=some a->nm.off p=some o->a.spot=none/\ar N D w (.arr n te xs) (λj=>aX w a (o+j)))
  (h:st.store q p (.arr n te (xs.take off++(ys.take len++xs.drop (off+min ys.length len)))) (λs=>k (.val (.int .i64 ((min ys.length len:Nat):Int))) s)=some r):nW P base ⟨dst, .call ⟨.builtin .copy,args,tys⟩,rt,pos,after,guard⟩ st k r:=by
 obtain⟨hu,Oc,hsz,hb1,i,hi,vB,R0,_⟩:=qw he;have nz:args= #[x,y]:=by cases args;simp at ha;subst ha;rfl
 have zZ:tys[0]?=some tx:=by
  have:tys.toList[0]?=some tx:=by rw[ht];rfl
  simpa using this
 subst nz;obtain⟨s',h1,h2,h3,h4,h5,h6⟩:=xM h rfl;refine⟨_,_,h1,h2,h3,h4,λj hj _=>h5 j (λe'=>hj (by simp[NX,hx,vp,e'])) (by simp[AV.ids]),λN D w a s=>?_⟩
 have hv:=s.uB hx;have hy:=FT N D w base s.ny _ (s.FJ y);unfold ck at hv;simp only[AV.isAgg,jv,ar] at hv;obtain⟨nm,g1,hv⟩:=hv;have Ll:=xJ mN yI s.ny g1;generalize hn:min (aQ (β:=te.den) ys) len=m;have PC:min (List.length (α:=te.den) ys) len=m:=hn;cases hb:nm.base with
 |none=>rw[hb] at hv;rw[Ll] at hv;cases hv.1
 |some ad=>
  rw[hb] at hv;simp only at hv;rw[if_neg (by rw[Ll];simp)] at hv
  obtain⟨o,n',e',u,room,i1,i2,i3,i4,i5,a',sF,rfl,i6,rfl,i7⟩:=hv;simp only[zdF] at i4;have Ln:=A9 yI s.ny g1;rw[i2] at Ln;simp only[zdF,Sh.arr.injEq] at Ln;obtain⟨rfl,rfl⟩:=Ln;rw[iH] at i7;obtain⟨j1,j2⟩:=qQ N D w base s.ny nm ad o g1 hb i1;simp only[ar,iw] at j2;obtain⟨hlen,zaN⟩:=j2;have zaO:dX N D w te xs (λj=>aX w ad (o+j)):=zaN;have zdn:List.length (α:=te.den) xs=n':=hlen;obtain⟨W,w1,w2,w3,w4⟩:=zaO.cells;obtain⟨cs,c1,c2,c3,c4,c5⟩:=hy.first (P:=P) (n:=m) (by omega)
  have hml:m<=len:=by omega
  have hW:W.length=n'*te.size:=by rw[w1];congr 1
  have nX:off*te.size+m*te.size<=n'*te.size:=by rw[<-zdT];exact zdS _ (by omega)
  have hyt:ys.take len=ys.take m:=by
   rcases Nat.le_total (List.length (α:=te.den) ys) len with hle|hle
   ·rw[zd9 hle,zd9 (by omega)]
   ·have:m=len:=by omega
    rw[this]
  have Jk:aQ (β:=te.den) (ys.take m)=m:=by simp only[aQ,zd3];simp only[aQ] at hn;omega
  have htx:aQ (β:=te.den) (xs.take off)=off:=by simp only[aQ,zd3];omega
  have PT:(W.take (off*te.size)).length=off*te.size:=by rw[zd3];omega
  have hval:ck N D w (.arr n' te (xs.take off++(ys.take len++xs.drop (off+min ys.length len)))) (.agg (W.take (off*te.size)++(cs++W.drop ((off+m)*te.size))).toArray):=by
   rw[hyt,PC];refine vr.2 ⟨_,rfl,?_,?_,?_⟩
   ·simp only[List.size_toArray,zdI,PT,c1,zd4,hW,zdT];omega
   ·show List.length (α:=te.den) _=n'
    simp only[zdI,zd3,zd4];simp only[aQ] at Jk hn;omega
   ·have key:dX N D w te (xs.take off++(ys.take m++xs.drop (off+m)):List te.den) ((W.take (off*te.size)++(cs++W.drop ((off+m)*te.size)))[·]?):=by
     refine dX.rr ((w3.take off).congr λj hj=>?_) (by rw[PT,htx]) (dX.rr c2 (by rw[c1,Jk]) ((w3.drop (off+m)).congr λj hj=>?_))
     ·rw[htx] at hj
      rw[zd5,if_pos hj]
     ·rw[zd6]
    exact key.congr λj hj=>by simp
  obtain⟨k1,⟨C,LW,fz,k2,k3,k4⟩,D',k5,k6⟩:=h6 N D w base s.ny nm ad o _ g1 hb i1 hval;have ua:(Value.agg (W.take (off*te.size)++(cs++W.drop ((off+m)*te.size))).toArray).cells.toList=W.take (off*te.size)++(cs++W.drop ((off+m)*te.size)):=by simp[Value.cells]
  have YK:w.setCells ad.block (ad.off+o) (W.take (off*te.size)++(cs++W.drop ((off+m)*te.size)))=w.setCells ad.block (ad.off+o+off*te.size) cs:=by
   have:=HX (b:=ad.block) (o:=ad.off+o) (w:=w) (pre:=W.take (off*te.size)) (cs:=cs) (suf:=W.drop ((off+m)*te.size)) (λj v hj=>?_) (λj v hj=>?_)
   ·rw[PT] at this;exact this
   ·rw[zd5] at hj
    split at hj
    ·have:=w2 j v hj
     simpa only[aX,zdU] using this
    ·cases hj
   ·rw[zd6] at hj
    have:=w2 _ v hj;simp only[aX] at this;rw[<-this,PT,c1];congr 2
    rw[zdT];omega
  rw[ua,YK] at k5 k6;have kg:(storeCells a' cs).run P w= .ok () (w.setCells ad.block (ad.off+o+off*te.size) cs):=by
   by_cases hc:cs=[]
   ·subst hc;rfl
   ·have lF:sF≠0:=by
     intro e0;have:m=0:=by omega
     rw[this,zeo] at c1;exact hc (zd8 c1)
    rcases i7 with rfl|i7
    ·have:=pg (P:=P) (w:=w) (b:=ad.block) (o:=ad.off+(o+off*te.size)) k2 k3 (by rw[c1];have k4':ad.off+o+n'*te.size<=C.size:=k4;omega) c3
     simpa only[Addr.at_,zdU] using this
    ·exact absurd i7 lF
  have hmm:min (aQ (β:=te.den) ys) len=m:=hn;refine⟨N,D',_,_, .inl ?_,k6,k5,dY.2 rfl⟩;simp only[execOp,resolve,invoke,builtin,Builtin.copy_,zd0,zd1,zd2];simp[zZ,i4,run_underlying hu,c5,run_sizeOf w hi,<-hsz,hmm,c4,kg,goInt]
theorem PV {dst rt pos after guard}{x y:Operand}{args:Array Operand}{tys:Array TypeId}{tx:TypeId}{Bc:List TypeId}{st:St}{k:AV->St->Option α}{r:α}(ha:args.toList=[x,y])(ht:tys.toList=tx::Bc)
  (h:LC P st tx (st.ev x) (st.ev y) k=some r):nW P base ⟨dst, .call ⟨.builtin .copy,args,tys⟩,rt,pos,after,guard⟩ st k r:=by
 unfold LC at h;split at h
 ·rename_i e te he
  obtain⟨hu,Oc,hsz,hb1,i,hi,vB,R0,_⟩:=qw he;obtain⟨ys,ids,h,FT⟩:=uP h;split at h
  ·rename_i q off hx
   split at h
   ·rename_i t' xs ho
    split at h
    ·cases h
    ·rename_i h0
     simp only[zdN] at h0;subst h0;split at h
     ·rename_i B4 xW
      obtain⟨rfl,rfl⟩:=iV xW;have nz:args= #[x,y]:=by cases args;simp at ha;subst ha;rfl
      have zZ:tys[0]?=some tx:=by
       have:tys.toList[0]?=some tx:=by rw[ht];rfl
       simpa using this
      subst nz;refine⟨_,_,h,rfl,rfl,rfl,λj hj _=>?_,λN D w a s=>?_⟩
      ·have BZ:j≠q:=by
        intro e';apply hj;simp[NX,hx,vp,e']
       simp[St.set,BZ]
      ·have hv:=s.uB hx
       have hy:=FT N D w base s.ny _ (s.FJ y);unfold ck at hv;simp only[AV.isAgg,jv,ar] at hv;obtain⟨nm,g1,g2,g3,g4,g5⟩:=hv;obtain⟨mM,i1,i2,i3,i4,i5,i6⟩:=s.ny.obj q _ ho;rw[g1] at i1;cases i1;generalize hn:min (aQ (β:=t'.den) ys) (aQ (β:=t'.den) B4)=n;have PC:min (List.length (α:=t'.den) ys) (List.length (α:=t'.den) B4)=n:=hn;have zaP:(ys.take (List.length (α:=t'.den) B4)++B4.drop (List.length (α:=t'.den) ys):List t'.den)=ys.take n++B4.drop n:=by
        rcases Nat.le_total (List.length (α:=t'.den) ys) (List.length (α:=t'.den) B4) with hle|hle
        ·have:n=List.length (α:=t'.den) ys:=by omega
         rw[this,zd9 hle,zeS]
        ·have:n=List.length (α:=t'.den) B4:=by omega
         rw[this,List.drop_of_length_le hle,List.drop_of_length_le (zdV _)]
       obtain⟨cs,c1,c2,c3,c4,c5⟩:=hy.first (P:=P) (n:=n) (by omega)
       rw[zaP];have PM:aQ (β:=t'.den) (ys.take n++B4.drop n)=nm.len:=by
        rw[i4];simp only[aQ,zdI,zd3,zd4];simp only[aQ] at hn;omega
       have YL: ∀m,m=aQ (β:=t'.den) B4->Nat.min (aQ (β:=t'.den) ys) m=n:=λm hm=>by rw[hm];exact hn
       cases hb:nm.base with
       |none=>
        rw[hb] at g5;obtain⟨g5,g6⟩:=g5;simp only[zdF] at g6;have HI:aQ (β:=t'.den) B4=0:=by omega
        have XB:n=0:=by omega
        have L3:B4=[]:=zd8 HI;subst XB;subst L3;have vE:(kf st.h q (.row false t' (ys.take 0++([]:List t'.den).drop 0:List t'.den)))=st.h:=by simpa using xR ho
        refine⟨N,D,w,_, .inl ?_,?_,?_,dY.2 rfl⟩
        ·have yK:cs=[]:=zd8 (by rw[c1];simp)
         subst yK;simp only[execOp,resolve,invoke,builtin,Builtin.copy_,zd0,zd1,zd2];simp[zZ,g6,run_underlying hu,c5,run_sizeOf w hi,<-hsz,c4,goInt]
        ·rw[St.th,vE];exact Ext.refl _ _ _ _
        ·rw[St.th,vE];exact s.ny
       |some ad=>
        rw[hb] at g5 i6;obtain⟨v,room,g6,g7,a',sF,rfl,g8,rfl,g9⟩:=g5;simp only[zdF] at g6;obtain⟨j1,⟨C,LW,fz,j2,j3,j4⟩,j5,j6⟩:=i6;replace j4:=j4 rfl
        simp only[zdG,if_false] at j5;have mN:dX N D w t' B4 (aX w ad):=j6;have FN:cs.length<=nm.cap*t'.size:=by rw[c1];exact zdS _ (by omega)
        have kg:(storeCells a' cs).run P w= .ok () (w.setCells ad.block ad.off cs):=by
         by_cases hc:cs=[]
         ·subst hc;rfl
         ·have lF:sF≠0:=by
           intro e0;have:n=0:=by omega
           rw[this,zeo] at c1;exact hc (zd8 c1)
          rcases g9 with rfl|g9
          ·simp only[zeo,Addr.at_,zez]
           exact pg j2 (j4.imp_right And.left) (by omega) c3
          ·exact absurd g9 lF
        obtain⟨o1,o2,o3⟩:=kR ad.block cs ad.off w;obtain⟨C',f1,f2⟩:=jd ad.block cs ad.off w C LW fz j2;have UR:=jz ad.block cs ad.off w;have one:=ku ad.block cs ad.off w;have hD: ∀b,D b->(w.setCells ad.block ad.off cs).heap[b]?=w.heap[b]?:=λb vl=>one b (λe=>j5.2 (e▸vl));have Lp:=mN.mono (λ_ h=>h) hD;have key:=s.ny.write (o':= .row false t' (ys.take n++B4.drop n:List t'.den)) ho rfl g1 hb o1 o2 o3 UR one (by
         refine⟨nm,g1,i2,i3,PM.symm,i5,?_⟩;rw[hb];show _/\_/\_/\_
         refine⟨j1,⟨C',LW,fz,f1,by rw[f2];exact j3,λ_=>by rw[f2];exact j4⟩,by simp only[zdG,if_false];exact j5,?_⟩
         have Jk:aQ (β:=t'.den) (ys.take n)=n:=by simp only[aQ,zd3];simp only[aQ] at hn;omega
         have hB:dX N D (w.setCells ad.block ad.off cs) t' (ys.take n:List t'.den) (aX (w.setCells ad.block ad.off cs) ad):=by
          refine(c2.mono (λ_ h=>h) hD).congr λj hj=>?_;rw[Jk,<-c1] at hj;have:=World.cell?_setCells_in ad.block cs ad.off w (λj hj=>iW j2 (by omega)) j hj
          simp only[aX];rw[this];simp
         have hC:dX N D (w.setCells ad.block ad.off cs) t' (B4.drop n:List t'.den) (λj=>aX (w.setCells ad.block ad.off cs) ad (n*t'.size+j)):=by
          refine(Lp.drop _).congr λj hj=>?_;simp only[aX];refine(World.cell?_setCells_out _ _ _ _ _ (λ_ _=>?_)).symm;right
          simp only;rw[c1];omega
         exact dX.append hB (by rw[Jk];exact hC))
        refine⟨N,D,_,_, .inl ?_,by rw[St.th];exact key.2,by rw[St.th];exact key.1,dY.2 rfl⟩
        have hm:=YL nm.len (by omega)
        have hm2:min (aQ (β:=t'.den) ys) nm.len=n:=hm;simp only[execOp,resolve,invoke,builtin,Builtin.copy_,zd0,zd1,zd2];simp[zZ,g6,run_underlying hu,c5,run_sizeOf w hi,<-hsz,hm2,c4,kg,goInt]
     ·cases h
   ·cases h
  ·rename_i q p off len hx
   split at h
   ·cases h
   rename_i mN;obtain⟨u,h,yI,qQ⟩:=pF h;split at h
   ·rename_i n t' xs
    split at h
    ·rename_i B4 xW
     obtain⟨rfl,rfl⟩:=iV xW;exact HY ha ht he hx (by simpa using mN) FT (by simpa [AV.sh] using yI) (λN D w base S nm a o h1 h2 h3=>by obtain⟨q1,q2,_⟩:=qQ N D w base S nm a o h1 h2 h3;exact⟨q1,q2⟩) h
    ·cases h
   ·cases h
  ·cases h
 ·cases h
end AM
namespace AM
open Go
variable {α:Type}{P:Program}{base:Nat}
theorem C8 {β γ:Type}{f:β->γ}{l:List β}{a b:γ}(h:l.map f=[a,b]): ∃x y,l=[x,y]/\f x=a/\f y=b:=by
 match l,h with
 | [x,y],h=>simp at h;exact⟨x,y,rfl,h.1,h.2⟩
theorem HZ {β γ:Type}{f:β->γ}{l:List β}{a:γ}(h:l.map f=[a]): ∃x,l=[x]/\f x=a:=by
 match l,h with
 | [x],h=>simp at h;exact⟨x,rfl,h⟩
theorem H0 {dst rt pos after guard}{b:Builtin}{args:Array Operand}{tys:Array TypeId}{st:St}{k:AV->St->Option α}{r:α}
  (h:A2 P st (name st.ep (dst.getD 999) 0) b (args.toList.map st.ev) tys.toList k=some r):nW P base ⟨dst, .call ⟨.builtin b,args,tys⟩,rt,pos,after,guard⟩ st k r:=by
 generalize ha:args.toList.map st.ev=l at h;generalize ht:tys.toList=tl at h;unfold A2 at h;split at h
 ·rename_i x t Bc
  obtain⟨x',hx,rfl⟩:=HZ ha;exact RW hx ht h
 ·rename_i x t Bc
  obtain⟨x',hx,rfl⟩:=HZ ha;exact R3 hx ht h
 ·rename_i x y _
  obtain⟨x',y',hx,rfl,rfl⟩:=C8 ha;exact R4 hx h
 ·rename_i x y _
  obtain⟨x',y',hx,rfl,rfl⟩:=C8 ha;exact R5 hx h
 ·rename_i x y tx ty _
  obtain⟨x',y',hx,rfl,rfl⟩:=C8 ha;exact JL rfl hx ht h
 ·rename_i x y tx _
  obtain⟨x',y',hx,rfl,rfl⟩:=C8 ha;exact PV hx ht h
 ·rename_i x tx _
  obtain⟨x',hx,rfl⟩:=HZ ha;exact L9 hx ht h
 ·cases h
theorem PW {st:St}{o:Oper}{k:AV->St->Option α}{r:α}(h:aop P st o k=some r):nW P base o st k r:=by
 obtain⟨dst,op,ty,pos,after,guard⟩:=o;unfold aop at h;simp only at h;split at h
 ·exact PF h
 ·exact JF h
 ·exact FP h
 ·exact DN h
 ·exact LZ h
 ·exact PE h
 ·exact LV h
 ·exact PG h
 ·exact RT h (λb hb N D w a s uN=>PR hb N D w a s uN)
 ·exact PH h
 ·exact HS rfl h
 ·exact HO h
 ·exact LX rfl h
 ·exact RU rfl h
 ·exact Md h
 ·exact CG rfl h
 ·exact DS rfl h
 ·exact DP h
 ·exact L0 h
 ·exact L2 h
 ·exact JI h
 ·exact FQ h
 ·exact H0 h
 ·cases h
end AM
namespace AM
open Go
variable {α:Type}{P:Program}{base:Nat}
def xX (P:Program)(base:Nat)(W:List Nat)(f:FuncId)(args:List AV)(st:St)(fresh:Nat)(av:AV)(eZ:St):Prop:=
 (∃fn,P.funcs[f]?=some fn/\fn.body.isNone=false/\(fn.name== "runtime.NumGoroutine")=false)/\
 eZ.t=st.t/\eZ.nt=st.nt/\eZ.ep=st.ep/\(∀id,id∉W->id/100≠fresh/100->eZ.h id=st.h id)/\
 ∀N D w,jU N D w base st.h->∀lK:List Value,bA N D w args lK->Calls P f lK.toArray w λe w'=>match e with
  | .returned v=> ∃N' D',Ext N D w st.h N' D' w' eZ.h/\jU N' D' w' base eZ.h/\ck N' D' w' av v
  |_=>False
def sH (P:Program)(base:Nat)(env:Env α):Prop:= ∀f args st fresh k r,fresh%100=0->env.call f args st fresh k=some r->∃av eZ,k av eZ=some r/\xX P base (env.fp f args st fresh).2 f args st fresh av eZ
def DX (P:Program)(base:Nat)(W:List Nat)(o:Oper)(st:St)(av:AV)(eZ:St):Prop:=
 eZ.t=st.t/\eZ.nt=st.nt/\eZ.ep=st.ep/\(∀id,id∉W->qD st.ep o id=false->eZ.h id=st.h id)/\
 ∀N D w a,kp N D w base st a->∀(next:Act->World->Prop) (Q:Exit->Act->World->Prop),
  (∀N' D' w' v,Ext N D w st.h N' D' w' eZ.h->jU N' D' w' base eZ.h->ck N' D' w' av v->next (a.put o.dst v) w')->o.wp P a w next Q
theorem PX {st eZ:St}{o:Oper}{av:AV}(h:ll P base o st av eZ):DX P base (NX st o) o st av eZ:=by
 obtain⟨h1,h2,h3,h4,h5⟩:=h;refine⟨h1,h2,h3,h4,λN D w a s next Q hn=>?_⟩;obtain⟨N',D',w',v,jG,hx,hs,hv⟩:=h5 N D w a s;unfold Oper.wp;rcases jG with jG|⟨jG,rfl⟩
 ·rw[jG,Oper.upon_value];exact hn N' D' w' v hx hs hv
 ·rw[jG,Oper.upon_skip];exact hn N' D' w' _ hx hs hv
theorem B9 {st eZ:St}{av:AV}{dst ty pos after guard}{fo:Operand}{args:Array Operand}{tys:Array TypeId}{f:FuncId}{cs:List AV}{W:List Nat}
  (hf:(∃first captured,st.ev fo= .val (.func (.func f) first captured)/\first.size+captured.size=0/\cs=[])\/st.ev fo= .xh (.func f) cs)
  (h:xX P base W f (args.toList.map st.ev++cs) st (name st.ep (dst.getD 999) 0) av eZ):DX P base W ⟨dst, .call ⟨.value fo,args,tys⟩,ty,pos,after,guard⟩ st av eZ:=by
 obtain⟨⟨fn,g1,g2,g3⟩,h1,h2,h3,h4,h5⟩:=h;refine⟨h1,h2,h3,λid hi hn=>h4 id hi λe=>?_,λN D w a s next Q hn=>?_⟩
 ·rw[rq] at e
  simp[qD,makes,e] at hn
 ·have nz:bA N D w (args.toList.map st.ev) (args.map a.eval).toList:=by
   have:=uO s args.toList;simpa using this
  have YM: ∃lK:List Value,bA N D w (args.toList.map st.ev++cs) lK/\(execOp a.eval ⟨dst, .call ⟨.value fo,args,tys⟩,ty,pos,after,guard⟩).run P w= .ok (.enter f lK.toArray) w:=by
   have Rp: ∀xs:Array Value,(callFunc f xs).run P w= .ok (.enter f xs) w:=by
    intro xs;simp only[callFunc,zd0,run_program,zd1,g1,g3,g2,zdG,if_false,zd2]
   rcases hf with⟨first,captured,e1,e2,rfl⟩|e1
   ·have YN:first= #[]:=zey (by omega)
    have FN:captured= #[]:=zey (by omega)
    subst YN;subst FN;refine⟨(args.map a.eval).toList,by simpa using nz,?_⟩
    simp[execOp,resolve,s.sV e1,Deferred.ofValue,invoke,Rp];apply Array.ext';simp
   ·have hv:=s.uB e1
    unfold ck at hv;simp only[AV.isAgg,jv,ar] at hv;obtain⟨cc,h6,h7⟩:=hv;simp only[zdF] at h6;refine⟨(args.map a.eval).toList++cc.toList,?_,?_⟩
    ·have app: ∀(l:List AV) (c:List Value),bA N D w l c->bA N D w (l++cs) (c++cc.toList):=by
      intro l;induction l with
      |nil=>intro c hc;simp only[bA] at hc;subst hc;simpa using h7
      |cons x xs ih=>
       intro c hc;simp only[bA] at hc;obtain⟨c1,c2,rfl,q1,q2⟩:=hc;simp only[zef,bA];exact⟨c1,c2++cc.toList,rfl,q1,ih c2 q2⟩
     exact app _ _ nz
    ·simp[execOp,resolve,h6,Deferred.ofValue,invoke,Rp]
  obtain⟨lK,k1,k2⟩:=YM;unfold Oper.wp;rw[k2,Oper.upon_enter];refine(h5 N D w s.ny lK k1).mono λe w' he=>?_;cases e with
  |returned v=>
   obtain⟨N',D',q1,q2,q3⟩:=he;exact hn N' D' w' v q1 q2 q3
  |panicked c=>exact he.elim
  |outgrown=>exact he.elim
theorem JN (a b:Nat):name a b 0%100=0:=by unfold name;omega
theorem xY {env:Env α}(he:sH P base env){st:St}{o:Oper}{k:AV->St->Option α}{r:α}(h:Jy P env st o k=some r): ∃av eZ,k av eZ=some r/\DX P base (yH env st o).2 o st av eZ:=by
 obtain⟨dst,op,ty,pos,after,guard⟩:=o;unfold Jy at h;simp only at h;split at h
 ·rename_i fo args tys
  split at h
  ·rename_i f first captured e1
   split at h
   ·rename_i hs
    obtain⟨av,eZ,h1,h2⟩:=he _ _ _ _ _ _ (JN _ _) h;refine⟨av,eZ,h1,?_⟩;simp only[yH,e1];exact B9 (cs:=[]) (.inl ⟨first,captured,e1,hs,rfl⟩) (by simpa using h2)
   ·cases h
  ·rename_i f cs e1
   obtain⟨av,eZ,h1,h2⟩:=he _ _ _ _ _ _ (JN _ _) h;refine⟨av,eZ,h1,?_⟩;simp only[yH,e1];exact B9 (.inr e1) h2
  ·cases h
 ·rename_i wy
  obtain⟨av,eZ,h1,h2⟩:=PW (base:=base) h;refine⟨av,eZ,h1,?_⟩;have e:(yH env st ⟨dst,op,ty,pos,after,guard⟩).2=NX st ⟨dst,op,ty,pos,after,guard⟩:=by
   unfold yH;simp only;split<;>first|rfl|skip
   all_goals (rename_i e1;exact absurd rfl (wy _ _ _))
  rw[e];exact PX h2
end AM
namespace AM
open Go
variable {α:Type}{P:Program}{base:Nat}
def Ad:Out->Exit
 | .norm=> .normal| .ret=> .ret| .exit id=> .exit id
def pY (P:Program):List Item->(Exit->Act->World->Prop)->Exit->Act->World->Prop
 | [],Q=>Q
 | .code c::k,Q=>Exit.then (c.wp P (pY P k Q)) (pY P k Q)
 | .NW id::k,Q=>Exit.inBlock id (pY P k Q)
 |_::k,Q=>pY P k Q
def Item.clean:Item->Bool
 | .code _| .NW _=>true
 |_=>false
theorem tM (Q:Exit->Act->World->Prop): ∀(k:List Item) (a:Act) (w:World),pY P k Q .ret a w=Q .ret a w
 | [],_,_=>rfl
 | .code c::k,a,w=>by simp only[pY,Exit.then];exact tM Q k a w
 | .NW id::k,a,w=>by simp only[pY,Exit.inBlock];exact tM Q k a w
 | .ops _ _::k,a,w=>by simp only[pY];exact tM Q k a w
 | .zM _ _ _ _::k,a,w=>by simp only[pY];exact tM Q k a w
theorem uc (Q:Exit->Act->World->Prop)(id:Nat): ∀(k:List Item) (a:Act) (w:World),pY P k Q (.exit id) a w=match AM.unwind id k with|some k'=>pY P k' Q .normal a w|none=>Q (.exit id) a w
 | [],_,_=>rfl
 | .code c::k,a,w=>by simp only[pY,Exit.then,AM.unwind];exact uc Q id k a w
 | .NW i::k,a,w=>by
  simp only[pY,Exit.inBlock,AM.unwind];by_cases e:i=id
  ·subst e;simp
  ·rw[if_neg (λe'=>e e'.symm),if_neg e];exact uc Q id k a w
 | .ops _ _::k,a,w=>by simp only[pY,AM.unwind];exact uc Q id k a w
 | .zM _ _ _ _::k,a,w=>by simp only[pY,AM.unwind];exact uc Q id k a w
def ng (fn:Func):Code->Prop
 | .seq a b=>ng fn a/\ng fn b
 | .cond _ a b=>ng fn a/\ng fn b
 | .block _ c=>ng fn c
 | .scope c=>ng fn c
 | .loop c=>(∀id,mu c=some id->rb id fn=c)/\ng fn c
 |_=>True
def Item.ok (fn:Func):Item->Prop
 | .code c=>ng fn c
 |_=>True
def Sa (P:Program)(base:Nat)(fn:Func)(id:Nat)(st:St)(out:Out)(eZ:St):Prop:=
 ∀N D w a,kp N D w base st a->(Code.loop (rb id fn)).wp P (λe a' w'=>e=Ad out/\∃N' D',kp N' D' w' base eZ a'/\Ext N D w st.h N' D' w' eZ.h) a w
def xZ (P:Program)(base:Nat)(fn:Func)(env:Env α):Prop:= ∀id st k r,env.loop id st k=some r->∃out eZ,k out eZ=some r/\Sa P base fn id st out eZ
def zaQ (P:Program)(todo:List Item)(Q:Exit->Act->World->Prop)(a:Act)(w:World):Prop:=match todo with
 | .ops all rest::k=> ∀i,i<=all.size->rest=all.toList.drop i->wpOps P all (pY P k Q) (List.range' i (all.size-i)) a w
 |todo=>pY P todo Q .normal a w
theorem kp.XF {N:Names}{D:Nat->Prop}{w:World}{st:St}{a:Act}(s:kp N D w base st a)(e:Nat):kp N D w base {st with ep:=e} a:=⟨s.ny,s.tmps,s.nt,s.defers⟩
theorem pG {k:List Item}(hk: ∀x∈k,x.clean=true){Q:Exit->Act->World->Prop}{a:Act}{w:World}(h:zaQ P k Q a w):pY P k Q .normal a w:=by
 cases k with
 |nil=>exact h
 |cons x k=>
  cases x with
  |ops all rest=>have:=hk _ (zdM ..);simp[Item.clean] at this
  |zM all i rest DD=>have:=hk _ (zdM ..);simp[Item.clean] at this
  |code c=>exact h
  |NW id=>exact h
end AM
namespace AM
open Go
variable {α:Type}{P:Program}{base:Nat}
theorem kp.refine {N:Names}{D:Nat->Prop}{w:World}{st:St}{a:Act}(s:kp N D w base st a)(slot:Nat){u:AV}(hu:ck N D w u (a.tmps.getD slot Go.undef)):kp N D w base (st.put (some slot) u) a:=by
 refine⟨by rw[St.BV];exact s.ny,λx=>?_,by rw[St.HG];exact s.nt,s.defers⟩
 simp only[St.put];split
 ·by_cases e:x=slot
  ·subst e;simp only[if_true];exact hu
  ·simp only[if_neg e];exact s.tmps x
 ·exact s.tmps x
structure xa (base:Nat)(st xb:St):Prop where
 h:xb.h=st.h
 nt:xb.nt=st.nt
 ep:xb.ep=st.ep
 rel: ∀N D w a,kp N D w base st a->kp N D w base xb a
theorem xa.refl (base:Nat)(st:St):xa base st st:=⟨rfl,rfl,rfl,λ_ _ _ _ h=>h⟩
theorem xa.put {st:St}{slot:Nat}{v:Value}(e:st.t slot= .val v):xa base st (st.put (some slot) (.val v)):=
 ⟨St.BV _ _ _,St.HG _ _ _,St.RO _ _ _,λN D w a s=>s.refine slot (by have:=s.tmps slot;rwa [e] at this)⟩
theorem pj {N:Names}{D:Nat->Prop}{w:World}{st:St}{a:Act}(s:kp N D w base st a){all:Array Oper}{j slot:Nat}{b:Bool}(hj:(all[j]?).bind (·.dst)=some slot)(e:st.t slot= .val (.bool b)):yielded all a.tmps j=some b:=by
 have h1:=s.tmps slot;rw[e] at h1;replace h1:=dY.1 h1
 simp only[yielded,hj,zdy];cases h2:a.tmps[slot]? with
 |none=>simp[h2,Go.undef] at h1
 |some v=>simp[h2] at h1;subst h1;rfl
theorem Ca {N:Names}{D:Nat->Prop}{w:World}{st:St}{a:Act}(s:kp N D w base st a){all:Array Oper}{j slot:Nat}{c:Array Value}(hj:(all[j]?).bind (·.dst)=some slot)(e:st.t slot= .val (.tuple c)):yielded all a.tmps j=none:=by
 have h1:=s.tmps slot;rw[e] at h1;replace h1:=dY.1 h1
 simp only[yielded,hj,zdy];cases h2:a.tmps[slot]? with
 |none=>rfl
 |some v=>simp[h2] at h1;subst h1;rfl
theorem H2 {all:Array Oper}{o:Oper}{st:St}{next skip:St->Option α}{r:α}(h:guarded all o st next skip=some r):
  (∃xb,next xb=some r/\xa base st xb/\∀N D w a,kp N D w base st a->Region.wanted o (yielded all a.tmps)=true)\/
  (∃xb,skip (xb.put o.dst (.val Go.undef))=some r/\xa base st xb/\∀N D w a,kp N D w base st a->Region.wanted o (yielded all a.tmps)=false):=by
 unfold guarded at h;split at h
 ·rename_i hg
  exact .inl ⟨st,h,xa.refl _ _,λN D w a s=>by simp[Region.wanted,hg]⟩
 ·rename_i j want hg
  split at h
  ·cases h
  ·rename_i slot hj
   split at h
   ·rename_i b hb
    cases b<;>cases want<;>simp only at h
    ·exact .inl ⟨_,h,xa.put hb,λN D w a s=>by simp[Region.wanted,hg,pj s hj hb]⟩
    ·exact .inr ⟨_,h,xa.put hb,λN D w a s=>by simp[Region.wanted,hg,pj s hj hb]⟩
    ·exact .inr ⟨_,h,xa.put hb,λN D w a s=>by simp[Region.wanted,hg,pj s hj hb]⟩
    ·exact .inl ⟨_,h,xa.put hb,λN D w a s=>by simp[Region.wanted,hg,pj s hj hb]⟩
   ·rename_i c hc
    exact .inr ⟨st,h,xa.refl _ _,λN D w a s=>by simp[Region.wanted,hg,Ca s hj hc]⟩
   ·cases h
end AM
namespace AM
open Go
variable {α:Type}{P:Program}{base:Nat}
theorem Sb {st:St}{slot:Nat}{v:AV}(e:st.t slot=v):st.put (some slot) v=st:=by
 simp only[St.put];split
 ·have:(λx=>if x=slot then v else st.t x)=st.t:=by
   funext x
   by_cases h:x=slot
   ·subst h;simp[e]
   ·simp[h]
  rw[this]
 ·rfl
theorem FW {all:Array Oper}{o:Oper}{st:St}{next skip:St->Option α}{r:α}(h:guarded all o st next skip=some r):
  (next st=some r/\∀T:St,(∀x∈o.looksAt all,T.t x=st.t x)->∀N D w a,kp N D w base T a->Region.wanted o (yielded all a.tmps)=true)\/
  (skip (st.put o.dst (.val Go.undef))=some r/\∀T:St,(∀x∈o.looksAt all,T.t x=st.t x)->∀N D w a,kp N D w base T a->Region.wanted o (yielded all a.tmps)=false):=by
 unfold guarded at h;split at h
 ·rename_i hg
  exact .inl ⟨h,λT _ N D w a s=>by simp[Region.wanted,hg]⟩
 ·rename_i j want hg
  split at h
  ·cases h
  ·rename_i slot hj
   have tv:slot∈o.looksAt all:=by simp[Oper.looksAt,hg,hj]
   split at h
   ·rename_i b hb
    cases b<;>cases want<;>simp only[Sb hb] at h
    ·exact .inl ⟨h,λT hT N D w a s=>by simp[Region.wanted,hg,pj s hj ((hT slot tv).trans hb)]⟩
    ·exact .inr ⟨h,λT hT N D w a s=>by simp[Region.wanted,hg,pj s hj ((hT slot tv).trans hb)]⟩
    ·exact .inr ⟨h,λT hT N D w a s=>by simp[Region.wanted,hg,pj s hj ((hT slot tv).trans hb)]⟩
    ·exact .inl ⟨h,λT hT N D w a s=>by simp[Region.wanted,hg,pj s hj ((hT slot tv).trans hb)]⟩
   ·rename_i c hc
    exact .inr ⟨h,λT hT N D w a s=>by simp[Region.wanted,hg,Ca s hj ((hT slot tv).trans hc)]⟩
   ·cases h
theorem JO {N:Names}{D:Nat->Prop}{w:World}{h:Nat->Option fK}(S:jU N D w base h){v:AV}{c:Value}(hv:ck N D w v c):ck N D w (HB h v) c:=by
 unfold HB;split
 ·rename_i i p f off
  split
  ·rename_i fs hs
   split
   ·rename_i hd
    simp only[zdN] at hd;unfold ck at hv;simp only[AV.isAgg,jv,ar] at hv;obtain⟨nm,a,o,h1,h2,h3,h4⟩:=hv;have yI:=nR (s:=⟨λ_=> .undef,h,0,0⟩) hs S h1;refine jq.2 ⟨nm,a,_,h1,h2,tu h3 yI hd.2,?_⟩;simp only[zdF] at h4;rw[h4,hd.1]
   ·exact hv
  ·exact hv
 ·exact hv
theorem kp.norm {N:Names}{D:Nat->Prop}{w:World}{st:St}{a:Act}(s:kp N D w base st a):kp N D w base (rO st) a:=⟨s.ny,λx=>JO s.ny (s.tmps x),s.nt,s.defers⟩
structure sQ where
 dst:Option Tmp
 av:AV
 W:Nat->Bool
 h:Nat->Option fK
def sQ.ap (E:sQ)(st:St):St:=St.put {st with h:=λid=>if E.W id then E.h id else st.h id} E.dst E.av
theorem sQ.Vn (E:sQ)(st:St)(id:Nat):(E.ap st).h id=if E.W id then E.h id else st.h id:=by unfold sQ.ap;rw[St.BV]
theorem sQ.XG (E:sQ)(st:St):(E.ap st).nt=st.nt:=by unfold sQ.ap;rw[St.HG]
theorem sQ.XH (E:sQ)(st:St):(E.ap st).ep=st.ep:=by unfold sQ.ap;rw[St.RO]
theorem sQ.PY (E:sQ)(st:St)(x:Nat):(E.ap st).t x=if E.dst=some x/\x<st.nt then E.av else st.t x:=by
 unfold sQ.ap;cases hd:E.dst with
 |none=>simp[St.put]
 |some d=>
  simp only[St.put,zdF];by_cases h1:d<st.nt
  ·rw[if_pos h1]
   by_cases h2:x=d
   ·subst h2;simp[h1]
   ·simp[h2,Ne.symm h2]
  ·rw[if_neg h1]
   by_cases h2:d=x
   ·subst h2;simp[h1]
   ·simp[h2]
def lG (E:Nat->sQ)(X:Nat->Bool)(S0:St):Nat->St
 |0=>S0
 |n+1=>if X n then(E n).ap (lG E X S0 n) else lG E X S0 n
theorem sk (E:Nat->sQ)(X:Nat->Bool)(S0:St): ∀n,(lG E X S0 n).nt=S0.nt
 |0=>rfl
 |n+1=>by simp only[lG];split<;>simp[sQ.XG,sk E X S0 n]
theorem yv (E:Nat->sQ)(X:Nat->Bool)(S0:St): ∀n,(lG E X S0 n).ep=S0.ep
 |0=>rfl
 |n+1=>by simp only[lG];split<;>simp[sQ.XH,yv E X S0 n]
theorem wG {E:Nat->sQ}{X Y:Nat->Bool}{S0:St}{x:Nat}: ∀n,(∀j,j<n->X j≠Y j->(E j).dst≠some x)->(lG E X S0 n).t x=(lG E Y S0 n).t x
 |0,_=>rfl
 |n+1,h=>by
  have ih:=wG (S0:=S0) n λj hj=>h j (by omega)
  simp only[lG];cases hx:X n<;>cases hy:Y n<;>simp only[if_true,if_false,zdG,sQ.PY,sk]
  ·exact ih
  ·rw[if_neg (λe=>h n (by omega) (by rw[hx,hy];simp) e.1)];exact ih
  ·rw[if_neg (λe=>h n (by omega) (by rw[hx,hy];simp) e.1)];exact ih
  ·split
   ·rfl
   ·exact ih
theorem wH {E:Nat->sQ}{X Y:Nat->Bool}{S0:St}{id:Nat}: ∀n,(∀j,j<n->X j≠Y j->(E j).W id=false)->(lG E X S0 n).h id=(lG E Y S0 n).h id
 |0,_=>rfl
 |n+1,h=>by
  have ih:=wH (S0:=S0) n λj hj=>h j (by omega)
  simp only[lG];cases hx:X n<;>cases hy:Y n<;>simp only[if_true,if_false,zdG,sQ.Vn]
  ·exact ih
  ·rw[h n (by omega) (by rw[hx,hy];simp)];simpa using ih
  ·rw[h n (by omega) (by rw[hx,hy];simp)];simpa using ih
  ·split
   ·rfl
   ·exact ih
theorem Cb {E:Nat->sQ}{X:Nat->Bool}{S0:St}{x i:Nat}(hX:X i=true)(hd:(E i).dst=some x): ∀n,i<n->(∀j,i<j->j<n->X j=true->(E j).dst≠some x)->(lG E X S0 n).t x=if x<S0.nt then(E i).av else S0.t x
 |0,h,_=>by omega
 |n+1,h,hl=>by
  have base:x<S0.nt\/¬x<S0.nt:=zdY x S0.nt|>.imp id Nat.not_lt.2
  by_cases e:i=n
  ·subst e
   simp only[lG,hX,if_true,sQ.PY,hd,true_and,sk];rcases base with hb|hb
   ·simp[hb]
   ·simp only[hb,if_false]
    have out: ∀m,(lG E X S0 m).t x=S0.t x:=by
     intro m;induction m with
     |zero=>rfl
     |succ m ih=>
      simp only[lG];split
      ·rw[sQ.PY,sk,if_neg (λq=>hb q.2)];exact ih
      ·exact ih
    exact out i
  ·have ih:=Cb (S0:=S0) hX hd n (by omega) λj h1 h2 h3=>hl j h1 (by omega) h3
   simp only[lG];split
   ·rename_i hn
    rw[sQ.PY,if_neg (λq=>hl n (by omega) (by omega) hn q.1)];exact ih
   ·exact ih
theorem Cc {E:Nat->sQ}{X:Nat->Bool}{S0:St}{id i:Nat}(hX:X i=true)(hd:(E i).W id=true): ∀n,i<n->(∀j,i<j->j<n->X j=true->(E j).W id=false)->(lG E X S0 n).h id=(E i).h id
 |0,h,_=>by omega
 |n+1,h,hl=>by
  by_cases e:i=n
  ·subst e
   simp only[lG,hX,if_true,sQ.Vn,hd]
  ·have ih:=Cc (S0:=S0) hX hd n (by omega) λj h1 h2 h3=>hl j h1 (by omega) h3
   simp only[lG];split
   ·rename_i hn
    rw[sQ.Vn,hl n (by omega) (by omega) hn];simpa using ih
   ·exact ih
end AM
namespace AM
open Go
def Cd (o:Oper)(acc:Array Nat):Nat:=o.after.foldl (λs e=>if Region.binds .any e then s|||2^e.on|||acc.getD e.on 0 else s) 0
def ru (l:List Oper)(acc:Array Nat):Array Nat:=l.foldl (λacc o=>acc.push (Cd o acc)) acc
theorem Gz (ops:Array Oper):Region.before ops=ru ops.toList #[]:=by
 unfold Region.before ru;rw[<-Array.foldl_toList];rfl
theorem zo: ∀(l:List Oper) (acc:Array Nat),(ru l acc).size=acc.size+l.length
 | [],acc=>by simp[ru]
 |o::l,acc=>by
  have:=zo l (acc.push (Cd o acc));simp only[ru,zeJ] at this⊢;rw[this];simp;omega
theorem Bh: ∀(l:List Oper) (acc:Array Nat) (j:Nat),j<acc.size->(ru l acc)[j]?=acc[j]?
 | [],acc,j,_=>by simp[ru]
 |o::l,acc,j,h=>by
  have:=Bh l (acc.push (Cd o acc)) j (by simp;omega)
  simp only[ru,zeJ] at this⊢;rw[this,zel,if_neg (by omega)]
theorem GA: ∀(l:List Oper) (acc:Array Nat) (j:Nat) (o:Oper),l[j]?=some o->(ru l acc)[acc.size+j]?=some (Cd o (ru (l.take j) acc))
 | [],acc,j,o,h=>by simp at h
 |o'::l,acc,0,o,h=>by
  simp only[zeb,zdF] at h;subst h;have:=Bh l (acc.push (Cd o' acc)) acc.size (by simp)
  simp only[ru,zeJ,zez,List.take_zero,List.foldl_nil] at this⊢;rw[this];simp
 |o'::l,acc,j+1,o,h=>by
  have:=GA l (acc.push (Cd o' acc)) j o (by simpa using h)
  simp only[ru,zeJ,Array.size_push,List.take_succ_cons] at this⊢;rw[show acc.size+(j+1)=acc.size+1+j by omega,this]
theorem Me (l:List Oper)(j e:Nat)(he:e<j)(hj:j<=l.length):(ru (l.take j) #[]).getD e 0=(ru l #[]).getD e 0:=by
 have h1:ru l #[]=ru (l.drop j) (ru (l.take j) #[]):=by
  unfold ru;rw[<-List.foldl_append,zeT]
 have h2:=Bh (l.drop j) (ru (l.take j) #[]) e (by rw[zo];simp;omega)
 rw[h1,zeU,zeU,h2]
theorem PZ {o:Oper}{acc:Array Nat}{i:Nat}(h:(Cd o acc).testBit i=true): ∃e∈o.after,Region.binds .any e=true/\(i=e.on\/(acc.getD e.on 0).testBit i=true):=by
 unfold Cd at h;rw[<-Array.foldl_toList] at h;have key: ∀(l:List Edge) (s:Nat),(l.foldl (λs e=>if Region.binds .any e then s|||2^e.on|||acc.getD e.on 0 else s) s).testBit i=true->s.testBit i=true\/∃e∈l,Region.binds .any e=true/\(i=e.on\/(acc.getD e.on 0).testBit i=true):=by
  intro l;induction l with
  |nil=>intro s h;exact .inl h
  |cons e l ih=>
   intro s h;simp only[zeJ] at h;rcases ih _ h with h1|⟨e',h1,h2⟩
   ·split at h1
    ·rename_i hb
     simp only[Nat.testBit_or,zeM] at h1;rcases h1 with(h1|h1)|h1
     ·exact .inl h1
     ·rw[Nat.testBit_two_pow] at h1
      exact .inr ⟨e,zdM ..,hb, .inl (of_decide_eq_true h1).symm⟩
     ·exact .inr ⟨e,zdM ..,hb, .inr h1⟩
    ·exact .inl h1
   ·exact .inr ⟨e',zdL _ h1,h2⟩
 rcases key _ _ h with h1|⟨e,h1,h2⟩
 ·simp at h1
 ·exact⟨e,by simpa using h1,h2⟩
def rW (ops:Array Oper):Bool:=(List.range ops.size).all λj=>match ops[j]? with|some o=>o.after.all λe=>!Region.binds .any e||decide (e.on<j)|none=>true
theorem ya {ops:Array Oper}(h:rW ops=true){j:Nat}{o:Oper}(ho:ops[j]?=some o){e:Edge}(he:e∈o.after)(hb:Region.binds .any e=true):e.on<j:=by
 have hj:j<ops.size:=(Array.getElem?_eq_some_iff.1 ho).1;have:=List.all_eq_true.1 h j (by simpa using hj)
 simp only[ho] at this;have:=Array.all_eq_true_iff_forall_mem.1 this e he;simpa [hb] using this
theorem yY {ops:Array Oper}(hE:rW ops=true){X:Nat->Prop}(hX: ∀j o,ops[j]?=some o->X j->∀e∈o.after,Region.binds .any e=true->X e.on): ∀(j i:Nat),X j->((Region.before ops).getD j 0).testBit i=true->X i:=by
 intro j;induction j using Nat.strongRecOn with
 |_ j ih=>
  intro i hj hb;rw[Gz] at hb;cases ho:ops.toList[j]? with
  |none=>
   have hsz:ops.toList.length<=j:=List.getElem?_eq_none_iff.1 ho;rw[zeU,Array.getElem?_eq_none (by rw[zo];simp at hsz⊢;omega)] at hb
   simp at hb
  |some o=>
   have mX:ops[j]?=some o:=by simpa using ho
   have h1:=GA ops.toList #[] j o ho;simp only[List.size_toArray,zdK,zep] at h1;rw[zeU,h1,zeV] at hb;obtain⟨e,he,XI,hc⟩:=PZ hb;have kQ:=ya hE mX he XI;have hXe:=hX j o mX hj e he XI;rcases hc with rfl|hc
   ·exact hXe
   ·have hjl:j<=ops.toList.length:=Nat.le_of_lt (List.getElem?_eq_some_iff.1 ho).1
    rw[Me _ _ _ kQ hjl,<-Gz] at hc;exact ih e.on kQ i hXe hc
end AM
namespace AM
open Go
variable {α:Type}{P:Program}{base:Nat}
structure H3 (P:Program)(base:Nat)(ops:Array Oper)(o:Oper)(S:St)(E:sQ)(F:Option Fp):Prop where
 dst:E.dst=o.dst
 run:match F with
  |none=>E.av= .val Go.undef/\(∀id,E.W id=false)/\∀T:St,(∀x∈o.looksAt ops,T.t x=S.t x)->∀N D w a,kp N D w base T a->Region.wanted o (yielded ops a.tmps)=false
  |some f=>f.2=keyOf S.ep o/\(∀id,E.W id=(f.1.2.contains id||qD S.ep o id))/\(∀T:St,(∀x∈o.looksAt ops,T.t x=S.t x)->∀N D w a,kp N D w base T a->Region.wanted o (yielded ops a.tmps)=true)/\
    ∃eZ,DX P base f.1.2 o (wY S o f.1) E.av eZ/\∀id,E.W id=true->E.h id=eZ.h id
theorem DX.zcB {W W':List Nat}{o:Oper}{st:St}{av:AV}{eZ:St}(h:DX P base W o st av eZ)(hW: ∀i∈W,i∈W'):DX P base W' o st av eZ:=
 ⟨h.1,h.2.1,h.2.2.1,λid hi hn=>h.2.2.2.1 id (λh'=>hi (hW id h')) hn,h.2.2.2.2⟩
theorem Sd {env:Env α}(he:sH P base env){ops:Array Oper}: ∀(n i:Nat) (rest:List Oper) (DD:List (Nat×Fp)) (k:List Item) (st:St) (K:Out->St->Option α) (r:α),
  exec P env n (.zM ops i rest DD::k) st K=some r->i<=ops.size->rest=ops.toList.drop i->
  ∃m Mf,m<n/\exec P env m k (rO Mf) K=some r/\∃(E:Nat->sQ) (S:Nat->St) (F:Nat->Option Fp),S i=st/\S ops.size=Mf/\
   (∀j o,i<=j->ops[j]?=some o->S (j+1)=(E j).ap (S j)/\H3 P base ops o (S j) (E j) (F j))/\
   (∀j f,i<=j->F j=some f->(∀q g,(q,g)∈DD->((Region.before ops).getD j 0).testBit q=true\/yV g f=false)/\∀q g,i<=q->q<j->F q=some g->((Region.before ops).getD j 0).testBit q=true\/yV g f=false):=by
 intro n;induction n with
 |zero=>intro i rest DD k st K r h;simp[exec] at h
 |succ n ih=>
  intro i rest DD k st K r h hi Ae;unfold exec at h;cases rest with
  |nil=>
   have hsz:i=ops.size:=by
    have:=congrArg List.length Ae;simp at this;omega
   subst hsz;refine⟨n,st,zeW n,h,λ_=>⟨none, .undef,λ_=>false,λ_=>none⟩,λ_=>st,λ_=>none,rfl,rfl,λj o hj ho=>?_,λj f _ hf=>by cases hf⟩
   have:=(Array.getElem?_eq_some_iff.1 ho).1;omega
  |cons o rest=>
   have kQ:i<ops.size:=by
    have:=congrArg List.length Ae;simp at this;omega
   have Vo:ops[i]?=some o:=by
    have h1:(ops.toList.drop i)[0]?=some o:=by rw[<-Ae];rfl
    rw[zd6] at h1;simpa using h1
   have H4:rest=ops.toList.drop (i+1):=by
    have h1:(ops.toList.drop i).tail=rest:=by rw[<-Ae];rfl
    rw[<-h1,List.tail_drop]
   simp only at h;have lF: ∀j,i+1<=j->j≠i:=λj hj=>by omega
   have H5: ∀(E0:sQ) (F0:Option Fp) (Sf:List (Nat×Fp)) (H6:St),H6=E0.ap st->H3 P base ops o st E0 F0->exec P env n (.zM ops (i+1) rest Sf::k) H6 K=some r->
     (∀p,p∈DD->p∈Sf)->(∀f,F0=some f->(i,f)∈Sf/\∀q g,(q,g)∈DD->((Region.before ops).getD i 0).testBit q=true\/yV g f=false)->
     ∃m Mf,m<n+1/\exec P env m k (rO Mf) K=some r/\∃(E:Nat->sQ) (S:Nat->St) (F:Nat->Option Fp),S i=st/\S ops.size=Mf/\
      (∀j o,i<=j->ops[j]?=some o->S (j+1)=(E j).ap (S j)/\H3 P base ops o (S j) (E j) (F j))/\
      (∀j f,i<=j->F j=some f->(∀q g,(q,g)∈DD->((Region.before ops).getD j 0).testBit q=true\/yV g f=false)/\∀q g,i<=q->q<j->F q=some g->((Region.before ops).getD j 0).testBit q=true\/yV g f=false):=by
    intro E0 F0 Sf H6 e2 hs hx zX hF0;obtain⟨m,Mf,g1,g2,E',S',F',g3,g4,g5,g6⟩:=ih (i+1) rest Sf k H6 K r hx kQ H4;refine⟨m,Mf,Nat.lt_succ_of_lt g1,g2,λj=>if j=i then E0 else E' j,λj=>if j=i then st else S' j,λj=>if j=i then F0 else F' j,by simp,?_,λj o' hj mX=>?_,λj f hj hf=>?_⟩
    ·simp only[if_neg (show ops.size≠i by omega)];exact g4
    ·by_cases e:j=i
     ·subst e
      rw[Vo] at mX;cases mX;simp only[if_true,if_neg (show j+1≠j by omega)]
      exact⟨by rw[g3,e2],hs⟩
     ·simp only[if_neg e,if_neg (show j+1≠i by omega)]
      exact g5 j o' (by omega) mX
    ·by_cases e:j=i
     ·subst e
      simp only[if_true] at hf;exact⟨(hF0 f hf).2,λq g h1 h2=>by omega⟩
     ·simp only[if_neg e] at hf
      obtain⟨h1,h2⟩:=g6 j f (by omega) hf
      refine⟨λq g hq=>h1 q g (zX _ hq),λq g h3 h4 h5=>?_⟩;by_cases e3:q=i
      ·subst e3
       simp only[if_true] at h5;exact h1 q g (hF0 g h5).1
      ·simp only[if_neg e3] at h5
       exact h2 q g (by omega) h4 h5
   rcases FW (base:=base) h with⟨h1,hw⟩|⟨h1,hw⟩
   ·split at h1
    ·rename_i YO
     split at h1
     ·cases h1
     ·rename_i FU
      obtain⟨av,eZ,h2,Mg⟩:=xY he h1;refine H5 ⟨o.dst,av,λid=>(yH env (rO st) o).2.contains id||qD st.ep o id,eZ.h⟩ (some (yH env (rO st) o,keyOf st.ep o)) _ _ rfl ⟨rfl,rfl,λ_=>rfl,hw,eZ,Mg.zcB (λi hi=>?_),λ_ _=>rfl⟩ h2 (λp hp=>zdL _ hp) (λf hf=>?_)
      ·have:=List.all_eq_true.1 FU i hi
       simpa using this
      ·cases hf
       refine⟨zdM ..,λq g hq=>?_⟩;have:=List.all_eq_true.1 YO (q,g) hq;simpa using this
    ·split at h1
     ·rename_i t0 x0 f0 uN
      split at h1
      ·rename_i YO
       obtain⟨av,eZ,h2,Mg⟩:=xY he h1;have hW:(yH env (wY st o ([],[])) o).2=[]:=by
        unfold yH;rw[uN];simp only[NX,uN]
       rw[hW] at Mg;refine H5 ⟨o.dst,av,λid=>([]:List Nat).contains id||qD st.ep o id,eZ.h⟩ (some (([],[]),keyOf st.ep o)) _ _ rfl ⟨rfl,rfl,λ_=>rfl,hw,eZ,Mg,λ_ _=>rfl⟩ h2 (λp hp=>zdL _ hp) (λf hf=>?_)
       cases hf;refine⟨zdM ..,λq g hq=>?_⟩;have:=List.all_eq_true.1 YO (q,g) hq;simpa using this
      ·cases h1
     ·cases h1
   ·refine H5 ⟨o.dst, .val Go.undef,λ_=>false,λ_=>none⟩ none DD _ ?_ ⟨rfl,rfl,λ_=>rfl,hw⟩ h1 (λp hp=>hp) (λf hf=>by cases hf)
    simp[sQ.ap]
end AM
namespace AM
open Go
variable {α:Type}{P:Program}{base:Nat}
def sY (ops:Array Oper):Bool:=rW ops&& (List.range ops.size).all λj=>(List.range j).all λi=>((Region.before ops).getD j 0).testBit i||(match ops[i]?,ops[j]? with|some x,some y=>x.apart ops y|_,_=>true)
theorem pn {ops:Array Oper}(h:sY ops=true):rW ops=true/\∀i j x y,i<j->ops[i]?=some x->ops[j]?=some y->((Region.before ops).getD j 0).testBit i=true\/x.apart ops y=true:=by
 simp only[sY,zdH] at h;refine⟨h.1,λi j x y hij hx hy=>?_⟩;have hj:j<ops.size:=(Array.getElem?_eq_some_iff.1 hy).1;have:=List.all_eq_true.1 h.2 j (by simpa using hj)
 have:=List.all_eq_true.1 this i (by simpa using hij)
 simpa [hx,hy] using this
theorem Mh {a b:Fp}(h:yV a b=false):(∀id∈a.1.2,id∉b.1.1/\id∉b.1.2)/\(∀id∈b.1.2,id∉a.1.1)/\(∀k,a.2=some k->∀id,id∈b.1.1\/id∈b.1.2->id/100≠k)/\(∀k,b.2=some k->∀id,id∈a.1.1\/id∈a.1.2->id/100≠k)/\∀k,a.2=some k->b.2≠some k:=by
 simp only[yV,Bool.or_eq_false_iff] at h;obtain⟨⟨⟨⟨h1,h2⟩,h3⟩,h4⟩,h5⟩:=h;refine⟨λid hi=>?_,λid hi=>?_,λk hk id hi=>?_,λk hk id hi=>?_,λk hk ti=>?_⟩
 ·have:=List.any_eq_false.1 h1 id hi
  simpa using this
 ·have:=List.any_eq_false.1 h2 id hi
  simpa using this
 ·rw[hk] at h3
  have:=List.any_eq_false.1 h3 id (by simpa using hi)
  simpa using this
 ·rw[hk] at h4
  have:=List.any_eq_false.1 h4 id (by simpa using hi)
  simpa using this
 ·rw[hk,ti] at h5;simp at h5
theorem zp {E:Nat->sQ}{X Y:Nat->Bool}{S0:St}: ∀n,(∀j,j<n->X j=Y j)->lG E X S0 n=lG E Y S0 n
 |0,_=>rfl
 |n+1,h=>by
  have ih:=zp (S0:=S0) (E:=E) n λj hj=>h j (by omega)
  simp only[lG,h n (by omega),ih]
theorem H7 {E:Nat->sQ}{S0:St}{i:Nat}: ∀n,i<=n->lG E (λj=>decide (j<i)) S0 n=lG E (λ_=>true) S0 i
 |0,h=>by
  have:i=0:=by omega
  subst this;rfl
 |n+1,h=>by
  by_cases e:i=n+1
  ·subst e;exact zp _ λj hj=>by simpa using hj
  ·have ih:=H7 (S0:=S0) (E:=E) n (show i<=n by omega)
   simp only[lG];rw[if_neg (by simp;omega)];exact ih
theorem Sg {E:Nat->sQ}{X:Nat->Bool}{S0:St}{i n:Nat}(hi:i<n)(hX:X i=false)(ht: ∀j,i<j->j<n->X j=true->∀x,(E i).dst=some x->(E j).dst≠some x)(hh: ∀j,i<j->j<n->X j=true->∀id,(E i).W id=true->(E j).W id=false):
  lG E (λj=>X j||decide (j=i)) S0 n=(E i).ap (lG E X S0 n):=by
 have lF: ∀j,X j≠(X j||decide (j=i))->j=i:=by
  intro j h;by_cases e:j=i
  ·exact e
  ·simp[e] at h
 have e1: ∀a b:St,a.t=b.t->a.h=b.h->a.ep=b.ep->a.nt=b.nt->a=b:=by
  intro a b h1 h2 h3 h4;cases a;cases b;simp_all
 apply e1
 ·funext x
  rw[sQ.PY,sk];by_cases hd:(E i).dst=some x
  ·have Si:=Cb (E:=E) (X:=λj=>X j||decide (j=i)) (S0:=S0) (x:=x) (i:=i) (by simp) hd n hi λj h1 h2 h3=>ht j h1 h2 (by
    have hji:j≠i:=by omega
    simpa [hji] using h3) x hd
   rw[Si];by_cases hb:x<S0.nt
   ·simp[hd,hb]
   ·simp only[hb,hd,and_false,if_false]
    have out: ∀m,(lG E X S0 m).t x=S0.t x:=by
     intro m;induction m with
     |zero=>rfl
     |succ m ih=>
      simp only[lG];split
      ·rw[sQ.PY,sk,if_neg (λq=>hb q.2)];exact ih
      ·exact ih
    exact(out n).symm
  ·rw[if_neg (λq=>hd q.1)]
   refine(wG n λj _ hj=>?_).symm;rw[lF j hj];exact hd
 ·funext id
  rw[sQ.Vn];cases hd:(E i).W id with
  |true=>
   have Si:=Cc (E:=E) (X:=λj=>X j||decide (j=i)) (S0:=S0) (id:=id) (i:=i) (by simp) hd n hi λj h1 h2 h3=>hh j h1 h2 (by
    have hji:j≠i:=by omega
    simpa [hji] using h3) id hd
   rw[Si];simp
  |false=>
   simp only[zdG,if_false];refine(wH n λj _ hj=>?_).symm;rw[lF j hj];exact hd
 ·rw[yv,sQ.XH,yv]
 ·rw[sk,sQ.XG,sk]
end AM
namespace AM
open Go
variable {α:Type}{P:Program}{base:Nat}
theorem H8 {o:Oper}{ops:Array Oper}{x:Nat}(h:x∈RF o):x∈o.looksAt ops:=zdQ _ h
structure lH (P:Program)(base:Nat)(ops:Array Oper)(E:Nat->sQ)(S:Nat->St)(F:Nat->Option Fp):Prop where
 step: ∀j o,ops[j]?=some o->S (j+1)=(E j).ap (S j)/\H3 P base ops o (S j) (E j) (F j)
 pair: ∀q j f g,q<j->F j=some f->F q=some g->((Region.before ops).getD j 0).testBit q=true\/yV g f=false
theorem lH.P0 {ops:Array Oper}{E:Nat->sQ}{S:Nat->St}{F:Nat->Option Fp}(R:lH P base ops E S F): ∀j,j<=ops.size->S j=lG E (λ_=>true) (S 0) j
 |0,_=>rfl
 |j+1,h=>by
  rw[(R.step j ops[j] (zei (by omega))).1,R.P0 j (by omega)]
  simp[lG]
theorem lH.ep {ops:Array Oper}{E:Nat->sQ}{S:Nat->St}{F:Nat->Option Fp}(R:lH P base ops E S F){j:Nat}(h:j<=ops.size):(S j).ep=(S 0).ep:=by rw[R.P0 j h,yv]
theorem lH.nt {ops:Array Oper}{E:Nat->sQ}{S:Nat->St}{F:Nat->Option Fp}(R:lH P base ops E S F){j:Nat}(h:j<=ops.size):(S j).nt=(S 0).nt:=by rw[R.P0 j h,sk]
structure sZ (ops:Array Oper)(X:Nat->Bool)(i:Nat)(o:Oper):Prop where
 op:ops[i]?=some o
 not:X i=false
 closed: ∀j o,ops[j]?=some o->X j=true->∀e∈o.after,Region.binds .any e=true->X e.on=true
 ready: ∀e∈o.after,Region.binds .any e=true->X e.on=true
theorem sZ.before {ops:Array Oper}(hE:rW ops=true){X:Nat->Bool}{i:Nat}{o:Oper}(h:sZ ops X i o){j:Nat}(hj:((Region.before ops).getD i 0).testBit j=true):X j=true\/j=i:=by
 refine yY hE (X:=λq=>X q=true\/q=i) (λq o' ho hq e he hb=>?_) i j (.inr rfl) hj;rcases hq with hq|rfl
 ·exact .inl (h.closed q o' ho hq e he hb)
 ·rw[h.op] at ho;cases ho;exact .inl (h.ready e he hb)
theorem sZ.after {ops:Array Oper}(hE:rW ops=true){X:Nat->Bool}{i:Nat}{o:Oper}(h:sZ ops X i o){j:Nat}(hX:X j=true):((Region.before ops).getD j 0).testBit i=false:=by
 cases e:((Region.before ops).getD j 0).testBit i with
 |false=>rfl
 |true=>
  have:=yY hE (X:=λq=>X q=true) (λq o' ho hq e he hb=>h.closed q o' ho hq e he hb) j i hX e;rw[h.not] at this;cases this
section
variable {ops:Array Oper}{E:Nat->sQ}{S:Nat->St}{F:Nat->Option Fp}
theorem sZ.unordered (hD:sY ops=true){X:Nat->Bool}{i:Nat}{o:Oper}(h:sZ ops X i o){j:Nat}(hj:X j≠decide (j<i)):j≠i/\(j<i->((Region.before ops).getD i 0).testBit j=false)/\(i<j->((Region.before ops).getD j 0).testBit i=false):=by
 have hE:=(pn hD).1;have lF:j≠i:=by intro e;subst e;simp[h.not] at hj
 refine⟨lF,λkQ=>?_,λkQ=>?_⟩
 ·cases e:((Region.before ops).getD i 0).testBit j with
  |false=>rfl
  |true=>
   rcases h.before hE e with h1|h1
   ·simp[h1,kQ] at hj
   ·exact absurd h1 lF
 ·have hX:X j=true:=by
   cases e:X j with
   |true=>rfl
   |false=>simp[e,Nat.not_lt.2 (Nat.le_of_lt kQ)] at hj
  exact h.after hE hX
theorem lH.jJ (R:lH P base ops E S F)(hD:sY ops=true){X:Nat->Bool}{i:Nat}{o:Oper}(h:sZ ops X i o){x:Nat}(hx:x∈o.looksAt ops):(lG E X (S 0) ops.size).t x=(S i).t x:=by
 have hi:i<ops.size:=(Array.getElem?_eq_some_iff.1 h.op).1;rw[R.P0 i (by omega),<-H7 ops.size (show i<=ops.size by omega)]
 refine wG _ λj hj lF hd=>?_;obtain⟨h1,h2,h3⟩:=h.unordered hD lF;have hoj:=zei hj;rw[(R.step j _ hoj).2.dst] at hd;rcases Nat.lt_or_gt_of_ne h1 with kQ|kQ
 ·rcases(pn hD).2 j i _ _ kQ hoj h.op with q|q
  ·rw[h2 kQ] at q;cases q
  ·exact(Oper.apart_spec q).1 x hd hx
 ·rcases(pn hD).2 i j _ _ kQ h.op hoj with q|q
  ·rw[h3 kQ] at q;cases q
  ·exact(Oper.apart_spec q).2.2 x hd hx
def Fp.all (f:Fp)(id:Nat):Prop:=id∈f.1.1\/id∈f.1.2\/f.2=some (id/100)
def Fp.out (f:Fp)(id:Nat):Prop:=id∈f.1.2\/f.2=some (id/100)
theorem Bi {a b:Fp}(h:yV a b=false){id:Nat}:(a.out id->¬b.all id)/\(b.out id->¬a.all id):=by
 obtain⟨h1,h2,h3,h4,h5⟩:=Mh h;constructor
 ·rintro(ha|ha) (hb|hb|hb)
  ·exact(h1 id ha).1 hb
  ·exact(h1 id ha).2 hb
  ·exact h4 _ hb id (.inr ha) rfl
  ·exact h3 _ ha id (.inl hb) rfl
  ·exact h3 _ ha id (.inr hb) rfl
  ·exact h5 _ ha hb
 ·rintro(hb|hb) (ha|ha|ha)
  ·exact h2 id hb ha
  ·exact(h1 id ha).2 hb
  ·exact h3 _ ha id (.inr hb) rfl
  ·exact h4 _ hb id (.inl ha) rfl
  ·exact h4 _ hb id (.inr ha) rfl
  ·exact h5 _ ha hb
theorem Oj {ep:Nat}{o:Oper}{id:Nat}:qD ep o id=true↔keyOf ep o=some (id/100):=by
 unfold qD keyOf;cases makes o
 ·simp
 ·simp[eq_comm]
theorem lH.out (R:lH P base ops E S F){j:Nat}{o:Oper}(ho:ops[j]?=some o){id:Nat}(h:(E j).W id=true): ∃f,F j=some f/\f.out id:=by
 have:=(R.step j o ho).2.run;cases hF:F j with
 |none=>rw[hF] at this;rw[this.2.1 id] at h;cases h
 |some f=>
  rw[hF] at this;refine⟨f,rfl,?_⟩;rw[this.2.1 id,zeM] at h;rcases h with h|h
  ·exact .inl (by simpa using h)
  ·exact .inr (by rw[this.1];exact Oj.1 h)
theorem lH.heap (R:lH P base ops E S F)(hD:sY ops=true){X:Nat->Bool}{i:Nat}{o:Oper}(h:sZ ops X i o){f:Fp}(hF:F i=some f){id:Nat}(pQ:f.all id):(lG E X (S 0) ops.size).h id=(S i).h id:=by
 have hi:i<ops.size:=(Array.getElem?_eq_some_iff.1 h.op).1;rw[R.P0 i (by omega),<-H7 ops.size (show i<=ops.size by omega)]
 refine wH _ λj hj lF=>?_;obtain⟨h1,h2,h3⟩:=h.unordered hD lF;cases hW:(E j).W id with
 |false=>rfl
 |true=>
  exfalso
  obtain⟨g,hg,jr⟩:=R.out (zei hj) hW;rcases Nat.lt_or_gt_of_ne h1 with kQ|kQ
  ·rcases R.pair j i f g kQ hF hg with q|q
   ·rw[h2 kQ] at q;cases q
   ·exact(Bi q).1 jr pQ
  ·rcases R.pair i j g f kQ hg hF with q|q
   ·rw[h3 kQ] at q;cases q
   ·exact(Bi q).2 jr pQ
theorem lH.put (R:lH P base ops E S F)(hD:sY ops=true){X:Nat->Bool}{i:Nat}{o:Oper}(h:sZ ops X i o):lG E (λj=>X j||decide (j=i)) (S 0) ops.size=(E i).ap (lG E X (S 0) ops.size):=by
 have hi:i<ops.size:=(Array.getElem?_eq_some_iff.1 h.op).1;refine Sg hi h.not (λj kQ hj hX x hdi hdj=>?_) (λj kQ hj hX id hWi=>?_)
 ·have hoj:=zei hj
  rw[(R.step j _ hoj).2.dst] at hdj;rw[(R.step i _ h.op).2.dst] at hdi;have hb:=h.after (pn hD).1 hX;rcases(pn hD).2 i j _ _ kQ h.op hoj with q|q
  ·rw[hb] at q;cases q
  ·exact(Oper.apart_spec q).2.1 x hdi hdj
 ·cases hW:(E j).W id with
  |false=>rfl
  |true=>
   exfalso
   obtain⟨f,hf,hfo⟩:=R.out h.op hWi;obtain⟨g,hg,XA⟩:=R.out (zei hj) hW;have hb:=h.after (pn hD).1 hX;rcases R.pair i j g f kQ hg hf with q|q
   ·rw[hb] at q;cases q
   ·refine(Bi q).1 hfo ?_
    rcases XA with XA|XA
    ·exact .inr (.inl XA)
    ·exact .inr (.inr XA)
end
end AM
namespace AM
open Go
variable {α:Type}{P:Program}{base:Nat}
section
variable {ops:Array Oper}{E:Nat->sQ}{S:Nat->St}{F:Nat->Option Fp}
theorem lH.wY (R:lH P base ops E S F)(hD:sY ops=true){X:Nat->Bool}{i:Nat}{o:Oper}(h:sZ ops X i o){f:Fp}(hF:F i=some f)(hk:f.2=keyOf (S i).ep o):AM.wY (lG E X (S 0) ops.size) o f.1=AM.wY (S i) o f.1:=by
 have hi:i<ops.size:=(Array.getElem?_eq_some_iff.1 h.op).1;have uy:(lG E X (S 0) ops.size).ep=(S i).ep:=by rw[yv];exact(R.ep (by omega)).symm
 have Sj:(lG E X (S 0) ops.size).nt=(S i).nt:=by rw[sk];exact(R.nt (by omega)).symm
 have hH:DE (lG E X (S 0) ops.size) o f.1=DE (S i) o f.1:=by
  funext id
  unfold DE;rw[uy];split
  ·rename_i hx
   refine R.heap hD h hF ?_;simp only[zeM,List.contains_iff_mem] at hx;rcases hx with(hx|hx)|hx
   ·exact .inl hx
   ·exact .inr (.inl hx)
   ·exact .inr (.inr (by rw[hk];exact Oj.1 hx))
  ·rfl
 unfold AM.wY;rw[uy,Sj,hH];congr 1
 funext x
 split
 ·rename_i hx
  rw[R.jJ hD h (H8 (by simpa using hx))]
 ·rfl
theorem lH.one (R:lH P base ops E S F)(hD:sY ops=true){X:Nat->Bool}{i:Nat}{o:Oper}(h:sZ ops X i o){N:Names}{D:Nat->Prop}{w:World}{a:Act}(s:kp N D w base (lG E X (S 0) ops.size) a){Q:Exit->Act->World->Prop}{K:Act->World->Prop}
  (hK: ∀N' D' w' a',kp N' D' w' base (lG E (λj=>X j||decide (j=i)) (S 0) ops.size) a'->Ext N D w (lG E X (S 0) ops.size).h N' D' w' (lG E (λj=>X j||decide (j=i)) (S 0) ops.size).h->K a' w'):wpOp P ops Q i K a w:=by
 have hi:i<ops.size:=(Array.getElem?_eq_some_iff.1 h.op).1;obtain⟨kg,l8⟩:=R.step i o h.op;have jG:=l8.run;have wu: ∀x∈o.looksAt ops,(lG E X (S 0) ops.size).t x=(S i).t x:=λx hx=>R.jJ hD h hx;rw[R.put hD h] at hK;unfold wpOp;rw[h.op];simp only;cases hF:F i with
 |none=>
  rw[hF] at jG;obtain⟨h1,h2,h3⟩:=jG;rw[if_neg (by rw[h3 _ wu N D w a s];simp)]
  have s2:=s.put (Ext.refl _ _ _ _) s.ny rfl rfl o.dst (u:= .val Go.undef) (v:=Go.undef) (dY.2 rfl);have e:(E i).ap (lG E X (S 0) ops.size)=(lG E X (S 0) ops.size).put o.dst (.val Go.undef):=by
   unfold sQ.ap;rw[l8.dst,h1];simp[h2]
  rw[e] at hK;exact hK N D w _ s2 (by rw[St.BV];exact Ext.refl _ _ _ _)
 |some f=>
  rw[hF] at jG;obtain⟨h1,h2,h3,eZ,Mg,h4⟩:=jG;rw[if_pos (h3 _ wu N D w a s)];left
  have Mi:=R.wY hD h hF h1;rw[<-Mi] at Mg;obtain⟨o1,o2,o3,o4,o5⟩:=Mg;generalize hT:lG E X (S 0) ops.size=T at*;have uy:T.ep=(S i).ep:=by rw[<-hT,yv];exact(R.ep (by omega)).symm
  have sR:kp N D w base (AM.wY T o f.1) a:=⟨s.ny.part (λid=>f.1.1.contains id||f.1.2.contains id||qD T.ep o id),λx=>by
   unfold AM.wY;simp only;split
   ·exact JO (s.ny.part (λid=>f.1.1.contains id||f.1.2.contains id||qD T.ep o id)) (s.tmps x)
   ·exact pc,s.nt,s.defers⟩
  refine o5 N D w a sR K Q λN' D' w' v x' s' hv=>?_;obtain⟨jS,jE⟩:=s.ny.join (F:=λid=>f.1.1.contains id||f.1.2.contains id||qD T.ep o id) (W:=(E i).W) x' s' (λid pQ=>by
   rw[h2 id,<-uy] at pQ;simp only[zeM] at pQ⊢;rcases pQ with pQ|pQ
   ·exact .inl (.inr pQ)
   ·exact .inr pQ) (λid _ pQ=>by
   rw[h2 id,<-uy,Bool.or_eq_false_iff] at pQ;exact o4 id (by simpa using pQ.1) pQ.2)
  have hj:AM.join T.h eZ.h (E i).W=λid=>if(E i).W id then(E i).h id else T.h id:=by
   funext id
   unfold AM.join;cases hw:(E i).W id with
   |true=>simp[h4 id hw]
   |false=>simp
  rw[hj] at jS jE;have s2:=s.put (eZ:={T with h:=λid=>if(E i).W id then(E i).h id else T.h id}) jE jS rfl rfl o.dst hv
  have e:(E i).ap T=St.put {T with h:=λid=>if(E i).W id then(E i).h id else T.h id} o.dst (E i).av:=by unfold sQ.ap;rw[l8.dst]
  rw[e] at hK;exact hK N' D' w' _ s2 (by rw[St.BV];exact jE)
end
end AM
namespace AM
open Go
variable {α:Type}{P:Program}{base:Nat}
section
variable {ops:Array Oper}{E:Nat->sQ}{S:Nat->St}{F:Nat->Option Fp}
def sI (l:Array Bool)(j:Nat):Bool:=l.getD j false
def H9 (ops:Array Oper)(l:Array Bool):Prop:=l.size=ops.size/\∀j o,ops[j]?=some o->sI l j=true->∀e∈o.after,Region.binds .any e=true->sI l e.on=true
theorem DY {l:Array Bool}(hc:H9 ops l){i:Nat}(h:i∈Region.ready .any ops l): ∃o,sZ ops (sI l) i o:=by
 unfold Region.ready at h;simp only[List.mem_filter,List.mem_range,zdH,Bool.not_eq_eq_eq_not,zdC] at h;obtain⟨hi,h1,h2⟩:=h;have Vo:=zei hi;refine⟨ops[i],Vo,?_,hc.2,λe he hb=>?_⟩
 ·have hl:i<l.size:=by rw[hc.1];exact hi
  unfold sI;simp[Array.getD,hl] at h1⊢;exact h1
 ·rw[Vo] at h2
  simp only[zdO,zeV] at h2;have:=Array.all_eq_true_iff_forall_mem.1 h2 e he;simpa [hb,sI] using this
theorem Mj (hE:rW ops=true){l:Array Bool}(hc:H9 ops l)(h:Region.ready .any ops l=[]): ∀i,i<ops.size->sI l i=true:=by
 intro i;induction i using Nat.strongRecOn with
 |_ i ih=>
  intro hi;cases hX:sI l i with
  |true=>rfl
  |false=>
   exfalso
   have hl:i<l.size:=by rw[hc.1];exact hi
   have Vo:=zei hi;have:i∈Region.ready .any ops l:=by
    unfold Region.ready;simp only[List.mem_filter,List.mem_range,zdH,Bool.not_eq_eq_eq_not,zdC];refine⟨hi,?_,?_⟩
    ·unfold sI at hX
     simp[Array.getD,hl] at hX⊢;exact hX
    ·rw[Vo]
     simp only[zdO,zeV];refine Array.all_eq_true_iff_forall_mem.2 λe he=>?_;cases hb:Region.binds .any e with
     |false=>simp
     |true=>
      have:=ya hE Vo he hb;have:=ih e.on this (by omega)
      unfold sI at this;simp[this]
   rw[h] at this;cases this
def yZ (l:Array Bool):Nat->Nat
 |0=>0
 |m+1=>yZ l m+(if sI l m then 0 else 1)
theorem JP {l:Array Bool}: ∀m,yZ l m=0->∀j,j<m->sI l j=true
 |0,_,j,h=>by omega
 |m+1,h,j,hj=>by
  simp only[yZ] at h;by_cases e:j=m
  ·subst e
   cases hX:sI l j with
   |true=>rfl
   |false=>simp[hX] at h
  ·exact JP m (by omega) j (by omega)
theorem DZ {l:Array Bool}{i j:Nat}(hi:i<l.size):sI (l.setIfInBounds i true) j=(sI l j||decide (j=i)):=by
 unfold sI;by_cases e:j=i
 ·subst e;simp[Array.getD,hi]
 ·simp[zeU,Array.getElem?_setIfInBounds_ne (Ne.symm e),e]
theorem Ok {l:Array Bool}{i:Nat}(hi:i<l.size)(hX:sI l i=false): ∀m,yZ (l.setIfInBounds i true) m+(if i<m then 1 else 0)=yZ l m
 |0=>by simp[yZ]
 |m+1=>by
  have ih:=Ok hi hX m;simp only[yZ,DZ hi];by_cases e:m=i
  ·subst e;simp[hX] at ih⊢;omega
  ·by_cases kQ:i<m
   ·simp[e,kQ,show i<m+1 by omega] at ih⊢;omega
   ·simp[e,kQ,show¬i<m+1 by omega] at ih⊢;omega
theorem lH.any (R:lH P base ops E S F)(hD:sY ops=true){Q:Exit->Act->World->Prop}: ∀(fuel:Nat) (l:Array Bool),H9 ops l->yZ l ops.size<=fuel->∀N D w a,kp N D w base (lG E (sI l) (S 0) ops.size) a->
  (∀N' D' w' a',kp N' D' w' base (S ops.size) a'->Ext N D w (lG E (sI l) (S 0) ops.size).h N' D' w' (S ops.size).h->Q .normal a' w')->wpAny P .any ops Q fuel l a w:=by
 have hE:=(pn hD).1;have zaR: ∀(l:Array Bool),(∀i,i<ops.size->sI l i=true)->lG E (sI l) (S 0) ops.size=S ops.size:=λl hl=>by
  rw[R.P0 _ (zdV _)];exact zp _ λj hj=>hl j hj
 intro fuel;induction fuel with
 |zero=>
  intro l hc hf N D w a s hQ;have FU:=JP (l:=l) ops.size (Nat.le_zero.1 hf);refine⟨?_,?_⟩
  ·cases hr:Region.ready .any ops l with
   |nil=>rfl
   |cons i is=>
    obtain⟨o,hn⟩:=DY hc (i:=i) (by rw[hr];exact zdM ..)
    have:=FU i (Array.getElem?_eq_some_iff.1 hn.op).1;rw[hn.not] at this;cases this
  ·have e:=zaR l FU
   rw[e] at s hQ;exact hQ N D w a s (Ext.refl _ _ _ _)
 |succ fuel ih=>
  intro l hc hf N D w a s hQ;refine⟨λhr=>?_,λi hi=>?_⟩
  ·have e:=zaR l (Mj hE hc hr)
   rw[e] at s hQ;exact hQ N D w a s (Ext.refl _ _ _ _)
  ·obtain⟨o,hn⟩:=DY hc hi
   have xk:i<ops.size:=(Array.getElem?_eq_some_iff.1 hn.op).1;have hil:i<l.size:=by rw[hc.1];exact xk
   have hX:(λj=>sI l j||decide (j=i))=sI (l.setIfInBounds i true):=by funext j;rw[DZ hil]
   refine R.one hD hn s λN' D' w' a' s' x'=>?_;rw[hX] at s' x';have FX:=Ok hil hn.not ops.size;rw[if_pos xk] at FX;refine ih _ ⟨by simp[hc.1],λj o' mX hj e he hb=>?_⟩ (by omega) N' D' w' a' s' λN2 D2 w2 a2 s2 x2=>hQ N2 D2 w2 a2 s2 (x'.trans x2)
   rw[DZ hil] at hj⊢;simp only[zeM,zdN] at hj⊢;rcases hj with hj|rfl
   ·exact .inl (hc.2 j o' mX hj e he hb)
   ·rw[hn.op] at mX;cases mX;exact .inl (hn.ready e he hb)
end
end AM
namespace AM
open Go
variable {α:Type}{P:Program}{base:Nat}
def pH:Code->Prop
 | .seq a b=>pH a/\pH b
 | .cond _ a b=>pH a/\pH b
 | .block _ c=>pH c
 | .scope c=>pH c
 | .region _ ops draw=>draw=true->sY ops=true
 |_=>True
theorem Mk {env:Env α}(he:sH P base env)(hm:P.follows .mixedOrders=true){ops:Array Oper}(hd:sY ops=true){n:Nat}{k:List Item}{st:St}{K:Out->St->Option α}{r:α}(h:exec P env n (.zM ops 0 ops.toList []::k) st K=some r):
  ∃m Mf,m<n/\exec P env m k Mf K=some r/\∀N D w a id Q,kp N D w base st a->(∀N' D' w' a',kp N' D' w' base Mf a'->Ext N D w st.h N' D' w' Mf.h->Q .normal a' w')->(Code.region id ops true).wp P Q a w:=by
 obtain⟨m,Mf,h1,h2,E,S,F,h3,h4,h5,h6⟩:=Sd he n 0 ops.toList [] k st K r h (zeH _) (by simp)
 have R:lH P base ops E S F:=⟨λj o ho=>h5 j o (zeH _) ho,λq j f g hq hf hg=>(h6 j f (zeH _) hf).2 q g (zeH _) hq hg⟩;refine⟨m,rO Mf,h1,h2,λN D w a id Q s hQ=>wp_region_any hm ?_⟩;have vG: ∀j,sI (Array.replicate ops.size false) j=false:=λj=>by
  unfold sI;rw[zeU,Array.getElem?_replicate];split<;>rfl
 have h0:lG E (sI (Array.replicate ops.size false)) (S 0) ops.size=st:=by
  rw[h3];have: ∀m,lG E (sI (Array.replicate ops.size false)) st m=st:=by
   intro m;induction m with
   |zero=>rfl
   |succ m ih=>simp only[lG,vG];exact ih
  exact this _
 have FX: ∀m,yZ (Array.replicate ops.size false) m=m:=by
  intro m;induction m with
  |zero=>rfl
  |succ m ih=>simp[yZ,vG,ih]
 have s0:kp N D {w with drawn:=w.drawn+1} base st a:=⟨⟨λi o hi=>nQ (s.ny.obj i o hi) (Names.le_refl _) (λ_ h=>h) (λ_ _=>rfl) (λ_ _=>⟨rfl,λh=>h⟩) (λ_ _ _ _=>rfl),s.ny.apart,s.ny.frozen,s.ny.named,s.ny.size,s.ny.iG⟩,λx=>Gn (w:=w) (w':={w with drawn:=w.drawn+1}) (Names.le_refl _) (λ_ h=>h) (λ_ _=>rfl) (s.tmps x),s.nt,s.defers⟩;refine R.any hd ops.size _ ⟨by simp,λj o _ hj=>by rw[vG] at hj;cases hj⟩ (by rw[FX];exact zdV _) N D _ a (by rw[h0];exact s0) λN' D' w' a' s' x'=>?_
 rw[h4] at s' x';rw[h0] at x';exact hQ N' D' w' a' s'.norm ⟨x'.names,x'.frozen,x'.os,x'.tape,x'.output,x'.size,x'.sU,x'.own,x'.JB,x'.fresh,x'.live,x'.pQ⟩
def Item.YP:Item->Prop
 | .code c=>pH c
 |_=>True
theorem qx {id:Nat}: ∀{k k':List Item},AM.unwind id k=some k'->∀x∈k',x∈k
 | [],_,h=>by simp[AM.unwind] at h
 | .NW i::k,k',h=>by
  simp only[AM.unwind] at h;split at h
  ·cases h;exact λx hx=>zdL _ hx
  ·exact λx hx=>zdL _ (qx h x hx)
 | .code _::k,k',h=>by simp only[AM.unwind] at h;exact λx hx=>zdL _ (qx h x hx)
 | .ops _ _::k,k',h=>by simp only[AM.unwind] at h;exact λx hx=>zdL _ (qx h x hx)
 | .zM _ _ _ _::k,k',h=>by simp only[AM.unwind] at h;exact λx hx=>zdL _ (qx h x hx)
structure Good (fn:Func)(todo:List Item):Prop where
 ok: ∀x∈todo,x.ok fn
 YP: ∀x∈todo,x.YP
 clean: ∀x∈todo.tail,x.clean=true
 head: ∀all i rest DD k,todo≠ .zM all i rest DD::k
def sJ (fn:Func)(k:List Item):Prop:=(∀x∈k,x.ok fn)/\(∀x∈k,x.YP)/\∀x∈k,x.clean=true
theorem sJ.CH {fn:Func}{k:List Item}(h:sJ fn k):Good fn k:=
 ⟨h.1,h.2.1,λx hx=>h.2.2 x (List.mem_of_mem_tail hx),λall i rest DD k' e=>by subst e;have:=h.2.2 _ (zdM ..);simp[Item.clean] at this⟩
theorem sJ.cons {fn:Func}{c:Code}{k:List Item}(h:sJ fn k)(h1:ng fn c)(h2:pH c):sJ fn (.code c::k):=
 ⟨List.forall_mem_cons.2 ⟨h1,h.1⟩,List.forall_mem_cons.2 ⟨h2,h.2.1⟩,List.forall_mem_cons.2 ⟨rfl,h.2.2⟩⟩
theorem sJ.NW {fn:Func}{id:Nat}{k:List Item}(h:sJ fn k):sJ fn (.NW id::k):=
 ⟨List.forall_mem_cons.2 ⟨trivial,h.1⟩,List.forall_mem_cons.2 ⟨trivial,h.2.1⟩,List.forall_mem_cons.2 ⟨rfl,h.2.2⟩⟩
theorem sJ.unwind {fn:Func}{id:Nat}{k k':List Item}(h:sJ fn k)(e:AM.unwind id k=some k'):sJ fn k':=
 ⟨λx hx=>h.1 x (qx e x hx),λx hx=>h.2.1 x (qx e x hx),λx hx=>h.2.2 x (qx e x hx)⟩
theorem sJ.ops {fn:Func}{all:Array Oper}{rest:List Oper}{k:List Item}(h:sJ fn k):Good fn (.ops all rest::k):=
 ⟨List.forall_mem_cons.2 ⟨trivial,h.1⟩,List.forall_mem_cons.2 ⟨trivial,h.2.1⟩,h.2.2,λ_ _ _ _ _ e=>by cases e⟩
theorem Good.tail {fn:Func}{x:Item}{k:List Item}(h:Good fn (x::k)):sJ fn k:=
 ⟨λy hy=>h.ok y (zdL _ hy),λy hy=>h.YP y (zdL _ hy),h.clean⟩
theorem D0 {env:Env α}(he:sH P base env){fn:Func}(hl:xZ P base fn env)(hm:P.follows .mixedOrders=true): ∀(n:Nat) (todo:List Item) (st:St) (K:Out->St->Option α) (r:α),exec P env n todo st K=some r->Good fn todo->
  ∀N D w a (Q:Exit->Act->World->Prop),kp N D w base st a->(∀out eZ,K out eZ=some r->∀N' D' w' a',kp N' D' w' base eZ a'->Ext N D w st.h N' D' w' eZ.h->Q (Ad out) a' w')->zaQ P todo Q a w:=by
 intro n;induction n using Nat.strongRecOn with
 |_ n ih=>
 intro todo st K r h hg N D w a Q s hQ;cases n with
 |zero=>simp[exec] at h
 |succ n=>
 have XJ: ∀(id:Nat) (k:List Item) (eZ:St),sJ fn k->(match AM.unwind id k with|some k'=>exec P env n k' eZ K|none=>K (.exit id) eZ)=some r->∀N' D' w' a',kp N' D' w' base eZ a'->Ext N D w st.h N' D' w' eZ.h->pY P k Q (.exit id) a' w':=by
  intro id k eZ hk h2 N' D' w' a' s' x';rw[uc];cases hu:AM.unwind id k with
  |some k'=>
   rw[hu] at h2;exact pG (hk.unwind hu).2.2 (ih n (zeW n) k' eZ K r h2 (hk.unwind hu).CH N' D' w' a' Q s' λout Ml hK N2 D2 w2 a2 s2 x2=>hQ out Ml hK N2 D2 w2 a2 s2 (x'.trans x2))
  |none=>
   rw[hu] at h2;exact hQ _ eZ h2 N' D' w' a' s' x'
 unfold exec at h;match todo,hg,h with
 | [],hg,h=>exact hQ .norm st h N D w a s (Ext.refl _ _ _ _)
 | .NW id::k,hg,h=>
  have hk:=hg.tail;exact pG hk.2.2 (ih n (zeW n) k st K r h hk.CH N D w a Q s hQ)
 | .zM all i rest DD::k,hg,h=>exact absurd rfl (hg.head all i rest DD k)
 | .ops all rest::k,hg,h=>
  have hk:=hg.tail;intro i hi Ae;cases rest with
  |nil=>
   have hlen:all.size-i=0:=by
    have:=congrArg List.length Ae;simp at this;omega
   rw[hlen];exact pG hk.2.2 (ih n (zeW n) k st K r h hk.CH N D w a Q s hQ)
  |cons o rest=>
   have kQ:i<all.size:=by
    have:=congrArg List.length Ae;simp at this;omega
   have Vo:all[i]?=some o:=by
    have h1:(all.toList.drop i)[0]?=some o:=by rw[<-Ae];rfl
    rw[zd6] at h1;simpa using h1
   have H4:rest=all.toList.drop (i+1):=by
    have h1:(all.toList.drop i).tail=rest:=by rw[<-Ae];rfl
    rw[<-h1,List.tail_drop]
   have hr:List.range' i (all.size-i)=i::List.range' (i+1) (all.size-(i+1)):=by
    rw[show all.size-i=(all.size-(i+1))+1 by omega,List.range'_succ]
   rw[hr];simp only[wpOps,Vo];simp only at h;rcases H2 (base:=base) h with⟨xb,h1,hf,hw⟩|⟨xb,h1,hf,hw⟩
   ·rw[if_pos (hw N D w a s)]
    left
    obtain⟨av,eZ,h2,o1,o2,o3,o4,o5⟩:=xY he h1;refine o5 N D w a (hf.rel _ _ _ _ s) _ _ λN' D' w' v x' s' hv=>?_;have s2:=(hf.rel _ _ _ _ s).put x' s' o1 o2 o.dst hv;refine ih n (zeW n) (.ops all rest::k) _ K r h2 hk.ops N' D' w' _ Q s2 (λout Ml hK N2 D2 w2 a2 s3 x2=>?_) (i+1) kQ H4;rw[St.BV] at x2;refine hQ out Ml hK N2 D2 w2 a2 s3 ?_;rw[<-hf.h];exact x'.trans x2
   ·have hwf:=hw N D w a s
    rw[if_neg (by rw[hwf];simp)]
    have s1:=hf.rel _ _ _ _ s;have s2:=s1.put (Ext.refl _ _ _ _) s1.ny rfl rfl o.dst (u:= .val Go.undef) (v:=Go.undef) (dY.2 rfl);refine ih n (zeW n) (.ops all rest::k) _ K r h1 hk.ops N D w _ Q s2 (λout Ml hK N2 D2 w2 a2 s3 x2=>?_) (i+1) kQ H4;rw[St.BV,hf.h] at x2;exact hQ out Ml hK N2 D2 w2 a2 s3 x2
 | .code c::k,hg,h=>
  have hk:=hg.tail;have hc:=hg.ok _ (zdM ..);have Ol:=hg.YP _ (zdM ..);show c.wp P (pY P k Q) a w
  simp only at h;split at h
  ·exact wp_skip (pG hk.2.2 (ih n (zeW n) k st K r h hk.CH N D w a Q s hQ))
  ·exact wp_label (pG hk.2.2 (ih n (zeW n) k st K r h hk.CH N D w a Q s hQ))
  ·rename_i x y
   exact wp_seq (ih n (zeW n) (.code x:: .code y::k) st K r h ((hk.cons hc.2 Ol.2).cons hc.1 Ol.1).CH N D w a Q s hQ)
  ·rename_i id ops draw
   split at h
   ·refine wp_region ?_
    have:=ih n (zeW n) (.ops ops ops.toList::k) {st with ep:=st.ep+1} K r h hk.ops N D w a Q (s.XF _) hQ 0 (zeH _) (by simp)
    rwa [Nat.sub_zero,<-List.range_eq_range'] at this
   ·obtain⟨m,Mf,h1,h2,h3⟩:=Mk he hm (Ol rfl) h
    refine h3 N D w a id _ (s.XF _) λN' D' w' a' s' x'=>?_;exact pG hk.2.2 (ih m (Nat.lt_succ_of_lt h1) k Mf K r h2 hk.CH N' D' w' a' Q s' λout Ml hK N2 D2 w2 a2 s3 x2=>hQ out Ml hK N2 D2 w2 a2 s3 (x'.trans x2))
  ·rename_i c' x y
   split at h
   ·rename_i b hb
    have hev:=s.sV hb;cases b with
    |true=>exact wp_cond_true hev (ih n (zeW n) (.code x::k) st K r h (hk.cons hc.1 Ol.1).CH N D w a Q s hQ)
    |false=>exact wp_cond_false hev (ih n (zeW n) (.code y::k) st K r h (hk.cons hc.2 Ol.2).CH N D w a Q s hQ)
   ·rename_i hb
    split at h
    ·rename_i heq
     have heq:=kL.1 heq;have hv:=s.uB hb;unfold ck at hv;simp only[AV.isAgg,jv,ar] at hv;obtain⟨b,hv⟩:=hv;simp only[zdF] at hv;cases b with
     |true=>exact wp_cond_true hv (ih n (zeW n) (.code x::k) st K r h (hk.cons hc.1 Ol.1).CH N D w a Q s hQ)
     |false=>exact wp_cond_false hv (ih n (zeW n) (.code y::k) st K r (heq▸h) (hk.cons hc.2 Ol.2).CH N D w a Q s hQ)
    ·cases h
   ·cases h
  ·rename_i id c'
   exact wp_block (ih n (zeW n) (.code c':: .NW id::k) st K r h (sJ.cons (c:=c') (sJ.NW (id:=id) hk) hc Ol).CH N D w a Q s hQ)
  ·rename_i id
   exact wp_exit (XJ id k st hk h N D w a s (Ext.refl _ _ _ _))
  ·refine wp_ret ?_
   rw[tM];exact hQ .ret st h N D w a s (Ext.refl _ _ _ _)
  ·rename_i c'
   split at h
   ·rename_i id pQ
    obtain⟨out,eZ,h1,h2⟩:=hl _ _ _ _ h;have hla:=hc.1 id pQ;have:=h2 N D w a s;rw[hla] at this;refine wp_mono this λe a' w' hq=>?_;obtain⟨rfl,N',D',s',x'⟩:=hq;split at h1
    ·cases h1
    ·show pY P k Q .ret a' w'
     rw[tM];exact hQ .ret eZ h1 N' D' w' a' s' x'
    ·rename_i Rm
     exact XJ Rm k eZ hk h1 N' D' w' a' s' x'
   ·cases h
  ·cases h
end AM
namespace AM
open Go
variable {α:Type}{P:Program}{base:Nat}
def Sh.isAgg:Sh->Bool
 | .one=>false
 |_=>true
theorem Af (v:AV):v.isAgg=v.sh.isAgg:=by cases v<;>simp[AV.isAgg,AV.sh,Sh.isAgg]
theorem C9 {N N':Names}{D D':Nat->Prop}{w w':World}{v v':AV}{c:Value}(hs:v'.sh=v.sh)(h:ck N D w v c)(hr: ∀g,ar N D w v g->ar N' D' w' v' g):ck N' D' w' v' c:=by
 unfold ck at*;rw[Af v',hs,<-Af v,<-kN v',hs,kN v];exact xG hr h
def kr.le (b b':kr):Prop:= ∀c g,b.get c=some g->b'.get c=some g
theorem kr.le_refl (b:kr):b.le b:=λ_ _ h=>h
theorem kr.le_trans {b b' Vp:kr}(h1:b.le b')(h2:b'.le Vp):b.le Vp:=λc g h=>h2 c g (h1 c g h)
theorem kr.ud {b b':kr}{c:Nat}{g:xj}(h:b.add c g=some b'):b.le b'/\b'.get c=some g:=by
 unfold kr.add at h;split at h
 ·rename_i hn
  cases h;refine⟨λc' g' h'=>?_,by simp[kr.get]⟩
  by_cases e:c=c'
  ·subst e;rw[hn] at h';cases h'
  ·simp[kr.get,e,h']
 ·rename_i i j hi
  split at h
  ·rename_i e
   cases h;subst e;exact⟨kr.le_refl _,hi⟩
  ·cases h
 ·rename_i i j hi
  split at h
  ·rename_i e
   cases h;subst e;exact⟨kr.le_refl _,hi⟩
  ·cases h
 ·cases h
def Nm.shift (off:Nat)(nm:Nm):Nm:={nm with base:=nm.base.map (Addr.at_ · (min off nm.cap*nm.sh.size)),len:=nm.len-off,cap:=nm.cap-off}
def Nm.cut (off len:Nat)(nm:Nm):Nm:={nm.shift off with len:=min len (nm.len-off)}
def lx (N:Names)(b:kr)(Nc:Names)(c:Nat):Prop:=match b.get c with
 |some (.at_ i)=>Nc c=N i
 |some (.tl i off)=>Nc c=(N i).map (Nm.shift off)
 |some (.sl i off len)=>Nc c=(N i).map (Nm.cut off len)
 |some .nil=> ∃nm,Nc c=some nm/\nm.row=true/\nm.len=0/\nm.cap=0/\nm.base=none
 |none=>True
theorem lx.at_ {N:Names}{b:kr}{Nc:Names}{c i:Nat}(h:lx N b Nc c)(e:b.get c=some (.at_ i)):Nc c=N i:=by unfold lx at h;rw[e] at h;exact h
theorem lx.tl {N:Names}{b:kr}{Nc:Names}{c i off:Nat}(h:lx N b Nc c)(e:b.get c=some (.tl i off)):Nc c=(N i).map (Nm.shift off):=by unfold lx at h;rw[e] at h;exact h
theorem lx.sl {N:Names}{b:kr}{Nc:Names}{c i off len:Nat}(h:lx N b Nc c)(e:b.get c=some (.sl i off len)):Nc c=(N i).map (Nm.cut off len):=by unfold lx at h;rw[e] at h;exact h
theorem lx.nil {N:Names}{b:kr}{Nc:Names}{c:Nat}(h:lx N b Nc c)(e:b.get c=some .nil): ∃nm,Nc c=some nm/\nm.row=true/\nm.len=0/\nm.cap=0/\nm.base=none:=by unfold lx at h;rw[e] at h;exact h
theorem lx.mono {N:Names}{b b':kr}{Nc:Names}{c:Nat}(h:lx N b' Nc c)(hl:b.le b'):lx N b Nc c:=by
 unfold lx;split
 ·rename_i i e;exact h.at_ (hl _ _ e)
 ·rename_i i off e;exact h.tl (hl _ _ e)
 ·rename_i i off len e;exact h.sl (hl _ _ e)
 ·rename_i e;exact h.nil (hl _ _ e)
 ·trivial
theorem Ia {s:St}: ∀(t:Ty) (v:AV) (k:t.den->List Nat->Option α) (r:α),qP s t v k=some r->v.sh=sw t
 | .int k',v,k,r,h=>by
  unfold qP at h;split at h
  ·simp[AV.sh,sw]
  ·cases h
 | .bool,v,k,r,h=>by
  unfold qP at h;split at h
  ·simp[AV.sh,sw]
  ·cases h
 | .str,v,k,r,h=>by
  unfold qP at h;split at h
  ·simp[AV.sh,sw]
  ·cases h
 | .nil,v,k,r,h=>by
  unfold qP at h;split at h
  ·simp[AV.sh,AV.yU,sw]
  ·cases h
 | .cons a b,v,k,r,h=>by
  unfold qP at h;split at h
  ·rename_i x l
   have h1:=Ia a x _ r h;obtain⟨_,y,ids,h2,_⟩:=mO a x _ r h;have h3:=Ia b (.agg l) _ r h2;simp only[AV.sh] at h3;simp only[AV.sh,AV.yU,sw,<-h3,h1]
  ·cases h
 | .arr n t,v,k,r,h=>by
  unfold qP at h;split at h
  ·rename_i n' t' xs
   split at h
   ·rename_i e
    subst e;split at h
    ·rename_i ys hc
     obtain⟨rfl,_⟩:=iV hc;simp[AV.sh,sw]
    ·cases h
   ·cases h
  ·cases h
 | .deep t,v,k,r,h=>by
  unfold qP Ly at h;split at h
  ·simp[AV.sh,sw]
  obtain⟨h1,h2,h3⟩:=zR h;have:=Af v;rw[h1] at this;cases hv:v.sh with
  |one=>simp[sw]
  |agg l=>rw[hv] at this;simp[Sh.isAgg] at this
  |arr n e=>rw[hv] at this;simp[Sh.isAgg] at this
 | .ref _,v,k,r,h=>by
  unfold qP at h;split at h
  ·split at h
   ·simp[AV.sh,sw]
   ·cases h
  ·simp[AV.sh,sw]
  ·cases h
theorem Om (a:Addr)(n m:Nat):Addr.at_ (Addr.at_ a n) m=Addr.at_ a (n+m):=by simp[Addr.at_,zdU]
theorem Vq {f g:Fn}(h:Ys f g=true):f=g:=by
 cases f<;>cases g<;>simp[Ys] at h
 subst h;rfl
theorem s6: ∀(p:List og) (q:List Step) (k:og.xi p->Option α) (f:Option α) (r:α),nE p q k f=some r->f=some r\/∃d,k d=some r/\og.mk p d=q
 | [],[],k,f,r,h=> .inr ⟨(),h,rfl⟩
 | [],_::_,k,f,r,h=>by unfold nE at h;exact .inl h
 | .im n::p,[],k,f,r,h=>by unfold nE at h;exact .inl h
 | .im n::p, .im m::q,k,f,r,h=>by
  unfold nE at h;split at h
  ·rename_i e
   simp only[zdN] at e;subst e;rcases s6 p q k f r h with h1|⟨d,h1,h2⟩
   ·exact .inl h1
   ·exact .inr ⟨d,h1,by simp only[og.mk,h2]⟩
  ·exact .inl h
 | .im n::p, .idx i::q,k,f,r,h=>by unfold nE at h;exact .inl h
 | .idx::p,[],k,f,r,h=>by unfold nE at h;exact .inl h
 | .idx::p, .im m::q,k,f,r,h=>by unfold nE at h;exact .inl h
 | .idx::p, .idx i::q,k,f,r,h=>by
  unfold nE at h;rcases s6 p q _ f r h with h1|⟨d,h1,h2⟩
  ·exact .inl h1
  ·exact .inr ⟨(i,d),h1,by simp only[og.mk,h2]⟩
def Fits (s:St)(v:AV)(b':kr)(i:List Nat)(cs ks:List Nat)(u:AV):Prop:=
 u.sh=v.sh/\∀N D w base,jU N D w base s.h->∀Nc D',mw ks N Nc->(∀c∈cs,lx N b' Nc c)->(∀b,D b->D' b)->lq N D' i->∀g,ar N D w v g->ar Nc D' w u g
mutual
theorem rv {s:St}: ∀(p:cf) (v:AV) (b:kr) (k:p.den->List Nat->kr->Option α) (f:Option α) (r:α),oJ s p v b k f=some r->
  f=some r\/∃x i b',k x i b'=some r/\b.le b'/\Fits s v b' i p.cs p.ks (p.mk (λc=>c) x)
 | .hole t,v,b,k,f,r,h=>by
  unfold oJ zaE at h;split at h
  ·right
   obtain⟨_,x,ids,h1,h2⟩:=mO t v _ r h;refine⟨x,ids,b,h1,kr.le_refl _,?_,λN D w base S Nc D' hE _ hD hF g hg=>?_⟩
   ·simp only[cf.mk];rw[rP,Ia t v _ r h]
   ·simp only[cf.mk]
    exact(kH t x g).2 (ko (λ_ h=>h) (λ_ _=>rfl) t x g (by simpa only[cf.ks] using hE) (h2 N D w base S g hg D' hD hF))
  ·exact .inl h
 | .vm t,v,b,k,f,r,h=>by
  unfold oJ at h;split at h
  ·rename_i i p
   right
   obtain⟨u,h1,yI,qQ⟩:=pF h;obtain⟨_,x,ids,h2,h3⟩:=mO t u _ r h1;refine⟨x,i::ids,b,h2,kr.le_refl _,by simp only[cf.mk,AV.sh],λN D w base S Nc D' hE _ hD hF g hg=>?_⟩
   simp only[cf.mk,ar] at hg⊢;obtain⟨nm,a,o,g1,g2,g3,g4⟩:=hg;obtain⟨g5,g6,_⟩:=qQ N D w base S nm a o g1 g2 g3;refine⟨Addr.at_ a o,g4,rfl,hF i (by simp) nm a g1 g2,(kH t x _).2 ?_⟩
   have:=h3 N D w base S _ g6 D' hD (λq hq=>hF q (zdL _ hq));exact ko (λ_ h=>h) (λ_ _=>rfl) _ _ _ (by simpa only[cf.ks] using hE) (jh _ _ _ _ (λj _=>by simp only[aX,Addr.at_,zdU]) this)
  ·rename_i u
   right
   obtain⟨_,x,ids,h2,h3⟩:=mO t u _ r h;refine⟨x,ids,b,h2,kr.le_refl _,by simp only[cf.mk,AV.sh],λN D w base S Nc D' hE _ hD hF g hg=>?_⟩
   simp only[cf.mk,ar] at hg⊢;obtain⟨a,g1,g2,g3,g4⟩:=hg;exact⟨a,g1,g2,hD _ g3,(kH t x _).2 (ko (λ_ h=>h) (λ_ _=>rfl) t x _ (by simpa only[cf.ks] using hE) (h3 N D w base S _ g4 D' hD hF))⟩
  ·exact .inl h
 | .const c,v,b,k,f,r,h=>by
  unfold oJ at h;split at h
  ·rename_i v'
   split at h
   ·rename_i hv
    right
    have:=RV hv;subst this;exact⟨(),[],b,h,kr.le_refl _,rfl,λN D w base S Nc D' hE _ _ _ g hg=>by simpa only[cf.mk,ar] using hg⟩
   ·exact .inl h
  ·exact .inl h
 | .ptr c,v,b,k,f,r,h=>by
  unfold oJ at h;split at h
  ·rename_i i
   split at h
   ·rename_i b' hb
    right
    obtain⟨h1,h2⟩:=kr.ud hb;refine⟨(),[],b',h,h1,rfl,λN D w base S Nc D' hE hR _ _ g hg=>?_⟩;simp only[cf.mk,ar] at hg⊢;obtain⟨nm,a,o,g1,g2⟩:=hg;exact⟨nm,a,o,by rw[(hR c (by simp[cf.cs])).at_ h2];exact g1,g2⟩
   ·exact .inl h
  ·exact .inl h
 | .own c,v,b,k,f,r,h=>by
  unfold oJ at h;split at h
  ·rename_i i off
   split at h
   ·rename_i b' hb
    right
    obtain⟨h1,h2⟩:=kr.ud hb;refine⟨(),[],b',h,h1,rfl,λN D w base S Nc D' hE hR _ _ g hg=>?_⟩;simp only[cf.mk,ar] at hg⊢;obtain⟨nm,g1,g2,g3,g4,g5⟩:=hg;refine⟨nm.shift off,by rw[(hR c (by simp[cf.cs])).tl h2,g1];rfl,g2,zeH _,by simp only[Nm.shift];omega,?_⟩
    cases pR:nm.base with
    |none=>
     rw[pR] at g5;simp only[Nm.shift,pR,zeE];exact⟨by rw[g5.1];exact Nat.zero_sub _,g5.2⟩
    |some a=>
     rw[pR] at g5;simp only[Nm.shift,pR,zdO];obtain⟨u,room,g6,g7,g8⟩:=g5;refine⟨u,room,g6,by omega,?_⟩
     rw[Om,zeD (zdW g3 g4)];simpa using g8
   ·exact .inl h
  ·split at h
   ·rename_i b' hb
    right
    obtain⟨h1,h2⟩:=kr.ud hb;refine⟨(),[],b',h,h1,rfl,λN D w base S Nc D' hE hR _ _ g hg=>?_⟩;simp only[cf.mk,ar] at hg⊢;obtain⟨nm,g1,g2,g3,g4,g5⟩:=(hR c (by simp[cf.cs])).nil h2
    refine⟨nm,g1,g2,zeH _,by omega,?_⟩
    rw[g5];exact⟨g3,hg⟩
   ·exact .inl h
  ·split at h
   ·rename_i i off len _ mN
    split at h
    ·rename_i b' hb
     right
     obtain⟨h1,h2⟩:=kr.ud hb;refine⟨(),[],b',h,h1,rfl,λN D w base S Nc D' hE hR _ _ g hg=>?_⟩;simp only[cf.mk,ar] at hg⊢;obtain⟨nm,g1,g2⟩:=hg;have hr:nm.row=true:=by
      unfold zI at mN;split at mN
      ·rename_i ho
       obtain⟨mM,e1,e2,_⟩:=S.obj i _ ho;rw[g1] at e1;cases e1;exact e2
      ·cases mN
     refine⟨nm.cut off len,by rw[(hR c (by simp[cf.cs])).sl h2,g1];rfl,hr,zeH _,?_,?_⟩
     ·cases pR:nm.base with
      |none=>rw[pR] at g2;simp only[Nm.cut,Nm.shift];omega
      |some a=>
       rw[pR] at g2;simp only[hr,List.isEmpty_nil,zeX,if_true] at g2;simp only[Nm.cut,Nm.shift];omega
     cases pR:nm.base with
     |none=>
      rw[pR] at g2;simp only[Nm.cut,Nm.shift,pR,zeE];obtain⟨_,_,g3,_,g4⟩:=g2;subst g3;exact⟨by omega,g4⟩
     |some a=>
      rw[pR] at g2;simp only[hr,List.isEmpty_nil,zeX,if_true] at g2;obtain⟨g3,g4,u,room,g5,g6,g7,g8⟩:=g2;simp only[Nm.cut,Nm.shift,pR,zdO];refine⟨u,room,g5,by omega,?_⟩
      rw[Om,zeD (show off<=nm.cap by omega),zeD (show len<=nm.len-off by omega)]
      simpa using g8
    ·exact .inl h
   ·exact .inl h
  ·exact .inl h
 | .FH c,v,b,k,f,r,h=>by
  unfold oJ at h;split at h
  ·rename_i i off len
   split at h
   ·rename_i h0
    simp only[zdN] at h0;subst h0;split at h
    ·rename_i b' hb
     right
     obtain⟨h1,h2⟩:=kr.ud hb;refine⟨len,[],b',h,h1,rfl,λN D w base S Nc D' hE hR _ _ g hg=>?_⟩;simp only[cf.mk,ar] at hg⊢;obtain⟨nm,g1,g2⟩:=hg;refine⟨nm.shift 0,by rw[(hR c (by simp[cf.cs])).tl h2,g1];rfl,?_⟩
     cases pR:nm.base with
     |none=>
      rw[pR] at g2;simp only[Nm.shift,pR,zeE];exact g2
     |some a=>
      rw[pR] at g2;simp only[Nm.shift,pR,zdO];simp only at g2;split at g2
      ·rename_i mN
       rw[if_pos mN];obtain⟨g3,g4,u,room,g5,g6,g7,g8⟩:=g2;exact⟨g3,g4,u,room,g5,g6,g7,by rw[Om];simpa using g8⟩
      ·rename_i mN
       rw[if_neg mN];obtain⟨o,n,e,u,room,g3,g4,g5,g6,g7,g8⟩:=g2;exact⟨o,n,e,u,room,g3,g4,g5,g6,g7,by rw[Om];simpa using g8⟩
    ·exact .inl h
   ·exact .inl h
  ·exact .inl h
 | .agg ps,v,b,k,f,r,h=>by
  unfold oJ at h;split at h
  ·rename_i vs
   rcases va ps vs b k f r h with h1|⟨x,i,b',h1,h2,h3,h4⟩
   ·exact .inl h1
   ·right
    refine⟨x,i,b',h1,h2,by simp only[cf.mk,AV.sh,h3],λN D w base S Nc D' hE hR hD hF g hg=>?_⟩
    simp only[cf.mk,ar] at hg⊢;exact(h4 N D w base S Nc D' (by simpa [cf.ks] using hE) (by simpa [cf.cs] using hR) hD hF).1 g hg
  ·exact .inl h
 | .jY c p,v,b,k,f,r,h=>by
  unfold oJ at h;split at h
  ·rename_i i q
   rcases s6 p q _ f r h with h1|⟨d,hd,hq⟩
   ·exact .inl h1
   ·split at hd
    ·rename_i b' hb
     right
     obtain⟨h1,h2⟩:=kr.ud hb;refine⟨d,[],b',hd,h1,rfl,λN D w base S Nc D' hE hR _ _ g hg=>?_⟩;simp only[cf.mk,ar] at hg⊢;obtain⟨nm,a,o,g1,g2⟩:=hg;exact⟨nm,a,o,by rw[(hR c (by simp[cf.cs])).at_ h2];exact g1,by rw[hq];exact g2⟩
    ·exact .inl hd
  ·exact .inl h
 | .xh fn ps,v,b,k,f,r,h=>by
  unfold oJ at h;split at h
  ·rename_i fn' vs
   split at h
   ·rename_i hfn
    have hfn:=Vq hfn;subst hfn;rcases va ps vs b k f r h with h1|⟨x,i,b',h1,h2,h3,h4⟩
    ·exact .inl h1
    ·right
     refine⟨x,i,b',h1,h2,by simp only[cf.mk,AV.sh],λN D w base S Nc D' hE hR hD hF g hg=>?_⟩
     simp only[cf.mk,ar] at hg⊢;obtain⟨cs,g1,g2⟩:=hg;exact⟨cs,g1,(h4 N D w base S Nc D' (by simpa [cf.ks] using hE) (by simpa [cf.cs] using hR) hD hF).2 _ g2⟩
   ·exact .inl h
  ·exact .inl h
 | .ux c n,v,b,k,f,r,h=>by
  unfold oJ at h;split at h
  ·rename_i i m
   split at h
   ·rename_i hn
    simp only[zdN] at hn;subst hn;split at h
    ·rename_i b' hb
     right
     obtain⟨h1,h2⟩:=kr.ud hb;refine⟨(),[],b',h,h1,rfl,λN D w base S Nc D' hE hR _ _ g hg=>?_⟩;simp only[cf.mk,ar] at hg⊢;obtain⟨nm,a,g1,g2⟩:=hg;exact⟨nm,a,by rw[(hR c (by simp[cf.cs])).at_ h2];exact g1,g2⟩
    ·exact .inl h
   ·exact .inl h
  ·exact .inl h
 | .skip,v,b,k,f,r,h=>by
  unfold oJ at h;split at h
  ·rename_i yI
   right
   exact⟨(),[],b,h,kr.le_refl _,by simp only[cf.mk,AV.sh];exact yI.symm,λN D w base S Nc D' hE _ _ _ g hg=>by simp only[cf.mk,ar]⟩
  ·exact .inl h
 | .Js p,v,b,k,f,r,h=>by
  unfold oJ at h;split at h
  ·rename_i i q
   obtain⟨u,h1,yI,qQ⟩:=pF h;rcases rv p u b _ f r h1 with h2|⟨x,ids,b',h2,h3,h4,h5⟩
   ·exact .inl h2
   ·right
    refine⟨x,i::ids,b',h2,h3,by simp only[cf.mk,AV.sh],λN D w base S Nc D' hE hR hD hF g hg=>?_⟩
    simp only[cf.mk,ar] at hg⊢;obtain⟨nm,a,o,g1,g2,g3,g4⟩:=hg;obtain⟨g5,g6,_⟩:=qQ N D w base S nm a o g1 g2 g3;refine⟨Addr.at_ a o,g4,rfl,hF i (by simp) nm a g1 g2,?_⟩
    have:=h5 N D w base S Nc D' (by simpa only[cf.ks] using hE) (by simpa only[cf.cs] using hR) hD (λq hq=>hF q (zdL _ hq)) _ g6
    exact jN _ _ _ (λj _=>by simp only[aX,Addr.at_,zdU]) this
  ·rename_i u
   rcases rv p u b k f r h with h2|⟨x,ids,b',h2,h3,h4,h5⟩
   ·exact .inl h2
   ·right
    refine⟨x,ids,b',h2,h3,by simp only[cf.mk,AV.sh],λN D w base S Nc D' hE hR hD hF g hg=>?_⟩
    simp only[cf.mk,ar] at hg⊢;obtain⟨a,g1,g2,g3,g4⟩:=hg;exact⟨a,g1,g2,hD _ g3,h5 N D w base S Nc D' (by simpa only[cf.ks] using hE) (by simpa only[cf.cs] using hR) hD hF _ g4⟩
  ·exact .inl h
theorem va {s:St}: ∀(ps:List cf) (vs:List AV) (b:kr) (k:cf.xi ps->List Nat->kr->Option α) (f:Option α) (r:α),uJ s ps vs b k f=some r->
  f=some r\/∃x i b',k x i b'=some r/\b.le b'/\AV.yU (cf.pV (λc=>c) ps x)=AV.yU vs/\∀N D w base,jU N D w base s.h->∀Nc D',mw (cf.RH ps) N Nc->(∀c∈cf.Vg ps,lx N b' Nc c)->(∀b,D b->D' b)->lq N D' i->(∀g,fg N D w vs g->fg Nc D' w (cf.pV (λc=>c) ps x) g)/\∀cs,bA N D w vs cs->bA Nc D' w (cf.pV (λc=>c) ps x) cs
 | [],[],b,k,f,r,h=>by
  unfold uJ at h;exact .inr ⟨(),[],b,h,kr.le_refl _,rfl,λN D w base S Nc D' hE _ _ _=>⟨λg _=>by simp only[cf.pV,fg],λcs hc=>by simpa only[cf.pV,bA] using hc⟩⟩
 |p::ps,v::vs,b,k,f,r,h=>by
  unfold uJ at h;rcases rv p v b _ f r h with h1|⟨x,i,b',h1,h2,h3,h4⟩
  ·exact .inl h1
  ·rcases va ps vs b' _ f r h1 with h5|⟨y,j,Vp,h5,h6,h7,h8⟩
   ·exact .inl h5
   ·right
    refine⟨(x,y),i++j,Vp,h5,kr.le_trans h2 h6,by simp only[cf.pV,AV.yU,h3,h7],λN D w base S Nc D' hE hR hD hF=>?_⟩
    simp only[cf.RH] at hE;have a1:=h4 N D w base S Nc D' hE.left (λc hc=>(hR c (by simp[cf.Vg,hc])).mono h6) hD hF.left
    obtain⟨a2,a3⟩:=h8 N D w base S Nc D' hE.right (λc hc=>hR c (by simp[cf.Vg,hc])) hD hF.right
    have hsz:(p.mk (λc=>c) x).size=v.size:=by rw[<-kN,h3,kN]
    refine⟨λg hg=>?_,λcs hc=>?_⟩
    ·simp only[cf.pV,fg] at hg⊢
     refine⟨a1 g hg.1,?_⟩;rw[hsz];exact a2 _ hg.2
    ·simp only[cf.pV,bA] at hc⊢
     obtain⟨c,tK,e1,e2,e3⟩:=hc;exact⟨c,tK,e1,C9 (v:=v) h3 e2 a1,a3 _ e3⟩
 | [],_::_,b,k,f,r,h=>by unfold uJ at h;exact .inl h
 |_::_,[],b,k,f,r,h=>by unfold uJ at h;exact .inl h
end
end AM
namespace AM
open Go
variable {α:Type}{P:Program}{base:Nat}
def aK.sh:aK->Sh
 | .row t=>sw t
 |_=> .one
def aK.isVar:aK->Bool
 | .var _=>true
 |_=>false
theorem fG {l:List (Nat×aK)}{x:Nat}:cV l x=true↔∃e∈l,e.1=x/\e.2.mY=true:=by
 unfold cV;rw[List.any_eq_true];constructor
 ·rintro⟨e,he,h⟩
  rw[zdH] at h;refine⟨e,he,by simpa using h.1,?_⟩
  have h2:=h.2;unfold aK.mY;exact h2
 ·rintro⟨e,he,h1,h2⟩
  refine⟨e,he,?_⟩;rw[zdH];exact⟨by simpa using h1,h2⟩
theorem Da {b:kr}{c:Nat}(h: ¬SB<=c):b.look c=b.get c:=by unfold kr.look;rw[decide_eq_false h]
theorem uQ {b:kr}{c:Nat}(h:SB<=c):b.look c=some (.at_ c):=by unfold kr.look;rw[decide_eq_true h]
theorem On {b b':kr}(h:b.le b'){c:Nat}{g:xj}(e:b.look c=some g):b'.look c=some g:=by
 by_cases hc:SB<=c
 ·rw[uQ hc] at e⊢;exact e
 ·rw[Da hc] at e⊢;exact h _ _ e
def yb (N:Names)(g:Option xj)(p:aK):Option Nm:=match p.mY with
 |true=>none
 |false=>match g with
  |some (.at_ i)=>N i
  |some (.tl i off)=>(N i).map (Nm.shift off)
  |some (.sl i off len)=>(N i).map (Nm.cut off len)
  |some .nil=>some ⟨none,p.sh,true,0,0⟩
  |none=>none
def ue (N:Names)(b:kr):List (Nat×aK)->Nat->Option Nm
 | []=>λ_=>none
 |o::os=>λc=>if c=o.1 then yb N (b.look o.1) o.2 else ue N b os c
def je (N:Names)(b:kr)(l:List (Nat×aK)):Names:=⟨λp=>match p with| []=>ue N b l|(g,k)::p=>if cV l (SB+g)=true then N.at_ ((g,k)::p) else λ_=>none⟩
theorem vH {N:Names}{b:kr}{l:List (Nat×aK)}{g:Nat}(h:cV l (SB+g)=true)(k:Nat):(je N b l).sub g k=N.sub g k:=by
 unfold Names.sub je;simp only[h,if_true]
theorem zq {N:Names}{b:kr}{l:List (Nat×aK)}{g:Nat}(h:cV l (SB+g)=false)(k:Nat):(je N b l).sub g k=Names.nil:=by
 unfold Names.sub je Names.nil;simp only[h,zdG,if_false]
theorem Ag {s:St}: ∀(l:List (Nat×cf)) (b:kr) (k:wZ l->List Nat->kr->Option α) (f:Option α) (r:α),HC s l b k f=some r->
  f=some r\/∃x i b',k x i b'=some r/\b.le b'/\∀N D w base,jU N D w base s.h->∀Nc D',mw (DH l) N Nc->(∀c∈A5 l,lx N b' Nc c)->(∀b,D b->D' b)->lq N D' i->∀y c,ck N D w (s.t y) c->ck Nc D' w (zh (λc=>c) l x y) c
 | [],b,k,f,r,h=> .inr ⟨(),[],b,h,kr.le_refl _,λN D w base S Nc D' _ _ _ _ y c _=>by simp only[zh];exact pc⟩
 |o::os,b,k,f,r,h=>by
  unfold HC at h;rcases rv o.2 (s.t o.1) b _ f r h with h1|⟨x,i,b',h1,h2,h3,h4⟩
  ·exact .inl h1
  ·rcases Ag os b' _ f r h1 with h5|⟨y,j,Vp,h5,h6,h7⟩
   ·exact .inl h5
   ·right
    refine⟨(x,y),i++j,Vp,h5,kr.le_trans h2 h6,λN D w base S Nc D' hE hR hD hF z c hc=>?_⟩;have hE:mw (o.2.ks++DH os) N Nc:=by simpa only[DH,zen] using hE
    simp only[zh];by_cases e:z=o.1
    ·rw[if_pos e]
     subst e;exact C9 h3 hc λg hg=>h4 N D w base S Nc D' hE.left (λc hc=>(hR c (by simp[A5,hc])).mono h6) hD hF.left g hg
    ·rw[if_neg e]
     exact h7 N D w base S Nc D' hE.right (λc hc=>hR c (by simp only[A5,zen,zeY] at hc⊢;exact .inr hc)) hD hF.right z c hc
def fK.own:fK->Bool
 | .store _ _=>true
 |o=>o.rw
def Vr (s:St)(p:aK)(g:xj):Prop:= ∀i∈g.ids,(∃o,s.h i=some o/\o.own=true/\(p.mY=false->o.rw=true))\/p.mY=true/\iG (s.h i)=true
def Oo (s:St)(N:Names)(D:Nat->Prop)(l:List Nat):Prop:= ∀i∈l,∀o b,s.h i=some o->iP N i o b->¬D b
theorem D5 {e e':List (Nat×aK)}{xs:List (cM e)}{ys:List (cM e')}(h:NZ e e' xs=some ys): ∃q:e=e',ys=q▸xs:=by
 unfold NZ at h;split at h
 ·rename_i hb
  simp only[zdF] at h;exact⟨C5 hb,h.symm⟩
 ·cases h
theorem GB {N Nc:Names}{D D':Nat->Prop}{w:World}{t:Ty}{xs:List t.den}{i c off len:Nat}{nm mM:Nm}(e1:N i=some nm)(h:nG N D w base i false t xs)(hc:Nc c=some mM)(hb:mM.base=(nm.shift off).base)(hs:mM.sh=nm.sh)(hr:mM.row=nm.row)(hl:mM.len=len)(FN:mM.cap=nm.cap-off)
  (hle:len<=nm.len-off) (hK:mw t.ks N Nc) (hD: ∀b,D b->D' b) (hnd: ∀a,nm.base=some a->¬D' a.block):nG Nc D' w base c false t ((xs.drop off).take len:List t.den):=by
 obtain⟨Xy,f1,e2,e3,e4,e5,e6⟩:=h;rw[e1] at f1;cases f1;have hlen:aQ (β:=t.den) ((xs.drop off).take len)=len:=by simp only[aQ,zd3,zd4];simp only[aQ] at e4;omega
 refine⟨mM,hc,by rw[hr];exact e2,by rw[hs];exact e3,by rw[hl];exact hlen.symm,by rw[hl,FN];omega,?_⟩
 cases vl:nm.base with
 |none=>
  rw[vl] at e6;rw[hb];simp only[Nm.shift,vl,zeE];omega
 |some a=>
  rw[vl] at e6;rw[hb];simp only[Nm.shift,vl,zdO];obtain⟨f1,⟨cc,ty,fz,f2,f3,f4⟩,f5,f6⟩:=e6;simp only[zdG,if_false] at f5⊢;have hsz:nm.sh.size=t.size:=by rw[e3,iH]
  refine⟨rfl,⟨cc,ty,fz,f2,?_,λ_=>f4 rfl⟩,⟨f5.1,hnd a vl⟩,λj x hx=>?_⟩
  ·have h1:min off nm.cap*nm.sh.size+(nm.cap-off)*t.size=nm.cap*t.size:=by
    rw[hsz,<-zdT];congr 1;omega
   rw[FN];simp only[Addr.at_];omega
  ·have hx2:((xs.drop off).take len)[j]?=some x:=hx
   rw[zd5] at hx2;split at hx2
   ·rename_i hj
    rw[zd6] at hx2;have BX:jT (β:=t.den) xs (off+j)=some x:=hx2;have kQ:=yu BX;have YL:min off nm.cap=off:=by omega
    refine iw.func (ko hD (λ_ _=>rfl) _ _ _ hK (f6 _ _ BX)) λm=>?_;simp only[aX,Addr.at_];congr 2
    rw[YL,hsz,zdT];omega
   ·cases hx2
theorem Ib {s:St}{f:Option α}(p:aK)(g:xj)(b:kr)(k:p.den->List Nat->kr->Option α)(r:α)(h:LF s f p g b k=some r):
  f=some r\/∃x i b',k x i b'=some r/\b.le b'/\Vr s p g/\(p.isVar=true->∃i,g= .at_ i)/\(∀ep ys,p.mk (λc=>c) x= .store ep ys->∃i,g= .at_ i/\SB<=i/\(s.h i=some (.store ep ys)\/iG (s.h i)=true/\ys=[]))/\
   ∀N D w base,jU N D w base s.h->∀Nc D' c,mw p.ks N Nc->(∀c∈p.cs,lx N b' Nc c)->(∀b,D b->D' b)->lq N D' i->Oo s N D' g.ids->(p.mY=false->Nc c=yb N (some g) p)->(p.mY=true->g= .at_ c/\∀k,Nc.sub (c-SB) k=N.sub (c-SB) k)->qF Nc D' w base c (p.mk (λc=>c) x):=by
 unfold LF at h;split at h
 ·rename_i p i k
  split at h
  ·rename_i v hv
   rcases rv p v b _ f r h with h1|⟨x,j,b',h1,h2,h3,h4⟩
   ·exact .inl h1
   ·refine .inr ⟨x,j,b',h1,h2,λi' nb=>?_,λ_=>⟨i,rfl⟩,λep ys e=>by simp[aK.mk] at e,λN D w base S Nc D' c hE hR hD hF hN hc _=>?_⟩
    ·simp only[xj.ids,zeZ] at nb
     subst nb;exact .inl ⟨_,hv,rfl,λ_=>rfl⟩
    ·obtain⟨nm,a,e1,e2,e3,e4,e5,e6,e7,e8,⟨cc,ty,e9,yr⟩,N8⟩:=S.obj i _ hv
     have hc:Nc c=N i:=hc rfl;refine⟨nm,a,by rw[hc];exact e1,e2,e3,by rw[e4];exact h3.symm,e5,e6,e7,hN i (by simp[xj.ids]) _ _ hv (iP.of rfl e1 e2),⟨cc,ty,e9,?_⟩,h4 N D w base S Nc D' hE hR hD hF _ N8⟩
     rw[yr,<-kN v,<-kN,h3]
  ·cases h
 ·rename_i t i off k
  split at h
  ·rename_i t' xs hv
   split at h
   ·rename_i ys xW
    obtain⟨rfl,rfl⟩:=iV xW;refine .inr ⟨_,_,_,h,kr.le_refl _,λi' nb=>?_,(by intro e;cases e),λep ys e=>by simp[aK.mk] at e,λN D w base S Nc D' c hE hR hD hF hN hc _=>?_⟩
    ·simp only[xj.ids,zeZ] at nb
     subst nb;exact .inl ⟨_,hv,rfl,λ_=>rfl⟩
    ·have nf:nG N D w base i false t' ys:=S.obj i _ hv
     obtain⟨nm,e1,e2,e3,e4,e5,e6⟩:=id nf;have hc:Nc c=some (nm.shift off):=by have:=hc rfl;simpa [yb,aK.mY,e1] using this
     have:=GB (len:=nm.len-off) e1 nf hc rfl rfl rfl rfl rfl (zdV _) hE hD (λa ha=>hN i (by simp[xj.ids]) _ _ hv (iP.of rfl e1 ha))
     rw[e4] at this;have e:((ys.drop off).take (aQ (β:=t'.den) ys-off):List t'.den)=ys.drop off:=zd9 (by simp[aQ])
     rw[e] at this;exact this
   ·cases h
  ·cases h
 ·rename_i t i off len k
  split at h
  ·rename_i t' xs hv
   split at h
   ·rename_i ys xW
    obtain⟨rfl,rfl⟩:=iV xW;refine .inr ⟨_,_,_,h,kr.le_refl _,λi' nb=>?_,(by intro e;cases e),λep ys e=>by simp[aK.mk] at e,λN D w base S Nc D' c hE hR hD hF hN hc _=>?_⟩
    ·simp only[xj.ids,zeZ] at nb
     subst nb;exact .inl ⟨_,hv,rfl,λ_=>rfl⟩
    ·have nf:nG N D w base i false t' ys:=S.obj i _ hv
     obtain⟨nm,e1,e2,e3,e4,e5,e6⟩:=id nf;have hc:Nc c=some (nm.cut off len):=by have:=hc rfl;simpa [yb,aK.mY,e1] using this
     have:=GB (len:=min len (nm.len-off)) e1 nf hc rfl rfl rfl rfl rfl (Nat.min_le_right _ _) hE hD (λa ha=>hN i (by simp[xj.ids]) _ _ hv (iP.of rfl e1 ha))
     rw[e4] at this;have e:((ys.drop off).take (min len (aQ (β:=t'.den) ys-off)):List t'.den)=(ys.drop off).take len:=by
      rcases Nat.le_total len (aQ (β:=t'.den) ys-off) with hl|hl
      ·rw[zeD hl]
      ·rw[Nat.min_eq_right hl,zd9 (show(ys.drop off).length<=len by simpa [aQ] using hl),zd9 (by simp[aQ])]
     rw[e] at this;exact this
   ·cases h
  ·cases h
 ·rename_i t k
  refine .inr ⟨_,_,_,h,kr.le_refl _,λi' nb=>by simp[xj.ids] at nb,(by intro e;cases e),λep ys e=>by simp[aK.mk] at e,λN D w base S Nc D' c hE hR hD hF hN hc _=>?_⟩
  exact⟨_,hc rfl,rfl,rfl,rfl,zdV _,rfl⟩
 ·rename_i ep i k
  split at h
  ·rename_i hSB
   simp only[zdN] at hSB;have Vs:iG (s.h i)=true->k [] [] b=some r->∃x j b',k x j b'=some r/\b.le b'/\Vr s (.store ep) (.at_ i)/\((aK.store ep).isVar=true->∃i',xj.at_ i= .at_ i')/\(∀FI ys,(aK.store ep).mk (λc=>c) x= .store FI ys->∃i',xj.at_ i= .at_ i'/\SB<=i'/\(s.h i'=some (.store FI ys)\/iG (s.h i')=true/\ys=[]))/\
     ∀N D w base,jU N D w base s.h->∀Nc D' c,mw (aK.store ep).ks N Nc->(∀c∈(aK.store ep).cs,lx N b' Nc c)->(∀b,D b->D' b)->lq N D' j->Oo s N D' (xj.at_ i).ids->((aK.store ep).mY=false->Nc c=yb N (some (.at_ i)) (.store ep))->((aK.store ep).mY=true->xj.at_ i= .at_ c/\∀k,Nc.sub (c-SB) k=N.sub (c-SB) k)->qF Nc D' w base c ((aK.store ep).mk (λc=>c) x):=by
    intro ha hk;refine⟨_,_,_,hk,kr.le_refl _,λi' nb=>?_,(by intro e;cases e),λFI ys e=>?_,λN D w base S Nc D' c hE hR hD hF hN _ hc=>?_⟩
    ·simp only[xj.ids,zeZ] at nb
     subst nb;exact .inr ⟨rfl,ha⟩
    ·simp only[aK.mk,fK.store.injEq] at e
     obtain⟨rfl,e⟩:=e;exact⟨i,rfl,hSB, .inr ⟨ha,(eq_of_heq e).symm⟩⟩
    ·obtain⟨h1,h2⟩:=hc rfl
     cases h1;have ox:=S.iG (i-SB) (by rw[show SB+(i-SB)=i by omega];exact ha)
     simp only[aK.mk,qF,jc];exact⟨hSB,λk d hk=>by simp[jT] at hk,λk _=>by rw[h2,ox],λk k' d d' b hk=>by simp[jT] at hk⟩
   split at h
   ·rename_i FI xs hv
    split at h
    ·rename_i ys xW
     obtain⟨rfl,rfl⟩:=D5 xW;refine .inr ⟨_,_,_,h,kr.le_refl _,λi' nb=>?_,(by intro e;cases e),λep ys e=>?_,λN D w base S Nc D' c hE hR hD hF hN _ hc=>?_⟩
     ·simp only[xj.ids,zeZ] at nb
      subst nb;exact .inl ⟨_,hv,rfl,λe=>by cases e⟩
     ·simp only[aK.mk,fK.store.injEq] at e
      obtain⟨rfl,e⟩:=e;have e:=eq_of_heq e;subst e;exact⟨i,rfl,hSB, .inl hv⟩
     ·obtain⟨h1,h2⟩:=hc rfl
      cases h1;exact(jc.congr hD (λ_ _=>rfl) (show jc D w base N i (.store _) _ from S.obj i _ hv) λb hO=>⟨rfl,λ_=>hN i (by simp[xj.ids]) _ _ hv hO⟩).uM h2
    ·cases h
   ·rename_i hv;exact .inr (Vs (by rw[hv];rfl) h)
   ·rename_i hv;exact .inr (Vs (by rw[hv];rfl) h)
   ·cases h
  ·cases h
 ·cases h
def Sk (s:St)(l:List (Nat×aK))(y:cM l):Prop:= ∀c ep ys,mT (λc=>c) l y (λ_=>none) c=some (.store ep ys)->SB<=c/\(s.h c=some (.store ep ys)\/iG (s.h c)=true/\ys=[])
theorem Ah {s:St}{f:Option α}: ∀(l:List (Nat×aK)) (b:kr) (k:cM l->List Nat->kr->Option α) (r:α),HD s f l b k=some r->
  f=some r\/∃y j b',k y j b'=some r/\b.le b'/\(∀e∈l,∃g,b'.look e.1=some g/\Vr s e.2 g/\(e.2.isVar=true->∃i,g= .at_ i)/\(e.2.mY=true->g= .at_ e.1->SB<=e.1))/\((∀e∈l,e.2.mY=true->SB<=e.1)->Sk s l y)/\
  ∀N D w base,jU N D w base s.h->∀Nc D',mw (DI l) N Nc->(∀c∈A6 l,lx N b' Nc c)->(∀b,D b->D' b)->lq N D' j->Oo s N D' (iK l b')->(∀e∈l,e.2.mY=true->SB<=e.1/\∀k,Nc.sub (e.1-SB) k=N.sub (e.1-SB) k)->∀c o,mT (λc=>c) l y (λ_=>none) c=some o->Nc c=ue N b' l c->qF Nc D' w base c o
 | [],b,k,r,h=> .inr ⟨(),[],b,h,kr.le_refl _,λe he=>by simp at he,λ_ c ep ys hc=>by simp[mT] at hc,λN D w base S Nc D' _ _ _ _ _ _ c o ho=>by simp[mT] at ho⟩
 |(ce,pe)::es,b,k,r,h=>by
  unfold HD at h;split at h
  ·rename_i g hg
   rcases Ib pe g b _ r h with hf|⟨x,i,b',h1,h2,h3,h3v,h3s,h4⟩
   ·exact .inl hf
   rcases Ah es b' _ r h1 with hf|⟨y,j,Vp,h5,h6,h7,h7s,h8⟩
   ·exact .inl hf
   have CJ:Vp.look ce=some g:=On h6 (On h2 hg);refine .inr ⟨(x,y),i++j,Vp,h5,kr.le_trans h2 h6,List.forall_mem_cons.2 ⟨⟨g,CJ,h3,h3v,λkg e=>?_⟩,h7⟩,λFU c ep ys hc=>?_,λN D w base S Nc D' hE hR hD hF hN hS c o ho hc=>?_⟩
   ·subst e
    cases pe with
    |store ep=>obtain⟨i',e1,e2,_⟩:=h3s ep x rfl;cases e1;exact e2
    |var p=>cases kg
    |row t=>cases kg
   ·simp only[mT] at hc
    split at hc
    ·rename_i e
     subst e;simp only[zdF] at hc;obtain⟨i',e1,e2,e3⟩:=h3s ep ys hc;have sG:SB<=c:=by
      refine FU (c,pe) (zdM ..) ?_;cases pe<;>simp[aK.mk] at hc
      rfl
     rw[uQ sG] at hg;rw[e1] at hg;cases hg;exact⟨sG,e3⟩
    ·exact h7s (λe he=>FU e (zdL _ he)) c ep ys hc
   ·simp only[mT] at ho
    simp only[ue] at hc;have hE:mw (pe.ks++DI es) N Nc:=by simpa only[DI,zen] using hE
    by_cases ec:c=ce
    ·rw[if_pos ec] at ho hc
     cases ho;subst ec;rw[CJ] at hc;refine h4 N D w base S Nc D' c hE.left (λc hc=>(hR c (by simp[A6,hc])).mono h6) hD hF.left (λi hi=>hN i (by simp only[iK,zen,CJ,zeY];exact .inl hi)) (λ_=>hc) λkg=>?_
     obtain⟨g1,g2⟩:=hS (c,pe) (zdM ..) kg;rw[uQ g1] at CJ;cases CJ;exact⟨rfl,g2⟩
    ·rw[if_neg ec] at ho hc
     exact h8 N D w base S Nc D' hE.right (λc hc=>hR c (by simp only[A6,zen,zeY] at hc⊢;exact .inr hc)) hD hF.right (λi hi=>hN i (by simp only[iK,zen,zeY] at hi⊢;exact .inr hi)) (λe he=>hS e (zdL _ he)) c o ho hc
  ·cases h
end AM
namespace AM
open Go
variable {α:Type}{P:Program}{base:Nat}
structure wI (sp:jt):Prop where
 cs: ∀c,(c∈A5 sp.jJ\/c∈A6 sp.heap)->c<SB/\∃e∈sp.heap,e.1=c
 ks: ∀g,(g∈DH sp.jJ\/g∈DI sp.heap)->cV sp.heap (SB+g)=true
 st: ∀e∈sp.heap,(e.2.mY=true↔SB<=e.1)
theorem uR {sp:jt}(h:sp.closed=true):wI sp:=by
 simp only[jt.closed,zdH,zej,zdN,List.any_eq_true] at h;refine⟨λc hc=>h.1.1 c (List.mem_append.2 hc),λg hg=>h.1.2 g (List.mem_append.2 hg),λe he=>?_⟩;have:=h.2 e he;rw[beq_iff_eq] at this;rw[this];simp
def Bj (N:Names)(D:Nat->Prop)(ro:List Nat)(b:Nat):Prop:=D b\/∃i∈ro,∃nm a,N i=some nm/\nm.base=some a/\a.block=b
structure Ic (s:St)(sp:jt)(b:kr)(ro:List Nat)(d:cM sp.heap):Prop where
 bound: ∀e∈sp.heap,∃g,b.look e.1=some g/\Vr s e.2 g/\(e.2.isVar=true->∃i,g= .at_ i)
 nodup:nodup (iK sp.heap b)=true
 ro: ∀i∈ro,i∉iK sp.heap b/\∃o,s.h i=some o/\((∃v,o= .var v)\/∃r t xs,o= .row r t xs)
 link:Sk s sp.heap d
 st: ∀e∈sp.heap,(e.2.mY=true↔SB<=e.1)
def D6 (b:kr)(c:Nat):List Nat:=match b.look c with|some g=>g.ids|none=> []
theorem Sl (l:List (Nat×aK))(b:kr):iK l b=l.flatMap λo=>D6 b o.1:=rfl
theorem Bl {l:List (Nat×aK)}{b:kr}{i:Nat}:i∈iK l b↔∃e∈l,i∈D6 b e.1:=by rw[Sl,List.mem_flatMap]
theorem P1 {N:Names}{b:kr}{c:Nat}{p:aK}{nm:Nm}{a:Addr}(h:yb N (b.look c) p=some nm)(hb:nm.base=some a): ∃i∈D6 b c,∃mM a',N i=some mM/\mM.base=some a'/\a'.block=a.block:=by
 unfold D6;unfold yb at h;split at h
 ·cases h
 cases hg:b.look c with
 |none=>rw[hg] at h;cases h
 |some g=>
  rw[hg] at h;cases g with
  |at_ i=>exact⟨i,by simp[xj.ids],nm,a,h,hb,rfl⟩
  |tl i off=>
   simp only[zew] at h;obtain⟨mM,h1,rfl⟩:=h;simp only[Nm.shift,zew] at hb;obtain⟨a',h2,rfl⟩:=hb;exact⟨i,by simp[xj.ids],mM,a',h1,h2,rfl⟩
  |sl i off len=>
   simp only[zew] at h;obtain⟨mM,h1,rfl⟩:=h;simp only[Nm.cut,Nm.shift,zew] at hb;obtain⟨a',h2,rfl⟩:=hb;exact⟨i,by simp[xj.ids],mM,a',h1,h2,rfl⟩
  |nil=>
   simp only[zdF] at h;subst h;cases hb
theorem yc {N:Names}{g:Option xj}{p:aK}{nm:Nm}(h:yb N g p=some nm):p.mY=false:=by
 unfold yb at h;split at h
 ·cases h
 ·assumption
theorem tN {N:Names}{b:kr}{c:Nat}{nm:Nm}: ∀{l:List (Nat×aK)},ue N b l c=some nm->∃e∈l,e.1=c/\yb N (b.look c) e.2=some nm
 | [],h=>by simp[ue] at h
 |e::es,h=>by
  simp only[ue] at h;split at h
  ·rename_i ec
   exact⟨e,zdM ..,ec.symm,by rw[ec];exact h⟩
  ·obtain⟨e',h1,h2⟩:=tN h
   exact⟨e',zdL _ h1,h2⟩
theorem D7 {N:Names}{b:kr}{l0:List (Nat×aK)}{c:Nat}(hc:c<SB): ∀{l:List (Nat×aK)},(∀e∈l,e.2.mY=true->SB<=e.1)->(∃e∈l,e.1=c)->lx N b ⟨λp=>match p with| []=>ue N b l|q::p=>(je N b l0).at_ (q::p)⟩ c
 | [],_,h=>by obtain⟨e,h,_⟩:=h;simp at h
 |e::es,kg,h=>by
  by_cases ec:c=e.1
  ·subst ec
   have vd:e.2.mY=false:=by
    cases hh:e.2.mY with
    |false=>rfl
    |true=>have:=kg e (zdM ..) hh;omega
   have hl:=Da (b:=b) (c:=e.1) (by omega)
   unfold lx;cases hg:b.get e.1 with
   |none=>trivial
   |some g=>cases g<;>simp[ue,hl,hg,yb,vd]
  ·have: ∃e'∈es,e'.1=c:=by
    obtain⟨e',h1,h2⟩:=h;rcases List.mem_cons.1 h1 with rfl|h1
    ·exact absurd h2.symm ec
    ·exact⟨e',h1,h2⟩
   have:=D7 (N:=N) (b:=b) (l0:=l0) hc (λe he=>kg e (zdL _ he)) this;unfold lx at this⊢;simp only[ue,if_neg ec];exact this
theorem qI {N:Names}{b:kr}{l:List (Nat×aK)}{c:Nat}(hc:c<SB)(kg: ∀e∈l,e.2.mY=true->SB<=e.1)(h: ∃e∈l,e.1=c):lx N b (je N b l) c:=by
 have:=D7 (N:=N) (b:=b) (l0:=l) hc kg h;have e:(⟨λp=>match p with| []=>ue N b l|q::p=>(je N b l).at_ (q::p)⟩:Names)=je N b l:=by
  unfold je;congr 1
  funext p
  cases p<;>rfl
 rw[e] at this;exact this
theorem uS {b:Nat->Nat}{c:Nat}: ∀{l:List (Nat×aK)} {d:cM l} {h:Nat->Option fK},(∀e∈l,b e.1≠c)->mT b l d h c=h c
 | [],_,_,_=>rfl
 |(ce,pe)::es,d,h,lF=>by
  simp only[mT];rw[if_neg (λe'=>lF (ce,pe) (zdM ..) e'.symm)];exact uS λe' he'=>lF e' (zdL _ he')
theorem pZ {b:Nat->Nat}{c:Nat}: ∀{l:List (Nat×aK)} {d:cM l} {h:Nat->Option fK},(∃e∈l,b e.1=c)->mT b l d h c≠none
 | [],_,_,h=>by obtain⟨e,h,_⟩:=h;simp at h
 |(ce,pe)::es,d,h,hm=>by
  simp only[mT];by_cases ec:c=b ce
  ·rw[if_pos ec];simp
  ·rw[if_neg ec]
   refine pZ ?_;obtain⟨e',h1,h2⟩:=hm;rcases List.mem_cons.1 h1 with rfl|h1
   ·exact absurd h2.symm ec
   ·exact⟨e',h1,h2⟩
theorem nh {bk:Nat->Nat}{j:Nat}{o:fK}: ∀{l:List (Nat×aK)} {d:cM l} {h:Nat->Option fK},mT bk l d h j=some o->
  (∃q∈l,bk q.1=j/\∃x:q.2.den,mT (λc=>c) l d (λ_=>none) q.1=some (q.2.mk (λc=>c) x)/\o=q.2.mk bk x)\/((∀q∈l,bk q.1≠j)/\h j=some o)
 | [],_,h,hj=> .inr ⟨λq hq=>by simp at hq,hj⟩
 |(ce,pe)::es,d,h,hj=>by
  simp only[mT] at hj;by_cases ec:j=bk ce
  ·rw[if_pos ec] at hj
   cases hj;exact .inl ⟨(ce,pe),zdM ..,ec.symm,d.1,by simp[mT],rfl⟩
  ·rw[if_neg ec] at hj
   rcases nh hj with⟨q,hq,h1,x,h2,h3⟩|⟨h1,h2⟩
   ·refine .inl ⟨q,zdL _ hq,h1,x,?_,h3⟩
    simp only[mT];rw[if_neg (λe'=>ec (by rw[<-h1,e']))]
    exact h2
   ·exact .inr ⟨List.forall_mem_cons.2 ⟨λe'=>ec e'.symm,h1⟩,h2⟩
theorem nodup_append {a b:List Nat}(h:AM.nodup (a++b)=true):AM.nodup b=true/\∀x∈a,x∉b:=by
 induction a with
 |nil=>exact⟨h,λx hx=>by simp at hx⟩
 |cons x xs ih=>
  simp only[zef,AM.nodup,zdH,ze0,zeQ,decide_eq_false_iff_not,zeY,not_or] at h;obtain⟨h1,h2⟩:=ih h.2;refine⟨h1,List.forall_mem_cons.2 ⟨h.1.2,h2⟩⟩
theorem y9 {β:Type}{f:β->List Nat}: ∀{l:List β},AM.nodup (l.flatMap f)=true->∀{e e':β} {i:Nat},e∈l->e'∈l->i∈f e->i∈f e'->e=e'
 | [],_,e,_,_,he,_,_,_=>by simp at he
 |x::xs,h,e,e',i,he,he',hi,nb=>by
  rw[zen] at h;obtain⟨h1,h2⟩:=nodup_append h;rcases List.mem_cons.1 he with q|q<;>rcases List.mem_cons.1 he' with q'|q'
  ·rw[q,q']
  ·exact absurd (List.mem_flatMap.2 ⟨e',q',nb⟩) (h2 _ (q▸hi))
  ·exact absurd (List.mem_flatMap.2 ⟨e,q,hi⟩) (h2 _ (q'▸nb))
  ·exact y9 h1 q q' hi nb
theorem yw (b:Nat->Nat): ∀(p:aK) (x:p.den),iG (some (p.mk b x))=false
 | .var _,_=>rfl
 | .row _,_=>rfl
 | .store _,_=>rfl
theorem P2 {N:Names}{i:Nat}{ep:List (Nat×aK)}{b:Nat}: ¬pW N i (.store ep) ([]:List (cM ep)) b:=by
 simp only[pW,jT];rintro⟨k,d,h,_⟩
 simp at h
theorem Ic.Mm {s:St}{sp:jt}{b:kr}{ro:List Nat}{d:cM sp.heap}(M:Ic s sp b ro d){N:Names}{c:Nat}{o:fK}{bl:Nat}(hc:mT (λc=>c) sp.heap d (λ_=>none) c=some o)(ho:iP (je N b sp.heap) c o bl):
  ∃e∈sp.heap,e.1=c/\∃i∈D6 b c,∃o',s.h i=some o'/\iP N i o' bl:=by
 have key:oh (je N b sp.heap) c bl->∃e∈sp.heap,e.1=c/\∃i∈D6 b c,∃o',s.h i=some o'/\iP N i o' bl:=by
  rintro⟨nm,a,h3,h4,rfl⟩
  obtain⟨e,he,rfl,h5⟩:=tN h3;obtain⟨i,hi,mM,a',h6,h7,h8⟩:=P1 h5 h4;refine⟨e,he,rfl,i,hi,?_⟩;obtain⟨g,hg,hT,_⟩:=M.bound e he;unfold D6 at hi;rw[hg] at hi;rcases hT i hi with⟨o',g1,_,g2⟩|⟨g1,_⟩
  ·exact⟨o',g1,h8▸iP.of (g2 (yc h5)) h6 h7⟩
  ·rw[yc h5] at g1;cases g1
 cases o with
 |dead=>exact ho.elim
 |void=>exact ho.elim
 |var v=>exact key ho
 |row r t xs=>
  cases r with
  |true=>exact ho.elim
  |false=>exact key ho
 |store ep ys=>
  obtain⟨h1,h2⟩:=M.link c ep ys hc;rcases nh hc with⟨q,hq,h3,x,h4,h5⟩|⟨_,h5⟩
  ·have h3:q.1=c:=h3
   have kg:cV sp.heap (SB+(c-SB))=true:=by
    rw[show SB+(c-SB)=c by omega]
    exact fG.2 ⟨q,hq,h3,(M.st q hq).2 (by omega)⟩
   refine⟨q,hq,h3,c,by unfold D6;rw[uQ h1];simp[xj.ids],?_⟩
   rcases h2 with h2|⟨_,rfl⟩
   ·exact⟨_,h2,(pW.uM (vH kg)).1 ho⟩
   ·exact absurd ho P2
  ·cases h5
theorem Ic.canon {s:St}{sp:jt}{b:kr}{ro:List Nat}{d:cM sp.heap}(M:Ic s sp b ro d){N:Names}{bl:Nat}(ho:zi (je N b sp.heap) (mT (λc=>c) sp.heap d (λ_=>none)) bl): ∃i∈iK sp.heap b,∃o,s.h i=some o/\iP N i o bl:=by
 obtain⟨c,o,h1,h2⟩:=ho;obtain⟨e,he,rfl,i,hi,h3⟩:=M.Mm h1 h2;exact⟨i,Bl.2 ⟨e,he,hi⟩,h3⟩
theorem Ic.cases {s:St}{sp:jt}{b:kr}{ro:List Nat}{d:cM sp.heap}(M:Ic s sp b ro d){N:Names}{D:Nat->Prop}{w:World}(S:jU N D w base s.h){i:Nat}(hi:i∈ro){nm:Nm}{a:Addr}(hn:N i=some nm)(hb:nm.base=some a):D a.block\/∃o,s.h i=some o/\iP N i o a.block:=by
 obtain⟨_,o,h1,h2⟩:=M.ro i hi;rcases h2 with⟨v,rfl⟩|⟨r,t,xs,rfl⟩
 ·exact .inr ⟨_,h1,iP.of rfl hn hb⟩
 ·cases r with
  |false=>exact .inr ⟨_,h1,iP.of rfl hn hb⟩
  |true=>
   obtain⟨Xy,e1,_,_,_,_,e6⟩:=S.obj i _ h1;rw[hn] at e1;cases e1;rw[hb] at e6;obtain⟨_,_,e7,_⟩:=e6;simp only[if_true] at e7;exact .inl e7
theorem Ic.zaS {s:St}{sp:jt}{b:kr}{ro:List Nat}{d:cM sp.heap}(M:Ic s sp b ro d){N:Names}{D:Nat->Prop}{w:World}(S:jU N D w base s.h):Oo s N (Bj N D ro) (iK sp.heap b):=by
 intro i hi o bl ho hr hd;have hnd:=(S.pb ho hr).1;rcases hd with hd|⟨j,hj,mM,a',PC,vl,LR⟩
 ·exact hnd hd
 ·rcases M.cases S hj PC vl with h1|⟨o',h1,h2⟩
  ·exact hnd (LR▸h1)
  ·have:=S.apart i j o o' bl ho h1 hr (LR▸h2)
   subst this;exact(M.ro _ hj).1 hi
theorem P3 {N:Names}{D:Nat->Prop}{w:World}{h:Nat->Option fK}(S:jU N D w base h){i:Nat}{o:fK}{nm:Nm}{a:Addr}(ho:h i=some o)(hd:(∃v,o= .var v)\/∃r t xs,o= .row r t xs)(hn:N i=some nm)(hb:nm.base=some a):a.block<w.heap.size:=by
 have:=S.obj i o ho;rcases hd with⟨v,rfl⟩|⟨r,t,xs,rfl⟩
 ·obtain⟨mM,a',e1,e2,_,_,_,_,_,_,⟨c,ty,e3,_⟩,_⟩:=this
  rw[hn] at e1;cases e1;rw[hb] at e2;cases e2;exact(Array.getElem?_eq_some_iff.1 e3).1
 ·obtain⟨mM,e1,_,_,_,_,e6⟩:=this
  rw[hn] at e1;cases e1;rw[hb] at e6;obtain⟨_,⟨c,ty,fz,e3,_⟩,_⟩:=e6;exact(Array.getElem?_eq_some_iff.1 e3).1
theorem Ic.ny {s:St}{sp:jt}{b:kr}{ro:List Nat}{d:cM sp.heap}(M:Ic s sp b ro d){N:Names}{D:Nat->Prop}{w:World}(S:jU N D w base s.h)(nf: ∀c o,mT (λc=>c) sp.heap d (λ_=>none) c=some o->qF (je N b sp.heap) (Bj N D ro) w base c o):jU (je N b sp.heap) (Bj N D ro) w base (mT (λc=>c) sp.heap d (λ_=>none)):=by
 refine⟨nf,?_,?_,?_,S.size,λg hg k=>?_⟩
 ·intro c c' o o' bl hc LN ho mX
  obtain⟨e,he,rfl,q,hq,oq,hoq,hrq⟩:=M.Mm hc ho;obtain⟨e',he',rfl,q',uE,oq',zcC,zcD⟩:=M.Mm LN mX;have:=S.apart q q' oq oq' bl hoq zcC hrq zcD;subst this;rw[y9 (f:=λo:Nat×aK=>D6 b o.1) M.nodup he he' hq uE]
 ·rintro bl (hb|⟨q,hq,nm,a,hn,hb,rfl⟩)
  ·exact S.frozen bl hb
  ·obtain⟨_,o,h8,h9⟩:=M.ro q hq
   exact P3 S h8 h9 hn hb
 ·intro c nm hn
  obtain⟨e,he,hec,_⟩:=tN hn;exact pZ ⟨e,he,hec⟩
 ·refine zq ?_ k
  cases e:cV sp.heap (SB+g) with
  |false=>rfl
  |true=>
   exfalso
   obtain⟨q,hq,h1,h2⟩:=fG.1 e;cases hm:mT (λc=>c) sp.heap d (λ_=>none) (SB+g) with
   |none=>exact pZ ⟨q,hq,h1⟩ hm
   |some o=>
    rw[hm] at hg;rcases nh hm with⟨q',_,_,x,_,h5⟩|⟨_,h5⟩
    ·subst h5
     rw[yw] at hg;cases hg
    ·cases h5
theorem qd {sp:jt}{s:St}{b:kr}{k:sp.den->List Nat->kr->Option α}{f:Option α}{r:α}(h:oP sp s b k f=some r)(hc:wI sp):
  f=some r\/∃d ro b',k d ro b'=some r/\b.le b'/\Ic s sp b' ro d.2/\∀N D w base,jU N D w base s.h->
   jU (je N b' sp.heap) (Bj N D ro) w base (mT (λc=>c) sp.heap d.2 (λ_=>none))/\∀y c,ck N D w (s.t y) c->ck (je N b' sp.heap) (Bj N D ro) w (zh (λc=>c) sp.jJ d.1 y) c:=by
 unfold oP at h;rcases Ag _ _ _ _ _ h with h1|⟨x,i,b1,h1,h2,h3⟩
 ·exact .inl h1
 ·rcases Ah _ _ _ _ h1 with hf|⟨y,j,b',h4,h5,h6,h6s,h7⟩
  ·exact .inl hf
  right
  split at h4
  ·rename_i HV
   simp only[zdH,zej,ze0,zeQ,decide_eq_false_iff_not] at HV;have M:Ic s sp b' (i++j) y:=⟨λe he=>by obtain⟨g,g1,g2,g3,_⟩:=h6 e he;exact⟨g,g1,g2,g3⟩,HV.1,λq hq=>(by
    obtain⟨g1,g2⟩:=HV.2 q hq;refine⟨g1,?_⟩;unfold isObj at g2;split at g2
    ·rename_i v e;exact⟨_,e, .inl ⟨v,rfl⟩⟩
    ·rename_i r t xs e;exact⟨_,e, .inr ⟨r,t,xs,rfl⟩⟩
    ·cases g2),h6s λe he=>(hc.st e he).1,hc.st⟩
   refine⟨(x,y),i++j,b',h4,kr.le_trans h2 h5,M,λN D w base S=>?_⟩;have Oq: ∀c,(c∈A5 sp.jJ\/c∈A6 sp.heap)->lx N b' (je N b' sp.heap) c:=by
    intro c LN;obtain⟨g1,g2⟩:=hc.cs c LN;exact qI g1 (λe he=>(hc.st e he).1) g2
   have hks: ∀l:List Nat,(∀g∈l,cV sp.heap (SB+g)=true)->mw l N (je N b' sp.heap):=λl hl g hg k c nm hn _=>by
    rw[vH (hl g hg)];exact hn
   have hF:lq N (Bj N D (i++j)) (i++j):=λq hq nm a hn hb=> .inr ⟨q,hq,nm,a,hn,hb,rfl⟩;have hD: ∀b,D b->Bj N D (i++j) b:=λb hb=> .inl hb;refine⟨M.ny S λc o ho=>h7 N D w base S _ _ (hks _ λg hg=>hc.ks g (.inr hg)) (λc hc=>Oq c (.inr hc)) hD hF.right (M.zaS S) (λe he kg=>?_) c o ho rfl,λy c hv=>h3 N D w base S _ _ (hks _ λg hg=>hc.ks g (.inl hg)) (λc hc=>(Oq c (.inl hc)).mono h5) hD hF.left y c hv⟩;have sG:=(hc.st e he).1 kg;refine⟨sG,vH ?_⟩;rw[show SB+(e.1-SB)=e.1 by omega]
   exact fG.2 ⟨e,he,rfl,kg⟩
  ·cases h4
end AM
namespace AM
open Go
variable {α:Type}{P:Program}{base:Nat}
structure Ie (O O' D D':Nat->Prop)(w w':World):Prop where
 frozen: ∀b,D b->D' b
 os:w'.os=w.os
 tape:w'.tape=w.tape
 output:w'.output=w.output
 size:w.heap.size<=w'.heap.size
 sU: ∀b,b<w.heap.size->¬O b->w'.heap[b]?=w.heap[b]?
 own: ∀b,b<w.heap.size->O' b->O b
 JB: ∀b,D' b->D b\/O b\/w.heap.size<=b
theorem Ie.refl (O D:Nat->Prop)(w:World):Ie O O D D w w:=⟨λ_ h=>h,rfl,rfl,rfl,zdV _,λ_ _ _=>rfl,λ_ _ h=>h,λ_ h=> .inl h⟩
theorem Ie.trans {O O' O'' D D' D'':Nat->Prop}{w w' UO:World}(x:Ie O O' D D' w w')(y:Ie O' O'' D' D'' w' UO):Ie O O'' D D'' w UO where
 frozen b e:=y.frozen b (x.frozen b e)
 os:=y.os.trans x.os
 tape:=y.tape.trans x.tape
 output:=y.output.trans x.output
 size:=zdW x.size y.size
 sU b hb ho:=by rw[y.sU b (zdX hb x.size) (λo=>ho (x.own b hb o)),x.sU b hb ho]
 own b hb o:=x.own b hb (y.own b (zdX hb x.size) o)
 JB b hb:=by
  rcases y.JB b hb with h1|h1|h1
  ·exact x.JB b h1
  ·rcases zdY b w.heap.size with h2|h2
   ·exact .inr (.inl (x.own b h2 h1))
   ·exact .inr (.inr h2)
  ·exact .inr (.inr (zdW x.size h1))
theorem Ext.b {N N':Names}{D D':Nat->Prop}{w w':World}{h h':Nat->Option fK}(x:Ext N D w h N' D' w' h'):Ie (zi N h) (zi N' h') D D' w w':=⟨x.frozen,x.os,x.tape,x.output,x.size,x.sU,x.own,x.JB⟩
def za:Ty->Bool
 | .cons a b=>za a&&za b
 | .arr _ t=>za t
 | .deep _=>false
 |_=>true
theorem vI {N N':Names}{D D':Nat->Prop}{w:World}: ∀(t:Ty) (x:t.den) (g:Nat->Option Value),za t=true->mw t.ks N N'->iw N D w t x g->iw N' D' w t x g
 | .int _,_,_,_,_,h=>by simp only[iw] at*;exact h
 | .bool,_,_,_,_,h=>by simp only[iw] at*;exact h
 | .str,_,_,_,_,h=>by simp only[iw] at*;exact h
 | .nil,_,_,_,_,_=>by simp only[iw]
 | .cons a b,p,g,hf,hK,h=>by
  simp only[za,zdH] at hf;exact⟨vI a p.1 g hf.1 hK.left h.1,vI b p.2 _ hf.2 hK.right h.2⟩
 | .arr n t,xs,g,hf,hK,h=>⟨h.1,λi x hx=>vI t x _ (by simpa [za] using hf) hK (h.2 i x hx)⟩
 | .deep t,xs,g,hf,hK,h=>by simp[za] at hf
 | .ref g,n,c,_,hK,h=>by
  show xF N' g n 50 (c 0)
  have h:xF N g n 50 (c 0):=h;cases n with
  |zero=>exact h
  |succ k=>obtain⟨nm,a,h1,h2,h3⟩:=h;exact⟨nm,a,hK g (List.mem_singleton.2 rfl) _ _ _ h1 h2,h2,h3⟩
mutual
def cf.flat:cf->Bool
 | .hole t=>za t
 | .vm _=>false
 | .Js _=>false
 | .agg ps=>cf.JQ ps
 | .xh _ ps=>cf.JQ ps
 |_=>true
def cf.JQ:List cf->Bool
 | []=>true
 |p::ps=>p.flat&&cf.JQ ps
end
mutual
def aK.flat:aK->Bool
 | .var p=>p.flat
 | .row t=>za t
 | .store ep=>Ot ep
def Ot:List (Nat×aK)->Bool
 | []=>true
 |(_,p)::os=>p.flat&&Ot os
end
def jt.flat (e:jt):Bool:=e.jJ.all (λo=>o.2.flat)&&e.heap.all (λo=>o.2.flat)
mutual
theorem D8 (b b':Nat->Nat): ∀(p:cf) (x:p.den),(p.mk b x).sh=(p.mk b' x).sh
 | .hole t,x=>by simp only[cf.mk]
 | .vm t,x=>by simp only[cf.mk]
 | .const v,x=>by simp only[cf.mk]
 | .ptr c,x=>by simp only[cf.mk,AV.sh]
 | .own c,x=>by simp only[cf.mk,AV.sh]
 | .FH c,x=>by simp only[cf.mk,AV.sh]
 | .agg ps,x=>by simp only[cf.mk,AV.sh,Sn b b' ps x]
 | .jY c p,x=>by simp only[cf.mk,AV.sh]
 | .xh f ps,x=>by simp only[cf.mk,AV.sh]
 | .ux c n,x=>by simp only[cf.mk,AV.sh]
 | .skip,x=>by simp only[cf.mk]
 | .Js p,x=>by simp only[cf.mk,AV.sh]
theorem Sn (b b':Nat->Nat): ∀(ps:List cf) (x:cf.xi ps),AV.yU (cf.pV b ps x)=AV.yU (cf.pV b' ps x)
 | [],x=>by simp only[cf.pV]
 |p::ps,x=>by simp only[cf.pV,AV.yU,D8 b b' p x.1,Sn b b' ps x.2]
end
section
variable {Ne N':Names}{De D':Nat->Prop}{w:World}{bk:Nat->Nat}{lt:Bool}
mutual
theorem Db (hT:(lt=true\/∀b,De b->D' b)): ∀(p:cf) (x:p.den) (g:Nat->Option Value),(∀c∈p.cs,∀nm,Ne c=some nm->N' (bk c)=some nm)->mw p.ks Ne N'->(lt=true->p.flat=true)->ar Ne De w (p.mk (λc=>c) x) g->ar N' D' w (p.mk bk x) g
 | .hole t,x,g,_,hK,hf,h=>by
  simp only[cf.mk] at h⊢;refine(kH t x g).2 ?_;have h:=(kH t x g).1 h;rcases hT with hT|hT
  ·exact vI t x g (by simpa [cf.flat] using hf hT) (by simpa only[cf.ks] using hK) h
  ·exact ko hT (λ_ _=>rfl) t x g (by simpa only[cf.ks] using hK) h
 | .vm t,x,g,_,hK,hf,h=>by
  simp only[cf.mk,ar] at h⊢;obtain⟨a,h1,h2,h3,h4⟩:=h;rcases hT with hT|hT
  ·have:=hf hT
   simp[cf.flat] at this
  ·exact⟨a,h1,h2,hT _ h3,(kH t x _).2 (ko hT (λ_ _=>rfl) t x _ (by simpa only[cf.ks] using hK) ((kH t x _).1 h4))⟩
 | .const v,x,g,_,_,_,h=>by simp only[cf.mk,ar] at h⊢;exact h
 | .skip,x,g,_,_,_,h=>by simp only[cf.mk,ar]
 | .Js p,x,g,hN,hK,hf,h=>by
  simp only[cf.mk,ar] at h⊢;obtain⟨a,h1,h2,h3,h4⟩:=h;rcases hT with hT|hT
  ·have:=hf hT
   simp[cf.flat] at this
  ·exact⟨a,h1,h2,hT _ h3,Db (.inr hT) p x _ (by simpa only[cf.cs] using hN) (by simpa only[cf.ks] using hK) (λhl=>by have:=hf hl;simp[cf.flat] at this) h4⟩
 | .ptr c,x,g,hN,_,_,h=>by
  simp only[cf.mk,ar] at h⊢;obtain⟨nm,a,o,h1,h2⟩:=h;exact⟨nm,a,o,hN c (by simp[cf.cs]) nm h1,h2⟩
 | .jY c p,x,g,hN,_,_,h=>by
  simp only[cf.mk,ar] at h⊢;obtain⟨nm,a,o,h1,h2⟩:=h;exact⟨nm,a,o,hN c (by simp[cf.cs]) nm h1,h2⟩
 | .ux c n,x,g,hN,_,_,h=>by
  simp only[cf.mk,ar] at h⊢;obtain⟨nm,a,h1,h2⟩:=h;exact⟨nm,a,hN c (by simp[cf.cs]) nm h1,h2⟩
 | .own c,x,g,hN,_,_,h=>by
  simp only[cf.mk,ar] at h⊢;obtain⟨nm,h1,h2⟩:=h;exact⟨nm,hN c (by simp[cf.cs]) nm h1,h2⟩
 | .FH c,x,g,hN,_,_,h=>by
  simp only[cf.mk,ar] at h⊢;obtain⟨nm,h1,h2⟩:=h;exact⟨nm,hN c (by simp[cf.cs]) nm h1,h2⟩
 | .agg ps,x,g,hN,hK,hf,h=>by
  simp only[cf.mk,ar] at h⊢;exact(D9 hT ps x (by simpa [cf.cs] using hN) (by simpa [cf.ks] using hK) (by simpa [cf.flat] using hf)).1 g h
 | .xh f ps,x,g,hN,hK,hf,h=>by
  simp only[cf.mk,ar] at h⊢;obtain⟨cs,h1,h2⟩:=h;exact⟨cs,h1,(D9 hT ps x (by simpa [cf.cs] using hN) (by simpa [cf.ks] using hK) (by simpa [cf.flat] using hf)).2 _ h2⟩
theorem D9 (hT:(lt=true\/∀b,De b->D' b)): ∀(ps:List cf) (x:cf.xi ps),(∀c∈cf.Vg ps,∀nm,Ne c=some nm->N' (bk c)=some nm)->mw (cf.RH ps) Ne N'->(lt=true->cf.JQ ps=true)->
  (∀g,fg Ne De w (cf.pV (λc=>c) ps x) g->fg N' D' w (cf.pV bk ps x) g)/\∀cs,bA Ne De w (cf.pV (λc=>c) ps x) cs->bA N' D' w (cf.pV bk ps x) cs
 | [],x,_,_,_=>⟨λg _=>by simp only[cf.pV,fg],λcs h=>by simpa only[cf.pV,bA] using h⟩
 |p::ps,x,hN,hK,hf=>by
  have YQ:=λe=>by have:=hf e;simp only[cf.JQ,zdH] at this;exact this
  have hK:mw (p.ks++cf.RH ps) Ne N':=by simpa only[cf.RH] using hK
  have a1:=λg=>Db hT p x.1 g (λc hc=>hN c (by simp[cf.Vg,hc])) hK.left (λe=>(YQ e).1)
  obtain⟨a2,a3⟩:=D9 hT ps x.2 (λc hc=>hN c (by simp[cf.Vg,hc])) hK.right (λe=>(YQ e).2)
  have hsz:(p.mk bk x.1).size=(p.mk (λc=>c) x.1).size:=by rw[<-kN,D8 bk (λc=>c),kN]
  refine⟨λg h=>?_,λcs h=>?_⟩
  ·simp only[cf.pV,fg] at h⊢
   refine⟨a1 g h.1,?_⟩;rw[hsz];exact a2 _ h.2
  ·simp only[cf.pV,bA] at h⊢
   obtain⟨c,tK,e1,e2,e3⟩:=h;exact⟨c,tK,e1,C9 (D8 bk (λc=>c) p x.1) e2 a1,a3 _ e3⟩
end
end
theorem l9 (h:Nat->Option fK): ∀(l:List Nat) (j:Nat),sb h l j=if j∈l then some .dead else h j
 | [],j=>by simp[sb]
 |i::l,j=>by
  simp only[sb,l9 h l j,zek];by_cases e:j=i
  ·simp[e]
  ·simp[e]
def So (o:Option fK):Option fK:=match o with|some (.row _ t xs)=>some (.row true t xs)|_=>some .dead
theorem ry (h:Nat->Option fK): ∀(l:List Nat) (j:Nat),tI h l j=if j∈l then So (h j) else h j
 | [],j=>by simp[tI]
 |i::l,j=>by
  simp only[tI,ry h l j,zek];by_cases e:j=i
  ·subst e;simp only[true_or,if_true,So]
   split<;>simp_all
  ·simp[e]
end AM
namespace AM
open Go
variable {α:Type}{P:Program}{base:Nat}
theorem Vt (b b':Nat->Nat)(p:cf)(x:p.den):(p.mk b x).size=(p.mk b' x).size:=by rw[<-kN,D8 b b',kN]
theorem tf.back {Ne N':Names}{De D':Nat->Prop}{w:World}{bk:Nat->Nat}{lt:Bool}{c j:Nat}{p:cf}{x:p.den}(hT:lt=true\/∀b,De b->D' b)(hD: ∀b,D' b->De b)(hc: ∀nm,Ne c=some nm->N' j=some nm)(hN: ∀c∈p.cs,∀nm,Ne c=some nm->N' (bk c)=some nm)(hK:mw p.ks Ne N')(hf:lt=true->p.flat=true)
  (h:tf Ne De w base c (p.mk (λc=>c) x)):tf N' D' w base j (p.mk bk x):=by
 obtain⟨nm,a,e1,e2,e3,e4,e5,e6,e7,e8,⟨cc,ty,e9,yr⟩,N8⟩:=h;exact⟨nm,a,hc _ e1,e2,e3,by rw[e4];exact D8 _ _ p x,e5,e6,e7,λhd=>e8 (hD _ hd),⟨cc,ty,e9,yr.trans (Vt _ _ p x)⟩,Db hT p x _ hN hK hf N8⟩
theorem nG.back {Ne N':Names}{De D':Nat->Prop}{w:World}{lt:Bool}{c j:Nat}{t:Ty}{xs:List t.den}(hT:lt=true\/∀b,De b->D' b)(hD: ∀b,D' b->De b)(hc: ∀nm,Ne c=some nm->N' j=some nm)(hK:mw t.ks Ne N')(hf:lt=true->za t=true)
  (h:nG Ne De w base c false t xs):nG N' D' w base j false t xs:=by
 obtain⟨nm,e1,e2,e3,e4,e5,e6⟩:=h;refine⟨nm,hc _ e1,e2,e3,e4,e5,?_⟩;cases hb:nm.base with
 |none=>rw[hb] at e6;exact e6
 |some a=>
  rw[hb] at e6;obtain⟨f1,⟨cc,ty,fz,g1,g2,g3⟩,f3,f4⟩:=e6;simp only[zdG,if_false] at f3⊢;refine⟨f1,⟨cc,ty,fz,g1,g2,λ_=>g3 rfl⟩,⟨f3.1,λhd=>f3.2 (hD _ hd)⟩,λi y hy=>?_⟩;rcases hT with hT|hT
  ·exact vI t y _ (hf hT) hK (f4 i y hy)
  ·exact ko hT (λ_ _=>rfl) t y _ hK (f4 i y hy)
mutual
theorem jc.back {De D':Nat->Prop}{w:World}{lt:Bool}(hT:lt=true\/∀b,De b->D' b)(hD: ∀b,D' b->De b): ∀{N:Names} {c:Nat} {p:aK} {d:p.den},(lt=true->p.flat=true)->jc De w base N c p d->jc D' w base N c p d
 |N,_, .var p,d,hf,h=>by
  simp only[jc] at*;exact tf.back (bk:=λc=>c) hT hD (λ_ h=>h) (λ_ _ _ h=>h) (λ_ _ _ _ _ h _=>h) (by simpa only[aK.flat] using hf) h
 |N,_, .row t,d,hf,h=>by
  simp only[jc] at*;exact nG.back hT hD (λ_ h=>h) (λ_ _ _ _ _ h _=>h) (by simpa only[aK.flat] using hf) h
 |N,c, .store ep,xs,hf,h=>by
  simp only[jc] at*;exact⟨h.1,λk d hk=>⟨kK.back hT hD (by simpa only[aK.flat] using hf) (h.2.1 k d hk).1,(h.2.1 k d hk).2⟩,h.2.2.1,h.2.2.2⟩
theorem kK.back {De D':Nat->Prop}{w:World}{lt:Bool}(hT:lt=true\/∀b,De b->D' b)(hD: ∀b,D' b->De b): ∀{N:Names} {l:List (Nat×aK)} {d:cM l},(lt=true->Ot l=true)->kK De w base N l d->kK D' w base N l d
 |_,[],_,_,_=>by simp only[kK]
 |N,(c,p)::os,d,hf,h=>by
  have YQ:=λe=>by have:=hf e;simp only[Ot,zdH] at this;exact this
  simp only[kK] at*;exact⟨jc.back hT hD (λe=>(YQ e).1) h.1,kK.back hT hD (λe=>(YQ e).2) h.2.1,h.2.2⟩
end
theorem Sp {Ne N':Names}{De D':Nat->Prop}{w:World}{bk:Nat->Nat}{lt:Bool}{c j:Nat}(hT:lt=true\/∀b,De b->D' b)(hD: ∀b,D' b->De b): ∀(p:aK) (x:p.den),(p.mY=false->∀nm,Ne c=some nm->N' j=some nm)->(∀c∈p.cs,∀nm,Ne c=some nm->N' (bk c)=some nm)->mw p.ks Ne N'->(lt=true->p.flat=true)->
  (p.mY=true->c=j/\∀k,N'.sub (j-SB) k=Ne.sub (j-SB) k)->qF Ne De w base c (p.mk (λc=>c) x)->qF N' D' w base j (p.mk bk x)
 | .var p,x,hc,hN,hK,hf,_,h=>tf.back hT hD (hc rfl) hN hK (by simpa only[aK.flat] using hf) h
 | .row t,x,hc,hN,hK,hf,_,h=>nG.back hT hD (hc rfl) hK (by simpa only[aK.flat] using hf) h
 | .store ep,x,hc,hN,hK,hf,hs,h=>by
  obtain⟨rfl,h2⟩:=hs rfl;exact(jc.back hT hD hf (show jc De w base Ne c (.store ep) x from h)).uM h2
theorem GC {N:Names}{D:Nat->Prop}{w:World}{id bl:Nat}{o:fK}(h:qF N D w base id o)(hr:o.rw=true): ∃nm,N id=some nm:=by
 cases o with
 |dead=>simp[fK.rw] at hr
 |void=>simp[fK.rw] at hr
 |store _ _=>simp[fK.rw] at hr
 |var v=>obtain⟨nm,a,e1,_⟩:=h;exact⟨nm,e1⟩
 |row ro t xs=>obtain⟨nm,e1,_⟩:=h;exact⟨nm,e1⟩
def Vu (pre e:jt):Bool:=e.closed&&e.heap.all λo=>decide (50<=o.1)||(pre.heap.any λq=>decide (q.1=o.1)&&q.2.isVar)
structure P4 (pre e:jt):Prop where
 closed:wI e
 var: ∀q∈e.heap,q.1<50->∃q'∈pre.heap,q'.1=q.1/\q'.2.isVar=true
theorem GD {pre e:jt}(h:Vu pre e=true):P4 pre e:=by
 simp only[Vu,zdH,zej] at h;refine⟨uR h.1,λq hq uz=>?_⟩;have:=h.2 q hq;have hn: ¬50<=q.1:=by omega
 simp only[hn,decide_false,ze1,List.any_eq_true,zdH,zdN] at this;exact this
theorem Ai {lt:Bool}{h:Nat->Option fK}{pre:jt}{b:kr}{ro:List Nat}{s:St}{d0:cM pre.heap}(M:Ic s pre b ro d0)(hs:s.h=h){j:Nat}{o:fK}(ho:tT lt h pre b ro j=some o)(hd:o≠ .dead):
  j∉iK pre.heap b/\((h j=some o/\(lt=true\/j∉ro))\/(lt=false/\j∈ro/\∃r t xs,h j=some (.row r t xs)/\o= .row true t xs)):=by
 unfold tT at ho;cases lt with
 |true=>
  simp only[l9] at ho;split at ho
  ·cases ho;exact absurd rfl hd
  ·rename_i hj;exact⟨hj, .inl ⟨ho, .inl rfl⟩⟩
 |false=>
  simp only[ry,l9] at ho;by_cases hj:j∈ro
  ·obtain⟨h1,o',h2,h3⟩:=M.ro j hj
   rw[hs] at h2;rw[if_pos hj,if_neg h1,h2] at ho;rcases h3 with⟨v,rfl⟩|⟨r,t,xs,rfl⟩
   ·simp only[So,zdF] at ho;exact absurd ho.symm hd
   ·simp only[So,zdF] at ho
    exact⟨h1, .inr ⟨rfl,hj,r,t,xs,h2,ho.symm⟩⟩
  ·rw[if_neg hj] at ho
   split at ho
   ·cases ho;exact absurd rfl hd
   ·rename_i BZ;exact⟨BZ, .inl ⟨ho, .inr hj⟩⟩
theorem GF {lt:Bool}{h:Nat->Option fK}{pre:jt}{b:kr}{ro:List Nat}{j:Nat}(ho:tT lt h pre b ro j=none):h j=none:=by
 unfold tT at ho;cases lt with
 |true=>
  simp only[l9] at ho;split at ho
  ·cases ho
  ·exact ho
 |false=>
  simp only[ry,l9,So] at ho;split at ho
  ·split at ho<;>cases ho
  ·split at ho
   ·cases ho
   ·exact ho
theorem P5 {lt:Bool}{h:Nat->Option fK}{pre:jt}{b:kr}{ro:List Nat}{s:St}{d0:cM pre.heap}(M:Ic s pre b ro d0)(hs:s.h=h){j:Nat}(hj:h j=some .dead):tT lt h pre b ro j=some .dead:=by
 unfold tT;have Oh:j∉ro:=λhr=>by
  obtain⟨_,o,h1,h2⟩:=M.ro j hr;rw[hs,hj] at h1;cases h1;rcases h2 with⟨v,e⟩|⟨r,t,xs,e⟩<;>cases e
 cases lt with
 |true=>
  simp only[l9];split
  ·rfl
  ·exact hj
 |false=>
  simp only[ry,l9,if_neg Oh];split
  ·rfl
  ·exact hj
theorem Ou {b:kr}{fresh c:Nat}(h:c<50):back b fresh c=match b.get c with|some (.at_ i)=>i|_=>0:=by unfold back;simp only[decide_eq_true h];rfl
theorem Ea {b:kr}{fresh c:Nat}(h: ¬c<50)(h': ¬SB<=c):back b fresh c=fresh+(c-50):=by unfold back;simp only[decide_eq_false h,decide_eq_false h']
theorem JR {c:Nat}(h:SB<=c): ¬c<50:=by unfold SB at h;omega
theorem qo {b:kr}{fresh c:Nat}(h:SB<=c):back b fresh c=c:=by unfold back;simp only[decide_eq_false (JR h),decide_eq_true h]
open Classical in
theorem Bm {N:Names}{D:Nat->Prop}{w:World}{h:Nat->Option fK}{pre e:jt}{b:kr}{ro:List Nat}{s:St}{d0:cM pre.heap}(hs:s.h=h)(S:jU N D w base h)(M:Ic s pre b ro d0)(hex:P4 pre e){fresh:Nat}(gX:oQ h fresh pre.heap e.heap=true){lt:Bool}(kQ:lt=true->e.flat=true)
  {Ne:Names} {De:Nat->Prop} {w':World} {dh:cM e.heap} {O:Nat->Prop} (hO: ∀bl,O bl->∃i∈iK pre.heap b,∃o,h i=some o/\iP N i o bl)
  (Se:jU Ne De w' base (mT (λc=>c) e.heap dh (λ_=>none))) (x:Ie O (zi Ne (mT (λc=>c) e.heap dh (λ_=>none))) (Bj N D ro) De w w') (zaT: ∀q∈e.heap,q.1<50->Ne q.1=je N b pre.heap q.1)
  (YR: ∀g,cV e.heap (SB+g)=true->∀k c nm,(je N b pre.heap).sub g k c=some nm->nm.row=false->Ne.sub g k c=some nm):
  ∃N' D',jU N' D' w' base (mT (back b fresh) e.heap dh (tT lt h pre b ro))/\Ext N D w h N' D' w' (mT (back b fresh) e.heap dh (tT lt h pre b ro))/\
   (∀(p:cf) (y:p.den) g,(∀c∈p.cs,c<SB/\∃q∈e.heap,q.1=c)->(∀g∈p.ks,cV e.heap (SB+g)=true)->(lt=true->p.flat=true)->ar Ne De w' (p.mk (λc=>c) y) g->ar N' D' w' (p.mk (back b fresh) y) g)/\
   (∀c,(c<SB/\∃q∈e.heap,q.1=c)->∀nm,Ne c=some nm->N' (back b fresh c)=some nm)/\(∀g,cV e.heap (SB+g)=false->∀k,N'.sub g k=N.sub g k)/\(∀b,D' b->De b)/\
   ∀i oi bl,mT (back b fresh) e.heap dh (tT lt h pre b ro) i=some oi->iP N' i oi bl->(∃c o,mT (λc=>c) e.heap dh (λ_=>none) c=some o/\iP Ne c o bl)\/(h i=some oi/\iP N i oi bl/\i∉iK pre.heap b):=by
 have kg: ∀q∈e.heap,(q.2.mY=true↔SB<=q.1):=hex.closed.st;have rk: ∀q∈e.heap,50<=q.1->q.1<SB->back b fresh q.1=fresh+(q.1-50)/\h (fresh+(q.1-50))=none:=by
  intro q hq uz kQ;unfold oQ at gX;rw[zej] at gX;have:=gX q hq;have hn: ¬q.1<50:=by omega
  have PC: ¬SB<=q.1:=by omega
  simp only[hn,PC,decide_false,ze1,zdH,Option.isNone_iff_eq_none] at this;exact⟨Ea hn PC,this.2⟩
 have zaU: ∀q∈e.heap,SB<=q.1->cV pre.heap q.1=true\/iG (h q.1)=true:=by
  intro q hq sG;unfold oQ at gX;rw[zej] at gX;have:=gX q hq;rw[decide_eq_false (JR sG),decide_eq_true sG] at this;simp only[ze1,zeM,List.any_eq_true,zdN] at this;rcases this with⟨q',uE,h1⟩|h1
  ·exact .inl (fG.2 ⟨q',uE,h1,(M.st q' uE).2 (by omega)⟩)
  ·exact .inr h1
 have Vv: ∀q∈e.heap,q.1<50->back b fresh q.1∈iK pre.heap b/\je N b pre.heap q.1=N (back b fresh q.1)/\∃o,h (back b fresh q.1)=some o/\o.rw=true:=by
  intro q hq uz;obtain⟨q',uE,h1,h2⟩:=hex.var q hq uz;obtain⟨g,hg,hT,h3⟩:=M.bound q' uE;obtain⟨i,rfl⟩:=h3 h2;have kQ:q.1<SB:=by unfold SB;omega
  rw[h1] at hg;have qQ:b.get q.1=some (.at_ i):=by rw[<-Da (by omega)];exact hg
  have hb:back b fresh q.1=i:=by rw[Ou uz];simp[qQ]
  rw[hb];refine⟨Bl.2 ⟨q',uE,by unfold D6;rw[h1,hg];simp[xj.ids]⟩,?_,?_⟩
  ·exact(qI (N:=N) (b:=b) (l:=pre.heap) kQ (λe he=>(M.st e he).1) ⟨q',uE,h1⟩).at_ qQ
  ·have vd:q'.2.mY=false:=by cases hq2:q'.2<;>simp[hq2,aK.isVar] at h2<;>rfl
   rcases hT i (by simp[xj.ids]) with⟨o,g1,_,g2⟩|⟨g1,_⟩
   ·rw[hs] at g1;exact⟨o,g1,g2 vd⟩
   ·rw[vd] at g1;cases g1
 obtain⟨D',hD1,hD2,hD3,hD4⟩: ∃D':Nat->Prop,(∀b,D b->D' b)/\(∀b,D' b->De b)/\(lt=true\/∀b,De b->D' b)/\(lt=true->∀b,D' b->D b):=by
  cases lt with
  |true=>exact⟨D,λ_ h=>h,λb hb=>x.frozen b (.inl hb), .inl rfl,λ_ _ h=>h⟩
  |false=>exact⟨De,λb hb=>x.frozen b (.inl hb),λ_ h=>h, .inr λ_ h=>h,by intro e;cases e⟩
 have tq: ∀bl,O bl->zi N h bl:=by
  intro bl hb;obtain⟨i,hi,o,h1,h2⟩:=hO bl hb;exact⟨i,o,h1,h2⟩
 have vG: ∀j,h j=none->N j=none:=by
  intro j hj;cases e':N j with
  |none=>rfl
  |some nm=>exact absurd hj (S.named j nm e')
 let N':Names:=⟨λp=>match p with
  | []=>λj=>match N j with|some nm=>some nm|none=>if(∃q∈e.heap,50<=q.1/\q.1<SB/\fresh+(q.1-50)=j) then Ne (j-fresh+50) else none
  |(g,k)::p=>if cV e.heap (SB+g)=true then Ne.at_ ((g,k)::p) else N.at_ ((g,k)::p)⟩
 have Ig: ∀g,cV e.heap (SB+g)=true->∀k,N'.sub g k=Ne.sub g k:=by
  intro g hg k;show(⟨_⟩:Names)=⟨_⟩
  congr 1
  funext p
  show(if cV e.heap (SB+g)=true then Ne.at_ ((g,k)::p) else N.at_ ((g,k)::p))=_
  rw[if_pos hg]
 have wJ: ∀g,cV e.heap (SB+g)=false->∀k,N'.sub g k=N.sub g k:=by
  intro g hg k;show(⟨_⟩:Names)=⟨_⟩
  congr 1
  funext p
  show(if cV e.heap (SB+g)=true then Ne.at_ ((g,k)::p) else N.at_ ((g,k)::p))=_
  rw[if_neg (by rw[hg];simp)]
 have hN: ∀j nm,N j=some nm->N' j=some nm:=by
  intro j nm hj;show(match N j with|some nm=>some nm|none=>_)=some nm
  rw[hj]
 have YS:N.le N':=by
  refine⟨hN,λg k c nm hn hr=>?_⟩;cases hg:cV e.heap (SB+g) with
  |false=>rw[wJ g hg];exact hn
  |true=>
   rw[Ig g hg];obtain⟨q,hq,h1,h2⟩:=fG.1 hg;rcases zaU q hq (by omega) with h3|h3
   ·rw[h1] at h3
    exact YR g hg k c nm (by rw[vH h3];exact hn) hr
   ·rw[h1] at h3
    rw[S.iG g h3 k] at hn;cases hn
 have Ov: ∀j nm,N' j=some nm->N j=some nm\/(h j=none/\∃q∈e.heap,back b fresh q.1=j/\Ne q.1=some nm):=by
  intro j nm hj;replace hj:(match N j with|some nm=>some nm|none=>if(∃q∈e.heap,50<=q.1/\q.1<SB/\fresh+(q.1-50)=j) then Ne (j-fresh+50) else none)=some nm:=hj
  cases UT:N j with
  |some mM=>rw[UT] at hj;exact .inl hj
  |none=>
   rw[UT] at hj;simp only at hj;split at hj
   ·rename_i hq
    obtain⟨q,hq,uz,kQ,rfl⟩:=hq;obtain⟨h1,h2⟩:=rk q hq uz kQ;refine .inr ⟨h2,q,hq,h1,?_⟩;rw[<-hj];congr 1;omega
   ·cases hj
 have hNe: ∀q∈e.heap,q.1<SB->∀nm,Ne q.1=some nm->N' (back b fresh q.1)=some nm:=by
  intro q hq kQ nm hn;rcases zdY q.1 50 with uz|uz
  ·obtain⟨_,h2,_⟩:=Vv q hq uz
   rw[zaT q hq uz,h2] at hn;exact hN _ _ hn
  ·obtain⟨h1,h2⟩:=rk q hq uz kQ
   show(match N (back b fresh q.1) with|some nm=>some nm|none=>_)=some nm
   rw[h1,vG _ h2];simp only;rw[if_pos ⟨q,hq,uz,kQ,rfl⟩,<-hn];congr 1;omega
 have yK: ∀c,(c<SB/\∃q∈e.heap,q.1=c)->∀nm,Ne c=some nm->N' (back b fresh c)=some nm:=by
  rintro c ⟨kQ,q,hq,rfl⟩;exact hNe q hq kQ
 have hks: ∀l:List Nat,(∀g∈l,cV e.heap (SB+g)=true)->mw l Ne N':=λl hl g hg k c nm hn _=>by
  rw[Ig g (hl g hg)];exact hn
 have HT: ∀bl,D bl->w'.heap[bl]?=w.heap[bl]?:=λbl hb=>x.sU bl (S.frozen bl hb) λho=>(S.tW (tq bl ho)).1 hb;have XK: ∀q∈e.heap,∀(y:q.2.den),mT (λc=>c) e.heap dh (λ_=>none) q.1=some (q.2.mk (λc=>c) y)->∀bl,iP N' (back b fresh q.1) (q.2.mk (back b fresh) y) bl->iP Ne q.1 (q.2.mk (λc=>c) y) bl:=by
  rintro⟨c,p⟩ hq y hm bl ho
  have nf:=Se.obj _ _ hm;have key:p.mY=false->(p.mk (λc=>c) y).rw=true->oh N' (back b fresh c) bl->oh Ne c bl:=by
   rintro vd hr ⟨nm,a,h1,h2,h3⟩
   obtain⟨mM,zaV⟩:=GC (bl:=bl) nf hr;have kQ:c<SB:=by
    rcases zdY c SB with h|h
    ·exact h
    ·rw[(kg _ hq).2 h] at vd;cases vd
   have:=hNe _ hq kQ mM zaV;rw[h1] at this;cases this;exact⟨nm,a,zaV,h2,h3⟩
  cases p with
  |var p=>exact key rfl rfl ho
  |row t=>exact key rfl rfl ho
  |store ep=>
   have sG:=(kg _ hq).1 rfl;simp only at sG;have hg:cV e.heap (SB+(c-SB))=true:=by
    rw[show SB+(c-SB)=c by omega]
    exact fG.2 ⟨_,hq,rfl,rfl⟩
   have ho:pW N' c (.store ep) y bl:=by
    have:=ho;rw[show back b fresh ((c,aK.store ep):Nat×aK).1=c from qo sG] at this
    exact this
   exact(pW.uM (Ig _ hg)).1 ho
 have hold: ∀j o bl,h j=some o->iP N j o bl->j∉iK pre.heap b->(lt=true\/j∉ro)->bl<w.heap.size/\¬O bl/\¬D' bl:=by
  intro j o bl hj hr hjr hjo;have hOw:zi N h bl:=⟨j,o,hj,hr⟩;have hnO: ¬O bl:=by
   intro ho;obtain⟨i,hi,o',mX,UQ⟩:=hO _ ho;have:=S.apart i j o' o bl mX hj UQ hr;subst this;exact hjr hi
  refine⟨(S.pb hj hr).2.2,hnO,λhd=>?_⟩;have hnD:=(S.tW hOw).1;rcases hjo with hjo|hjo
  ·exact hnD (hD4 hjo _ hd)
  ·rcases x.JB _ (hD2 _ hd) with(h1|⟨i,hi,mM,a',h1,h2,h3⟩)|h1|h1
   ·exact hnD h1
   ·rcases M.cases (by rw[hs];exact S) hi h1 h2 with h4|⟨o',h4,h5⟩
    ·exact hnD (h3▸h4)
    ·rw[hs] at h4
     have:=S.apart i j _ o bl h4 hj (h3▸h5) hr;subst this;exact hjo hi
   ·exact hnO h1
   ·have:=(S.pb hj hr).2.2
    omega
 have zcE: ∀g,cV e.heap (SB+g)=true->∃o,mT (back b fresh) e.heap dh (tT lt h pre b ro) (SB+g)=some o/\iG (some o)=false/\h (SB+g)≠some .dead:=by
  intro g hg;obtain⟨q,hq,h1,h2⟩:=fG.1 hg;have hb:back b fresh q.1=SB+g:=by rw[qo (by omega),h1]
  cases hm:mT (back b fresh) e.heap dh (tT lt h pre b ro) (SB+g) with
  |none=>exact absurd hm (pZ ⟨q,hq,hb⟩)
  |some o=>
   refine⟨o,rfl,?_,?_⟩
   ·rcases nh hm with⟨q',_,_,y,_,rfl⟩|⟨h3,_⟩
    ·exact yw _ _ _
    ·exact absurd hb (h3 q hq)
   ·intro hd
    rcases zaU q hq (by omega) with h3|h3
    ·obtain⟨q',uE,h4,h5⟩:=fG.1 h3
     obtain⟨gg,hgg,hT,_⟩:=M.bound q' uE;rw[uQ (by omega)] at hgg
     cases hgg;rcases hT q'.1 (by simp[xj.ids]) with⟨o',g1,g2,_⟩|⟨_,g1⟩
     ·rw[hs,h4,h1,hd] at g1;cases g1;cases g2
     ·rw[hs,h4,h1,hd] at g1;cases g1
    ·rw[h1,hd] at h3;cases h3
 have N6: ∀g,h (SB+g)=some .dead->(∀q∈e.heap,back b fresh q.1≠SB+g)/\cV e.heap (SB+g)=false:=by
  intro g hd;have vd:cV e.heap (SB+g)=false:=by
   cases hg:cV e.heap (SB+g) with
   |false=>rfl
   |true=>obtain⟨_,_,_,h3⟩:=zcE g hg;exact absurd hd h3
  refine⟨λq hq hb=>?_,vd⟩;rcases zdY q.1 50 with uz|uz
  ·obtain⟨_,_,o,h1,h2⟩:=Vv q hq uz
   rw[hb,hd] at h1;cases h1;cases h2
  ·rcases zdY q.1 SB with kQ|sG
   ·obtain⟨h1,h2⟩:=rk q hq uz kQ
    rw[<-h1,hb,hd] at h2;cases h2
   ·rw[qo sG] at hb
    rw[fG.2 ⟨q,hq,hb,(kg q hq).2 sG⟩] at vd;cases vd
 have zaW:Ext N D w h N' D' w' (mT (back b fresh) e.heap dh (tT lt h pre b ro)):=by
  refine⟨YS,hD1,x.os,x.tape,x.output,x.size,λbl hb ho=>x.sU bl hb λh1=>ho (tq bl h1),?_,?_,?_,?_,λg hg=>?_⟩
  ·rintro bl zcF ⟨j,o,hj,hr⟩
   rcases nh hj with⟨q,hq,rfl,y,h1,rfl⟩|⟨hm,h1⟩
   ·exact tq _ (x.own _ zcF ⟨q.1,_,h1,XK q hq y h1 bl hr⟩)
   ·obtain⟨_,⟨h3,_⟩|⟨_,_,r,t,xs,_,rfl⟩⟩:=Ai M hs h1 (by rintro rfl;exact hr.elim)
    ·refine⟨j,o,h3,?_⟩
     have UT:N' j=N j:=by
      cases e1:N' j with
      |some nm=>
       rcases Ov j nm e1 with h4|⟨h4,_⟩
       ·exact h4.symm
       ·rw[h3] at h4;cases h4
      |none=>
       cases e2:N j with
       |none=>rfl
       |some nm=>rw[hN j nm e2] at e1;cases e1
     by_cases XL: ∃ep xs,o= .store ep xs
     ·obtain⟨ep,xs,rfl⟩:=XL
      have e3:=S.ub h3;refine(iP.names UT (wJ _ ?_)).1 hr;rw[e3];cases hg:cV e.heap j with
      |false=>rfl
      |true=>
       obtain⟨q,hq,h4,h5⟩:=fG.1 hg;exact absurd (by rw[qo ((kg q hq).1 h5),h4]) (hm q hq)
     ·cases o with
      |dead=>exact hr.elim
      |void=>exact hr.elim
      |var v=>exact(oh.eq UT).1 hr
      |row r t xs=>
       cases r with
       |true=>exact hr.elim
       |false=>exact(oh.eq UT).1 hr
      |store ep xs=>exact absurd ⟨ep,xs,rfl⟩ XL
    ·exact hr.elim
  ·intro bl hb
   rcases x.JB _ (hD2 _ hb) with(h1|⟨i,hi,mM,a',h1,h2,h3⟩)|h1|h1
   ·exact .inl h1
   ·rcases M.cases (by rw[hs];exact S) hi h1 h2 with h4|⟨o',h4,h5⟩
    ·exact .inl (h3▸h4)
    ·rw[hs] at h4
     exact .inr (.inl ⟨i,_,h4,h3▸h5⟩)
   ·exact .inr (.inl (tq _ h1))
   ·exact .inr (.inr h1)
  ·intro j nm hn
   rcases Ov j nm hn with h1|⟨h1,_⟩
   ·exact .inl h1
   ·exact .inr h1
  ·intro j hj
   have hm: ∀q∈e.heap,back b fresh q.1≠j:=λq hq e'=>pZ (l:=e.heap) (d:=dh) (h:=tT lt h pre b ro) (b:=back b fresh) ⟨q,hq,e'⟩ hj;rw[uS hm] at hj;exact GF hj
  ·obtain⟨h1,h2⟩:=N6 g hg
   refine⟨?_,wJ g h2⟩;rw[uS h1];exact P5 M hs hg
 have yJ: ∀i oi bl,mT (back b fresh) e.heap dh (tT lt h pre b ro) i=some oi->iP N' i oi bl->
   (∃q∈e.heap,back b fresh q.1=i/\∃o,mT (λc=>c) e.heap dh (λ_=>none) q.1=some o/\iP Ne q.1 o bl)\/
    (h i=some oi/\iP N i oi bl/\bl<w.heap.size/\¬O bl/\i∉iK pre.heap b):=by
   intro i oi bl hi ri;rcases nh hi with⟨q,hq,rfl,y,h1,rfl⟩|⟨hm,h1⟩
   ·exact .inl ⟨q,hq,rfl,_,h1,XK q hq y h1 bl ri⟩
   ·obtain⟨h2,⟨h3,h4⟩|⟨_,_,r,t,xs,_,rfl⟩⟩:=Ai M hs h1 (by rintro rfl;exact ri.elim)
    ·have hn:iP N i oi bl:=by
      have UT:N' i=N i:=by
       cases e1:N' i with
       |some nm=>
        rcases Ov i nm e1 with h4|⟨h4,_⟩
        ·exact h4.symm
        ·rw[h3] at h4;cases h4
       |none=>
        cases e2:N i with
        |none=>rfl
        |some nm=>rw[hN i nm e2] at e1;cases e1
      by_cases XL: ∃ep xs,oi= .store ep xs
      ·obtain⟨ep,xs,rfl⟩:=XL
       have e3:=S.ub h3;refine(iP.names UT (wJ _ ?_)).1 ri;rw[e3];cases hg:cV e.heap i with
       |false=>rfl
       |true=>
        obtain⟨q,hq,h4,h5⟩:=fG.1 hg;exact absurd (by rw[qo ((kg q hq).1 h5),h4]) (hm q hq)
      ·cases oi with
       |dead=>exact ri.elim
       |void=>exact ri.elim
       |var v=>exact(oh.eq UT).1 ri
       |row r t xs=>
        cases r with
        |true=>exact ri.elim
        |false=>exact(oh.eq UT).1 ri
       |store ep xs=>exact absurd ⟨ep,xs,rfl⟩ XL
     obtain⟨g1,g2,_⟩:=hold i oi bl h3 hn h2 h4;exact .inr ⟨h3,hn,g1,g2,h2⟩
    ·exact ri.elim
 refine⟨N',D',⟨?_,?_,?_,?_,zdW S.size x.size,?_⟩,zaW,?_,yK,wJ,hD2,λi oi bl hi ri=>?_⟩
 ·intro j o hj
  rcases nh hj with⟨q,hq,rfl,y,h1,rfl⟩|⟨hm,h1⟩
  ·refine Sp hD3 hD2 q.2 y (λvd=>hNe q hq ?_) (λc hc=>yK c (hex.closed.cs c (.inr (List.mem_flatMap.2 ⟨q,hq,hc⟩)))) (hks _ λg hg=>hex.closed.ks g (.inr (List.mem_flatMap.2 ⟨q,hq,hg⟩))) (λe'=>?_) (λXM=>?_) (Se.obj _ _ h1)
   ·rcases zdY q.1 SB with h|h
    ·exact h
    ·rw[(kg q hq).2 h] at vd;cases vd
   ·have:=kQ e'
    simp only[jt.flat,zdH,zej] at this;exact this.2 q hq
   ·have sG:=(kg q hq).1 XM
    rw[qo sG];refine⟨rfl,Ig _ ?_⟩;rw[show SB+(q.1-SB)=q.1 by omega]
    exact fG.2 ⟨q,hq,rfl,XM⟩
  ·by_cases hd:o= .dead
   ·subst hd;trivial
   obtain⟨h2,⟨h3,h4⟩|⟨h4,h5,r,t,xs,h6,rfl⟩⟩:=Ai M hs h1 hd
   ·refine nQ (S.obj j o h3) YS hD1 HT (λbl hr=>?_) (λep xs eo=>?_)
    ·obtain⟨g1,g2,g3⟩:=hold j o bl h3 hr h2 h4
     exact⟨x.sU _ g1 g2,λ_=>g3⟩
    ·subst eo
     have e3:=S.ub h3;refine wJ _ ?_;rw[e3];cases hg:cV e.heap j with
     |false=>rfl
     |true=>
      obtain⟨q,hq,h4,h5⟩:=fG.1 hg;exact absurd (by rw[qo ((kg q hq).1 h5),h4]) (hm q hq)
   ·obtain⟨nm,e1,e2,e3,e4,e5,e6⟩:=S.obj j _ h6
    refine⟨nm,hN _ _ e1,e2,e3,e4,e5,?_⟩;cases hb:nm.base with
    |none=>rw[hb] at e6;exact e6
    |some a=>
     rw[hb] at e6;obtain⟨f1,⟨cc,ty,fz,f2,f3,_⟩,f4,f5⟩:=e6;have hDa:D' a.block:=by
      rcases hD3 with h7|h7
      ·rw[h4] at h7;cases h7
      ·exact h7 _ (x.frozen _ (.inr ⟨j,h5,nm,a,e1,hb,rfl⟩))
     have vE:w'.heap[a.block]?=w.heap[a.block]?:=by
      refine x.sU _ (Array.getElem?_eq_some_iff.1 f2).1 λho=>?_;cases r with
      |true=>simp only[if_true] at f4;exact(S.tW (tq _ ho)).1 f4
      |false=>
       obtain⟨i,hi,o',mX,UQ⟩:=hO _ ho;have:=S.apart i j o' _ _ mX h6 UQ (iP.of rfl e1 hb);subst this;exact h2 hi
     refine⟨f1,⟨cc,ty,fz,by rw[vE];exact f2,f3,by intro e';cases e'⟩,by simp only[if_true];exact hDa,λi y hy=>?_⟩
     refine iw.func (kt YS hD1 HT t y _ (f5 i y hy)) λm=>?_;simp only[aX,World.cell?,vE]
 ·intro i j oi oj bl hi hj ri rj
  rcases yJ i oi bl hi ri with⟨q,hq,rfl,o,k2,k3⟩|⟨k1,k2,k3,k4,_⟩<;>rcases yJ j oj bl hj rj with⟨q',uE,rfl,o',k2',k3'⟩|⟨k1',k2',k3',k4',_⟩
  ·rw[Se.apart q.1 q'.1 o o' bl k2 k2' k3 k3']
  ·exact absurd (x.own _ k3' ⟨q.1,o,k2,k3⟩) k4'
  ·exact absurd (x.own _ k3 ⟨q'.1,o',k2',k3'⟩) k4
  ·exact S.apart i j oi oj bl k1 k1' k2 k2'
 ·intro bl hb
  exact Se.frozen bl (hD2 bl hb)
 ·intro j nm hn
  rcases Ov j nm hn with h1|⟨_,q,hq,h2,_⟩
  ·intro h2
   exact S.named j nm h1 (zaW.live j h2)
  ·exact pZ ⟨q,hq,h2⟩
 ·intro g hg
  have XN: ∀q∈e.heap,back b fresh q.1≠SB+g:=by
   intro q hq hb;cases hm:mT (back b fresh) e.heap dh (tT lt h pre b ro) (SB+g) with
   |none=>exact pZ ⟨q,hq,hb⟩ hm
   |some o=>
    rw[hm] at hg;rcases nh hm with⟨q',_,_,y,_,rfl⟩|⟨h3,_⟩
    ·rw[yw] at hg;cases hg
    ·exact h3 q hq hb
  have vd:cV e.heap (SB+g)=false:=by
   cases CJ:cV e.heap (SB+g) with
   |false=>rfl
   |true=>
    obtain⟨q,hq,h1,h2⟩:=fG.1 CJ;exact absurd (by rw[qo ((kg q hq).1 h2),h1]) (XN q hq)
  rw[uS XN] at hg;have Vs:iG (h (SB+g))=true:=by
   cases hr:tT lt h pre b ro (SB+g) with
   |none=>rw[GF hr];rfl
   |some o=>
    rw[hr] at hg;obtain⟨_,⟨h3,_⟩|⟨_,_,r,t,xs,_,rfl⟩⟩:=Ai M hs hr (by rintro rfl;cases hg)
    ·rw[h3];exact hg
    ·cases hg
  exact λk=>(wJ g vd k).trans (S.iG g Vs k)
 ·intro p y g hp hk hf hg
  exact Db hD3 p y g (λc hc=>yK c (hp c hc)) (hks _ hk) hf hg
 ·rcases yJ i oi bl hi ri with⟨q,_,_,o,k2,k3⟩|⟨k1,k2,_,_,k5⟩
  ·exact .inl ⟨q.1,o,k2,k3⟩
  ·exact .inr ⟨k1,k2,k5⟩
end AM
namespace AM
open Go
variable {α:Type}{P:Program}{base:Nat}
section
variable {M:Names}{D:Nat->Prop}{w:World}
theorem Sq {c:Nat}: ∀{p:aK} {x:p.den},jc D w base M c p x->qF M D w base c (p.mk (λc=>c) x)
 | .var p,x,h=>by simp only[jc] at h;exact h
 | .row t,x,h=>by simp only[jc] at h;exact h
 | .store ep,x,h=>h
theorem Sr {c:Nat}: ∀{p:aK} {x:p.den},qF M D w base c (p.mk (λc=>c) x)->jc D w base M c p x
 | .var p,x,h=>by simp only[jc];exact h
 | .row t,x,h=>by simp only[jc];exact h
 | .store ep,x,h=>h
theorem Eb {c b:Nat}: ∀{p:aK} {x:p.den},iP M c (p.mk (λc=>c) x) b↔pW M c p x b
 | .var p,x=>by simp only[pW];exact Iff.rfl
 | .row t,x=>by simp only[pW];exact Iff.rfl
 | .store ep,x=>Iff.rfl
theorem kK.obj: ∀{l:List (Nat×aK)} {d:cM l},kK D w base M l d->∀c o,mT (λc=>c) l d (λ_=>none) c=some o->qF M D w base c o
 | [],_,_,c,o,h=>by simp[mT] at h
 |(ce,pe)::os,d,hp,c,o,h=>by
  simp only[kK] at hp;simp only[mT] at h;split at h
  ·rename_i e
   subst e;cases h;exact Sq hp.1
  ·exact kK.obj hp.2.1 c o h
theorem pE.of: ∀{l:List (Nat×aK)} {d:cM l} {c b:Nat} {o:fK},mT (λc=>c) l d (λ_=>none) c=some o->iP M c o b->pE M l d b
 | [],_,c,b,o,h,_=>by simp[mT] at h
 |(ce,pe)::os,d,c,b,o,h,ho=>by
  simp only[pE];simp only[mT] at h;split at h
  ·rename_i e
   subst e;cases h;exact .inl (Eb.1 ho)
  ·exact .inr (pE.of h ho)
theorem pE.obj: ∀{l:List (Nat×aK)} {d:cM l} {b:Nat},AM.nodup (l.map (·.1))=true->pE M l d b->∃c o,mT (λc=>c) l d (λ_=>none) c=some o/\iP M c o b
 | [],_,b,_,h=>by simp only[pE] at h
 |(ce,pe)::os,d,b,hn,h=>by
  simp only[pE] at h;simp only[zex,AM.nodup,zdH,ze0,zeQ,decide_eq_false_iff_not] at hn;rcases h with h|h
  ·exact⟨ce,pe.mk (λc=>c) d.1,by simp[mT],Eb.2 h⟩
  ·obtain⟨c,o,h1,h2⟩:=pE.obj hn.2 h
   refine⟨c,o,?_,h2⟩;simp only[mT];rw[if_neg,h1];rintro rfl
   rcases nh h1 with⟨q,hq,h3,_⟩|⟨_,h3⟩
   ·exact hn.1 (List.mem_map.2 ⟨q,hq,h3⟩)
   ·cases h3
theorem kK.apart: ∀{l:List (Nat×aK)} {d:cM l},kK D w base M l d->∀c c' o o' b,mT (λc=>c) l d (λ_=>none) c=some o->mT (λc=>c) l d (λ_=>none) c'=some o'->iP M c o b->iP M c' o' b->c=c'
 | [],_,_,c,c',o,o',b,h,_,_,_=>by simp[mT] at h
 |(ce,pe)::os,d,hp,c,c',o,o',b,h,h',ho,mX=>by
  simp only[kK] at hp;simp only[mT] at h h';split at h<;>split at h'
  ·rename_i e e';rw[e,e']
  ·rename_i e e'
   subst e;cases h;exact(hp.2.2 b (Eb.1 ho) (pE.of h' mX)).elim
  ·rename_i e e'
   subst e';cases h';exact(hp.2.2 b (Eb.1 mX) (pE.of h ho)).elim
  ·exact kK.apart hp.2.1 c c' o o' b h h' ho mX
theorem JS {l:List (Nat×aK)}{d:cM l}(hp:kK D w base M l d)(hn:C7 M l)(hf: ∀b,D b->b<w.heap.size)(hs:base<=w.heap.size):jU M D w base (mT (λc=>c) l d (λ_=>none)):=by
 refine⟨hp.obj,hp.apart,hf,λc nm hc=>(by obtain⟨e,he,h1,_⟩:=hn.1 c nm hc;exact pZ ⟨e,he,h1⟩),hs,λg hg=>hn.2 g λe he h1=>?_⟩
 cases hm:mT (λc=>c) l d (λ_=>none) (SB+g) with
 |none=>exact pZ ⟨e,he,h1⟩ hm
 |some o=>
  rw[hm] at hg;rcases nh hm with⟨q',_,_,x,_,rfl⟩|⟨_,h5⟩
  ·rw[yw] at hg;cases hg
  ·cases h5
theorem JT: ∀{l:List (Nat×aK)} {d:cM l},AM.nodup (l.map (·.1))=true->(∀c o,mT (λc=>c) l d (λ_=>none) c=some o->qF M D w base c o)->(∀c c' o o' b,mT (λc=>c) l d (λ_=>none) c=some o->mT (λc=>c) l d (λ_=>none) c'=some o'->iP M c o b->iP M c' o' b->c=c')->kK D w base M l d
 | [],_,_,_,_=>by simp only[kK]
 |(ce,pe)::os,d,hn,h1,h2=>by
  simp only[zex,AM.nodup,zdH,ze0,zeQ,decide_eq_false_iff_not] at hn;have lF: ∀c o,mT (λc=>c) os d.2 (λ_=>none) c=some o->c≠ce/\mT (λc=>c) ((ce,pe)::os) d (λ_=>none) c=some o:=by
   intro c o h;have hc:c≠ce:=by
    rintro rfl
    rcases nh h with⟨q,hq,h3,_⟩|⟨_,h3⟩
    ·exact hn.1 (List.mem_map.2 ⟨q,hq,h3⟩)
    ·cases h3
   refine⟨hc,?_⟩;simp only[mT];rw[if_neg hc,h]
  have PQ:mT (λc=>c) ((ce,pe)::os) d (λ_=>none) ce=some (pe.mk (λc=>c) d.1):=by simp[mT]
  simp only[kK];refine⟨Sr (h1 ce _ PQ),JT hn.2 (λc o h=>h1 c o (lF c o h).2) (λc c' o o' b h h'=>h2 c c' o o' b (lF c o h).2 (lF c' o' h').2),λb hb vl=>?_⟩;obtain⟨c,o,h3,h4⟩:=pE.obj hn.2 vl;obtain⟨h5,h6⟩:=lF c o h3;exact h5 (h2 c ce o _ b h6 PQ h4 (Eb.2 hb))
theorem yd {l:List (Nat×aK)}{d:cM l}(hn:AM.nodup (l.map (·.1))=true)(Vw: ∀c nm,M c=some nm->∃e∈l,e.1=c/\e.2.mY=false)(S:jU M D w base (mT (λc=>c) l d (λ_=>none))):kK D w base M l d/\C7 M l:=by
 refine⟨JT hn S.obj S.apart,Vw,λg hg=>S.iG g ?_⟩;rw[uS hg];rfl
end
section
variable {N N' N2:Names}{D D':Nat->Prop}{w w':World}{ks:List Nat}
theorem GG (ox: ∀g∈ks,∀k,N.sub g k=Names.nil)(jr: ∀g,g∉ks->∀k c nm,N'.sub g k c=some nm->nm.row=false->N2.sub g k c=some nm){tag n c:Nat}{v v':Option Value}(h:xF N tag n c v)(h':xF N' tag n c v'):xF N2 tag n c v':=by
 cases n with
 |zero=>exact h'
 |succ k=>
  obtain⟨nm,a,h1,_⟩:=h;obtain⟨mM,a',h2,h3,h4⟩:=h';refine⟨mM,a',jr tag (λhm=>?_) _ _ _ h2 h3,h3,h4⟩;rw[ox tag hm] at h1;cases h1
theorem rX (ox: ∀g∈ks,∀k,N.sub g k=Names.nil)(jr: ∀g,g∉ks->∀k c nm,N'.sub g k c=some nm->nm.row=false->N2.sub g k c=some nm): ∀(t:Ty) (x:t.den) (g g':Nat->Option Value),iw N D w t x g->iw N' D' w' t x g'->iw N2 D' w' t x g'
 | .int _,_,_,_,_,h=>by simp only[iw] at*;exact h
 | .bool,_,_,_,_,h=>by simp only[iw] at*;exact h
 | .str,_,_,_,_,h=>by simp only[iw] at*;exact h
 | .nil,_,_,_,_,_=>by simp only[iw]
 | .cons a b,p,g,g',h,h'=>⟨rX ox jr a p.1 _ _ h.1 h'.1,rX ox jr b p.2 _ _ h.2 h'.2⟩
 | .arr n t,xs,g,g',h,h'=>⟨h'.1,λi x hx=>rX ox jr t x _ _ (h.2 i x hx) (h'.2 i x hx)⟩
 | .deep t,xs,g,g',h,h'=>by
  obtain⟨a,cap,h1,h2,h3,h4⟩:=h;obtain⟨a',sF,Ih,Ss,RQ,YT⟩:=h';refine⟨a',sF,Ih,Ss,RQ,λad ha hx=>?_⟩;obtain⟨h5',h6',h7'⟩:=YT ad ha hx;refine⟨h5',h6',λi x hi=>?_⟩;cases a with
  |none=>rw[h3 rfl] at h2;exact absurd (Nat.le_zero.1 h2) hx
  |some ad0=>exact rX ox jr t x _ _ ((h4 ad0 rfl hx).2.2 i x hi) (h7' i x hi)
 | .ref g,n,c,c',h,h'=>GG (n:=n) ox jr h h'
theorem P6 {agg:Bool}{size:Nat}{R R' R2:(Nat->Option Value)->Prop}(h: ∀g g',R g->R' g'->R2 g'){v v':Value}(hv:jv agg size R v)(hv':jv agg size R' v'):jv agg size R2 v':=by
 cases agg with
 |true=>
  obtain⟨c,_,_,h3⟩:=hv;obtain⟨c',h1,h2,RQ⟩:=hv';exact⟨c',h1,h2,h _ _ h3 RQ⟩
 |false=>exact h _ _ hv hv'
mutual
theorem wK (ox: ∀g∈ks,∀k,N.sub g k=Names.nil)(kg: ∀i nm,N' i=some nm->N2 i=some nm)(jr: ∀g,g∉ks->∀k c nm,N'.sub g k c=some nm->nm.row=false->N2.sub g k c=some nm): ∀(v:AV) (g g':Nat->Option Value),ar N D w v g->ar N' D' w' v g'->ar N2 D' w' v g'
 | .undef,_,_,_,_=>by simp only[ar]
 | .val v,g,g',_,h=>by simp only[ar] at*;exact h
 | .ptr id p,g,g',_,h=>by
  simp only[ar] at*;obtain⟨nm,a,o,h1,h2⟩:=h;exact⟨nm,a,o,kg _ _ h1,h2⟩
 | .tail id off,g,g',_,h=>by
  simp only[ar] at*;obtain⟨nm,h1,h2⟩:=h;exact⟨nm,kg _ _ h1,h2⟩
 | .slice id p off len,g,g',_,h=>by
  simp only[ar] at*;obtain⟨nm,h1,h2⟩:=h;exact⟨nm,kg _ _ h1,h2⟩
 | .dp t xs,g,g',h,h'=>by simp only[ar] at*;exact rX ox jr _ _ _ _ h h'
 | .tS v,g,g',h,h'=>by
  simp only[ar] at*;obtain⟨_,_,_,_,h4⟩:=h;obtain⟨a,h1,h2,h3,YT⟩:=h';exact⟨a,h1,h2,h3,wK ox kg jr v _ _ h4 YT⟩
 | .agg fs,g,g',h,h'=>by simp only[ar] at*;exact Ce ox kg jr fs g g' h h'
 | .arr n t xs,g,g',h,h'=>by simp only[ar] at*;exact rX ox jr _ _ _ _ h h'
 | .AY vs,g,g',h,h'=>by
  simp only[ar] at*;obtain⟨cs,_,h2⟩:=h;obtain⟨tK,Ih,Ss⟩:=h';exact⟨tK,Ih,tw ox kg jr vs _ _ h2 Ss⟩
 | .xh fn vs,g,g',h,h'=>by
  simp only[ar] at*;obtain⟨cs,_,h2⟩:=h;obtain⟨tK,Ih,Ss⟩:=h';exact⟨tK,Ih,tw ox kg jr vs _ _ h2 Ss⟩
 | .xy,g,g',_,h=>by simp only[ar] at*;exact h
 | .Rk id p f off,g,g',_,h=>by
  simp only[ar] at*;obtain⟨nm,a,o,h1,h2⟩:=h;exact⟨nm,a,o,kg _ _ h1,h2⟩
 | .AW fn vs,g,g',h,h'=>by
  simp only[ar] at*;obtain⟨cs,_,h2⟩:=h;obtain⟨tK,Ih,Ss⟩:=h';exact⟨tK,Ih,tw ox kg jr vs _ _ h2 Ss⟩
 | .ux id n,g,g',_,h=>by
  simp only[ar] at*;obtain⟨nm,a,h1,h2⟩:=h;exact⟨nm,a,kg _ _ h1,h2⟩
 | .rf _ _ _,g,g',h,h'=>by simp only[ar] at*;exact GG ox jr h h'
theorem Ce (ox: ∀g∈ks,∀k,N.sub g k=Names.nil)(kg: ∀i nm,N' i=some nm->N2 i=some nm)(jr: ∀g,g∉ks->∀k c nm,N'.sub g k c=some nm->nm.row=false->N2.sub g k c=some nm): ∀(l:List AV) (g g':Nat->Option Value),fg N D w l g->fg N' D' w' l g'->fg N2 D' w' l g'
 | [],_,_,_,_=>by simp only[fg]
 |x::xs,g,g',h,h'=>by
  simp only[fg] at*;exact⟨wK ox kg jr x _ _ h.1 h'.1,Ce ox kg jr xs _ _ h.2 h'.2⟩
theorem tw (ox: ∀g∈ks,∀k,N.sub g k=Names.nil)(kg: ∀i nm,N' i=some nm->N2 i=some nm)(jr: ∀g,g∉ks->∀k c nm,N'.sub g k c=some nm->nm.row=false->N2.sub g k c=some nm): ∀(l:List AV) (cs tK:List Value),bA N D w l cs->bA N' D' w' l tK->bA N2 D' w' l tK
 | [],_,_,_,h=>by simp only[bA] at*;exact h
 |x::xs,cs,tK,h,h'=>by
  simp only[bA] at*;obtain⟨c,cs,rfl,h2,h3⟩:=h;obtain⟨c',tK,rfl,Ss,RQ⟩:=h';exact⟨c',tK,rfl,P6 (λg g'=>wK ox kg jr x g g') h2 Ss,tw ox kg jr xs _ _ h3 RQ⟩
end
theorem nG.swap (ox: ∀g∈ks,∀k,N.sub g k=Names.nil)(kg: ∀i nm,N' i=some nm->N2 i=some nm)(jr: ∀g,g∉ks->∀k c nm,N'.sub g k c=some nm->nm.row=false->N2.sub g k c=some nm){i:Nat}{ro ro':Bool}{t:Ty}{xs:List t.den}(h:nG N D w base i ro t xs)(h':nG N' D' w' base i ro' t xs):nG N2 D' w' base i ro' t xs:=by
 obtain⟨nm,e1,e2,e3,e4,e5,e6⟩:=h;obtain⟨mM,f1,f2,f3,f4,f5,f6⟩:=h';refine⟨mM,kg _ _ f1,f2,f3,f4,f5,?_⟩;cases vl:mM.base with
 |none=>rw[vl] at f6;exact f6
 |some a'=>
  rw[vl] at f6;obtain⟨g1,g2,g3,g4⟩:=f6;refine⟨g1,g2,g3,λj x hx=>?_⟩;cases hb:nm.base with
  |none=>
   rw[hb] at e6;have:=yu hx;have e6:nm.len=0:=e6;omega
  |some a=>
   rw[hb] at e6;exact rX ox jr t x _ _ (e6.2.2.2 j x hx) (g4 j x hx)
theorem mk_le (kg: ∀i nm,N' i=some nm->N2 i=some nm){bk:Nat->Nat}(p:cf)(x:p.den)(hK:mw p.ks N' N2): ∀g,ar N' D w (p.mk bk x) g->ar N2 D w (p.mk bk x) g:=by
 have key:(∀(p:cf) (x:p.den),mw p.ks N' N2->∀g,ar N' D w (p.mk bk x) g->ar N2 D w (p.mk bk x) g):=by
  intro p;refine cf.rec (motive_1:=λp=> ∀(x:p.den),mw p.ks N' N2->∀g,ar N' D w (p.mk bk x) g->ar N2 D w (p.mk bk x) g)
   (motive_2:=λps=> ∀(x:cf.xi ps),mw (cf.RH ps) N' N2->(∀g,fg N' D w (cf.pV bk ps x) g->fg N2 D w (cf.pV bk ps x) g)/\∀cs,bA N' D w (cf.pV bk ps x) cs->bA N2 D w (cf.pV bk ps x) cs) ?_ ?_ ?_ ?_ ?_ ?_ ?_ ?_ ?_ ?_ ?_ ?_ ?_ ?_ p
  ·intro t x hK g h
   simp only[cf.mk] at h⊢;exact(kH t x g).2 (ko (λ_ h=>h) (λ_ _=>rfl) t x g (by simpa only[cf.ks] using hK) ((kH t x g).1 h))
  ·intro v x hK g h;simp only[cf.mk,ar] at h⊢;exact h
  ·intro c x hK g h
   simp only[cf.mk,ar] at h⊢;obtain⟨nm,a,o,h1,h2⟩:=h;exact⟨nm,a,o,kg _ _ h1,h2⟩
  ·intro c x hK g h
   simp only[cf.mk,ar] at h⊢;obtain⟨nm,h1,h2⟩:=h;exact⟨nm,kg _ _ h1,h2⟩
  ·intro c x hK g h
   simp only[cf.mk,ar] at h⊢;obtain⟨nm,h1,h2⟩:=h;exact⟨nm,kg _ _ h1,h2⟩
  ·intro ps ih x hK g h
   simp only[cf.mk,ar] at h⊢;exact(ih x (by simpa only[cf.ks] using hK)).1 g h
  ·intro t x hK g h
   simp only[cf.mk,ar] at h⊢;obtain⟨a,h1,h2,h3,h4⟩:=h;exact⟨a,h1,h2,h3,(kH t x _).2 (ko (λ_ h=>h) (λ_ _=>rfl) t x _ (by simpa only[cf.ks] using hK) ((kH t x _).1 h4))⟩
  ·intro c q x hK g h
   simp only[cf.mk,ar] at h⊢;obtain⟨nm,a,o,h1,h2⟩:=h;exact⟨nm,a,o,kg _ _ h1,h2⟩
  ·intro f ps ih x hK g h
   simp only[cf.mk,ar] at h⊢;obtain⟨cs,h1,h2⟩:=h;exact⟨cs,h1,(ih x (by simpa only[cf.ks] using hK)).2 _ h2⟩
  ·intro c n x hK g h
   simp only[cf.mk,ar] at h⊢;obtain⟨nm,a,h1,h2⟩:=h;exact⟨nm,a,kg _ _ h1,h2⟩
  ·intro x hK g h;simp only[cf.mk,ar]
  ·intro p ih x hK g h
   simp only[cf.mk,ar] at h⊢;obtain⟨a,h1,h2,h3,h4⟩:=h;exact⟨a,h1,h2,h3,ih x (by simpa only[cf.ks] using hK) _ h4⟩
  ·intro x hK
   exact⟨λg _=>by simp only[cf.pV,fg],λcs h=>by simpa only[cf.pV,bA] using h⟩
  ·intro p ps qR UU x hK
   have hK:mw (p.ks++cf.RH ps) N' N2:=by simpa only[cf.RH] using hK
   have a1:=qR x.1 hK.left;obtain⟨a2,a3⟩:=UU x.2 hK.right;refine⟨λg h=>?_,λcs h=>?_⟩
   ·simp only[cf.pV,fg] at h⊢
    exact⟨a1 g h.1,a2 _ h.2⟩
   ·simp only[cf.pV,bA] at h⊢
    obtain⟨c,tK,e1,e2,e3⟩:=h;exact⟨c,tK,e1,xG a1 e2,a3 _ e3⟩
 exact key p x hK
end
end AM
namespace AM
open Go
variable {α:Type}{P:Program}{base:Nat}
structure Mn (ep:List (Nat×aK)):Prop where
 closed:wI ⟨[],ep⟩
 ids: ∀q∈ep,q.2.mY=false->50<=q.1/\q.1<90
 nodup:AM.nodup (ep.map (·.1))=true
theorem GH {ep:List (Nat×aK)}(h:Py ep=true):Mn ep:=by
 simp only[Py,zdH,zej] at h;refine⟨uR h.1.1,λq hq hs=>?_,h.2⟩;have:=h.1.2 q hq;rw[hs] at this;simpa using this
theorem Aj (N:Names)(D:Nat->Prop):Bj N D []=D:=by
 funext b
 simp[Bj]
theorem GI {ep:List (Nat×aK)}(uy:Mn ep){g:Nat}:g∈xD ep↔cV ep (SB+g)=true:=by
 unfold xD;rw[List.mem_filterMap,fG];constructor
 ·rintro⟨e,he,h⟩
  cases h2:e.2 with
  |var p=>rw[h2] at h;cases h
  |row t=>rw[h2] at h;cases h
  |store FI=>
   rw[h2] at h;simp only[zdF] at h;have:=(uy.closed.st e he).1 (by rw[h2];rfl)
   exact⟨e,he,by omega,by rw[h2];rfl⟩
 ·rintro⟨e,he,h1,h2⟩
  refine⟨e,he,?_⟩;cases h3:e.2 with
  |var p=>rw[h3] at h2;cases h2
  |row t=>rw[h3] at h2;cases h2
  |store FI=>simp only[zdF];omega
theorem Ak (g:Nat)(ep:List (Nat×aK)):iK [(SB+g,aK.store ep)] []=[SB+g]:=by
 unfold iK;simp only[zen,List.flatMap_nil,ze2];rw[uQ (ze3 SB g)];rfl
theorem wL (g:Nat):SB+g-SB=g:=by omega
theorem Mo {N:Names}{D:Nat->Prop}{w:World}{st:St}{g n off:Nat}{ep:List (Nat×aK)}{xs:List (cM ep)}{d:cM ep}(S:jU N D w base st.h)(hs:st.h (SB+g)=some (.store ep xs))(hd:jT (β:=cM ep) xs n=some d)(uy:Mn ep)(hf:oQ st.h off [] ep=true):
  ∃N1 D1,jU N1 D1 w base (tV st g off ep d).h/\Ext N D w st.h N1 D1 w (tV st g off ep d).h/\(∀c,(c<SB/\∃q∈ep,q.1=c)->∀nm,N.sub g n c=some nm->N1 (back [] off c)=some nm)/\(∀g',cV ep (SB+g')=false->∀k,N1.sub g' k=N.sub g' k)/\(∀b,D1 b->D b)/\
   ∀i oi bl,(tV st g off ep d).h i=some oi->iP N1 i oi bl->pE (N.sub g n) ep d bl\/(st.h i=some oi/\iP N i oi bl/\i≠SB+g):=by
 have nf:jc D w base N (SB+g) (.store ep) xs:=S.obj _ _ hs;simp only[jc,wL] at nf;obtain⟨p1,p2⟩:=nf.2.1 n d hd;have hng:cV ep (SB+g)=false:=by
  cases h:cV ep (SB+g) with
  |false=>rfl
  |true=>
   obtain⟨q,hq,h1,h2⟩:=fG.1 h;unfold oQ at hf;rw[zej] at hf;have:=hf q hq;rw[h1,decide_eq_false (JR (ze3 SB g)),decide_eq_true (ze3 SB g)] at this;simp[hs,iG] at this
 have M:Ic st ⟨[],[(SB+g, .store ep)]⟩ [] [] (xs,()):=by
  refine⟨λe he=>?_,by show AM.nodup (iK [(SB+g,aK.store ep)] [])=true;rw[Ak];simp[AM.nodup],λi hi=>by simp at hi,λc FI ys hc=>?_,λe he=>?_⟩
  ·obtain rfl:=List.mem_singleton.1 he
   refine⟨.at_ (SB+g),uQ (ze3 SB g),λi hi=>?_,by intro h;cases h⟩
   simp only[xj.ids,zeZ] at hi;subst hi;exact .inl ⟨_,hs,rfl,by intro h;cases h⟩
  ·simp only[mT] at hc
   split at hc
   ·rename_i e
    subst e;simp only[aK.mk,zdF] at hc;rw[<-hc];exact⟨ze3 SB g, .inl hs⟩
   ·cases hc
  ·obtain rfl:=List.mem_singleton.1 he
   exact⟨λ_=>ze3 SB g,λ_=>rfl⟩
 have hex:P4 ⟨[],[(SB+g, .store ep)]⟩ ⟨[],ep⟩:=⟨uy.closed,λq hq uz=>by
  exfalso
  cases kg:q.2.mY with
  |true=>have:=(uy.closed.st q hq).1 kg;exact JR this uz
  |false=>have:=(uy.ids q hq kg).1;omega⟩
 have xN:oQ st.h off [(SB+g, .store ep)] ep=true:=by
  unfold oQ at hf⊢;rw[zej] at hf⊢;intro q hq;have h1:=hf q hq;simp only[zeM] at h1⊢;rcases h1 with h1|h1
  ·exact .inl h1
  ·right
   by_cases sG:SB<=q.1
   ·simp only[decide_eq_true sG] at h1⊢
    simp only[List.any_nil,ze1] at h1;simp[h1]
   ·simp only[decide_eq_false sG] at h1⊢
    exact h1
 obtain⟨N1,D1,r1,r2,_,r4,r5,r7,r6⟩:=Bm (h:=st.h) (pre:=⟨[],[(SB+g, .store ep)]⟩) (e:=⟨[],ep⟩) (b:=[]) (ro:=[]) (s:=st) rfl S M hex xN (lt:=false) (by intro h;cases h) (Ne:=N.sub g n) (De:=D) (w':=w) (dh:=d) (O:=pE (N.sub g n) ep d)
  (λbl hb=>⟨SB+g,by show SB+g∈iK [(SB+g,aK.store ep)] [];rw[Ak];simp,_,hs,by
   show pW N (SB+g) (.store ep) xs bl
   simp only[pW,wL];exact⟨n,d,hd,hb⟩⟩)
  (JS p1 p2 S.frozen S.size)
  ⟨λb hb=>by rw[Aj] at hb;exact hb,rfl,rfl,rfl,zdV _,λ_ _ _=>rfl,λb _ ho=>by obtain⟨c,o,h1,h2⟩:=ho;exact pE.of h1 h2,λb hb=> .inl (by rw[Aj];exact hb)⟩
  (λq hq uz=>by
   obtain⟨_,uE,h1,h2⟩:=hex.var q hq uz;obtain rfl:=List.mem_singleton.1 uE;cases h2)
  (λg' CJ k c nm hn _=>by
   have:cV [(SB+g,aK.store ep)] (SB+g')=false:=by
    cases h:cV [(SB+g,aK.store ep)] (SB+g') with
    |false=>rfl
    |true=>
     obtain⟨q,hq,h1,_⟩:=fG.1 h;obtain rfl:=List.mem_singleton.1 hq;have h1:SB+g=SB+g':=h1;rw[<-h1,hng] at CJ;cases CJ
   rw[zq this] at hn;cases hn)
 have vw:mT (back [] off) ep d (tT false st.h ⟨[],[(SB+g, .store ep)]⟩ [] [])=(tV st g off ep d).h:=by
  unfold tT tV;simp only[tI];rw[Ak]
 have vw:mT (back [] off) (jt.mk [] ep).heap d (tT false st.h ⟨[],[(SB+g, .store ep)]⟩ [] [])=(tV st g off ep d).h:=vw;rw[vw] at r1 r2 r6;refine⟨N1,D1,r1,r2,r4,r5,r7,λi oi bl h1 h2=>?_⟩;rcases r6 i oi bl h1 h2 with⟨c,o,h3,h4⟩|⟨h3,h4,h5⟩
 ·exact .inl (pE.of h3 h4)
 ·refine .inr ⟨h3,h4,λe=>h5 ?_⟩
  show i∈iK [(SB+g,aK.store ep)] []
  rw[Ak,e];simp
theorem Names.ext {N N':Names}(h: ∀p,N.at_ p=N'.at_ p):N=N':=by
 cases N;cases N';congr 1
 exact funext h
theorem Ii {N' N2:Names}{ks l:List Nat}(h:Xt ks l=true)(jr: ∀g,g∉ks->∀k c nm,N'.sub g k c=some nm->nm.row=false->N2.sub g k c=some nm):mw l N' N2:=by
 intro g hg;unfold Xt at h;rw[zej] at h;have:=h g hg;exact jr g (by simpa using this)
theorem Ec {h0 h':Nat->Option fK}{N N':Names}{D D':Nat->Prop}{w w':World}(S0:jU N D w base h0)(X:Ext N D w h0 N' D' w' h')(S':jU N' D' w' base h'){ep:List (Nat×aK)}(uy:Mn ep){s':St}(XM:s'.h=h'){b:kr}{d':cM ep}(M:Ic s' ⟨[],ep⟩ b [] d')(Sc:jU (je N' b ep) D' w' base (mT (λc=>c) ep d' (λ_=>none)))
  {g n:Nat} {zs:List (cM ep)} (hz:jT (β:=cM ep) zs n=some d') (hg:cV ep (SB+g)=false)
  (hE: ∀k dk,k≠n->jT (β:=cM ep) zs k=some dk->(kK D' w' base (N'.sub g k) ep dk/\C7 (N'.sub g k) ep)/\∀bl,pE (N'.sub g k) ep dk bl->(∀j o,j≠SB+g->h' j=some o->¬iP N' j o bl)/\(bl<w.heap.size->zi N h0 bl))
  (hEE: ∀k k' dk UW bl,k≠n->k'≠n->jT (β:=cM ep) zs k=some dk->jT (β:=cM ep) zs k'=some UW->pE (N'.sub g k) ep dk bl->pE (N'.sub g k') ep UW bl->k=k')
  (hlen: ∀k,aQ (β:=cM ep) zs<=k->N'.sub g k=Names.nil) (ox: ∀l,cV ep (SB+l)=true->∀k,N.sub l k=Names.nil)
  (Vv: ∀c nm,N'.sub g n c=some nm->nm.row=false->je N' b ep c=some nm) (YU:h0 (SB+g)≠some .dead) (P7:SB+g∉iK ep b)
  (YV: ∀i o,h' i=some o->i∉iK ep b->i≠SB+g->cV ep i=false->o= .dead\/(∃(p:aK) (bk:Nat->Nat) (y:p.den),o=p.mk bk y/\p.mY=false/\Xt (xD ep) p.ks=true)\/∃o0,h0 i=some o0/\(o=o0\/∃r t xs,o0= .row r t xs/\o= .row true t xs)):
  ∃N2:Names,(∀i,N2 i=N' i)/\(∀g',g'∉xD ep->∀k c nm,N'.sub g' k c=some nm->nm.row=false->N2.sub g' k c=some nm)/\N2.sub g n=je N' b ep/\jU N2 D' w' base (tU h' ep (iK ep b) g (.store ep zs))/\Ext N D w h0 N2 D' w' (tU h' ep (iK ep b) g (.store ep zs)):=by
 let N2:Names:=⟨λp=>match p with
  | []=>N'.at_ []
  |(g',k)::p=>if g'=g/\k=n then(je N' b ep).at_ p else if cV ep (SB+g')=true then λ_=>none else N'.at_ ((g',k)::p)⟩
 have kg: ∀i,N2 i=N' i:=λ_=>rfl;have hn:N2.sub g n=je N' b ep:=by
  refine Names.ext λp=>?_;show(if g=g/\n=n then(je N' b ep).at_ p else if cV ep (SB+g)=true then(λ_=>none) else N'.at_ ((g,n)::p))=_
  rw[if_pos ⟨rfl,rfl⟩]
 have hA: ∀g' k,¬(g'=g/\k=n)->cV ep (SB+g')=false->N2.sub g' k=N'.sub g' k:=by
  intro g' k h1 h2;show(⟨_⟩:Names)=⟨_⟩
  congr 1
  funext p
  show(if g'=g/\k=n then _ else if cV ep (SB+g')=true then _ else N'.at_ ((g',k)::p))=_
  rw[if_neg h1,if_neg (by rw[h2];simp)]
 have hB: ∀g',cV ep (SB+g')=true->∀k,N2.sub g' k=Names.nil:=by
  intro g' h1 k;have lF:g'≠g:=by rintro rfl;rw[hg] at h1;cases h1
  show(⟨_⟩:Names)=⟨_⟩
  congr 1
  funext p
  show(if g'=g/\k=n then(je N' b ep).at_ p else if cV ep (SB+g')=true then(λ_=>none) else N'.at_ ((g',k)::p))=λ_=>none
  rw[if_neg (λh=>lF h.1),if_pos h1]
 have jr: ∀g',g'∉xD ep->∀k c nm,N'.sub g' k c=some nm->nm.row=false->N2.sub g' k c=some nm:=by
  intro g' CJ k c nm h1 h2;by_cases he:g'=g/\k=n
  ·obtain⟨rfl,rfl⟩:=he
   rw[hn];exact Vv c nm h1 h2
  ·rw[hA g' k he]
   ·exact h1
   ·cases h:cV ep (SB+g') with
    |false=>rfl
    |true=>exact absurd ((GI uy).2 h) CJ
 have Ow: ∀i nm,N' i=some nm->N2 i=some nm:=λi nm h=>by rw[kg];exact h
 have Ox: ∀l∈xD ep,∀k,N.sub l k=Names.nil:=λl hl=>ox l ((GI uy).1 hl);have rk: ∀bl,pE (je N' b ep) ep d' bl->∃i∈iK ep b,∃o,h' i=some o/\iP N' i o bl:=by
  intro bl ho;obtain⟨c,o,h1,h2⟩:=pE.obj uy.nodup ho;obtain⟨i,h3,o',h4,h5⟩:=M.canon (sp:=⟨[],ep⟩) ⟨c,o,h1,h2⟩;exact⟨i,h3,o',by rw[<-XM];exact h4,h5⟩
 have hzn:n<aQ (β:=cM ep) zs:=(List.getElem?_eq_some_iff.1 hz).1;have key: ∀i oi bl,tU h' ep (iK ep b) g (.store ep zs) i=some oi->iP N2 i oi bl->
   (i=SB+g/\((∃j∈iK ep b,∃o,h' j=some o/\iP N' j o bl)\/∃k dk,k≠n/\jT (β:=cM ep) zs k=some dk/\pE (N'.sub g k) ep dk bl))\/(i≠SB+g/\i∉iK ep b/\h' i=some oi/\iP N' i oi bl):=by
  intro i oi bl hi ho;unfold tU at hi;split at hi
  ·rename_i e
   subst e;cases hi;have ho:pW N2 (SB+g) (.store ep) zs bl:=ho;simp only[pW,wL] at ho;obtain⟨k,dk,h1,h2⟩:=ho;left
   refine⟨rfl,?_⟩;by_cases hk:k=n
   ·subst hk
    rw[hz] at h1;cases h1;rw[hn] at h2;exact .inl (rk bl h2)
   ·rw[hA g k (λh=>hk h.2) hg] at h2
    exact .inr ⟨k,dk,hk,h1,h2⟩
  ·rename_i lF
   split at hi
   ·cases hi;exact ho.elim
   ·rename_i vd
    split at hi
    ·cases hi;exact ho.elim
    ·rename_i FA
     refine .inr ⟨lF,by simpa using FA,hi,?_⟩
     by_cases XL: ∃FI xs,oi= .store FI xs
     ·obtain⟨FI,xs,rfl⟩:=XL
      have e3:=S'.ub hi;refine(iP.names (kg i) λk=>hA _ k (λh=>lF ?_) (by rw[e3];exact vd)).1 ho
      rw[<-e3,h.1]
     ·cases oi with
      |dead=>exact ho.elim
      |void=>exact ho.elim
      |var v=>exact ho
      |row r t xs=>cases r<;>exact ho
      |store FI xs=>exact absurd ⟨FI,xs,rfl⟩ XL
 refine⟨N2,kg,jr,hn,⟨λi o hi=>?_,λi j oi oj bl hi hj ri rj=>?_,S'.frozen,λi nm hi=>?_,S'.size,λg' CJ k=>?_⟩,
  ⟨⟨λi nm hi=>X.names.st i nm hi,λg' k c nm h1 h2=>?_⟩,X.frozen,X.os,X.tape,X.output,X.size,X.sU,λbl kQ ho=>?_,X.JB,λi nm hi=>X.fresh i nm hi,λi hi=>?_,λg' CJ=>?_⟩⟩
 ·unfold tU at hi
  split at hi
  ·rename_i e
   subst e;cases hi;simp only[qF,jc,wL];refine⟨ze3 SB g,λk dk hk=>?_,λk hk=>?_,λk k' dk UW bl hk ti ho mX=>?_⟩
   ·by_cases UX:k=n
    ·subst UX
     rw[hz] at hk;cases hk;rw[hn];exact yd uy.nodup (λc nm hc=>by obtain⟨e,he,h1,h2⟩:=tN hc;exact⟨e,he,h1,yc h2⟩) Sc
    ·rw[hA g k (λh=>UX h.2) hg]
     exact(hE k dk UX hk).1
   ·rw[hA g k (λh=>by omega) hg]
    exact hlen k hk
   ·by_cases UX:k=n<;>by_cases P8:k'=n
    ·rw[UX,P8]
    ·exfalso
     subst UX;rw[hz] at hk;cases hk;rw[hn] at ho;rw[hA g k' (λh=>P8 h.2) hg] at mX;obtain⟨i,h1,o,h2,h3⟩:=rk bl ho;exact((hE k' UW P8 ti).2 bl mX).1 i o (λe=>P7 (e▸h1)) h2 h3
    ·exfalso
     subst P8;rw[hz] at ti;cases ti;rw[hn] at mX;rw[hA g k (λh=>UX h.2) hg] at ho;obtain⟨i,h1,o,h2,h3⟩:=rk bl mX;exact((hE k dk UX hk).2 bl ho).1 i o (λe=>P7 (e▸h1)) h2 h3
    ·rw[hA g k (λh=>UX h.2) hg] at ho
     rw[hA g k' (λh=>P8 h.2) hg] at mX;exact hEE k k' dk UW bl UX P8 hk ti ho mX
  ·rename_i lF
   split at hi
   ·cases hi;trivial
   ·rename_i vd
    split at hi
    ·cases hi;trivial
    ·rename_i FA
     have nf:=S'.obj i o hi;rcases YV i o hi (by simpa using FA) lF vd with rfl|⟨p,bk,y,rfl,h1,h2⟩|⟨o0,h1,h2⟩
     ·trivial
     ·cases p with
      |var p=>
       obtain⟨nm,a,e1,e2,e3,e4,e5,e6,e7,e8,e9,yr⟩:=nf;exact⟨nm,a,e1,e2,e3,e4,e5,e6,e7,e8,e9,mk_le Ow p y (Ii h2 jr) _ yr⟩
      |row t=>
       obtain⟨nm,e1,e2,e3,e4,e5,e6⟩:=nf;refine⟨nm,e1,e2,e3,e4,e5,?_⟩;cases hb:nm.base with
       |none=>rw[hb] at e6;exact e6
       |some a=>
        rw[hb] at e6;obtain⟨f1,f2,f3,f4⟩:=e6;exact⟨f1,f2,f3,λj x hx=>ko (λ_ h=>h) (λ_ _=>rfl) t x _ (Ii h2 jr) (f4 j x hx)⟩
      |store FI=>cases h1
     ·have Su:=S0.obj i o0 h1
      rcases h2 with rfl|⟨r,t,xs,rfl,rfl⟩
      ·cases o with
       |dead=>trivial
       |void=>trivial
       |var v=>
        obtain⟨nm0,a0,_,_,_,_,_,_,_,_,_,YD⟩:=Su;obtain⟨nm,a,e1,e2,e3,e4,e5,e6,e7,e8,e9,yr⟩:=nf;exact⟨nm,a,e1,e2,e3,e4,e5,e6,e7,e8,e9,wK Ox Ow jr v _ _ YD yr⟩
       |row r t xs=>exact nG.swap Ox Ow jr (show nG N D w base i r t xs from Su) nf
       |store FI xs=>
        have e3:=S'.ub hi;refine(show jc D' w' base N' i (.store FI) xs from nf).uM λk=>hA _ k (λh=>lF ?_) (by rw[e3];exact vd)
        rw[<-e3,h.1]
      ·exact nG.swap Ox Ow jr (show nG N D w base i r t xs from Su) nf
 ·rcases key i oi bl hi ri with⟨rfl,h1⟩|⟨h1,h2,h3,h4⟩<;>rcases key j oj bl hj rj with⟨rfl,Ih⟩|⟨Ih,Ss,RQ,YT⟩
  ·rfl
  ·exfalso
   rcases h1 with⟨q,hq,o,h5,h6⟩|⟨k,dk,h5,h6,h7⟩
   ·exact Ss (S'.apart q j o oj bl h5 RQ h6 YT▸hq)
   ·exact((hE k dk h5 h6).2 bl h7).1 j oj Ih RQ YT
  ·exfalso
   rcases Ih with⟨q,hq,o,h5,h6⟩|⟨k,dk,h5,h6,h7⟩
   ·exact h2 (S'.apart q i o oi bl h5 h3 h6 h4▸hq)
   ·exact((hE k dk h5 h6).2 bl h7).1 i oi h1 h3 h4
  ·exact S'.apart i j oi oj bl h3 RQ h4 YT
 ·have:=S'.named i nm hi
  unfold tU;split
  ·simp
  ·split
   ·simp
   ·split
    ·simp
    ·exact this
 ·unfold tU at CJ
  split at CJ
  ·cases CJ
  ·rename_i lF
   split at CJ
   ·rename_i hs;exact hB g' hs k
   ·rename_i vd
    split at CJ
    ·cases CJ
    ·rw[hA g' k (λh=>lF (by rw[h.1])) vd]
     exact S'.iG g' CJ k
 ·have h3:=X.names.sub g' k c nm h1 h2
  by_cases hm:g'∈xD ep
  ·rw[Ox g' hm] at h1;cases h1
  ·exact jr g' hm k c nm h3 h2
 ·obtain⟨i,o,hi,hr⟩:=ho
  rcases key i o bl hi hr with⟨_,⟨q,hq,o',h5,h6⟩|⟨k,dk,h5,h6,h7⟩⟩|⟨_,_,h3,h4⟩
  ·exact X.own bl kQ ⟨q,o',h5,h6⟩
  ·exact((hE k dk h5 h6).2 bl h7).2 kQ
  ·exact X.own bl kQ ⟨i,o,h3,h4⟩
 ·unfold tU at hi
  split at hi
  ·cases hi
  ·split at hi
   ·cases hi
   ·split at hi
    ·cases hi
    ·exact X.live i hi
 ·obtain⟨h1,h2⟩:=X.pQ g' CJ
  have lF:g'≠g:=by rintro rfl;exact YU CJ
  have vd:cV ep (SB+g')=false:=by
   cases h:cV ep (SB+g') with
   |false=>rfl
   |true=>
    exfalso
    obtain⟨q,hq,h3,h4⟩:=fG.1 h;obtain⟨t,ht,hT,_⟩:=M.bound q hq;rw[h3,uQ (ze3 SB g')] at ht;cases ht;rcases hT (SB+g') (by simp[xj.ids]) with⟨o',g1,g2,_⟩|⟨_,g1⟩
    ·rw[XM,h1] at g1;cases g1;cases g2
    ·rw[XM,h1] at g1;cases g1
  refine⟨?_,λk=>(hA g' k (λh=>lF h.1) vd).trans (h2 k)⟩;unfold tU;rw[if_neg (by omega),vd]
  simp only;split
  ·rfl
  ·exact h1
end AM
namespace AM
open Go
variable {α:Type}{P:Program}{base:Nat}
def xc:(es:List jt)->gS es->((e:jt)->Nat->e.den->Prop)->Prop
 | [],d,_=>nomatch d
 | [e],d,Q=>Q e 0 d
 |e::e'::es,d,Q=>match d with
  | .inl d=>Q e 0 d
  | .inr d=>xc (e'::es) d λe n d'=>Q e (n+1) d'
theorem ye: ∀(es:List jt) (x:gS es) (k:(e:jt)->Nat->e.den->Option α) (r:α),HE es x k=some r->∃e n d',e∈es/\k e n d'=some r/\∀Q,xc es x Q->Q e n d'
 | [],x,_,_,_=>nomatch x
 | [e],x,k,r,h=>⟨e,0,x,zdM ..,h,λQ hQ=>hQ⟩
 |e::e'::es, .inl d,k,r,h=>⟨e,0,d,zdM ..,h,λQ hQ=>hQ⟩
 |e::e'::es, .inr d,k,r,h=>by
  obtain⟨e1,n,d',h1,h2,h3⟩:=ye (e'::es) d _ r h;exact⟨e1,n+1,d',zdL _ h1,h2,λQ hQ=>h3 (λe n d'=>Q e (n+1) d') hQ⟩
theorem uf: ∀(es:List jt) (x:gS es) {Q Q':(e:jt)->Nat->e.den->Prop},(∀e n d,e∈es->Q e n d->Q' e n d)->xc es x Q->xc es x Q'
 | [],x,_,_,_,_=>nomatch x
 | [e],x,_,_,h,hq=>h e 0 x (zdM ..) hq
 |e::e'::es, .inl d,_,_,h,hq=>h e 0 d (zdM ..) hq
 |e::e'::es, .inr d,Q,Q',h,hq=>uf (e'::es) d (Q:=λe n d'=>Q e (n+1) d') (Q':=λe n d'=>Q' e (n+1) d') (λe n d he=>h e (n+1) d (zdL _ he)) hq
def Sv (s:St)(b:kr)(e:jt)(d:e.den):Prop:= ∃ro b',b.le b'/\Ic s e b' ro d.2/\∀N D w base,jU N D w base s.h->
 jU (je N b' e.heap) (Bj N D ro) w base (mT (λc=>c) e.heap d.2 (λ_=>none))/\∀y c,ck N D w (s.t y) c->ck (je N b' e.heap) (Bj N D ro) w (zh (λc=>c) e.jJ d.1 y) c
theorem rz {sp:jt}{s:St}{b:kr}{k:sp.den->Option α}{f:Option α}{r:α}(h:oP sp s b (λd _ _=>k d) f=some r)(hc:wI sp):f=some r\/∃d,k d=some r/\Sv s b sp d:=by
 rcases qd h hc with h1|⟨d,ro,b',h1,h2,h3,h4⟩
 ·exact .inl h1
 ·exact .inr ⟨d,h1,ro,b',h2,h3,h4⟩
theorem zr {s:St}{b:kr}: ∀(es:List jt) (k:gS es->Option α) (r:α),DF s b es k=some r->(∀e∈es,wI e)->∃x,k x=some r/\xc es x λe _ d'=>Sv s b e d'
 | [],k,r,h,_=>by simp[DF] at h
 | [e],k,r,h,hc=>by
  unfold DF at h;rcases rz h (hc e (zdM ..)) with h1|⟨d,h1,h2⟩
  ·cases h1
  ·exact⟨d,h1,h2⟩
 |e::e'::es,k,r,h,hc=>by
  unfold DF at h;rcases rz (k:=λd=>k (.inl d)) h (hc e (zdM ..)) with h1|⟨d,h1,h2⟩
  ·obtain⟨x,h3,h4⟩:=zr (e'::es) _ r h1 λe he=>hc e (zdL _ he)
   exact⟨.inr x,h3,h4⟩
  ·exact⟨.inl d,h1,h2⟩
def VarId (pre:jt)(c:Nat):Prop:= ∃q∈pre.heap,q.1=c/\q.2.isVar=true
theorem yx {c:Nat}(uz:c<50): ∀(l:List (Nat×aK)),(∃q∈l,q.1=c/\q.2.isVar=true)->kr.get (l.filterMap λo=>match o.2 with| .var _=>(match decide (o.1<50) with|true=>some (o.1, .at_ o.1)|false=>none)|_=>none) c=some (.at_ c)
 | [],h=>by obtain⟨q,hq,_⟩:=h;simp at hq
 |(i, .row t)::l,h=>by
  have: ∃q∈l,q.1=c/\q.2.isVar=true:=by
   obtain⟨q,hq,h1,h2⟩:=h;rcases List.mem_cons.1 hq with rfl|hq
   ·simp[aK.isVar] at h2
   ·exact⟨q,hq,h1,h2⟩
  simp only[ze4];exact yx uz l this
 |(i, .store t)::l,h=>by
  have: ∃q∈l,q.1=c/\q.2.isVar=true:=by
   obtain⟨q,hq,h1,h2⟩:=h;rcases List.mem_cons.1 hq with rfl|hq
   ·simp[aK.isVar] at h2
   ·exact⟨q,hq,h1,h2⟩
  simp only[ze4];exact yx uz l this
 |(i, .var p)::l,h=>by
  by_cases e:i=c
  ·subst e
   simp only[ze4,decide_eq_true uz,kr.get];simp
  ·have: ∃q∈l,q.1=c/\q.2.isVar=true:=by
    obtain⟨q,hq,h1,h2⟩:=h;rcases List.mem_cons.1 hq with rfl|hq
    ·exact absurd h1 e
    ·exact⟨q,hq,h1,h2⟩
   have ih:=yx uz l this;simp only[ze4];cases hd:decide (i<50) with
   |true=>simp only[kr.get];rw[if_neg e];exact ih
   |false=>exact ih
theorem Am {off c:Nat}: ∀(l:List (Nat×aK)),(∃q∈l,q.1=c/\q.2.isVar=true)->(epB off l).get c=some (.at_ (off+(c-50)))
 | [],h=>by obtain⟨q,hq,_⟩:=h;simp at hq
 |(i, .row t)::l,h=>by
  have: ∃q∈l,q.1=c/\q.2.isVar=true:=by
   obtain⟨q,hq,h1,h2⟩:=h;rcases List.mem_cons.1 hq with rfl|hq
   ·simp[aK.isVar] at h2
   ·exact⟨q,hq,h1,h2⟩
  have ih:=Am (off:=off) l this;unfold epB at ih⊢;simp only[ze4];exact ih
 |(i, .store t)::l,h=>by
  have: ∃q∈l,q.1=c/\q.2.isVar=true:=by
   obtain⟨q,hq,h1,h2⟩:=h;rcases List.mem_cons.1 hq with rfl|hq
   ·simp[aK.isVar] at h2
   ·exact⟨q,hq,h1,h2⟩
  have ih:=Am (off:=off) l this;unfold epB at ih⊢;simp only[ze4];exact ih
 |(i, .var p)::l,h=>by
  unfold epB;simp only[ze4,kr.get];by_cases e:i=c
  ·rw[if_pos e,e]
  ·rw[if_neg e]
   have: ∃q∈l,q.1=c/\q.2.isVar=true:=by
    obtain⟨q,hq,h1,h2⟩:=h;rcases List.mem_cons.1 hq with rfl|hq
    ·exact absurd h1 e
    ·exact⟨q,hq,h1,h2⟩
   exact Am (off:=off) l this
structure ve (base:Nat)(pre:jt)(N:Names)(D O:Nat->Prop)(w:World)(e:jt)(Ne:Names)(De:Nat->Prop)(w':World)(d:e.den):Prop where
 ny:jU Ne De w' base (mT (λc=>c) e.heap d.2 (λ_=>none))
 ext:Ie O (zi Ne (mT (λc=>c) e.heap d.2 (λ_=>none))) D De w w'
 sU: ∀c,c<50->VarId pre c->(∃q∈e.heap,q.1=c)->Ne c=N c
 Oy: ∀g,cV pre.heap (SB+g)=true->cV e.heap (SB+g)=true->∀k c nm,N.sub g k c=some nm->nm.row=false->Ne.sub g k c=some nm
theorem JU {N:Names}{D:Nat->Prop}{w:World}{pre:jt}{d:cM pre.heap}(S:jU N D w base (mT (λc=>c) pre.heap d (λ_=>none)))(kg: ∀e∈pre.heap,(e.2.mY=true↔SB<=e.1)){c:Nat}(h:VarId pre c): ∃nm,N c=some nm:=by
 obtain⟨q,hq,h1,hv⟩:=h;have kQ: ¬SB<=c:=λh=>by
  have:=(kg q hq).2 (by omega)
  cases hq2:q.2<;>rw[hq2] at this hv<;>simp[aK.isVar,aK.mY] at this hv
 have:=pZ (b:=λc=>c) (l:=pre.heap) (d:=d) (h:=λ_=>none) ⟨q,hq,h1⟩;cases e:mT (λc=>c) pre.heap d (λ_=>none) c with
 |none=>exact absurd e this
 |some o=>
  rcases nh e with⟨q',uE,h3,y,_,h4⟩|⟨_,h2⟩
  ·have vd:q'.2.mY=false:=by
    cases hh:q'.2.mY with
    |false=>rfl
    |true=>have:=(kg q' uE).1 hh;have h3:q'.1=c:=h3;omega
   have FA:o.rw=true:=by
    subst h4;obtain⟨qc,qp⟩:=q';cases qp with
    |var p=>rfl
    |row t=>rfl
    |store ep=>cases vd
   exact GC (bl:=0) (S.obj c _ e) FA
  ·cases h2
theorem yy {pre e:jt}(kg: ∀e∈pre.heap,(e.2.mY=true↔SB<=e.1)){N N':Names}{D D':Nat->Prop}{w w':World}{d:cM pre.heap}{s:St}{h':Nat->Option fK}{d':e.den}(S:jU N D w base (mT (λc=>c) pre.heap d (λ_=>none)))(S':jU N' D' w' base h')(x:Ext N D w (mT (λc=>c) pre.heap d (λ_=>none)) N' D' w' h')
  (hs:s.h=h') (t:Sv s (BT pre) e d'): ∃Ne De,ve base pre N D (zi N (mT (λc=>c) pre.heap d (λ_=>none))) w e Ne De w' d'/\∀y c,ck N' D' w' (s.t y) c->ck Ne De w' (zh (λc=>c) e.jJ d'.1 y) c:=by
 obtain⟨ro,b',hle,M,ht⟩:=t;obtain⟨h1,h2⟩:=ht N' D' w' base (by rw[hs];exact S')
 refine⟨_,_,⟨h1,⟨λb hb=> .inl (x.frozen b hb),x.os,x.tape,x.output,x.size,x.sU,?_,?_⟩,?_,?_⟩,h2⟩
 ·intro bl kQ ho
  obtain⟨i,hi,o,g1,g2⟩:=M.canon ho;rw[hs] at g1;exact x.own bl kQ ⟨i,o,g1,g2⟩
 ·rintro bl (hb|⟨i,zaX,nm,a,g1,g2,g3⟩)
  ·exact x.JB bl hb
  ·rcases M.cases (by rw[hs];exact S') zaX g1 g2 with h4|⟨o',h4,h5⟩
   ·exact x.JB bl (g3▸h4)
   ·rw[hs] at h4
    rcases zdY bl w'.heap.size with kQ|sG
    ·rcases zdY bl w.heap.size with kQ|sG
     ·exact .inr (.inl (x.own bl kQ ⟨i,_,h4,g3▸h5⟩))
     ·exact .inr (.inr sG)
    ·exact .inr (.inr (zdW x.size sG))
 ·intro c uz hc he
  have hk:(BT pre).get c=some (.at_ c):=yx uz pre.heap hc;rw[(qI (N:=N') (b:=b') (by unfold SB;omega) (λe he=>(M.st e he).1) he).at_ (hle _ _ hk)]
  obtain⟨nm,Vw⟩:=JU S kg hc;rw[Vw,x.names c nm Vw]
 ·intro g _ hg k c nm h3 h4
  rw[vH hg];exact x.names.sub g k c nm h3 h4
def al.ok (sp:al):Bool:=sp.pre.closed&&sp.jb.all λe=>Vu sp.pre e&& (!sp.zN||e.flat)
theorem al.yf {sp:al}(h:sp.ok=true):wI sp.pre:=by
 simp only[al.ok,zdH] at h;exact uR h.1
theorem al.GJ {sp:al}(h:sp.ok=true){e:jt}(he:e∈sp.jb):P4 sp.pre e/\(sp.zN=true->e.flat=true):=by
 simp only[al.ok,zdH,zej] at h;have:=h.2 e he;refine⟨GD this.1,λhl=>?_⟩;have h2:=this.2;rw[hl] at h2;simpa using h2
theorem Vx {pre e:jt}{s:St}{b:kr}{ro:List Nat}{d:cM pre.heap}(h:P4 pre e)(M:Ic s pre b ro d)(fresh:Nat){q:Nat×aK}(hq:q∈e.heap)(uz:q.1<50):back b fresh q.1∈iK pre.heap b:=by
 obtain⟨q',uE,h1,h2⟩:=h.var q hq uz;obtain⟨g,hg,_,h3⟩:=M.bound q' uE;obtain⟨i,rfl⟩:=h3 h2;have kQ: ¬SB<=q.1:=by unfold SB;omega
 rw[h1] at hg;have qQ:b.get q.1=some (.at_ i):=by rw[<-Da kQ];exact hg
 have hb:back b fresh q.1=i:=by rw[Ou uz];simp[qQ]
 rw[hb];exact Bl.2 ⟨q',uE,by unfold D6;rw[h1,hg];simp[xj.ids]⟩
theorem JV {N:Names}{b:kr}{pre e:jt}{Ne:Names}(h: ∀g,cV pre.heap (SB+g)=true->cV e.heap (SB+g)=true->∀k c nm,(je N b pre.heap).sub g k c=some nm->nm.row=false->Ne.sub g k c=some nm):
  ∀g,cV e.heap (SB+g)=true->∀k c nm,(je N b pre.heap).sub g k c=some nm->nm.row=false->Ne.sub g k c=some nm:=by
 intro g hg k c nm hn hr;cases hp:cV pre.heap (SB+g) with
 |true=>exact h g hp hg k c nm hn hr
 |false=>rw[zq hp] at hn;cases hn
structure P9 (N N':Names)(D D':Nat->Prop)(w:World)(u u':AV):Prop where
 sh:u'.sh=u.sh
 rel: ∀g,ar N D w u g->ar N' D' w u' g
theorem P9.val {N N':Names}{D D':Nat->Prop}{w:World}{u u':AV}(h:P9 N N' D D' w u u'){v:Value}(hv:ck N D w u v):ck N' D' w u' v:=C9 h.sh hv h.rel
theorem Ed {N N':Names}{D D':Nat->Prop}{w:World}{bk:Nat->Nat}{y:Nat}: ∀{l:List (Nat×cf)} {d:wZ l},(∀o∈l,∀x:o.2.den,P9 N N' D D' w (o.2.mk (λc=>c) x) (o.2.mk bk x))->P9 N N' D D' w (zh (λc=>c) l d y) (zh bk l d y)
 | [],_,_=>⟨rfl,λg h=>h⟩
 |o::os,d,h=>by
  simp only[zh];by_cases e:y=o.1
  ·rw[if_pos e,if_pos e];exact h o (zdM ..) d.1
  ·rw[if_neg e,if_neg e];exact Ed λo' mX=>h o' (zdL _ mX)
theorem GK {N N':Names}{D D':Nat->Prop}{w:World}{β:Type}{f f':β->AV}: ∀{l:List β} {cs:List Value},(∀o∈l,P9 N N' D D' w (f o) (f' o))->bA N D w (l.map f) cs->bA N' D' w (l.map f') cs
 | [],cs,_,h=>by simpa only[List.map_nil,bA] using h
 |o::os,cs,h,hr=>by
  simp only[zex,bA] at hr⊢;obtain⟨c,tK,rfl,h1,h2⟩:=hr;exact⟨c,tK,rfl,(h o (zdM ..)).val h1,GK (λo ho=>h o (zdL _ ho)) h2⟩
theorem Sw {N N':Names}{D D':Nat->Prop}{w:World}{β:Type}{f f':β->AV}: ∀{l:List β} {v:Value},(∀o∈l,P9 N N' D D' w (f o) (f' o))->ck N D w (qZ (l.map f)) v->ck N' D' w (qZ (l.map f')) v
 | [],v,_,h=>by
  simp only[List.map_nil,qZ] at h⊢;obtain⟨cs,h1,h2⟩:=lJ.1 h;exact lJ.2 ⟨cs,h1,by simpa only[bA] using h2⟩
 | [o],v,h,hv=>(h o (zdM ..)).val hv
 |o::o'::os,v,h,hv=>by
  simp only[zex,qZ] at hv⊢;obtain⟨cs,h1,h2⟩:=lJ.1 hv;exact lJ.2 ⟨cs,h1,GK (l:=o::o'::os) h h2⟩
def rJ (P:Program)(base:Nat)(f:FuncId)(sp:al)(F:sp.pre.den->Option (gS sp.jb)):Prop:=
 (∃fn,P.funcs[f]?=some fn/\fn.body.isNone=false/\(fn.name== "runtime.NumGoroutine")=false)/\
 ∀d r,F d=some r->∀N D w (lK:List Value),jU N D w base (mT (λc=>c) sp.pre.heap d.2 (λ_=>none))->lK.length=sp.pre.jJ.length->(∀y,ck N D w (zh (λc=>c) sp.pre.jJ d.1 y) (lK.getD y Go.undef))->
  Calls P f lK.toArray w λe w'=>match e with
   | .returned v=>xc sp.jb r λe _ d'=> ∃Ne De,ve base sp.pre N D (zi N (mT (λc=>c) sp.pre.heap d.2 (λ_=>none))) w e Ne De w' d'/\ck Ne De w' (qZ (e.jJ.map λo=>zh (λc=>c) e.jJ d'.1 o.1)) v
   |_=>False
theorem rA {N:Names}{D:Nat->Prop}{w:World}: ∀{l:List AV} {cs:List Value},bA N D w l cs->cs.length=l.length
 | [],cs,h=>by simp only[bA] at h;simp[h]
 |x::xs,cs,h=>by
  simp only[bA] at h;obtain⟨c,tK,rfl,_,h2⟩:=h;simp[rA h2]
structure Shaped (st:St)(e:jt)(ids:List Nat)(av:AV)(eZ:St):Prop where
 res: ∃(bk:Nat->Nat) (d:wZ e.jJ),av=qZ (e.jJ.map λo=>zh bk e.jJ d o.1)
 heap: ∀i o,eZ.h i=some o->(∃q∈e.heap.zip ids,q.2=i/\∃(bk:Nat->Nat) (y:q.1.2.den),o=q.1.2.mk bk y)\/o= .dead\/∃o0,st.h i=some o0/\(o=o0\/∃r t xs,o0= .row r t xs/\o= .row true t xs)
theorem zip_map {β:Type}{f:β->Nat}: ∀{l:List β} {q:β},q∈l->(q,f q)∈l.zip (l.map f)
 | [],_,h=>by simp at h
 |x::xs,q,h=>by
  rcases List.mem_cons.1 h with rfl|h
  ·simp
  ·simp only[zex,List.zip_cons_cons,zek]
   exact .inr (zip_map h)
theorem yg {sp:al}{F:sp.pre.den->Option (gS sp.jb)}{f:FuncId}{args:List AV}{st:St}{W:List Nat}{fresh:Nat}{k:jt->List Nat->AV->St->Option α}{fail:Option α}{r:α}(h:DG sp F args st W fresh k fail=some r)(l8:sp.ok=true)(hF:rJ P base f sp F)(xm:fresh%100=0):
  fail=some r\/∃e ids av eZ,k e ids av eZ=some r/\xX P base W f args st fresh av eZ/\Shaped st e ids av eZ:=by
 unfold DG at h;split at h
 ·cases h
 ·rename_i hlen
  simp only[zdN] at hlen;rcases qd h (al.yf l8) with h1|⟨d,ro,b,h1,_,M,ht⟩
  ·exact .inl h1
  right
  split at h1
  ·cases h1
  ·rename_i x hx
   split at h1
   ·cases h1
   ·rename_i YO
    obtain⟨e,n,d',he,h2,h3⟩:=ye _ _ _ _ h1;split at h2
    ·cases h2
    ·rename_i gX
     rw[zdH] at gX;obtain⟨gX,kg⟩:=gX;obtain⟨hex,kQ⟩:=al.GJ l8 he;rw[zej] at YO;refine⟨e,_,_,_,h2,⟨hF.1,rfl,rfl,rfl,λid pQ hdiv=>?_,λN D w S lK nz=>?_⟩,⟨back b fresh,d'.1,rfl⟩,λi o hi=>?_⟩
     ·have Ll:id∉iK sp.pre.heap b:=λh'=>pQ (by have:=YO id (List.mem_append.2 (.inl h'));simpa using this)
      have zaY:sp.zN=true\/id∉ro:=by
       cases hl:sp.zN with
       |true=>exact .inl rfl
       |false=>exact .inr λh'=>pQ (by have:=YO id (List.mem_append.2 (.inr (by rw[hl];exact h')));simpa using this)
      show mT (back b fresh) e.heap d'.2 (tT sp.zN st.h sp.pre b ro) id=st.h id
      rw[uS]
      ·unfold tT
       cases hl:sp.zN with
       |true=>simp only[l9,if_neg Ll]
       |false=>
        rw[hl] at zaY;have:id∉ro:=by simpa using zaY
        simp only[ry,l9,if_neg Ll,if_neg this]
      ·intro q hq e'
       rcases zdY q.1 50 with uz|uz
       ·exact Ll (e'▸Vx hex M fresh hq uz)
       ·unfold oQ at gX
        rw[zej] at gX;have:=gX q hq;have hn: ¬q.1<50:=by omega
        by_cases sG:SB<=q.1
        ·rw[qo sG] at e'
         rw[zej] at kg;have:=kg q hq;simp only[decide_eq_true sG,zdC,ze1] at this;exact pQ (by rw[<-e'];simpa using this)
        ·simp only[hn,sG,decide_false,ze1,zdH,zdN] at this
         rw[Ea hn sG] at e';omega
     ·obtain⟨S1,T1⟩:=ht N D w base S
      have hl:=rA nz;refine(hF.2 d x hx _ _ w lK S1 (by omega) λy=>T1 y _ ?_).mono λen w' Qa=>?_
      ·show ck N D w ((args[y]?).getD .undef) (lK.getD y Go.undef)
       cases ha:args[y]? with
       |none=>simp only[Option.getD_none];exact pc
       |some u=>
        obtain⟨c,hc,hv⟩:=sA _ _ _ _ nz ha;rw[zdP,hc];exact hv
      ·cases en with
       |panicked c=>exact Qa.elim
       |outgrown=>exact Qa.elim
       |returned v=>
        obtain⟨Ne,De,post,hv⟩:=h3 _ Qa;obtain⟨N',D',S',X',tr,_⟩:=Bm (s:={t:=λi=>(args[i]?).getD .undef,h:=st.h,ep:=0,nt:=0}) rfl S M hex gX kQ (λbl hb=>M.canon hb) post.ny post.ext (λq hq uz=>post.sU q.1 uz (hex.var q hq uz) ⟨q,hq,rfl⟩) (JV post.Oy);refine⟨N',D',X',S',Sw (λo ho=>Ed λo' mX y=>⟨D8 _ _ _ _,λg hg=>?_⟩) hv⟩;refine tr o'.2 y g (λc hc=>hex.closed.cs c (.inl (List.mem_flatMap.2 ⟨o',mX,hc⟩))) (λg hg=>hex.closed.ks g (.inl (List.mem_flatMap.2 ⟨o',mX,hg⟩))) (λe'=>?_) hg;have:=kQ e';simp only[jt.flat,zdH,zej] at this;exact this.1 o' mX
     ·rcases nh hi with⟨q,hq,h4,y,_,h5⟩|⟨_,h4⟩
      ·exact .inl ⟨(q,back b fresh q.1),zip_map (f:=λo:Nat×aK=>back b fresh o.1) hq,h4,_,y,h5⟩
      ·by_cases hd:o= .dead
       ·exact .inr (.inl hd)
       obtain⟨_,⟨h6,_⟩|⟨_,_,r,t,xs,h6,h7⟩⟩:=Ai M rfl h4 hd
       ·exact .inr (.inr ⟨o,h6, .inl rfl⟩)
       ·exact .inr (.inr ⟨_,h6, .inr ⟨r,t,xs,rfl,h7⟩⟩)
end AM
namespace AM
open Go
variable {α:Type}{P:Program}{base:Nat}
theorem Cf: ∀{args:List AV} {ps:List (Nat×cf)} {j0 j g n c:Nat},xE args ps j0=some (j,g,n,c)->j0<=j/\args[j-j0]?=some (.rf g n c)
 | [],ps,j0,j,g,n,c,h=>by cases ps<;>simp[xE] at h
 |v::vs,[],j0,j,g,n,c,h=>by cases v<;>simp[xE] at h
 |v::vs,(q,p)::ps,j0,j,g,n,c,h=>by
  have tail:xE vs ps (j0+1)=some (j,g,n,c)->j0<=j/\(v::vs)[j-j0]?=some (.rf g n c):=by
   intro h1;obtain⟨h2,h3⟩:=Cf h1;refine⟨by omega,?_⟩
   rw[show j-j0=(j-(j0+1))+1 by omega]
   simpa using h3
  cases v<;>cases p<;>simp only[xE] at h<;>first
   |exact tail h
   |(simp only[zdF,Prod.mk.injEq] at h;obtain⟨rfl,rfl,rfl,rfl⟩:=h;exact⟨zdV _,by simp⟩)
theorem Cg {N:Names}{D:Nat->Prop}{w:World}: ∀{vs:List AV} {cs:List Value} {i:Nat} {u:AV} {c:Value},bA N D w vs cs->cs[i]?=some c->ck N D w u c->bA N D w (vs.set i u) cs
 | [],cs,i,u,c,h,_,_=>by simpa using h
 |v::vs,cs,0,u,c,h,hc,hu=>by
  simp only[bA,ze5] at h⊢;obtain⟨c',tK,rfl,h1,h2⟩:=h;simp at hc;subst hc;exact⟨_,_,rfl,hu,h2⟩
 |v::vs,cs,i+1,u,c,h,hc,hu=>by
  simp only[bA,List.set_cons_succ] at h⊢;obtain⟨c',tK,rfl,h1,h2⟩:=h;exact⟨_,_,rfl,h1,Cg h2 (by simpa using hc) hu⟩
theorem Sx (t:Ty)(x:t.den)(us:List AV):enc t x≠ .AY us:=by
 cases t<;>simp only[enc]<;>try (intro h;cases h;done)
 split<;>(intro h;cases h)
theorem Sy (bk:Nat->Nat)(p:cf)(x:p.den)(us:List AV):p.mk bk x≠ .AY us:=by
 cases p<;>simp only[cf.mk]<;>first|exact Sx _ _ _|(intro h;cases h)
theorem Ee (bk:Nat->Nat)(y:Nat)(us:List AV): ∀(l:List (Nat×cf)) (d:wZ l),zh bk l d y≠ .AY us
 | [],_=>by simp only[zh];intro h;cases h
 |o::os,d=>by
  simp only[zh];split
  ·exact Sy _ _ _ _
  ·exact Ee bk y us os d.2
theorem Qb (f:AV->AV){vs:List AV}(h: ∀v∈vs,∀us,v≠ .AY us):Xu f (qZ vs)=qZ (vs.map f):=by
 match vs,h with
 | [],_=>rfl
 | [v],h=>
  have:=h v (by simp)
  simp only[qZ,zex,List.map_nil];cases v<;>first|rfl|exact absurd rfl (this _)
 |a::b::l,_=>rfl
theorem Sz {vs:List AV}(h: ∀v∈vs,∀us,v≠ .AY us):Yt (qZ vs)=vs:=by
 match vs,h with
 | [],_=>rfl
 | [v],h=>
  have:=h v (by simp)
  simp only[qZ];cases v<;>first|rfl|exact absurd rfl (this _)
 |a::b::l,_=>rfl
theorem JW {N N':Names}{D D':Nat->Prop}{w:World}: ∀{vs us:List AV} {v:Value},vs.length=us.length->(∀(i:Nat) a b,vs[i]?=some a->us[i]?=some b->∀c,ck N D w a c->ck N' D' w b c)->ck N D w (qZ vs) v->ck N' D' w (qZ us) v:=by
 intro vs us v hl h hv;have each: ∀(vs us:List AV) (cs:List Value),vs.length=us.length->(∀(i:Nat) a b,vs[i]?=some a->us[i]?=some b->∀c,ck N D w a c->ck N' D' w b c)->bA N D w vs cs->bA N' D' w us cs:=by
  intro vs;induction vs with
  |nil=>
   intro us cs hl _ hr;cases us with
   |nil=>simpa only[bA] using hr
   |cons _ _=>simp at hl
  |cons a vs ih=>
   intro us cs hl h hr;cases us with
   |nil=>simp at hl
   |cons b us=>
    simp only[bA] at hr⊢;obtain⟨c,tK,rfl,h1,h2⟩:=hr;exact⟨c,tK,rfl,h 0 a b rfl rfl c h1,ih us tK (by simpa using hl) (λi a b ha hb=>h (i+1) a b (by simpa using ha) (by simpa using hb)) h2⟩
 match vs,us,hl with
 | [],[],_=>
  simp only[qZ] at hv⊢;obtain⟨cs,h1,h2⟩:=lJ.1 hv;exact lJ.2 ⟨cs,h1,each [] [] _ rfl (by simp) h2⟩
 | [a],[b],_=>exact h 0 a b rfl rfl v hv
 |a::a'::vs,b::b'::us,hl=>
  simp only[qZ] at hv⊢;obtain⟨cs,h1,h2⟩:=lJ.1 hv;exact lJ.2 ⟨cs,h1,each _ _ _ hl h h2⟩
 | [],_::_,h=>simp at h
 |_::_,[],h=>simp at h
 | [_],_::_::_,h=>simp at h
 |_::_::_,[_],h=>simp at h
theorem Ij {N' N2:Names}{D:Nat->Prop}{w:World}{ks:List Nat}{bk:Nat->Nat}(kg: ∀i nm,N' i=some nm->N2 i=some nm)(jr: ∀g,g∉ks->∀k c nm,N'.sub g k c=some nm->nm.row=false->N2.sub g k c=some nm){y:Nat}: ∀(l:List (Nat×cf)) (d:wZ l),(∀o∈l,Xt ks o.2.ks=true)->∀c,ck N' D w (zh bk l d y) c->ck N2 D w (zh bk l d y) c
 | [],_,_,c,_=>by simp only[zh];exact pc
 |o::os,d,h,c,hv=>by
  simp only[zh] at hv⊢;split
  ·rename_i e
   rw[if_pos e] at hv;exact xG (λg hg=>mk_le kg o.2 d.1 (Ii (h o (zdM ..)) jr) g hg) hv
  ·rename_i e
   rw[if_neg e] at hv;exact Ij kg jr os d.2 (λo ho=>h o (zdL _ ho)) c hv
theorem zt {ep:List (Nat×aK)}{c:Nat}(h:Gm ep c=true): ∃q∈ep,q.1=c/\q.2.isVar=true:=by
 unfold Gm at h;rw[List.any_eq_true] at h;obtain⟨q,hq,h⟩:=h;rw[zdH] at h;refine⟨q,hq,by simpa using h.1,?_⟩
 have h2:=h.2;unfold aK.isVar;exact h2
theorem vJ {p:aK}(h:p.isVar=true):p.mY=false:=by cases p<;>simp[aK.isVar] at h;rfl
theorem Mn.Bn {ep:List (Nat×aK)}(uy:Mn ep){q:Nat×aK}(hq:q∈ep)(h:q.2.mY=false):50<=q.1/\q.1<SB:=by
 have:=uy.ids q hq h;exact⟨this.1,by unfold SB;omega⟩
theorem JX {off c:Nat}(h:50<=c)(h':c<SB):back [] off c=off+(c-50):=Ea (by omega) (by omega)
theorem JY {st xb:St}{e:jt}{ids:List Nat}{av:AV}(yI:Shaped st e ids av xb){ep:List (Nat×aK)}{rw:List Nat}(Ao:A4 e ids rw (xD ep)=true){i:Nat}{o:fK}(hi:xb.h i=some o)(FA:i∉rw):
  o= .dead\/(∃(p:aK) (bk:Nat->Nat) (y:p.den),o=p.mk bk y/\p.mY=false/\Xt (xD ep) p.ks=true)\/∃o0,st.h i=some o0/\(o=o0\/∃r t xs,o0= .row r t xs/\o= .row true t xs):=by
 rcases yI.heap i o hi with⟨q,hq,h1,bk,y,rfl⟩|h1|h1
 ·right;left
  unfold A4 at Ao;rw[zdH,zej,zej] at Ao;have:=Ao.2 q hq;rw[zeM,zdH] at this;rcases this with h2|⟨h2,h3⟩
  ·rw[h1] at h2
   exact absurd (by simpa using h2) FA
  ·refine⟨q.1.2,bk,y,rfl,?_,h2⟩
   cases hp:q.1.2 with
   |var p=>rfl
   |row t=>rfl
   |store FI=>rw[hp] at h3;cases h3
 ·exact .inl h1
 ·exact .inr (.inr h1)
theorem Ef {e:jt}{ids rw ks:List Nat}(h:A4 e ids rw ks=true): ∀o∈e.jJ,Xt ks o.2.ks=true:=by
 unfold A4 at h;rw[zdH,zej] at h;exact h.1
theorem JZ {W:List Nat}{fresh:Nat}{l:List Nat}(h:inW W fresh l=true){i:Nat}(hi:i∈l):i∈W\/i/100=fresh/100:=by
 unfold inW at h;rw[zej] at h;simpa using h i hi
theorem SA {N' N2:Names}{D':Nat->Prop}{w':World}{g n off:Nat}{ep:List (Nat×aK)}{b:kr}(uy:Mn ep)(kg: ∀i,N2 i=N' i)(hn:N2.sub g n=je N' b ep)(hle:kr.le (epB off ep) b)(mN: ∀i,(∃q∈ep,q.2.isVar=true/\i=off+(q.1-50))->∀nm,N' i=some nm->nm.row=false){u:AV}{v:Value}(hu:ck N' D' w' u v)(hu2:ck N2 D' w' u v):ck N2 D' w' (LG g (n+1) off ep u) v:=by
 unfold LG;split
 ·rename_i i
  split
  ·rename_i hc
   rw[zdH] at hc;obtain⟨q,hq,h1,h2⟩:=zt hc.2;have kQ:=uy.Bn hq (vJ h2);have nX:off<=i:=by simpa using hc.1
   have hi:i=off+(q.1-50):=by omega
   obtain⟨nm,a,o,e1,e2,e3,e4⟩:=jq.1 hu;have hr:=mN i ⟨q,hq,h2,hi⟩ nm e1;have ho:o=0:=by
    have:nm.off []=some 0:=by simp[Nm.off,hr,fE]
    rw[this] at e3;cases e3;rfl
   subst ho;have Vy:je N' b ep (i-off+50)=some nm:=by
    rw[<-h1,(qI (N:=N') (b:=b) kQ.2 (λe he=>(uy.closed.st e he).1) ⟨q,hq,rfl⟩).at_ (hle _ _ (Am ep ⟨q,hq,rfl,h2⟩)),<-hi];exact e1
   unfold ck;simp only[AV.isAgg,jv,ar,xF];exact⟨nm,a,by rw[hn];exact Vy,hr,e2,by rw[e4]⟩
  ·exact hu2
 ·exact hu2
theorem Eg {M:Names}{D:Nat->Prop}{w:World}: ∀{l:List (Nat×aK)} {d:cM l},kK D w base M l d->∀{q:Nat×aK},q∈l->q.2.isVar=true->∃v,tf M D w base q.1 v
 | [],_,_,q,hq,_=>by simp at hq
 |(c,p)::os,d,h,q,hq,hv=>by
  simp only[kK] at h;rcases List.mem_cons.1 hq with rfl|hq
  ·cases p with
   |var p=>have h1:=h.1;simp only[jc] at h1;exact⟨_,h1⟩
   |row t=>cases hv
   |store e=>cases hv
  ·exact Eg h.2.1 hq hv
theorem J0 {M:Names}{D:Nat->Prop}{w:World}: ∀{l:List (Nat×aK)} {d:cM l},kK D w base M l d->∀{c:Nat} {t:Ty},(c,aK.row t)∈l->AM.nodup (l.map (·.1))=true->∃nm,M c=some nm/\nm.row=true/\True
 | [],_,_,q,_,hq,_=>by simp at hq
 |(c,p)::os,d,h,c',t,hq,hn=>by
  simp only[kK] at h;simp only[zex,AM.nodup,zdH] at hn;rcases List.mem_cons.1 hq with e|hq
  ·cases e
   have h1:=h.1;simp only[jc] at h1;obtain⟨nm,e1,e2,_⟩:=h1;exact⟨nm,e1,e2,trivial⟩
  ·exact J0 h.2.1 hq hn.2
theorem Vz {ep:List (Nat×aK)}{xs:List (cM ep)}{n k:Nat}{d:cM ep}(h:k≠n):jT (β:=cM ep) (Jz xs n d) k=jT (β:=cM ep) xs k:=zee (Ne.symm h)
theorem VA {ep:List (Nat×aK)}{xs:List (cM ep)}{n:Nat}{d:cM ep}(h:n<xs.length):jT (β:=cM ep) (Jz xs n d) n=some d:=by simp[Jz,jT,h]
theorem SC {ep:List (Nat×aK)}{xs:List (cM ep)}{n:Nat}{d:cM ep}:aQ (β:=cM ep) (Jz xs n d)=aQ (β:=cM ep) xs:=by simp[Jz,aQ]
theorem Mp {sp:al}{F:sp.pre.den->Option (gS sp.jb)}{f:FuncId}{args:List AV}{st:St}{W:List Nat}{fresh:Nat}{k:AV->St->Option α}{fail:Option α}{r:α}(l8:sp.ok=true)(hF:rJ P base f sp F)(xm:fresh%100=0){j g n c:Nat}{ep:List (Nat×aK)}{xs:List (cM ep)}{d:cM ep}
  (SD:args[j]?=some (.rf g (n+1) c)) (hs:st.h (SB+g)=some (.store ep xs)) (hd:jT (β:=cM ep) xs n=some d) (uy:Py ep=true) (hf:oQ st.h (fresh+60) [] ep=true) (hWg:W.contains (SB+g)=true) (hWe:ep.all (λo=>W.contains (back [] (fresh+60) o.1))=true) (hc:Gm ep c=true)
  (h:DG sp F (args.set j (.ptr (back [] (fresh+60) c) [])) (tV st g (fresh+60) ep d) W fresh (λe ids av eZ=>Yu W fresh g n (fresh+60) ep xs e ids av eZ k) fail=some r):
  fail=some r\/∃av eZ,k av eZ=some r/\xX P base W f args st fresh av eZ:=by
 rcases yg h l8 hF xm with h1|⟨e,ids,av,xb,h1,rK,yI⟩
 ·exact .inl h1
 right
 have uy:=GH uy;unfold Yu at h1;rcases qd h1 uy.closed with h2|⟨dd,ro,b,h2,hle,M,YW⟩
 ·cases h2
 split at h2
 ·cases h2
 rename_i J1;simp only[zdH,ze0,zeQ,decide_eq_false_iff_not,zea] at J1;obtain⟨⟨⟨⟨Oh,Ao⟩,P7⟩,XO⟩,YX⟩:=J1;subst Oh;rw[zej] at hWe XO;have Ji: ∀q∈ep,SB<=q.1->iG (st.h q.1)=true:=by
  intro q hq sG;unfold oQ at hf;rw[zej] at hf;have:=hf q hq;rw[decide_eq_false (JR sG),decide_eq_true sG] at this;simpa using this
 have hfn: ∀q∈ep,q.1<SB->50<=q.1->st.h (fresh+60+(q.1-50))=none:=by
  intro q hq kQ uz;unfold oQ at hf;rw[zej] at hf;have:=hf q hq;rw[decide_eq_false (show¬q.1<50 by omega),decide_eq_false (show¬SB<=q.1 by omega)] at this
  simp only[ze1,zdH,Option.isNone_iff_eq_none] at this;exact this.2
 have Qc:cV ep (SB+g)=false:=by
  cases h:cV ep (SB+g) with
  |false=>rfl
  |true=>
   obtain⟨q,hq,h1,_⟩:=fG.1 h;have:=Ji q hq (by omega)
   rw[h1,hs] at this;cases this
 have VB: ∀q∈ep,back [] (fresh+60) q.1≠SB+g:=by
  intro q hq hb;cases kg:q.2.mY with
  |true=>
   have sG:=(uy.closed.st q hq).1 kg;rw[qo sG] at hb;rw[fG.2 ⟨q,hq,hb,kg⟩] at Qc;cases Qc
  |false=>
   obtain⟨g1,g2⟩:=uy.Bn hq kg;rw[JX g1 g2] at hb;have:=hfn q hq g2 g1;rw[hb,hs] at this;cases this
 have N6:(tV st g (fresh+60) ep d).h (SB+g)=some .dead:=by
  show mT (back [] (fresh+60)) ep d (sb st.h [SB+g]) (SB+g)=_
  rw[uS VB,l9];simp
 refine⟨_,_,h2,rK.1,rK.2.1,rK.2.2.1,rK.2.2.2.1,λid pQ hdiv=>?_,λN D w S lK nz=>?_⟩
 ·have vd:cV ep id=false:=by
   cases h:cV ep id with
   |false=>rfl
   |true=>
    obtain⟨q,hq,h1,h2⟩:=fG.1 h;have:=hWe q hq;rw[qo ((uy.closed.st q hq).1 h2),h1] at this;exact absurd (by simpa using this) pQ
  have hng:id≠SB+g:=by
   rintro rfl
   exact pQ (by simpa using hWg)
  have Ll:(iK ep b).contains id=false:=by
   cases h:(iK ep b).contains id with
   |false=>rfl
   |true=>
    rcases JZ YX (show id∈iK ep b by simpa using h) with h1|h1
    ·exact absurd h1 pQ
    ·exact absurd h1 hdiv
  show tU xb.h ep (iK ep b) g _ id=st.h id
  unfold tU;rw[if_neg hng,vd,Ll];simp only[zdG,if_false];rw[rK.2.2.2.2.1 id pQ hdiv];show mT (back [] (fresh+60)) ep d (sb st.h [SB+g]) id=st.h id
  rw[uS (λq hq e=>pQ (by have:=hWe q hq;rw[e] at this;simpa using this)),l9]
  simp[hng]
 ·obtain⟨N1,D1,S1,X1,r4,r5,r7,r6⟩:=Mo S hs hd uy hf
  obtain⟨cv,hcj,hvj⟩:=sA _ _ _ _ nz SD;unfold ck at hvj;simp only[AV.isAgg,jv,ar,xF] at hvj;obtain⟨nm,a,e1,e2,e3,e4⟩:=hvj;simp only[zdF] at e4;obtain⟨qc,hqc,zcG,zcH⟩:=zt hc;have zdq:=uy.Bn hqc (vJ zcH);have hargs1:bA N1 D1 w (args.set j (.ptr (back [] (fresh+60) c) [])) lK:=
   Cg (pD X1.names X1.frozen (X1.JC S) _ _ nz) hcj (jq.2 ⟨nm,a,0,r4 c ⟨by omega,qc,hqc,zcG⟩ nm e1,e3,by simp[Nm.off,e2,fE],e4⟩)
  refine(rK.2.2.2.2.2 N1 D1 w S1 lK hargs1).mono λen w' Qa=>?_;cases en with
  |panicked c=>exact Qa.elim
  |outgrown=>exact Qa.elim
  |returned v=>
   obtain⟨N',D',X2,S',hv⟩:=Qa;have X:=X1.trans X2;obtain⟨Sc,_⟩:=YW N' D' w' base S';rw[Aj] at Sc;have VC: ∀k,N'.sub g k=N.sub g k:=λk=>((X2.pQ g N6).2 k).trans (r5 g Qc k);have nf:jc D w base N (SB+g) (.store ep) xs:=S.obj _ _ hs;simp only[jc,wL] at nf;have SE:=yd (l:=ep) (d:=dd.2) uy.nodup (λc nm hc=>by obtain⟨e,he,h1,h2⟩:=tN hc;exact⟨e,he,h1,yc h2⟩) Sc
   have hxn:n<xs.length:=(List.getElem?_eq_some_iff.1 hd).1;have hzk: ∀k dk,k≠n->jT (β:=cM ep) (Jz xs n dd.2) k=some dk->jT (β:=cM ep) xs k=some dk:=λk dk hk h=>(Vz hk).symm.trans h;have SF: ∀k dk,k≠n->jT (β:=cM ep) xs k=some dk->∀bl,pE (N.sub g k) ep dk bl->¬zi N1 (tV st g (fresh+60) ep d).h bl/\zi N st.h bl/\Gp D w base bl:=by
    intro k dk hk hx bl ho;have hO:iP N (SB+g) (.store ep xs) bl:=by
     show pW N (SB+g) (.store ep) xs bl
     simp only[pW,wL];exact⟨k,dk,hx,ho⟩
    refine⟨?_,⟨SB+g,_,hs,hO⟩,S.pb hs hO⟩;rintro⟨i,oi,h1,h2⟩
    rcases r6 i oi bl h1 h2 with h3|⟨h3,h4,h5⟩
    ·exact hk (nf.2.2.2 k n dk d bl hx hd ho h3)
    ·exact h5 (S.apart i (SB+g) oi _ bl h3 hs h4 hO)
   have XP: ∀q∈ep,q.2.isVar=true->je N' b ep q.1=N' (fresh+60+(q.1-50)):=λq hq hv=>
    (qI (N:=N') (b:=b) (uy.Bn hq (vJ hv)).2 (λe he=>(uy.closed.st e he).1) ⟨q,hq,rfl⟩).at_ (hle _ _ (Am ep ⟨q,hq,rfl,hv⟩))
   obtain⟨N2,t1,t2,t3,t4,t5⟩:=Ec S X S' uy (s':=xb) rfl M Sc (g:=g) (n:=n) (zs:=Jz xs n dd.2) (VA hxn) Qc
    (λk dk hk hz=>by
     have hx:=hzk k dk hk hz;rw[VC];obtain⟨p1,p2⟩:=nf.2.1 k dk hx;refine⟨⟨kK.congr X.frozen (X.JC S) p1 λbl ho=>?_,p2⟩,λbl ho=>⟨λj' o hj mX tq=>?_,λ_=>(SF k dk hk hx bl ho).2.1⟩⟩
     ·obtain⟨q1,_,q3⟩:=SF k dk hk hx bl ho
      refine⟨X2.sU bl q3.2.2 q1,λhnd LL=>?_⟩;rcases X2.JB bl LL with h3|h3|h3
      ·exact hnd (r7 bl h3)
      ·exact q1 h3
      ·have:=q3.2.2;omega
     ·obtain⟨q1,_,q3⟩:=SF k dk hk hx bl ho
      exact q1 (X2.own bl q3.2.2 ⟨j',o,mX,tq⟩))
    (λk k' dk UW bl hk ti hz US ho mX=>by
     rw[VC] at ho mX;exact nf.2.2.2 k k' dk UW bl (hzk k dk hk hz) (hzk k' UW ti US) ho mX)
    (λk hk=>by
     rw[VC];exact nf.2.2.1 k (SC▸hk))
    (λl hl k=>by
     obtain⟨q,hq,h3,_⟩:=fG.1 hl;refine S.iG l ?_ k;rw[<-h3];exact Ji q hq (by omega))
    (λc nm hc hr=>by
     rw[VC] at hc;obtain⟨q,hq,h3,h4⟩:=(nf.2.1 n d hd).2.1 c nm hc;have hv:q.2.isVar=true:=by
      obtain⟨q1,qp⟩:=q;cases qp with
      |var p=>rfl
      |store e=>cases h4
      |row t=>
       exfalso
       have:=J0 (nf.2.1 n d hd).1 hq uy.nodup;obtain⟨mM,f1,f2,_⟩:=this;have h3:q1=c:=h3;rw[h3,hc] at f1;cases f1;rw[hr] at f2;cases f2
     rw[<-h3,XP q hq hv];have kQ:=uy.Bn hq (vJ hv);have:=X2.names _ _ (r4 c ⟨by omega,q,hq,h3⟩ nm hc)
     rw[<-h3,JX kQ.1 kQ.2] at this;exact this)
    (by rw[hs];intro h;cases h) P7
    (λi o hi FA lF vd=>by
     rcases JY yI Ao hi FA with h3|h3|⟨o0,h3,h4⟩
     ·exact .inl h3
     ·exact .inr (.inl h3)
     ·have h3:mT (back [] (fresh+60)) ep d (sb st.h [SB+g]) i=some o0:=h3
      rcases nh h3 with⟨q,hq,h5,y,_,_⟩|⟨_,h5⟩
      ·left
       have:=XO q hq;rw[h5] at this;simp only[zeM] at this;rcases this with(h6|h6)|h6
       ·rw[qo ((uy.closed.st q hq).1 h6)] at h5
        rw[fG.2 ⟨q,hq,h5,h6⟩] at vd;cases vd
       ·exact absurd (by simpa using h6) FA
       ·rw[hi] at h6
        cases o<;>simp[RI] at h6
        rfl
      ·rw[l9] at h5
       split at h5
       ·rename_i h6;exact absurd (by simpa using h6) lF
       ·exact .inr (.inr ⟨o0,h5,h4⟩))
   refine⟨N2,D',t5,t4,?_⟩;obtain⟨bk,ds,hav⟩:=yI.res;subst hav;rw[Qb _ (λv hv us=>by
    obtain⟨o,_,rfl⟩:=List.mem_map.1 hv;exact Ee _ _ _ _ _)]
   refine JW (by simp) (λi a b' ha hb c' hvc=>?_) hv
   rw[zeG,ha] at hb;simp only[zdO,zdF] at hb;subst hb;rw[zeG] at ha;cases ho:e.jJ[i]? with
   |none=>rw[ho] at ha;cases ha
   |some o=>
    rw[ho] at ha;simp only[zdO,zdF] at ha;subst ha;refine SA uy t1 t3 hle (λi' ⟨q,hq,hqv,nb⟩ nm Vw=>?_) hvc (Ij (λi nm h=>by rw[t1];exact h) t2 e.jJ ds (Ef Ao) c' hvc)
    obtain⟨v',mM,a',f1,f2,f3,_⟩:=Eg SE.1 hq hqv;rw[XP q hq hqv,<-nb,Vw] at f1;cases f1;exact f3
theorem Ik {ep:List (Nat×aK)}{o:Option fK}{k:List (cM ep)->Option α}{r:α}(h:storeAt ep o k=some r): ∃xs,k xs=some r/\(o=some (.store ep xs)\/iG o=true/\xs=[]):=by
 unfold storeAt at h;split at h
 ·split at h
  ·rename_i FI xs ys hc
   obtain⟨rfl,rfl⟩:=D5 hc;exact⟨_,h, .inl rfl⟩
  ·cases h
 ·exact⟨_,h, .inr ⟨rfl,rfl⟩⟩
 ·exact⟨_,h, .inr ⟨rfl,rfl⟩⟩
 ·cases h
theorem SG {ep:List (Nat×aK)}{xs:List (cM ep)}{d:cM ep}:jT (β:=cM ep) (BS xs d) (LH xs)=some d:=by simp[BS,jT,LH]
theorem Eh {ep:List (Nat×aK)}{xs:List (cM ep)}{d dk:cM ep}{k:Nat}(hk:k≠LH xs)(h:jT (β:=cM ep) (BS xs d) k=some dk):jT (β:=cM ep) xs k=some dk:=by
 simp only[BS,jT,LH] at*;have kQ:=(List.getElem?_eq_some_iff.1 h).1;simp at kQ;rw[zeq (by omega)] at h
 exact h
theorem Qd {sp:al}{F:sp.pre.den->Option (gS sp.jb)}{f:FuncId}{args:List AV}{st:St}{W:List Nat}{fresh:Nat}{k:AV->St->Option α}{fail:Option α}{r:α}(l8:sp.ok=true)(hF:rJ P base f sp F)(xm:fresh%100=0){i g:Nat}{ep:List (Nat×aK)}
  (hWg:W.contains (SB+g)=true) (hWe:ep.all (λo=>W.contains o.1)=true) (uy:Py ep=true) (Vs:ep.all (λo=>!o.2.mY||iG (st.h o.1))=true)
  (h:DG sp F args st W fresh (λe ids av eZ=>Yv W fresh i g ep e ids av eZ k) fail=some r):
  fail=some r\/∃av eZ,k av eZ=some r/\xX P base W f args st fresh av eZ:=by
 rcases yg h l8 hF xm with h1|⟨e,ids,av,xb,h1,rK,yI⟩
 ·exact .inl h1
 right
 have uy:=GH uy;unfold Yv at h1;split at h1
 ·rename_i j hj
  obtain⟨xs,h1,L3⟩:=Ik h1;rcases qd h1 uy.closed with h2|⟨dd,ro,b,h2,hle,M,YW⟩
  ·cases h2
  split at h2
  ·cases h2
  rename_i J1;simp only[zdH,ze0,zeQ,decide_eq_false_iff_not,zea] at J1;obtain⟨⟨⟨⟨⟨Oh,Ao⟩,P7⟩,zcI⟩,Qc⟩,YX⟩:=J1;subst Oh;rw[zej] at hWe Vs;refine⟨_,_,h2,rK.1,rK.2.1,rK.2.2.1,rK.2.2.2.1,λid pQ hdiv=>?_,λN D w S lK nz=>?_⟩
  ·have vd:cV ep id=false:=by
    cases h:cV ep id with
    |false=>rfl
    |true=>
     obtain⟨q,hq,h1,h2⟩:=fG.1 h;have:=hWe q hq;rw[h1] at this;exact absurd (by simpa using this) pQ
   have hng:id≠SB+g:=by
    rintro rfl
    exact pQ (by simpa using hWg)
   have Ll:(iK ep b).contains id=false:=by
    cases h:(iK ep b).contains id with
    |false=>rfl
    |true=>
     rcases JZ YX (show id∈iK ep b by simpa using h) with h1|h1
     ·exact absurd h1 pQ
     ·exact absurd h1 hdiv
   show tU xb.h ep (iK ep b) g _ id=st.h id
   unfold tU;rw[if_neg hng,vd,Ll];simp only[zdG,if_false];exact rK.2.2.2.2.1 id pQ hdiv
  ·refine(rK.2.2.2.2.2 N D w S lK nz).mono λen w' Qa=>?_
   cases en with
   |panicked c=>exact Qa.elim
   |outgrown=>exact Qa.elim
   |returned v=>
    obtain⟨N',D',X,S',hv⟩:=Qa;obtain⟨Sc,_⟩:=YW N' D' w' base S';rw[Aj] at Sc;have SE:=yd (l:=ep) (d:=dd.2) uy.nodup (λc nm hc=>by obtain⟨e,he,h1,h2⟩:=tN hc;exact⟨e,he,h1,yc h2⟩) Sc
    have nf:jc D' w' base N' (SB+g) (.store ep) xs:=by
     rcases L3 with h3|⟨h3,rfl⟩
     ·exact S'.obj _ _ h3
     ·simp only[jc,wL]
      exact⟨ze3 SB g,λk d hk=>by simp[jT] at hk,λk _=>S'.iG g h3 k,λk k' d d' b hk=>by simp[jT] at hk⟩
    simp only[jc,wL] at nf;have tq: ∀k dk bl,jT (β:=cM ep) xs k=some dk->pE (N'.sub g k) ep dk bl->xb.h (SB+g)=some (.store ep xs)/\iP N' (SB+g) (.store ep xs) bl:=by
     intro k dk bl hx ho;rcases L3 with h3|⟨h3,rfl⟩
     ·refine⟨h3,?_⟩
      show pW N' (SB+g) (.store ep) xs bl
      simp only[pW,wL];exact⟨k,dk,hx,ho⟩
     ·simp[jT] at hx
    obtain⟨q50,YY,uz,XQ⟩:=zt zcI;have Vy:je N' b ep 50=N' j:=by
     have:=(qI (N:=N') (b:=b) (uy.Bn YY (vJ XQ)).2 (λe he=>(uy.closed.st e he).1) ⟨q50,YY,rfl⟩);rw[uz] at this;exact this.at_ (hle 50 (.at_ j) (by simp[kr.get]))
    obtain⟨N2,t1,t2,t3,t4,t5⟩:=Ec S X S' uy (s':=xb) rfl M Sc (g:=g) (n:=LH xs) (zs:=BS xs dd.2) SG Qc
     (λk dk hk hz=>by
      have hx:=Eh hk hz;refine⟨nf.2.1 k dk hx,λbl ho=>?_⟩;obtain⟨h3,h4⟩:=tq k dk bl hx ho;exact⟨λj' o BZ mX zaZ=>BZ (S'.apart j' (SB+g) o _ bl mX h3 zaZ h4),λkQ=>X.own bl kQ ⟨SB+g,_,h3,h4⟩⟩)
     (λk k' dk UW bl hk ti hz US ho mX=>nf.2.2.2 k k' dk UW bl (Eh hk hz) (Eh ti US) ho mX)
     (λk hk=>nf.2.2.1 k (by
      have:(BS xs dd.2).length<=k:=hk;simp only[BS,zdI] at this;simp only[aQ];omega))
     (λl hl k=>by
      obtain⟨q,hq,h3,h4⟩:=fG.1 hl;refine S.iG l ?_ k;have:=Vs q hq;rw[h4,h3] at this;simpa using this)
     (λc nm hc hr=>by
      rw[nf.2.2.1 (LH xs) (zdV _)] at hc;cases hc)
     (λhd=>by
      have:=(X.pQ g hd).1;rcases L3 with h3|⟨h3,_⟩
      ·rw[this] at h3;cases h3
      ·rw[this] at h3;cases h3)
     P7 (λi' o hi FA _ _=>JY yI Ao hi FA)
    refine⟨N2,D',t5,t4,?_⟩;obtain⟨bk,ds,hav⟩:=yI.res;subst hav;have Sj: ∀v∈e.jJ.map (λo=>zh bk e.jJ ds o.1),∀us,v≠ .AY us:=λv hv us=>by
     obtain⟨o,_,rfl⟩:=List.mem_map.1 hv;exact Ee _ _ _ _ _
    unfold Xv;rw[Sz Sj] at hj⊢;refine JW (by simp) (λi' a b' ha hb c' hvc=>?_) hv
    by_cases UP:i'=i
    ·subst UP
     rw[hj] at ha;cases ha;have kQ:i'<(e.jJ.map (λo=>zh bk e.jJ ds o.1)).length:=(List.getElem?_eq_some_iff.1 hj).1;rw[zed kQ] at hb;cases hb;obtain⟨nm,a,o,e1,e2,e3,e4⟩:=jq.1 hvc;obtain⟨v',mM,a',f1,f2,f3,_⟩:=Eg SE.1 YY XQ;rw[uz,Vy,e1] at f1;cases f1;have ho:o=0:=by
      have:nm.off []=some 0:=by simp[Nm.off,f3,fE]
      rw[this] at e3;cases e3;rfl
     subst ho;unfold ck;simp only[AV.isAgg,jv,ar,xF];exact⟨nm,a,by rw[t3,Vy];exact e1,f3,e2,by rw[e4]⟩
    ·rw[zee (Ne.symm UP)] at hb
     rw[ha] at hb;cases hb;rw[zeG] at ha;cases ho:e.jJ[i']? with
     |none=>rw[ho] at ha;cases ha
     |some o=>
      rw[ho] at ha;simp only[zdO,zdF] at ha;subst ha;exact Ij (λi nm h=>by rw[t1];exact h) t2 e.jJ ds (Ef Ao) c' hvc
 ·exact⟨_,_,h1,rK⟩
 ·cases h1
def Ap (P:Program)(base:Nat)(f:FuncId)(pa:oZ):Prop:=pa.sp.ok=true/\rJ P base f pa.sp pa.f
theorem J2 {pa:oZ}{f:FuncId}{args:List AV}{st:St}{W:List Nat}{fresh:Nat}{k:AV->St->Option α}{fail:Option α}{r:α}(hc:Ap P base f pa)(xm:fresh%100=0)(h:RK pa args st W fresh k fail=some r):
  fail=some r\/∃av eZ,k av eZ=some r/\xX P base W f args st fresh av eZ:=by
 unfold RK at h;split at h
 ·split at h
  ·rcases yg h hc.1 hc.2 xm with h1|⟨e,ids,av,xb,h1,rK,_⟩
   ·exact .inl h1
   ·exact .inr ⟨av,xb,h1,rK⟩
  ·split at h
   ·rename_i hw
    simp only[zdH] at hw;exact Qd hc.1 hc.2 xm hw.1.1.1 hw.1.1.2 hw.1.2 hw.2 h
   ·cases h
 ·rename_i j g n c SD
  split at h
  ·rename_i ep xs hs
   split at h
   ·cases h
   ·rename_i n'
    split at h
    ·cases h
    ·rename_i d hd
     split at h
     ·cases h
     ·rename_i hw
      simp only[zdH] at hw;have:=(Cf SD).2;rw[Nat.sub_zero] at this;exact Mp hc.1 hc.2 xm this hs hd hw.1.1.1.1 hw.1.1.1.2 hw.1.1.2 hw.1.2 hw.2 h
  ·cases h
theorem wM {f:FuncId}{args:List AV}{st:St}{W:List Nat}{fresh:Nat}{k:AV->St->Option α}{r:α}(xm:fresh%100=0): ∀(cs:List oZ),(∀c∈cs,Ap P base f c)->A7 args st W fresh k cs=some r->∃av eZ,k av eZ=some r/\xX P base W f args st fresh av eZ
 | [],_,h=>by simp[A7] at h
 |c::cs,hc,h=>by
  unfold A7 at h;rcases J2 (hc c (zdM ..)) xm h with h1|h1
  ·exact wM xm cs (λc' LN=>hc c' (zdL _ LN)) h1
  ·exact h1
end AM
namespace AM
open Go
variable {α:Type}{P:Program}{base:Nat}
noncomputable def Ei (P:Program)(tmps:Array Value):ResultVar->Sem Value
 | .tmp t=>pure (tmps.getD t Go.undef)
 | .cell a t=>do loadVar t (<-asAddr (tmps.getD a Go.undef))
def Mq:List Value->Value
 | [v]=>v
 |vs=> .tuple vs.toArray
theorem Mr (fn:Func)(tmps:Array Value)(w:World){vs:List Value}(h:(fn.results.toList.mapM (Ei P tmps)).run P w= .ok vs w):(results fn tmps).run P w= .ok (Mq vs) w:=by
 have e:results fn tmps=(do let vs<-fn.results.mapM (Ei P tmps);pure (if h:vs.size=1 then vs[0] else .tuple vs)):=rfl
 rw[e,<-Array.toArray_toList (xs:=fn.results),List.mapM_toArray];simp only[zd0,Sem.run_map,h,zd1,zd2];match vs with
 | []=>rfl
 | [v]=>rfl
 |a::b::l=>simp[Mq]
theorem s7 {st:St}: ∀(l:List ResultVar) (k:List AV->Option α) (r:α),tJ P st l k=some r->
  ∃vs,k vs=some r/\vs.length=l.length/\∀N D w a,kp N D w base st a->∃cs,(l.mapM (Ei P a.tmps)).run P w= .ok cs w/\bA N D w vs cs
 | [],k,r,h=>⟨[],h,rfl,λN D w a s=>⟨[],by simp,by simp only[bA]⟩⟩
 | .tmp t::l,k,r,h=>by
  unfold tJ at h;obtain⟨vs,h1,h2,h3⟩:=s7 l _ r h;refine⟨_,h1,by simp[h2],λN D w a s=>?_⟩
  obtain⟨cs,g1,g2⟩:=h3 N D w a s;refine⟨a.tmps.getD t Go.undef::cs,?_,?_⟩
  ·simp only[List.mapM_cons,Ei,zd0,zd2,zd1,g1]
  ·simp only[bA]
   exact⟨_,_,rfl,s.tmps t,g2⟩
 | .cell x t::l,k,r,h=>by
  unfold tJ at h;split at h
  ·rename_i i p hx
   obtain⟨u,h0,_,qQ⟩:=pF h;split at h0
   ·rename_i la
    obtain⟨vs,h1,h2,h3⟩:=s7 l _ r h0;refine⟨_,h1,by simp[h2],λN D w a s=>?_⟩
    obtain⟨cs,g1,g2⟩:=h3 N D w a s;have hv:=s.tmps x;rw[hx] at hv;obtain⟨nm,ad,o,e1,e2,e3,e4⟩:=jq.1 hv;obtain⟨f1,f2,_⟩:=qQ N D w base s.ny nm ad o e1 e2 e3;obtain⟨c,q1,q2⟩:=DK (P:=P) (N:=N) (D:=D) (w:=w) (ad:=Addr.at_ ad o) (v:=u) rfl la (mF f2 λj=>by simp[aX,Addr.at_,zdU])
    simp only[Instr.loadAt,Instr.sureAddr,zd0,zd2,zd1] at q1;refine⟨c::cs,?_,?_⟩
    ·simp only[List.mapM_cons,Ei,zd0,e4,asAddr,zd2,zd1,q1,g1]
    ·simp only[bA]
     exact⟨_,_,rfl,q2,g2⟩
   ·cases h0
  ·cases h
theorem Ms {N:Names}{D:Nat->Prop}{w:World}{l:List (Nat×cf)}{f:Nat->AV}{cs:List Value}(hl:l.map (·.1)=List.range cs.length)(h: ∀y,ck N D w (f y) (cs.getD y Go.undef)):bA N D w (l.map λo=>f o.1) cs:=by
 have e:(l.map λo=>f o.1)=(List.range cs.length).map f:=by rw[<-hl,List.map_map];rfl
 rw[e];clear e hl;have key: ∀(cs:List Value) (g:Nat->AV),(∀y,ck N D w (g y) (cs.getD y Go.undef))->bA N D w ((List.range cs.length).map g) cs:=by
  intro cs;induction cs with
  |nil=>intro g _;simp only[zdK,List.range_zero,List.map_nil,bA]
  |cons c cs ih=>
   intro g hg;simp only[zdJ,List.range_succ_eq_map,zex,List.map_map,bA];exact⟨c,cs,rfl,(by have:=hg 0;exact this),ih (g∘Nat.succ) λy=>by simpa using hg (y+1)⟩
 exact key cs f h
theorem Qe {N:Names}{D:Nat->Prop}{w:World}{l:List (Nat×cf)}{f:Nat->AV}{cs:List Value}(hl:l.map (·.1)=List.range cs.length)(h: ∀y,ck N D w (f y) (cs.getD y Go.undef)):ck N D w (qZ (l.map λo=>f o.1)) (Mq cs):=by
 have he:=Ms hl h;have hlen:=rA he;match l,cs,he,hlen with
 | [],[],he,_=>exact lJ.2 ⟨_,rfl,he⟩
 | [o],[v],he,_=>
  simp only[zex,List.map_nil,bA] at he;obtain⟨c,tK,e,h1,_⟩:=he;cases e;exact h1
 |o::o'::os,c::c'::cs,he,_=>exact lJ.2 ⟨_,rfl,he⟩
 | [],_::_,_,h=>simp at h
 |_::_,[],_,h=>simp at h
 | [_],_::_::_,_,h=>simp at h
 |_::_::_,[_],_,h=>simp at h
structure J3 (P:Program)(f:FuncId)(fn:Func)(sp:al):Prop where
 here:P.funcs[f]?=some fn
 name:(fn.name== "runtime.NumGoroutine")=false
 ok:sp.ok=true
 nt:sp.pre.jJ.length<=fn.ntmps
 res: ∀e∈sp.jb,e.jJ.map (·.1)=List.range fn.results.size
 body: ∃c,fn.body=some c/\ng fn c/\pH c
theorem SH {f:FuncId}{fn:Func}{sp:al}{F:sp.pre.den->Option (gS sp.jb)}{env:Env (gS sp.jb)}(hi:J3 P f fn sp)(hm:P.follows .mixedOrders=true)(he:sH P base env)(hl:xZ P base fn env)(hF: ∀d,ra P sp env fn d=F d):rJ P base f sp F:=by
 obtain⟨c,hb,Mt,Mu⟩:=hi.body;refine⟨⟨fn,hi.here,by simp[hb],hi.name⟩,λd r hr N D w lK S hlen nz=>?_⟩
 have hex:exec P env 100000 [.code c] (sp.pre.st fn.ntmps d) (RL P sp fn)=some r:=by
  rw[<-hr,<-hF];simp[ra,hb]
 have hg:Good fn [.code c]:=⟨by simpa [Item.ok] using Mt,by simpa [Item.YP] using Mu,by simp,by intro _ _ _ _ _ e;cases e⟩
 refine calls_of_wp hi.here hb ?_;have s:kp N D w base (sp.pre.st fn.ntmps d) {tmps:=lK.toArray++Array.replicate (fn.ntmps-lK.toArray.size) Go.undef,defers:=[]}:=by
  refine⟨S,λy=>?_,?_,rfl⟩
  ·have e:(lK.toArray++Array.replicate (fn.ntmps-lK.toArray.size) Go.undef).getD y Go.undef=lK.getD y Go.undef:=by
    rw[zeU,zdP,Array.getElem?_append];split
    ·simp
    ·rename_i hy
     rw[Array.getElem?_replicate,List.getElem?_eq_none (by simpa using hy)]
     split<;>rfl
   rw[e];exact nz y
  ·have:=hi.nt
   simp only[Array.size_append,List.size_toArray,Array.size_replicate,jt.st];omega
 refine D0 he hl hm _ _ _ _ _ hex hg N D w _ (bodyPost P fn _) s λout eZ hK N' D' w' a' s' x'=>?_;have XR:RL P sp fn .norm eZ=some r->a'.defers=[]/\∃v,(results fn a'.tmps).run P w'= .ok v w'/\xc sp.jb r λe _ d'=> ∃Ne De,ve base sp.pre N D (zi N (mT (λc=>c) sp.pre.heap d.2 (λ_=>none))) w e Ne De w' d'/\ck Ne De w' (qZ (e.jJ.map λo=>zh (λc=>c) e.jJ d'.1 o.1)) v:=by
  intro hK;unfold RL at hK;simp only at hK;obtain⟨vs,h1,h2,h3⟩:=s7 (base:=base) _ _ _ hK;obtain⟨cs,g1,g2⟩:=h3 N' D' w' a' s';obtain⟨x,hx,J4⟩:=zr _ _ _ h1 λe he=>(al.GJ hi.ok he).1.closed;cases hx;refine⟨s'.defers,_,Mr fn a'.tmps w' g1,uf _ _ (λe n d' tv ht=>?_) J4⟩;obtain⟨Ne,De,post,Ej⟩:=yy (al.yf hi.ok).st (d:=d.2) (s:={eZ with t:=λi=>(vs[i]?).getD .undef}) S s'.ny x' rfl ht;refine⟨Ne,De,post,?_⟩;have J5:=rA g2;refine Qe (f:=λy=>zh (λc=>c) e.jJ d'.1 y) (by rw[hi.res e tv,J5,h2];simp) λy=>Ej y _ ?_
  show ck N' D' w' ((vs[y]?).getD .undef) (cs.getD y Go.undef)
  cases ha:vs[y]? with
  |none=>simp only[Option.getD_none];exact pc
  |some u=>
   obtain⟨c',LN,hv⟩:=sA _ _ _ _ g2 ha;rw[zdP,LN];exact hv
 cases out with
 |norm=>exact XR hK
 |ret=>exact XR hK
 |exit id=>simp[RL] at hK
end AM
namespace AM
open Go
variable {α:Type}{P:Program}{base:Nat}
theorem J6 {a b:Out}(h:N0 a b=true):a=b:=by
 cases a<;>cases b<;>simp[N0] at h<;>first|rfl|(subst h;rfl)
theorem Aq {s:St}{b:kr}{o:Out}: ∀(es:List jt) (outs:List Out) (k:gS es->Option α) (r:α),re s b o es outs k=some r->(∀e∈es,wI e)->∃x,k x=some r/\xc es x λe n d'=>Sv s b e d'/\(outs[n]?).getD .norm=o
 | [],outs,k,r,h,_=>by simp[re] at h
 | [e],[],k,r,h,hc=>by simp[re] at h
 | [e],o'::outs,k,r,h,hc=>by
  unfold re at h;simp only at h;split at h
  ·rename_i ho
   rcases rz h (hc e (zdM ..)) with h1|⟨d,h1,h2⟩
   ·cases h1
   ·exact⟨d,h1,h2,by simp[J6 ho]⟩
  ·cases h
 |e::e'::es,[],k,r,h,hc=>by simp[re] at h
 |e::e'::es,o'::outs,k,r,h,hc=>by
  unfold re at h;simp only at h;have XS:re s b o (e'::es) outs (λd=>k (.inr d))=some r->∃x,k x=some r/\xc (e::e'::es) x λe n d'=>Sv s b e d'/\((o'::outs)[n]?).getD .norm=o:=by
   intro h1;obtain⟨x,h3,h4⟩:=Aq (e'::es) outs _ r h1 λe he=>hc e (zdL _ he);exact⟨.inr x,h3,by simpa [xc] using h4⟩
  split at h
  ·rename_i ho
   rcases rz (k:=λd=>k (.inl d)) h (hc e (zdM ..)) with h1|⟨d,h1,h2⟩
   ·exact XS h1
   ·exact⟨.inl d,h1,h2,by simp[J6 ho]⟩
  ·exact XS h
def GL (base:Nat)(sp:bK)(N:Names)(D O:Nat->Prop)(w:World)(x:gS sp.jb)(e:Exit)(a':Act)(w':World):Prop:=
 e≠ .normal/\xc sp.jb x λe' n d'=>e=Ad ((sp.outs[n]?).getD .norm)/\∃Ne De,ve base sp.pre N D O w e' Ne De w' d'/\kp Ne De w' base (e'.st sp.nt d') a'
def Ek (base:Nat)(sp:bK)(N:Names)(D O:Nat->Prop)(w:World):sp.pre.den⊕gS sp.jb->Exit->Act->World->Prop
 | .inl d',e,a',w'=>e= .normal/\∃Ne De,ve base sp.pre N D O w sp.pre Ne De w' d'/\kp Ne De w' base (sp.pre.st sp.nt d') a'
 | .inr x,e,a',w'=>GL base sp N D O w x e a' w'
def nD (P:Program)(base:Nat)(fn:Func)(id:Nat)(sp:bK)(F:sp.pre.den->Option (sp.pre.den⊕gS sp.jb)):Prop:=
 ∀d r,F d=some r->∀N D w a,kp N D w base (sp.pre.st sp.nt d) a->(rb id fn).wp P (Ek base sp N D (zi N (mT (λc=>c) sp.pre.heap d.2 (λ_=>none))) w r) a w
def bK.ok (sp:bK):Bool:=sp.pre.closed&&sp.jb.all λe=>Vu sp.pre e
theorem bK.GJ {sp:bK}(h:sp.ok=true){e:jt}(he:e∈sp.jb):P4 sp.pre e:=by
 simp only[bK.ok,zdH,zej] at h;exact GD (h.2 e he)
theorem bK.yf {sp:bK}(h:sp.ok=true):wI sp.pre:=by
 simp only[bK.ok,zdH] at h;exact uR h.1
theorem SJ {fn:Func}{id:Nat}{sp:bK}{F:sp.pre.den->Option (sp.pre.den⊕gS sp.jb)}{env:Env (sp.pre.den⊕gS sp.jb)}(l8:sp.ok=true)(Mt:ng fn (rb id fn))(Mu:pH (rb id fn))(hm:P.follows .mixedOrders=true)(he:sH P base env)(hl:xZ P base fn env)
  (hF: ∀d,vq P sp env fn id d=F d):nD P base fn id sp F:=by
 intro d r hr N D w a s;have hex:exec P env 100000 [.code (rb id fn)] (sp.pre.st sp.nt d) (RM sp)=some r:=by
  rw[<-hr,<-hF];rfl
 have hg:Good fn [.code (rb id fn)]:=⟨by simpa [Item.ok] using Mt,by simpa [Item.YP] using Mu,by simp,by intro _ _ _ _ _ e;cases e⟩
 refine D0 he hl hm _ _ _ _ _ hex hg N D w _ (Ek base sp N D (zi N (mT (λc=>c) sp.pre.heap d.2 (λ_=>none))) w r) s λout eZ hK N' D' w' a' s' x'=>?_;unfold RM at hK;split at hK
 ·cases hK
 ·rename_i Sj
  simp only[zdN] at Sj;have za0: ∀o,o≠ .norm->re eZ (BT sp.pre) o sp.jb sp.outs (λd=>some (.inr d))=some r->Ek base sp N D (zi N (mT (λc=>c) sp.pre.heap d.2 (λ_=>none))) w r (Ad o) a' w':=by
   intro o ho h1;obtain⟨x,hx,J4⟩:=Aq _ _ _ _ h1 λe he=>(bK.GJ l8 he).closed;cases hx;refine⟨by cases o<;>simp[Ad] at ho⊢,uf _ _ (λe n d' tv ht=>?_) J4⟩
   obtain⟨ht,jr⟩:=ht;obtain⟨Ne,De,post,Ej⟩:=yy (bK.yf l8).st (d:=d.2) s.ny s'.ny x' rfl ht;exact⟨by rw[jr],Ne,De,post,post.ny,λy=>Ej y _ (s'.tmps y),by rw[s'.nt,Sj];rfl,s'.defers⟩
  cases out with
  |ret=>exact za0 .ret (by intro e;cases e) hK
  |exit id=>exact za0 (.exit id) (by intro e;cases e) hK
  |norm=>
   rcases rz (k:=λd=>some (Sum.inl d)) (show oP sp.pre eZ (BT sp.pre) (λd _ _=>some (Sum.inl d)) none=some r from hK) (bK.yf l8) with h1|⟨d',h1,ht⟩
   ·cases h1
   ·cases h1
    obtain⟨Ne,De,post,Ej⟩:=yy (bK.yf l8).st (d:=d.2) s.ny s'.ny x' rfl ht;exact⟨rfl,Ne,De,post,post.ny,λy=>Ej y _ (s'.tmps y),by rw[s'.nt,Sj];rfl,s'.defers⟩
theorem Ch {c:Code}{Q Q':Exit->Act->World->Prop}(h: ∀e a w,Q e a w->Q' e a w): ∀(n:Nat) (a:Act) (w:World),Code.rounds P c Q n a w->Code.rounds P c Q' n a w
 |0,_,_,h'=>h'.elim
 |n+1,a,w,h'=>by
  refine wp_mono h' λe a' w' hq=>?_;cases e with
  |normal=>exact Ch h n a' w' hq
  |exit id=>exact h _ _ _ hq
  |goto l=>exact h _ _ _ hq
  |ret=>exact h _ _ _ hq
  |panic ch=>exact h _ _ _ hq
  |outgrown=>exact h _ _ _ hq
theorem ve.trans {pre e:jt}{N N1 Ne:Names}{D D1 De O O1:Nat->Prop}{w w1 w':World}{d1:pre.den}{d:e.den}(hO:O1=zi N1 (mT (λc=>c) pre.heap d1.2 (λ_=>none)))(h1:ve base pre N D O w pre N1 D1 w1 d1)(h2:ve base pre N1 D1 O1 w1 e Ne De w' d):ve base pre N D O w e Ne De w' d:=by
 subst hO;refine⟨h2.ny,h1.ext.trans h2.ext,λc uz hc he=>?_,λg hg he k c nm h3 h4=>h2.Oy g hg he k c nm (h1.Oy g hg hg k c nm h3 h4) h4⟩;rw[h2.sU c uz hc he];obtain⟨q,hq,h3,_⟩:=id hc;exact h1.sU c uz hc ⟨q,hq,h3⟩
theorem GL.trans {sp:bK}{N N1:Names}{D D1 O O1:Nat->Prop}{w w1:World}{d1:sp.pre.den}(hO:O1=zi N1 (mT (λc=>c) sp.pre.heap d1.2 (λ_=>none)))(h1:ve base sp.pre N D O w sp.pre N1 D1 w1 d1){x:gS sp.jb}{e:Exit}{a':Act}{w':World}(h2:GL base sp N1 D1 O1 w1 x e a' w'):GL base sp N D O w x e a' w':=by
 refine⟨h2.1,uf _ _ (λe' n d' _ hq=>?_) h2.2⟩;obtain⟨g1,Ne,De,g2,g3⟩:=hq;exact⟨g1,Ne,De,h1.trans hO g2,g3⟩
theorem El {fn:Func}{id:Nat}{sp:bK}{F:sp.pre.den->Option (sp.pre.den⊕gS sp.jb)}(hR:nD P base fn id sp F): ∀(n:Nat) (d:sp.pre.den) (x:gS sp.jb),iter F n d=some x->∀N D w a,kp N D w base (sp.pre.st sp.nt d) a->
  Code.rounds P (rb id fn) (GL base sp N D (zi N (mT (λc=>c) sp.pre.heap d.2 (λ_=>none))) w x) n a w
 |0,d,x,h,_,_,_,_,_=>by simp[iter] at h
 |n+1,d,x,h,N,D,w,a,s=>by
  simp only[iter] at h;split at h
  ·cases h
  ·rename_i y hy
   cases h;refine wp_mono (hR d _ hy N D w a s) λe a' w' hq=>?_;have lF:=hq.1;cases e with
   |normal=>exact absurd rfl lF
   |exit id=>exact hq
   |goto l=>exact hq
   |ret=>exact hq
   |panic ch=>exact hq
   |outgrown=>exact hq
  ·rename_i d1 hd
   refine wp_mono (hR d _ hd N D w a s) λe a' w' hq=>?_;obtain⟨rfl,N1,D1,post,s1⟩:=hq;exact Ch (λe a2 w2 h2=>GL.trans rfl post h2) n a' w' (El hR n d1 x h N1 D1 w' a' s1)
theorem Il {fn:Func}{id:Nat}{sp:bK}{F:sp.pre.den->Option (sp.pre.den⊕gS sp.jb)}(l8:sp.ok=true)(hR:nD P base fn id sp F){st:St}{k:Out->St->Option α}{fail:Option α}{r:α}(h:LI sp F st k fail=some r):
  fail=some r\/∃out eZ,k out eZ=some r/\Sa P base fn id st out eZ:=by
 unfold LI at h;split at h
 ·cases h
 ·rename_i Sj
  simp only[zdN] at Sj;rcases qd h (bK.yf l8) with h1|⟨d,ro,b,h1,_,M,ht⟩
  ·exact .inl h1
  ·right
   split at h1
   ·cases h1
   ·rename_i x hx
    obtain⟨e,n,d',he,h2,h3⟩:=ye _ _ _ _ h1;split at h2
    ·cases h2
    ·rename_i gX
     have hex:=bK.GJ l8 he;refine⟨_,_,h2,λN D w a s=>?_⟩;obtain⟨m,hm⟩:=oY.1 hx;obtain⟨S1,T1⟩:=ht N D w base s.ny;have s1:kp (je N b sp.pre.heap) (Bj N D ro) w base (sp.pre.st sp.nt d) a:=⟨S1,λy=>T1 y _ (s.tmps y),by rw[s.nt,Sj];rfl,s.defers⟩
     refine wp_mono (wp_loop_rounds m (El hR m d x hm _ _ w a s1)) λen a' w' Qa=>?_;obtain⟨jr,Ne,De,post,se⟩:=h3 _ Qa.2;obtain⟨N',D',S',X',tr,_⟩:=Bm (s:=st) rfl s.ny M hex gX (lt:=false) (by intro e';cases e') (λbl hb=>M.canon hb) post.ny post.ext (λq hq uz=>post.sU q.1 uz (hex.var q hq uz) ⟨q,hq,rfl⟩) (JV post.Oy)
     refine⟨jr,N',D',⟨S',λy=>?_,by rw[se.nt];exact Sj.symm,se.defers⟩,X'⟩
     exact(Ed λo' mX z=>⟨D8 _ _ _ _,λg hg=>tr o'.2 z g (λc hc=>hex.closed.cs c (.inl (List.mem_flatMap.2 ⟨o',mX,hc⟩))) (λg hg=>hex.closed.ks g (.inl (List.mem_flatMap.2 ⟨o',mX,hg⟩))) (by intro e';cases e') hg⟩).val (se.tmps y)
def pI (P:Program)(base:Nat)(calls:List (Nat×List oZ)):Prop:= ∀p∈calls,∀c∈p.2,Ap P base p.1 c
def oy (P:Program)(base:Nat)(fn:Func)(loops:List (Nat×List uY)):Prop:= ∀p∈loops,∀l∈p.2,l.sp.ok=true/\nD P base fn p.1 l.sp l.f
theorem vK {β:Type}{n:Nat}{x:β}: ∀{l:List (Nat×β)},uK n l=some x->(n,x)∈l
 | [],h=>by simp[uK] at h
 |p::l,h=>by
  simp only[uK] at h;split at h
  ·rename_i e
   cases h;subst e;exact zdM ..
  ·exact zdL _ (vK h)
theorem Bo {calls:List (Nat×List oZ)}{loops:List (Nat×List uY)}(h:pI P base calls):sH P base (sy (α:=α) calls loops):=by
 intro f args st fresh k r xm hc;simp only[sy] at hc⊢;cases hf:uK f calls with
 |none=>rw[hf] at hc;cases hc
 |some c=>
  rw[hf] at hc;exact wM xm c (h _ (vK hf)) hc
theorem Bp {fn:Func}{calls:List (Nat×List oZ)}{loops:List (Nat×List uY)}(h:oy P base fn loops):xZ P base fn (sy (α:=α) calls loops):=by
 intro id st k r hc;simp only[sy] at hc;cases hf:uK id loops with
 |none=>rw[hf] at hc;cases hc
 |some ls=>
  rw[hf] at hc;have hls:=h _ (vK hf);simp only at hls hc;clear hf h;induction ls with
  |nil=>simp[C6] at hc
  |cons l ls ih=>
   unfold C6 at hc;obtain⟨g1,g2⟩:=hls l (zdM ..);rcases Il g1 g2 hc with h1|h1
   ·exact ih h1 λl hl=>hls l (zdL _ hl)
   ·exact h1
end AM
namespace AM
open Go
variable {α:Type}{P:Program}{base:Nat}
def oR:Code->List Nat
 | .seq a b=>oR a++oR b
 | .cond _ a b=>oR a++oR b
 | .block _ c=>oR c
 | .scope c=>oR c
 | .loop c=>(mu c).toList++oR c
 |_=> []
def pS:Code->Bool
 | .seq a b=>pS a&&pS b
 | .cond _ a b=>pS a&&pS b
 | .block _ c=>pS c
 | .scope c=>pS c
 | .loop c=>pS c
 | .region _ ops draw=>!draw||sY ops
 |_=>true
theorem sK: ∀(c:Code),pS c=true->pH c
 | .seq a b,h=>by simp only[pS,zdH] at h;exact⟨sK a h.1,sK b h.2⟩
 | .cond _ a b,h=>by simp only[pS,zdH] at h;exact⟨sK a h.1,sK b h.2⟩
 | .block _ c,h=>sK c h
 | .scope c,h=>sK c h
 | .region _ ops draw,h=>by
  intro hd;subst hd;simpa [pS] using h
 | .loop _,_=>trivial
 | .skip,_=>trivial
 | .exit _,_=>trivial
 | .ret,_=>trivial
 | .label _,_=>trivial
 | .goto _,_=>trivial
 | .rangeFunc _ _ _ _,_=>trivial
 | .refuse _,_=>trivial
theorem jZ {id:Nat}: ∀(c:Code) {c':Code},da id c=some c'->id∈oR c
 | .seq a b,c',h=>by
  simp only[da] at h;split at h
  ·exact zdQ _ (jZ a ‹_›)
  ·exact zdR _ (jZ b h)
 | .cond _ a b,c',h=>by
  simp only[da] at h;split at h
  ·exact zdQ _ (jZ a ‹_›)
  ·exact zdR _ (jZ b h)
 | .block _ c,_,h=>by simp only[da] at h;exact jZ c h
 | .scope c,_,h=>by simp only[da] at h;exact jZ c h
 | .loop c,_,h=>by
  simp only[da] at h;split at h
  ·rename_i e;exact zdQ _ (by rw[e];simp)
  ·exact zdR _ (jZ c h)
 | .region _ _ _,_,h=>by simp[da] at h
 | .skip,_,h=>by simp[da] at h
 | .exit _,_,h=>by simp[da] at h
 | .ret,_,h=>by simp[da] at h
 | .label _,_,h=>by simp[da] at h
 | .goto _,_,h=>by simp[da] at h
 | .rangeFunc _ _ _ _,_,h=>by simp[da] at h
 | .refuse _,_,h=>by simp[da] at h
theorem Em {a b:List Nat}(h:AM.nodup (a++b)=true):AM.nodup a=true:=by
 induction a with
 |nil=>rfl
 |cons x xs ih=>
  simp only[zef,AM.nodup,zdH,ze0,zeQ,decide_eq_false_iff_not,zeY,not_or] at h⊢;exact⟨h.1.1,ih h.2⟩
theorem qJ {fn:Func}: ∀(c:Code),(∀id c',da id c=some c'->rb id fn=c')->AM.nodup (oR c)=true->ng fn c
 | .seq a b,H,h=>by
  simp only[oR] at h;obtain⟨h1,h2⟩:=nodup_append h;refine⟨qJ a (λid c' e=>H id c' (by simp only[da,e])) (Em h),qJ b (λid c' e=>H id c' ?_) h1⟩
  have hn:da id a=none:=by
   cases ha:da id a with
   |none=>rfl
   |some x=>exact absurd (jZ b e) (h2 id (jZ a ha))
  simp only[da,hn,e]
 | .cond o a b,H,h=>by
  simp only[oR] at h;obtain⟨h1,h2⟩:=nodup_append h;refine⟨qJ a (λid c' e=>H id c' (by simp only[da,e])) (Em h),qJ b (λid c' e=>H id c' ?_) h1⟩
  have hn:da id a=none:=by
   cases ha:da id a with
   |none=>rfl
   |some x=>exact absurd (jZ b e) (h2 id (jZ a ha))
  simp only[da,hn,e]
 | .block i c,H,h=>qJ c (λid c' e=>H id c' (by simpa only[da] using e)) h
 | .scope c,H,h=>qJ c (λid c' e=>H id c' (by simpa only[da] using e)) h
 | .loop c,H,h=>by
  simp only[oR] at h;obtain⟨h1,h2⟩:=nodup_append h;refine⟨λid e=>H id c (by simp only[da,e,if_true]),qJ c (λid c' e=>H id c' ?_) h1⟩
  have lF: ¬mu c=some id:=λe'=>h2 id (by rw[e'];simp) (jZ c e)
  simp only[da,if_neg lF,e]
 | .region _ _ _,_,_=>trivial
 | .skip,_,_=>trivial
 | .exit _,_,_=>trivial
 | .ret,_,_=>trivial
 | .label _,_,_=>trivial
 | .goto _,_,_=>trivial
 | .rangeFunc _ _ _ _,_,_=>trivial
 | .refuse _,_,_=>trivial
theorem J7 {fn:Func}{c:Code}(hb:fn.body=some c)(h:AM.nodup (oR c)=true):ng fn c:=
 qJ c (λid c' e=>by simp only[rb,hb,e,zeV]) h
theorem uT {fn:Func}{id:Nat}: ∀(c:Code) {c':Code},da id c=some c'->ng fn c->pS c=true->ng fn c'/\pS c'=true
 | .seq a b,c',h,hl,hd=>by
  simp only[pS,zdH] at hd;simp only[da] at h;split at h
  ·rename_i x e
   cases h;exact uT a e hl.1 hd.1
  ·exact uT b h hl.2 hd.2
 | .cond _ a b,c',h,hl,hd=>by
  simp only[pS,zdH] at hd;simp only[da] at h;split at h
  ·rename_i x e
   cases h;exact uT a e hl.1 hd.1
  ·exact uT b h hl.2 hd.2
 | .block _ c,_,h,hl,hd=>by simp only[da] at h;exact uT c h hl hd
 | .scope c,_,h,hl,hd=>by simp only[da] at h;exact uT c h hl hd
 | .loop c,_,h,hl,hd=>by
  simp only[da] at h;split at h
  ·cases h;exact⟨hl.2,hd⟩
  ·exact uT c h hl.2 hd
 | .region _ _ _,_,h,_,_=>by simp[da] at h
 | .skip,_,h,_,_=>by simp[da] at h
 | .exit _,_,h,_,_=>by simp[da] at h
 | .ret,_,h,_,_=>by simp[da] at h
 | .label _,_,h,_,_=>by simp[da] at h
 | .goto _,_,h,_,_=>by simp[da] at h
 | .rangeFunc _ _ _ _,_,h,_,_=>by simp[da] at h
 | .refuse _,_,h,_,_=>by simp[da] at h
def Ar (fn:Func):Bool:=match fn.body with|some c=>AM.nodup (oR c)&&pS c|none=>false
theorem Mv {fn:Func}(h:Ar fn=true): ∃c,fn.body=some c/\ng fn c/\pH c:=by
 unfold Ar at h;split at h
 ·rename_i c hc
  simp only[zdH] at h;exact⟨c,hc,J7 hc h.1,sK c h.2⟩
 ·cases h
theorem GM {fn:Func}(h:Ar fn=true)(id:Nat):ng fn (rb id fn)/\pH (rb id fn):=by
 unfold Ar at h;split at h
 ·rename_i c hc
  simp only[zdH] at h;unfold rb;rw[hc];simp only;cases hf:da id c with
  |none=>exact⟨trivial,trivial⟩
  |some c'=>
   obtain⟨h1,h2⟩:=uT c hf (J7 hc h.1) h.2;exact⟨h1,sK _ h2⟩
 ·cases h
def Bq:List Nat->List Nat->Bool
 | [],[]=>true
 |a::l,b::m=>decide (a=b)&&Bq l m
 |_,_=>false
theorem GN: ∀{l m:List Nat},Bq l m=true->l=m
 | [],[],_=>rfl
 |a::l,b::m,h=>by
  simp only[Bq,zdH,zdN] at h;rw[h.1,GN h.2]
 | [],_::_,h=>by simp[Bq] at h
 |_::_,[],h=>by simp[Bq] at h
def SK (fn:Func)(sp:al):Bool:=sp.ok&&decide (sp.pre.jJ.length<=fn.ntmps)&& (sp.jb.all λe=>Bq (e.jJ.map (·.1)) (List.range fn.results.size))&&Ar fn
theorem J3.of {f:FuncId}{fn:Func}{sp:al}(h1:P.funcs[f]?=some fn)(h2:(fn.name== "runtime.NumGoroutine")=false)(h3:SK fn sp=true):J3 P f fn sp:=by
 simp only[SK,zdH,zdN,zej] at h3;exact⟨h1,h2,h3.1.1.1,h3.1.1.2,λe he=>GN (h3.1.2 e he),Mv h3.2⟩
theorem Dc {f:FuncId}{fn:Func}{sp:al}{F:sp.pre.den->Option (gS sp.jb)}{calls:List (Nat×List oZ)}{loops:List (Nat×List uY)}(h1:P.funcs[f]?=some fn)(h2:(fn.name== "runtime.NumGoroutine")=false)(h3:SK fn sp=true)
  (hm:P.follows .mixedOrders=true) (hc:pI P base calls) (hl:oy P base fn loops) (hF: ∀d,ra P sp (sy calls loops) fn d=F d):rJ P base f sp F:=
 SH (J3.of h1 h2 h3) hm (Bo hc) (Bp hl) hF
theorem As {fn:Func}{id:Nat}{sp:bK}{F:sp.pre.den->Option (sp.pre.den⊕gS sp.jb)}{calls:List (Nat×List oZ)}{loops:List (Nat×List uY)}(l8:sp.ok=true)(hb:Ar fn=true)
  (hm:P.follows .mixedOrders=true) (hc:pI P base calls) (hl:oy P base fn loops) (hF: ∀d,vq P sp (sy calls loops) fn id d=F d):nD P base fn id sp F:=
 SJ l8 (GM hb id).1 (GM hb id).2 hm (Bo hc) (Bp hl) hF
theorem aa:pI P base []:=λp hp=>by simp at hp
theorem dn {i:Nat}{cs:List oZ}{l:List (Nat×List oZ)}(h1: ∀c∈cs,Ap P base i c)(h:pI P base l):pI P base ((i,cs)::l):=List.forall_mem_cons.2 ⟨h1,h⟩
theorem lX {i:Nat}{c:oZ}{cs:List oZ}(h1:c.sp.ok=true)(h2:rJ P base i c.sp c.f)(h: ∀y∈cs,Ap P base i y): ∀y∈c::cs,Ap P base i y:=List.forall_mem_cons.2 ⟨⟨h1,h2⟩,h⟩
theorem oK {i:Nat}: ∀y∈([]:List oZ),Ap P base i y:=λp hp=>by simp at hp
theorem ae {fn:Func}:oy P base fn []:=λp hp=>by simp at hp
theorem ly {fn:Func}{i:Nat}{ls:List uY}{l:List (Nat×List uY)}(h1: ∀x∈ls,x.sp.ok=true/\nD P base fn i x.sp x.f)(h:oy P base fn l):oy P base fn ((i,ls)::l):=List.forall_mem_cons.2 ⟨h1,h⟩
theorem za1 {fn:Func}{i:Nat}{x:uY}{ls:List uY}(h1:x.sp.ok=true)(h2:nD P base fn i x.sp x.f)(h: ∀y∈ls,y.sp.ok=true/\nD P base fn i y.sp y.f): ∀y∈x::ls,y.sp.ok=true/\nD P base fn i y.sp y.f:=List.forall_mem_cons.2 ⟨⟨h1,h2⟩,h⟩
theorem Br {fn:Func}{i:Nat}: ∀y∈([]:List uY),y.sp.ok=true/\nD P base fn i y.sp y.f:=λp hp=>by simp at hp
end AM
namespace AM
open Go
variable {α:Type}{P:Program}{base:Nat}
inductive Prim where
 |load (k:IntKind) (p:List Step)
 |add (k:IntKind) (p:List Step)
 |swap (k:IntKind) (p:List Step)
 |once (pd pm:List Step)
def At (st:St)(i:Nat)(q p:List Step)(off:Nat)(kd:IntKind)(k:Int->Option α):Option α:=
 st.get i q λu=>match decide (fE p u.sh=some off) with
  |true=>st.get i (q++p) λv=>(match v with
   | .val (.int k' x)=>(match decide (k'=kd) with|true=>k x|false=>none)
   |_=>none)
  |false=>none
def Df:AV->Option (FuncId×List AV)
 | .xh (.func g) cs=>some (g,cs)
 | .AW (.func g) cs=>some (g,cs)
 |_=>none
noncomputable def Im (calls:List (Nat×List oZ))(pr:Prim)(args:List AV)(st:St)(fresh:Nat)(K:AV->St->Option α):Option α:=match pr,args with
 | .load kd p,[.ptr i q]=>At st i q p 0 kd λx=>K (.val (.int kd x)) st
 | .add kd p,[.ptr i q, .val (.int k' y)]=>(match decide (k'=kd) with
  |true=>At st i q p 0 kd λx=>st.store i (q++p) (.val (.int kd (wr kd (x+y)))) λeZ=>K (.val (.int kd (wr kd (x+y)))) eZ
  |false=>none)
 | .swap kd p,[.ptr i q, .val (.int k' y)]=>(match decide (k'=kd) with
  |true=>At st i q p 0 kd λx=>st.store i (q++p) (.val (.int kd y)) λeZ=>K (.val (.int kd x)) eZ
  |false=>none)
 | .once pd pm,[.ptr i q,cv]=>(match Df cv with
  |none=>none
  |some (g,cs)=>At st i q pd 0 .u32 λd=>(match af (d=0) with
  |false=>K (.AY []) st
  |true=>At st i q pm 1 .i32 λm=>(match af (m=0) with
   |false=>none
   |true=>match st.store i (q++pm) (.val (.int .i32 1)) some,uK g calls with
    |some xb,some c=>A7 cs xb (Pz cs xb fresh c).2 fresh (λav H6=>(match av with
     | .AY []=>At H6 i q pd 0 .u32 λ_=>At H6 i q pm 1 .i32 λm2=>(match af (m2=1) with
      |true=>H6.store i (q++pd) (.val (.int .u32 1)) λst3=>st3.store i (q++pm) (.val (.int .i32 0)) λst4=>K (.AY []) st4
      |false=>none)
     |_=>none)) c
    |_,_=>none)))
 |_,_=>none
noncomputable def Io (calls:List (Nat×List oZ))(pr:Prim)(args:List AV)(st:St)(fresh:Nat):List Nat×List Nat:=match pr,args with
 | .load _ _,[.ptr i _]=>([i],[])
 | .add _ _,[.ptr i _,_]=>([],[i])
 | .swap _ _,[.ptr i _,_]=>([],[i])
 | .once _ pm,[.ptr i q,cv]=>(match Df cv with
  |none=>([],[i])
  |some (g,cs)=>(match st.store i (q++pm) (.val (.int .i32 1)) some,uK g calls with
   |some xb,some c=>((Pz cs xb fresh c).1,i::(Pz cs xb fresh c).2)
   |_,_=>([],[i])))
 |_,_=>([],[])
noncomputable def zu (vL:List (Nat×Prim))(calls:List (Nat×List oZ))(loops:List (Nat×List uY)):Env α where
 call f args st fresh k:=match uK f vL with
  |some pr=>Im calls pr args st fresh k
  |none=>(sy calls loops).call f args st fresh k
 loop id st k:=(sy calls loops).loop id st k
 fp f args st fresh:=match uK f vL with
  |some pr=>Io calls pr args st fresh
  |none=>(sy (α:=α) calls loops).fp f args st fresh
def SL (P:Program)(f:FuncId):Prop:= ∃fn,P.funcs[f]?=some fn/\fn.body.isNone=false/\(fn.name== "runtime.NumGoroutine")=false
def za2 (P:Program)(f:FuncId)(k:IntKind):Prop:=SL P f/\∀(b o:Nat) (x:Int) (w:World),w.cell? ⟨b,o,none⟩=some (.int k x)->Calls P f #[.pointer (some ⟨b,o,none⟩)] w λe w'=>e= .returned (.int k x)/\w'=w
def za3 (P:Program)(f:FuncId)(k:IntKind):Prop:=SL P f/\∀(b o:Nat) (x y:Int) (w:World),w.cell? ⟨b,o,none⟩=some (.int k x)->w.frozen? ⟨b,o,none⟩=false->
 Calls P f #[.pointer (some ⟨b,o,none⟩), .int k y] w λe w'=>e= .returned (.int k (k.wrap (x+y)))/\w'=w.setCell ⟨b,o,none⟩ (.int k (k.wrap (x+y)))
def XT (P:Program)(f:FuncId):Prop:=SL P f/\
 (∀(a:Addr) (d:Int),¬d=0->∀(fv:Value) (w:World),w.cell? a=some (.int .u32 d)->Calls P f #[.pointer (some a),fv] w λe w'=>e= .returned (.tuple #[])/\w'=w)/\
 (∀(b off:Nat) (g:FuncId) (first sL:Array Value) (En:World->Prop) (w:World),(∀w:World,(callFunc g (first++sL)).run P w= .ok (.enter g (first++sL)) w)->
  w.cell? ⟨b,off,none⟩=some (.int .u32 0)->w.cell? ⟨b,off+1,none⟩=some (.int .i32 0)->w.frozen? ⟨b,off+1,none⟩=false->
  (Calls P g (first++sL) (w.setCell ⟨b,off+1,none⟩ (.int .i32 1)) λe w'=>e= .returned (.tuple #[])/\En w'/\(∃x,w'.cell? ⟨b,off,none⟩=some x)/\w'.frozen? ⟨b,off,none⟩=false/\w'.cell? ⟨b,off+1,none⟩=some (.int .i32 1)/\w'.frozen? ⟨b,off+1,none⟩=false)->
  Calls P f #[.pointer (some ⟨b,off,none⟩), .func (.func g) first sL] w λe w'=>e= .returned (.tuple #[])/\∃w1,En w1/\w'=(w1.drew.setCell ⟨b,off,none⟩ (.int .u32 1)).setCell ⟨b,off+1,none⟩ (.int .i32 0))
theorem yz: ∀(q p:List Step) (sh t:Sh) (o o':Nat),fE q sh=some o->zJ q sh=some t->fE p t=some o'->fE (q++p) sh=some (o+o')
 | [],p,sh,t,o,o',h1,h2,h3=>by
  simp only[fE,zdF] at h1;simp only[zJ,zdF] at h2;subst h1;subst h2;rw[zeA,h3,zep]
 | .im n::q,p, .agg l,t,o,o',h1,h2,h3=>by
  simp only[zef,fE,zJ] at h1 h2⊢;cases hl:l[n]? with
  |none=>simp[hl] at h1
  |some s=>
   simp only[hl] at h1 h2⊢;cases hq:fE q s with
   |none=>simp[hq] at h1
   |some o1=>
    simp only[hq,zdO,zdF] at h1;rw[yz q p s t o1 o' hq h2 h3];simp only[zdO,zdF];omega
 | .idx i::q,p, .arr n e,t,o,o',h1,h2,h3=>by
  simp only[zef,fE,zJ] at h1 h2⊢;split at h1
  ·rename_i hi
   rw[if_pos hi];cases hq:fE q e with
   |none=>simp[hq] at h1
   |some o1=>
    simp only[hq,zdO,zdF] at h1;rw[yz q p e t o1 o' hq h2 h3];simp only[zdO,zdF];omega
  ·cases h1
 | .im n::q,p, .one,t,o,o',h1,h2,h3=>by simp[fE] at h1
 | .im n::q,p, .arr _ _,t,o,o',h1,h2,h3=>by simp[fE] at h1
 | .idx i::q,p, .one,t,o,o',h1,h2,h3=>by simp[fE] at h1
 | .idx i::q,p, .agg _,t,o,o',h1,h2,h3=>by simp[fE] at h1
theorem VD {N:Names}{D:Nat->Prop}{w:World}{s:St}(S:jU N D w base s.h){i:Nat}{q p:List Step}{t:Sh}{nm:Nm}{o o':Nat}(hn:N i=some nm)(hs:s.shape i q=some t)(ho:nm.off q=some o)(hp:fE p t=some o'):nm.off (q++p)=some (o+o'):=by
 unfold St.shape at hs;split at hs
 ·rename_i v hv
  obtain⟨mM,a,e1,_,e3,e4,_⟩:=S.obj i _ hv;rw[hn] at e1;cases e1;have key: ∀x:List Step,nm.off x=fE x nm.sh:=λx=>by unfold Nm.off;split<;>simp[e3]
  rw[key] at ho⊢;rw[e4] at ho⊢;exact yz q p _ t o o' ho hs hp
 ·rename_i ro ty xs hv
  obtain⟨mM,e1,e2,e3,_⟩:=S.obj i _ hv;rw[hn] at e1;cases e1;split at hs
  ·rename_i j q'
   simp only[zef,Nm.off,e2,if_true] at ho⊢;split at ho
   ·rename_i hj
    rw[if_pos hj];cases hq:fE q' nm.sh with
    |none=>simp[hq] at ho
    |some o1=>
     simp only[hq,zdO,zdF] at ho;rw[yz q' p nm.sh t o1 o' hq (by rw[e3];exact hs) hp]
     simp only[zdO,zdF];omega
   ·cases ho
  ·cases hs
 ·cases hs
theorem sM {st:St}{i:Nat}{q p:List Step}{off:Nat}{kd:IntKind}{k:Int->Option α}{r:α}(h:At st i q p off kd k=some r):
  ∃x,k x=some r/\∀N D w,jU N D w base st.h->∀nm a o,N i=some nm->nm.base=some a->nm.off q=some o->a.spot=none/\nm.off (q++p)=some (o+off)/\w.cell? ⟨a.block,a.off+o+off,none⟩=some (.int kd x):=by
 unfold At at h;obtain⟨u,h1,h2,_⟩:=pF h;split at h1
 ·rename_i nX
  simp only[zdN] at nX;obtain⟨v,h4,h5,h6⟩:=pF h1;split at h4
  ·rename_i k' x
   split at h4
   ·rename_i hk
    simp only[zdN] at hk;subst hk;refine⟨x,h4,λN D w S nm a o hn hb ho=>?_⟩;have ho2:=VD S hn h2 ho nX;obtain⟨g1,g2,_⟩:=h6 N D w base S nm a _ hn hb ho2;refine⟨g1,ho2,?_⟩;simp only[ar,aX] at g2;rw[show a.off+(o+off+0)=a.off+o+off by omega] at g2
    exact g2
   ·cases h4
  ·cases h4
 ·cases h1
theorem J8 {N:Names}{D:Nat->Prop}{w:World}(k:IntKind)(x:Int):ck N D w (.val (.int k x)) (.int k x):=dY.2 rfl
theorem Qf (k:IntKind)(x:Int):(AV.val (.int k x)).size=1:=rfl
theorem Dg {s:St}{i:Nat}{p:List Step}{kd:IntKind}{x:Int}{k:St->Option α}{r:α}(h:s.store i p (.val (.int kd x)) k=some r):
  ∃s',k s'=some r/\s'.t=s.t/\s'.nt=s.nt/\s'.ep=s.ep/\(∀j,j≠i->s'.h j=s.h j)/\∀N D w,jU N D w base s.h->∀nm a o,N i=some nm->nm.base=some a->nm.off p=some o->
   w.frozen? ⟨a.block,a.off+o,none⟩=false/\(∃y,w.cell? ⟨a.block,a.off+o,none⟩=some y)/\∃D',jU N D' (w.setCell ⟨a.block,a.off+o,none⟩ (.int kd x)) base s'.h/\Ext N D w s.h N D' (w.setCell ⟨a.block,a.off+o,none⟩ (.int kd x)) s'.h:=by
 obtain⟨s',h1,h2,h3,h4,h5,h6⟩:=xM h rfl;refine⟨s',h1,h2,h3,h4,λj hj=>h5 j hj (by simp[AV.ids]),λN D w S nm a o hn hb ho=>?_⟩
 obtain⟨g1,⟨cs,ty,fz,g2,g3,g4⟩,D',g5,g6⟩:=h6 N D w base S nm a o (.int kd x) hn hb ho (J8 kd x);rw[Qf] at g4;have hc:=iW g2 (o:=a.off+o) (by omega)
 refine⟨wB g2 g3 (by omega),Option.isSome_iff_exists.1 hc,D',?_⟩
 exact⟨g5,g6⟩
theorem Ip {N:Names}{D:Nat->Prop}{w:World}{i:Nat}{q:List Step}{l:List AV}{lK:List Value}(h:bA N D w (.ptr i q::l) lK): ∃nm a o rest,N i=some nm/\nm.base=some a/\nm.off q=some o/\lK= .pointer (some ⟨a.block,a.off+o,none⟩)::rest/\bA N D w l rest:=by
 simp only[bA] at h;obtain⟨c,cs,rfl,h1,h2⟩:=h;obtain⟨nm,a,o,g1,g2,g3,g4⟩:=jq.1 h1;exact⟨nm,a,o,cs,g1,g2,g3,by rw[g4];rfl,h2⟩
def Iq (P:Program)(base:Nat)(calls:List (Nat×List oZ))(f:FuncId)(pr:Prim):Prop:= ∀(α:Type) (args:List AV) (st:St) (fresh:Nat) (k:AV->St->Option α) (r:α),fresh%100=0->Im calls pr args st fresh k=some r->
 ∃av eZ,k av eZ=some r/\xX P base (Io calls pr args st fresh).2 f args st fresh av eZ
theorem VE {N:Names}{D:Nat->Prop}{w:World}{k:IntKind}{y:Int}{rest:List Value}(h:bA N D w [.val (.int k y)] rest):rest=[.int k y]:=by
 simp only[bA] at h;obtain⟨c,cs,rfl,h1,rfl⟩:=h;rw[dY.1 h1]
theorem SM {calls:List (Nat×List oZ)}{f:FuncId}{kd:IntKind}{p:List Step}(hw:za3 P f kd):Iq P base calls f (.add kd p):=by
 intro α args st fresh k r _ h;unfold Im at h;split at h<;>first|(rename_i heq;cases heq)|skip
 all_goals first|cases h|skip
 rename_i i q k' y;split at h
 ·rename_i hk
  simp only[zdN] at hk;subst hk;obtain⟨x,h1,h2⟩:=sM (base:=base) h;obtain⟨eZ,h3,h4,h5,h6,h7,h8⟩:=Dg (base:=base) h1;refine⟨_,_,h3,hw.1,h4,h5,h6,λj hj _=>h7 j (λe=>hj (by subst e;simp[Io])),λN D w S lK hc=>?_⟩
  obtain⟨nm,a,o,rest,g1,g2,g3,rfl,g5⟩:=Ip hc;rw[VE g5];obtain⟨_,nX,J9⟩:=h2 N D w S nm a o g1 g2 g3;rw[zez] at nX J9;obtain⟨z1,_,D',z2,z3⟩:=h8 N D w S nm a o g1 g2 nX;refine(hw.2 _ _ _ _ _ J9 z1).mono λe w' he=>?_;obtain⟨rfl,rfl⟩:=he;rw[<-pP];exact⟨N,D',z3,z2,J8 _ _⟩
 ·cases h
end AM
namespace AM
open Go
variable {α:Type}{P:Program}{base:Nat}
theorem jU.drew {N:Names}{D:Nat->Prop}{w:World}{h:Nat->Option fK}(S:jU N D w base h):jU N D w.drew base h/\Ext N D w h N D w.drew h:=
 ⟨⟨λi o hi=>nQ (S.obj i o hi) (Names.le_refl _) (λ_ h=>h) (λ_ _=>rfl) (λ_ _=>⟨rfl,λh=>h⟩) (λ_ _ _ _=>rfl),S.apart,S.frozen,S.named,S.size,S.iG⟩,
  Names.le_refl _,λ_ h=>h,rfl,rfl,rfl,zdV _,λ_ _ _=>rfl,λ_ _ h=>h,λ_ h=> .inl h,λ_ _ h=> .inl h,λ_ h=>h,λ_ h=>⟨h,λ_=>rfl⟩⟩
theorem Ka {N:Names}{D:Nat->Prop}{w:World}{cv:AV}{g:FuncId}{cs:List AV}{c:Value}(h:Df cv=some (g,cs))(hv:ck N D w cv c): ∃first sL:Array Value,c= .func (.func g) first sL/\bA N D w cs (first++sL).toList:=by
 unfold Df at h;split at h
 ·cases h
  unfold ck at hv;simp only[AV.isAgg,jv,ar] at hv;obtain⟨cc,q1,q2⟩:=hv;simp only[zdF] at q1;exact⟨#[],cc,q1,by simpa using q2⟩
 ·cases h
  unfold ck at hv;simp only[AV.isAgg,jv,ar] at hv;obtain⟨cc,q1,q2⟩:=hv;simp only[zdF] at q1;exact⟨cc,#[],q1,by simpa using q2⟩
 ·cases h
theorem GO {calls:List (Nat×List oZ)}{f:FuncId}{pd pm:List Step}(hw:XT P f)(yK:pI P base calls):Iq P base calls f (.once pd pm):=by
 intro α args st fresh k r xm h;unfold Im at h;split at h<;>first|(rename_i heq;cases heq)|skip
 all_goals first|cases h|skip
 rename_i i q cv;split at h
 ·cases h
 rename_i g cs hcv;obtain⟨d,h1,h2⟩:=sM (base:=base) h;split at h1
 ·rename_i hd
  have hd0: ¬d=0:=λe=>by rw[kL.2 e] at hd;cases hd
  refine⟨_,_,h1,hw.1,rfl,rfl,rfl,λ_ _ _=>rfl,λN D w S lK hc=>?_⟩;obtain⟨nm,a,o,rest,g1,g2,g3,rfl,g5⟩:=Ip hc;obtain⟨c1,YZ,rfl,_,hr⟩: ∃c1 YZ,rest=c1::YZ/\ck N D w cv c1/\bA N D w [] YZ:=by unfold bA at g5;exact g5
  simp only[bA] at hr;subst hr;obtain⟨_,_,J9⟩:=h2 N D w S nm a o g1 g2 g3;rw[zez] at J9;refine(hw.2.1 _ d hd0 c1 w J9).mono λe w' he=>?_;obtain⟨rfl,rfl⟩:=he;exact⟨N,D,Ext.refl _ _ _ _,S,lJ.2 ⟨#[],rfl,by simp only[bA]⟩⟩
 ·rename_i hd
  have hd0:=kL.1 hd;subst hd0;obtain⟨m,h3,h4⟩:=sM (base:=base) h1;split at h3
  ·cases h3
  rename_i hm;have hm0:=kL.1 hm;subst hm0;split at h3
  ·rename_i xb c za4 hc
   obtain⟨s',e1,t1,t2,t3,t4,t5⟩:=Dg (base:=base) za4;cases e1;obtain⟨av,H6,h5,rK⟩:=wM xm c (yK _ (vK hc)) h3;obtain⟨⟨fn,f1,f2,f3⟩,c1,c2,c3,c4,c5⟩:=rK;split at h5
   ·obtain⟨d2,h6,h7⟩:=sM (base:=base) h5
    obtain⟨m2,h8,h9⟩:=sM (base:=base) h6;split at h8
    ·rename_i hm2
     have zcJ:=kL.1 hm2;subst zcJ;obtain⟨st3,Gq,u1,u2,u3,u4,u5⟩:=Dg (base:=base) h8;obtain⟨st4,N5,v1,v2,v3,v4,v5⟩:=Dg (base:=base) Gq;refine⟨_,_,N5,hw.1,by rw[v1,u1,c1,t1],by rw[v2,u2,c2,t2],by rw[v3,u3,c3,t3],λj hj Yz=>?_,λN D w S lK hcr=>?_⟩
     ·simp only[Io,hcv,za4,hc,zek,not_or] at hj
      rw[v4 j hj.1,u4 j hj.1,c4 j hj.2 Yz,t4 j hj.1]
     ·obtain⟨nm,a,o,rest,g1,g2,g3,rfl,g5⟩:=Ip hcr
      obtain⟨cl,YZ,rfl,J5,hr⟩: ∃c1 YZ,rest=c1::YZ/\ck N D w cv c1/\bA N D w [] YZ:=by unfold bA at g5;exact g5
      simp only[bA] at hr;subst hr;obtain⟨first,sL,rfl,q2⟩:=Ka hcv J5;obtain⟨_,za5,Ol⟩:=h2 N D w S nm a o g1 g2 g3;obtain⟨_,za6,hcm⟩:=h4 N D w S nm a o g1 g2 g3;rw[zez] at za5 Ol;obtain⟨z1,_,D1,S1,X1⟩:=t5 N D w S nm a (o+1) g1 g2 za6;rw[<-zdU] at z1 S1 X1;have hg: ∀w:World,(callFunc g (first++sL)).run P w= .ok (.enter g (first++sL)) w:=by
       intro w;simp only[callFunc,zd0,run_program,zd1,f1,f3,f2,zdG,if_false,zd2]
      have hq2:bA N D1 (w.setCell ⟨a.block,a.off+o+1,none⟩ (.int .i32 1)) cs (first++sL).toList:=pD X1.names X1.frozen (X1.JC S) _ _ q2;have xk:=c5 N D1 _ S1 (first++sL).toList hq2;refine(hw.2.2 a.block (a.off+o) g first sL (λw1=> ∃N' D',Ext N D w st.h N' D' w1 H6.h/\jU N' D' w1 base H6.h) w hg Ol hcm z1 (xk.mono λe w1 he=>?_)).mono λe w' he=>?_
      ·cases e with
       |returned v=>
        obtain⟨N',D',x2,s2,hv⟩:=he;obtain⟨l,rfl,hl⟩:=lJ.1 hv;simp only[bA] at hl;obtain rfl:l= #[]:=by apply Array.ext';simpa using hl
        have VF:=x2.names i nm g1;obtain⟨_,Eo,za7⟩:=h7 N' D' w1 s2 nm a o VF g2 g3;obtain⟨_,Mw,zcK⟩:=h9 N' D' w1 s2 nm a o VF g2 g3;rw[zez] at Eo za7;obtain⟨y1,_,D3,S3,X3⟩:=u5 N' D' w1 s2 nm a o VF g2 Eo;refine⟨rfl,⟨N',D',X1.trans x2,s2⟩,⟨_,za7⟩,y1,zcK,?_⟩;obtain⟨y2,_,_⟩:=v5 N' D3 _ S3 nm a (o+1) VF g2 Mw;rw[<-zdU] at y2;rw[World.frozen?_setCell] at y2;exact y2
       |panicked c=>exact he.elim
       |outgrown=>exact he.elim
      ·obtain⟨rfl,w1,⟨N',D',x2,s2⟩,rfl⟩:=he
       have VF:=x2.names i nm g1;obtain⟨_,Eo,_⟩:=h7 N' D' w1 s2 nm a o VF g2 g3;obtain⟨_,Mw,_⟩:=h9 N' D' w1 s2 nm a o VF g2 g3;rw[zez] at Eo;obtain⟨s3,x3⟩:=s2.drew;obtain⟨_,_,D3,S3,X3⟩:=u5 N' D' _ s3 nm a o VF g2 Eo;obtain⟨_,_,D4,S4,X4⟩:=v5 N' D3 _ S3 nm a (o+1) VF g2 Mw;rw[<-zdU] at S4 X4;exact⟨N',D4,((x2.trans x3).trans X3).trans X4,S4,lJ.2 ⟨#[],rfl,by simp only[bA]⟩⟩
    ·cases h8
   ·cases h5
  ·cases h3
def Au (P:Program)(base:Nat)(calls:List (Nat×List oZ))(vL:List (Nat×Prim)):Prop:= ∀p∈vL,Iq P base calls p.1 p.2
theorem Mx {vL:List (Nat×Prim)}{calls:List (Nat×List oZ)}{loops:List (Nat×List uY)}(hp:Au P base calls vL)(h:pI P base calls):sH P base (zu (α:=α) vL calls loops):=by
 intro f args st fresh k r xm hc;simp only[zu] at hc⊢;cases hf:uK f vL with
 |none=>rw[hf] at hc;exact Bo h f args st fresh k r xm hc
 |some pr=>rw[hf] at hc;exact hp _ (vK hf) α args st fresh k r xm hc
theorem My {fn:Func}{vL:List (Nat×Prim)}{calls:List (Nat×List oZ)}{loops:List (Nat×List uY)}(h:oy P base fn loops):xZ P base fn (zu (α:=α) vL calls loops):=λid st k r hc=>Bp (calls:=calls) h id st k r hc
theorem Ep {f:FuncId}{fn:Func}{sp:al}{F:sp.pre.den->Option (gS sp.jb)}{vL:List (Nat×Prim)}{calls:List (Nat×List oZ)}{loops:List (Nat×List uY)}(h1:P.funcs[f]?=some fn)(h2:(fn.name== "runtime.NumGoroutine")=false)(h3:SK fn sp=true)
  (hm:P.follows .mixedOrders=true) (hp:Au P base calls vL) (hc:pI P base calls) (hl:oy P base fn loops) (hF: ∀d,ra P sp (zu vL calls loops) fn d=F d):rJ P base f sp F:=
 SH (J3.of h1 h2 h3) hm (Mx hp hc) (My hl) hF
theorem Bs {calls:List (Nat×List oZ)}:Au P base calls []:=λp hp=>by simp at hp
theorem zw {calls:List (Nat×List oZ)}{p:Nat×Prim}{l:List (Nat×Prim)}(h1:Iq P base calls p.1 p.2)(h:Au P base calls l):Au P base calls (p::l):=List.forall_mem_cons.2 ⟨h1,h⟩
end AM
