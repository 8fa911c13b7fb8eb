/- The law, in plain Lean. Conditions: none. -/
import Derived.Test.YtepopigkpnoflaaGreatPrn3
set_option linter.unusedVariables false
set_option linter.unusedSimpArgs false
namespace AM
open Go Go.Proofs
theorem xo (p:Prop){i:Decidable p}: @W.odec WX p i=odec p:=(@odec_eq p i).symm
theorem xw (k:IntKind)(n:Int):WX.wr k n=k.wrap n:=by
 have h:WX.wr k n=wr k n:=(wr_eq k n).symm
 rw[h,wr_eq]
theorem xq (a b:Int):WX.intEq a b=odec (a=b):=(odec_eq _).symm
theorem xl {L R:Type}(b:L→Option (L⊕R))(l:L):WX.loopFix b l=loopFix b l:=loopX_eq _ b l
theorem xmin (a b:Int):WX.imin a b=min a b:=by
 show(bif decide (b<a) then b else a)=_
 by_cases h:b<a
 ·rw[decide_eq_true h,cond_true];omega
 ·rw[decide_eq_false h,cond_false];omega
theorem xmax (a b:Int):WX.imax a b=max a b:=by
 show(bif decide (b>a) then b else a)=_
 by_cases h:b>a
 ·rw[decide_eq_true h,cond_true];omega
 ·rw[decide_eq_false h,cond_false];omega
theorem w64 {n:Int}(h0: -9223372036854775808≤n)(h1:n≤9223372036854775807):IntKind.wrap .i64 n=n:=by rw[IntKind.wrap_i64];omega
theorem onS_succ {α:Type}(k:Nat)(f:Nat→Option α):onS (k+1) f=f k:=rfl
end AM
namespace AM
open Go Go.Proofs
set_option maxRecDepth 100000
structure V where
 c:List De8
 cfg:De2
 now:Int
 ph:De4
 mp:List Nat
 bp:List Nat
 lp:List Nat
 tr:List De1
 op:List (List Int)
 ps:List (List Int)
 lg:De5
 mt:List De6
 M:List E135
 L:List E168
 S:List E185
 F:List E187
 O:List E189
 B:List E255
abbrev VT:=((Unit×(List De8)×Unit×Unit×Unit)×(De2×Int×Unit×De4×(List Nat)×Unit×(List Nat)×(List Nat)×Unit)×((List De1)×Unit)×((List (List Int))×(List (List Int))×Unit)×De5×((List De6)×Unit)×(List E135)×(List E168)×(List E185)×(List E187)×(List E189)×(List E255)×Unit)
abbrev ST:=((De2×Int×Unit×De4×(List Nat)×Unit×(List Nat)×(List Nat)×Unit)×((List De1)×Unit)×((List (List Int))×(List (List Int))×Unit)×(List E135)×(List E168)×(List E255)×Unit)
def V.e (v:V):VT:=(((),v.c,(),(),()),(v.cfg,v.now,(),v.ph,v.mp,(),v.bp,v.lp,()),(v.tr,()),(v.op,v.ps,()),v.lg,(v.mt,()),v.M,v.L,v.S,v.F,v.O,v.B,())
def V.s (v:V):ST:=((v.cfg,v.now,(),v.ph,v.mp,(),v.bp,v.lp,()),(v.tr,()),(v.op,v.ps,()),v.M,v.L,v.B,())
abbrev Z32:List Int:=List.replicate 32 (0:Int)
abbrev C0:De9:=(0,0,0,0,0,0,0,0,0,0,0,0,0,0,Z32,())
theorem set_self {β:Type}{l:List β}{n:Nat}{x:β}(h:l[n]?=some x):l.set n x=l:=by
 apply List.ext_getElem?
 intro j
 rw[List.getElem?_set]
 split
 ·rename_i e;subst e
  have:=(List.getElem?_eq_some_iff.1 h).1
  rw[if_pos this,h]
 ·rfl
structure Conn (v:V)(i f o:Nat)(s:De7)(fr ou:(List Int)×Bool×Unit):Prop where
 lt:i<16
 c:v.c[i]?=some (i+1,f+1,o+1,())
 S:v.S[i]?=some (s,())
 F:v.F[f]?=some (fr,())
 O:v.O[o]?=some (ou,())
section
variable {v:V}{i f o:Nat}{s:De7}{fr ou:(List Int)×Bool×Unit}
theorem in16 (h:i<16):0≤(i:Int)∧(i:Int)<(16:Nat):=by omega
theorem c_At (h:Conn v i f o s fr ou):zfo WX (((),(i:Int),()),v.e)=some ((s.1,()),v.e):=by
 have hl:=h.lt
 simp only[zfo,zhm,V.e,↓xo,ot (show(i:Int)≥0 by omega),ot (show(i:Int)<16 by omega),ot (in16 hl),cond_true,Option.bind_some,Bool.not_true,cond_false,Int.toNat_natCast,h.c,onS_succ,h.S,zcv,set_self h.S]
theorem c_over_out (h:Conn v i f o s fr ou):True:=trivial
def Fit (v:V):Prop:= ∀i,i<16→∃f o s fr ou,Conn v i f o s fr ou∧(s.1≠0→ou.2.1=false)
theorem over_fit (h:Fit v):zei WX (((),()),v.e)=some (((-1),()),v.e):=by
 have key: ∀n i:Nat,i+n=16→loopFix (zb8 WX) ((v.c,(i:Int),()),v.S,v.F,v.O,())=some (.inr ((),v.S,v.F,v.O,())):=by
  intro n
  induction n with
  |zero=>
   intro i hi
   rw[loopFix_eq]
   simp only[zb8,↓xo,of_ (show¬(i:Int)<16 by omega),cond_false]
  |succ n ih=>
   intro i hi
   obtain⟨f,o,s,fr,ou,hc,hf⟩:=h i (by omega)
   rw[loopFix_eq]
   have e1:IntKind.i64.wrap ((i:Int)+1)=((i+1:Nat):Int):=by rw[w64 (by omega) (by omega)];omega
   by_cases h0:s.1=0
   ·simp only[zb8,↓xo,xw,ot (show(i:Int)<16 by omega),ot (in16 hc.lt),cond_true,Option.bind_some,Int.toNat_natCast,hc.c,onS_succ,hc.S,zcv,ot h0,Bool.not_true,cond_false,set_self hc.S,e1]
    exact ih (i+1) (by omega)
   ·simp only[zb8,↓xo,xw,ot (show(i:Int)<16 by omega),ot (in16 hc.lt),cond_true,Option.bind_some,Int.toNat_natCast,hc.c,onS_succ,hc.S,zcv,of_ h0,Bool.not_false,set_self hc.S,e1,hc.O,zgo,hf h0,cond_false,set_self hc.O]
    exact ih (i+1) (by omega)
 have:=key 16 0 (by omega)
 simp only[zei,V.e,xl]
 change loopFix (zb8 WX) ((v.c,0,()),v.S,v.F,v.O,())=_ at this
 simp only[this,Option.bind_some]
theorem sweep_fit (h:Fit v):zdn WX (((),()),v.e)=some ((),v.e):=by
 have h1:=over_fit h
 have h2:loopFix (zbs WX) (((),(-1),()),v.e)=some ((),v.e):=by
  rw[loopFix_eq]
  simp only[zbs,↓xo,of_ (show¬(-1:Int)≥0 by omega),cond_false]
 simp only[zdn,h1,Option.bind_some,xl,h2]
end
end AM
namespace AM
open Go Go.Proofs
set_option maxRecDepth 100000
theorem inc64 {i n:Nat}(h:i<n)(hn:n≤1000000):IntKind.wrap .i64 ((i:Int)+1)=((i+1:Nat):Int):=by rw[w64 (by omega) (by omega)];omega
theorem take_flat {L:List (List Int)}{i:Nat}{x:List Int}(h:L[i]?=some x):(L.take (i+1)).flatten=(L.take i).flatten++x:=by
 have hi:i<L.length:=(List.getElem?_eq_some_iff.1 h).1
 rw[List.take_add_one,h];simp
theorem flat_le {L:List (List Int)}(i:Nat):(L.take i).flatten.length≤L.flatten.length:=by
 conv=>rhs;rw[←List.take_append_drop i L,List.flatten_append,List.length_append]
 omega
theorem concat_l3 (L:List (List Int))(h:L.flatten.length≤1000000000000)(hn:L.length≤1000000):loopFix (zax WX) ((L,0,L,(L.length:Int),0,()),())=some ((L,(L.flatten.length:Int),()),()):=by
 have key: ∀m i:Nat,i+m=L.length→loopFix (zax WX) ((L,((L.take i).flatten.length:Int),L,(L.length:Int),(i:Int),()),())=some ((L,(L.flatten.length:Int),()),()):=by
  intro m
  induction m with
  |zero=>
   intro i hi
   rw[loopFix_eq]
   have:i=L.length:=by omega
   subst this
   simp only[zax,↓xo,of_ (show¬(L.length:Int)<(L.length:Int) by omega),cond_false,List.take_length]
  |succ m ih=>
   intro i hi
   have hi':i<L.length:=by omega
   have hx:=List.getElem?_eq_getElem hi'
   generalize L[i]=x at hx
   have hf:=take_flat hx
   have hle:=flat_le (L:=L) (i+1)
   rw[hf,List.length_append] at hle
   rw[loopFix_eq]
   have e1:IntKind.wrap .i64 (((L.take i).flatten.length:Int)+(x.length:Int))=((L.take (i+1)).flatten.length:Int):=by
    rw[w64 (by omega) (by omega),hf,List.length_append];omega
   simp only[zax,↓xo,xw,ot (show(i:Int)<(L.length:Int) by omega),ot (show(0:Int)≤(i:Int) by omega),cond_true,Int.toNat_natCast,hx,Option.bind_some,e1,of_ (show¬((L.take (i+1)).flatten.length:Int)<0 by omega),cond_false,inc64 hi' hn]
   exact ih (i+1) (by omega)
 exact key L.length 0 (by omega)
theorem concat_l11 (L:List (List Int))(hn:L.length≤1000000):loopFix (zaw WX) ((0,L,(L.length:Int),0,()),(List.replicate L.flatten.length (0:Int),()))=some ((L.flatten.length,()),(L.flatten,())):=by
 have key: ∀m i:Nat,i+m=L.length→loopFix (zaw WX) (((L.take i).flatten.length,L,(L.length:Int),(i:Int),()),((L.take i).flatten++List.replicate (L.flatten.length-(L.take i).flatten.length) (0:Int),()))=some ((L.flatten.length,()),(L.flatten,())):=by
  intro m
  induction m with
  |zero=>
   intro i hi
   rw[loopFix_eq]
   have:i=L.length:=by omega
   subst this
   simp only[zaw,↓xo,of_ (show¬(L.length:Int)<(L.length:Int) by omega),cond_false,List.take_length,Nat.sub_self,List.replicate_zero,List.append_nil]
  |succ m ih=>
   intro i hi
   have hi':i<L.length:=by omega
   have hx:=List.getElem?_eq_getElem hi'
   generalize L[i]=x at hx
   have hf:=take_flat hx
   have hle:=flat_le (L:=L) (i+1)
   rw[hf,List.length_append] at hle
   rw[loopFix_eq]
   have e2:((L.take i).flatten++List.replicate (L.flatten.length-(L.take i).flatten.length) (0:Int)).take (0+(L.take i).flatten.length)++x++((L.take i).flatten++List.replicate (L.flatten.length-(L.take i).flatten.length) (0:Int)).drop (0+(L.take i).flatten.length+x.length)=(L.take (i+1)).flatten++List.replicate (L.flatten.length-(L.take (i+1)).flatten.length) (0:Int):=by
    rw[Nat.zero_add,List.take_left,List.drop_append,List.drop_eq_nil_of_le (by omega),List.nil_append,List.drop_replicate,hf,List.length_append]
    congr 2
    omega
   simp only[zaw,↓xo,xw,ot (show(i:Int)<(L.length:Int) by omega),ot (show(0:Int)≤(i:Int) by omega),cond_true,Int.toNat_natCast,hx,Option.bind_some,
    ot (show 0+(L.take i).flatten.length+x.length≤((L.take i).flatten++List.replicate (L.flatten.length-(L.take i).flatten.length) (0:Int)).length by rw[List.length_append,List.length_replicate];omega),e2,inc64 hi' hn]
   have:=ih (i+1) (by omega)
   rw[hf,List.length_append] at this⊢
   exact this
 have:=key L.length 0 (by omega)
 simpa using this
theorem concat_l11b (L:List (List Int))(hf:L.flatten=[])(hn:L.length≤1000000):loopFix (zav WX) (((),L,(L.length:Int),0,()),(([]:List Int),()))=some (((),()),([],())):=by
 have key: ∀m i:Nat,i+m=L.length→loopFix (zav WX) (((),L,(L.length:Int),(i:Int),()),(([]:List Int),()))=some (((),()),([],())):=by
  intro m
  induction m with
  |zero=>
   intro i hi
   rw[loopFix_eq]
   have:i=L.length:=by omega
   subst this
   simp only[zav,↓xo,of_ (show¬(L.length:Int)<(L.length:Int) by omega),cond_false]
  |succ m ih=>
   intro i hi
   have hi':i<L.length:=by omega
   have hx:=List.getElem?_eq_getElem hi'
   have hm:=List.getElem_mem hi'
   have h0:L[i]=[]:=List.flatten_eq_nil_iff.1 hf _ hm
   rw[h0] at hx
   rw[loopFix_eq]
   simp only[zav,↓xo,xw,ot (show(i:Int)<(L.length:Int) by omega),ot (show(0:Int)≤(i:Int) by omega),cond_true,Int.toNat_natCast,hx,Option.bind_some,List.append_nil,List.length_nil,inc64 hi' hn,
    ot (show(((0+0:Nat):Int))*((1:Nat):Int)≤((room:Nat):Int) by unfold room;omega)]
   exact ih (i+1) (by omega)
 exact key L.length 0 (by omega)
theorem concat_nil (L:List (List Int))(hf:L.flatten=[])(hn:L.length≤1000000):za0 WX ((L,()),())=some (.inr (((),()),([],()))):=by
 have h3:=concat_l3 L (by rw[hf];simp) hn
 have hb:=concat_l11b L hf hn
 rw[hf] at h3
 change _=some ((L,0,()),()) at h3
 have hg:zba WX (((),0,()),())=some (.inr (((),()),[],())):=by kernel_rfl
 simp only[za0,xl,h3,Option.bind_some,hg,hb]
theorem concat_ok (L:List (List Int))(hf:L.flatten≠ [])(h:L.flatten.length≤1000000000000)(hn:L.length≤1000000):za0 WX ((L,()),())=some (.inl ((L.flatten.length,()),(L.flatten,()))):=by
 have h3:=concat_l3 L h hn
 have hb:=concat_l11 L hn
 have hp:0<L.flatten.length:=List.length_pos_iff.2 hf
 generalize hN:L.flatten.length=n at*
 have e0:IntKind.wrap .i64 ((n:Int)-IntKind.wrap .i64 (0-0))=(n:Int):=by
  rw[w64 (n:=0-0) (by omega) (by omega),w64 (by omega) (by omega)];omega
 simp only[za0,xl,h3,Option.bind_some,zba,↓xo,xw,e0,of_ (show¬(n:Int)<0 by omega),cond_false,ot (show(n:Int)>0 by omega),cond_true,List.length_nil,Int.natCast_zero,List.nil_append,List.length_replicate,Int.toNat_natCast,and_self,odT]
 have e1:odec ((0:Int)=0∧(0:Int)=0)=true:=ot (by decide)
 have e2:odec ((0:Int)≤(n:Int)∧(0+(n:Int))*((1:Nat):Int)≤((room:Nat):Int))=true:=ot (by unfold room;omega)
 have e3:odec ((0:Int)≤0∧(0:Int)≤0∧(0:Int)≤(n:Int))=true:=ot (by omega)
 have e4:((0:Int)-(0:Int)).toNat=0:=rfl
 simp only[e1,e2,e3,cond_true,Option.bind_some,e4,hb]
theorem concat_either (L:List (List Int))(h:L.flatten.length≤1000000000000)(hn:L.length≤1000000):za0 WX ((L,()),())=some (.inr (((),()),([],())))∧L.flatten=[]∨za0 WX ((L,()),())=some (.inl ((L.flatten.length,()),(L.flatten,()))):=by
 by_cases hf:L.flatten=[]
 ·exact .inl ⟨concat_nil L hf hn,hf⟩
 ·exact .inr (concat_ok L hf h hn)
theorem clone_ok (b:List Int)(h:b.length≤1000000000000):za2 WX ((b,()),())=some (((),()),(b,())):=by
 have hr:odec ((((([]:List Int).length+b.length:Nat):Int))*((1:Nat):Int)≤((room:Nat):Int))=true:=ot (by unfold room;simp only[List.length_nil];omega)
 by_cases h0:b=[]
 ·subst h0
  show some (((),()),([],()))=_
  rfl
 ·have: ¬(b.length:Int)=0:=fun e=>h0 (List.eq_nil_of_length_eq_zero (by omega))
  simp only[za2,↓xo,of_ this,cond_false,hr,cond_true,List.nil_append]
end AM
namespace AM
open Go Go.Proofs
set_option maxRecDepth 100000
def len32:Option (((List Int)×Unit)×Unit)→Bool|some ((l,_),_)=>Nat.beq l.length 32|none=>false
theorem range_map (xs:List Int){n:Nat}(h:xs.length=n): ∃f:Nat→Int,xs=(List.range n).map f:=by
 refine⟨fun i=>xs.getD i 0,?_⟩
 apply List.ext_getElem?
 intro i
 by_cases hi:i<n
 ·have hx:i<xs.length:=by omega
  simp[hi,List.getElem?_eq_getElem hx]
 ·rw[List.getElem?_eq_none (by omega),List.getElem?_eq_none (by simp;omega)]
theorem len32_ok {r:Option (((List Int)×Unit)×Unit)}(h:len32 r=true): ∃ys:List Int,r=some ((ys,()),())∧ys.length=32:=by
 match r with
 |none=>cases h
 |some ((l,()),())=>exact⟨l,rfl,Nat.eq_of_beq_eq_true h⟩
theorem sum46': ∀f:Nat→Int,len32 (zjc WX ((((List.range 46).map f),()),()))=true:=fun f=>by kernel_rfl
end AM
namespace AM
open Go Go.Proofs
set_option maxRecDepth 100000
def helloC (t:Int):De9:=(1,0,t,0,0,0,0,0,0,0,0,0,0,0,Z32,())
def answerC (tag:List Int):De9:=(2,0,0,0,0,0,0,0,0,0,0,0,0,0,tag,())
theorem hello_frame2:((zja WX ((helloC 2,()),())).bind fun r1=>ziv WX (r1.2,()))=some (((),()),([0,2,1,2],())):=by kernel_rfl
theorem hello_frame4:((zja WX ((helloC 4,()),())).bind fun r1=>ziv WX (r1.2,()))=some (((),()),([0,2,1,4],())):=by kernel_rfl
theorem hello_feed2:zca WX (((),[0,2,1,2],()),(([],false,()),()))=some (.inr (([[1,2]],()),(([],false,()),()))):=by kernel_rfl
theorem hello_feed4:zca WX (((),[0,2,1,4],()),(([],false,()),()))=some (.inr (([[1,4]],()),(([],false,()),()))):=by kernel_rfl
theorem hello_get2:zjd WX (([1,2],()),())=some ((helloC 2,true,()),()):=by kernel_rfl
theorem hello_get4:zjd WX (([1,4],()),())=some ((helloC 4,true,()),()):=by kernel_rfl
theorem ans_frame': ∀f:Nat→Int,((zja WX ((answerC ((List.range 32).map f),()),())).bind fun r1=>ziv WX (r1.2,()))=some (((),()),([0,33,2]++(List.range 32).map f,())):=fun f=>by kernel_rfl
theorem ans_feed': ∀f:Nat→Int,zca WX (((),[0,33,2]++(List.range 32).map f,()),(([],false,()),()))=some (.inr (([[2]++(List.range 32).map f],()),(([],false,()),()))):=fun f=>by kernel_rfl
theorem ans_get': ∀f:Nat→Int,zjd WX (([2]++(List.range 32).map f,()),())=some ((answerC ((List.range 32).map f),true,()),()):=fun f=>by kernel_rfl
end AM
namespace AM
open Go Go.Proofs
set_option maxRecDepth 100000
theorem zipZ:(((List.replicate 32 (0:Int)).zip (List.replicate 32 (0:Int))).all fun p=>WX.teq (.int .u8) p.1 p.2)=true:=by kernel_rfl
theorem intEq_self (a:Int):WX.intEq a a=true:=decide_eq_true rfl
section
variable {v:V}
structure Tr (v:V)(n:Nat)(x:De1):Prop where
 lt:n<32
 tr:v.tr[n]?=some x
 roles:x.2.2.1≠0
theorem in32 {n:Nat}(h:n<32):0≤(n:Int)∧(n:Int)<(32:Nat):=by omega
theorem there_ok {n:Nat}{x:De1}(h:Tr v n x):zep WX (((),(n:Int),()),((v.tr,()),()))=some ((true,()),((v.tr,()),())):=by
 have hl:=h.lt
 simp only[zep,zgr,↓xo,ot (show(n:Int)≥0 by omega),ot (show(n:Int)≤31 by omega),ot (in32 hl),cond_true,Option.bind_some,Int.toNat_natCast,h.tr,of_ h.roles,Bool.not_false]
theorem trader_ok {n:Nat}{x:De1}(h:Tr v n x):zd0 WX (((),(n:Int),()),((v.tr,()),()))=some ((x,()),((v.tr,()),())):=by
 simp only[zd0,there_ok h,Option.bind_some,Bool.not_true,cond_false,↓xo,ot (in32 h.lt),cond_true,Int.toNat_natCast,h.tr]
structure Lk (v:V)(n p:Nat)(k:De0):Prop where
 lt:n<32
 lp:v.lp[n]?=some (p+1)
 L:v.L[p]?=some (k,())
def isLocked (k:De0)(now:Int):Bool:=decide (k.2.2.1≥k.1∧now<k.2.2.2.1)
theorem lk_locked (k:De0)(now:Int):zds WX (((),now,()),(k,()))=some ((isLocked k now,()),(k,())):=by
 unfold isLocked
 by_cases h:k.2.2.1≥k.1
 ·by_cases h2:now<k.2.2.2.1
  ·simp only[zds,↓xo,ot h,cond_true,ot h2]
   rw[decide_eq_true ⟨h,h2⟩]
  ·simp only[zds,↓xo,ot h,cond_true,of_ h2]
   rw[decide_eq_false (fun q=>h2 q.2)]
 ·simp only[zds,↓xo,of_ h,cond_false]
  rw[decide_eq_false (fun q=>h q.1)]
theorem locked_ok {n p:Nat}{k:De0}(h:Lk v n p k):zcg WX (((),(n:Int),()),v.s)=some ((isLocked k v.now,()),v.s):=by
 have hl:=h.lt
 simp only[zcg,zg7,V.s,↓xo,ot (show(n:Int)≥0 by omega),ot (show(n:Int)<32 by omega),ot (in32 hl),cond_true,Option.bind_some,Int.toNat_natCast,h.lp,onS_succ,h.L,lk_locked,set_self h.L]
def failed (k:De0)(now:Int):De0:=if isLocked k now then k else
 let w:=if k.2.2.1≥k.1 then 1 else IntKind.i64.wrap (k.2.2.1+1)
 (k.1,k.2.1,w,(if w=k.1 then IntKind.i64.wrap (now+k.2.1) else k.2.2.2.1),())
theorem lk_failed (k:De0)(now:Int):zdt WX (((),now,()),(k,()))=some ((),(failed k now,())):=by
 obtain⟨t,l,w,u,_⟩:=k
 have e1:IntKind.i64.wrap (0+1)=1:=by rw[w64 (by omega) (by omega)];rfl
 unfold failed
 cases hk:isLocked (t,l,w,u,()) now with
 |true=>simp only[zdt,lk_locked,hk,Option.bind_some,cond_true,if_true]
 |false=>
  by_cases h:w≥t
  ·by_cases h2:(1:Int)=t
   ·simp only[zdt,lk_locked,hk,Option.bind_some,cond_false,↓xo,xw,ot h,cond_true,e1,ot h2,Bool.false_eq_true,if_false,if_pos h,if_pos h2]
   ·simp only[zdt,lk_locked,hk,Option.bind_some,cond_false,↓xo,xw,ot h,cond_true,e1,of_ h2,Bool.false_eq_true,if_false,if_pos h,if_neg h2]
  ·by_cases h2:IntKind.i64.wrap (w+1)=t
   ·simp only[zdt,lk_locked,hk,Option.bind_some,cond_false,↓xo,xw,of_ h,cond_true,ot h2,Bool.false_eq_true,if_false,if_neg h,if_pos h2]
   ·simp only[zdt,lk_locked,hk,Option.bind_some,cond_false,↓xo,xw,of_ h,of_ h2,Bool.false_eq_true,if_false,if_neg h,if_neg h2]
theorem form_ok {n:Nat}{x:De1}(h:Tr v n x)(k:Int)(hk:k=3∨k=4∨k=5):zdr WX (((),(k,0,(n:Int),C0,()),()),v.s)=some ((true,()),v.s):=by
 have e1: ¬k=1:=by omega
 have e2: ¬k=2:=by omega
 simp only[zdr,V.s,↓xo,of_ e1,cond_false,eq_self,odT,Bool.not_true,there_ok h,Option.bind_some,of_ e2,ot (show k≥1 by omega),ot (show k≤5 by omega),cond_true,intEq_self,zipZ,Bool.and_self]
theorem form_tick (n:Int)(h1:1≤n)(h2:n≤1099511627776-v.now)(h3:0≤v.now)(h4:v.now≤1099511627776):zdr WX (((),(1,n,0,C0,()),()),v.s)=some ((true,()),v.s):=by
 have e:IntKind.i64.wrap (1099511627776-v.now)=1099511627776-v.now:=w64 (by omega) (by omega)
 simp only[zdr,V.s,↓xo,xw,eq_self,odT,cond_true,ot (show n≥1 by omega),e,ot h2,intEq_self,zipZ,Bool.and_self]
theorem do_wrong {n p:Nat}{x:De1}{k:De0}(h:Tr v n x)(hk:Lk v n p k):zfk WX (((),(3,0,(n:Int),C0,()),()),v.s)=some (.inl (((),0,()),(v.cfg,v.now,(),v.ph,v.mp,(),v.bp,v.lp,()),(v.tr,()),(v.op,v.ps,()),[],v.M,v.L.set p (failed k v.now,()),v.B,())):=by
 have hf:=form_ok h 3 (.inl rfl)
 have e1: ¬(3:Int)=1:=by omega
 simp only[zfk,hf,Option.bind_some,Bool.not_true,cond_false,↓xo,of_ e1,eq_self,odT,cond_true,ot (in32 h.lt)]
 simp only[V.s,Int.toNat_natCast,hk.lp,Option.bind_some,onS_succ,hk.L,lk_failed]
theorem do_right {n p:Nat}{x:De1}{k:De0}(h:Tr v n x)(hk:Lk v n p k)(hn:isLocked k v.now=false):zfk WX (((),(4,0,(n:Int),C0,()),()),v.s)=some (.inl (((),0,()),(v.cfg,v.now,(),v.ph,v.mp,(),v.bp,v.lp,()),(v.tr,()),(v.op,v.ps,()),[],v.M,v.L.set p ((k.1,k.2.1,0,0,()),()),v.B,())):=by
 have hf:=form_ok h 4 (.inr (.inl rfl))
 have hl:=locked_ok hk
 have e1: ¬(4:Int)=1:=by omega
 have e2: ¬(4:Int)=3:=by omega
 simp only[zfk,hf,Option.bind_some,Bool.not_true,cond_false,↓xo,of_ e1,of_ e2,eq_self,odT,cond_true,hl,hn,ot (in32 h.lt)]
 simp only[V.s,Int.toNat_natCast,hk.lp,Option.bind_some,onS_succ,hk.L,zeq]
theorem do_tick (n:Int)(h1:1≤n)(h2:n≤1099511627776-v.now)(h3:0≤v.now)(h4:v.now≤1099511627776):zfk WX (((),(1,n,0,C0,()),()),v.s)=some (.inl (((),0,()),(v.cfg,v.now+n,(),v.ph,v.mp,(),v.bp,v.lp,()),(v.tr,()),(v.op,v.ps,()),[],v.M,v.L,v.B,())):=by
 have hf:=form_tick n h1 h2 h3 h4
 have e:IntKind.i64.wrap (v.now+n)=v.now+n:=w64 (by omega) (by omega)
 simp only[zfk,hf,Option.bind_some,Bool.not_true,cond_false,↓xo,xw,eq_self,odT,cond_true]
 simp only[V.s,e]
end
end AM
namespace AM
open Go Go.Proofs
set_option maxRecDepth 100000
theorem right_q {k n:Int}(hk:k=3∨k=4∨k=5)(h0:0≤n)(h1:n<32):zhd WX (((k,0,n,C0,()),()),())=some ((true,()),()):=by
 have e1: ¬k=1:=by omega
 have e2: ¬k=2:=by omega
 rcases hk with rfl|rfl|rfl
 ·simp only[zhd,↓xo,ot (show n≥0 by omega),of_ e1,of_ e2,eq_self,odT,ot h1,cond_true,cond_false,intEq_self,zipZ,Bool.and_self]
 ·have e3: ¬(4:Int)=3:=by omega
  simp only[zhd,↓xo,ot (show n≥0 by omega),of_ e1,of_ e2,of_ e3,eq_self,odT,ot h1,cond_true,cond_false,intEq_self,zipZ,Bool.and_self]
 ·have e3: ¬(5:Int)=3:=by omega
  have e4: ¬(5:Int)=4:=by omega
  simp only[zhd,↓xo,ot (show n≥0 by omega),of_ e1,of_ e2,of_ e3,of_ e4,eq_self,odT,ot h1,cond_true,cond_false,intEq_self,zipZ,Bool.and_self]
theorem right_t {n:Int}(h0:1≤n)(h1:n≤1099511627776):zhd WX (((1,n,0,C0,()),()),())=some ((true,()),()):=by
 have e0:((0:Int)≥0):=by omega
 simp only[zhd,↓xo,ot e0,ot (show n>0 by omega),ot h1,eq_self,odT,cond_true,intEq_self,zipZ,Bool.and_self]
theorem put_len (k N n:Int): ∃bs:List Int,zim WX (((k,N,n,C0,()),()),())=some (((),()),(bs,()))∧bs.length=10:=by
 have h:(match zim WX (((k,N,n,C0,()),()),()) with|some (_,(bs,_))=>Nat.beq bs.length 10|none=>false)=true:=by kernel_rfl
 revert h
 match zim WX (((k,N,n,C0,()),()),()) with
 |none=>intro h;cases h
 |some (((),()),(bs,()))=>intro h;exact⟨bs,rfl,Nat.eq_of_beq_eq_true h⟩
theorem link': ∀f g:Nat→Int,len32 (zh6 WX (((List.range 32).map f,(List.range 10).map g,()),()))=true:=fun f g=>by kernel_rfl
theorem link_ok {a b:List Int}(ha:a.length=32)(hb:b.length=10): ∃c:List Int,zh6 WX ((a,b,()),())=some ((c,()),())∧c.length=32:=by
 obtain⟨f,rfl⟩:=range_map a ha
 obtain⟨g,rfl⟩:=range_map b hb
 exact len32_ok (link' f g)
theorem u32_10: ∃u:List Int,zi6 WX (([],WX.wr .u32 10,()),())=some (((),()),(u,()))∧u.length=4:=by
 have h:(match zi6 WX (([],WX.wr .u32 10,()),()) with|some (_,(bs,_))=>Nat.beq bs.length 4|none=>false)=true:=by kernel_rfl
 revert h
 match zi6 WX (([],WX.wr .u32 10,()),()) with
 |none=>intro h;cases h
 |some (((),()),(bs,()))=>intro h;exact⟨bs,rfl,Nat.eq_of_beq_eq_true h⟩
def LogOK (lg:De5)(n:Nat):Prop:=lg.1.length=n∧lg.2.1.length=32
theorem log_add {lg:De5}{m:Nat}{k N n:Int}(h:LogOK lg m)(hm:m≤100000000000)(hr:zhd WX (((k,N,n,C0,()),()),())=some ((true,()),())):
  ∃lg',zga WX (((),(k,N,n,C0,()),()),(lg,()))=some ((true,()),(lg',()))∧LogOK lg' (m+46):=by
 obtain⟨b,c,ct,u⟩:=lg
 obtain⟨hb,hc⟩:=h
 simp only at hb hc
 obtain⟨bs,h1,h2⟩:=put_len k N n
 obtain⟨c',h3,h4⟩:=link_ok hc h2
 obtain⟨w,h5,h6⟩:=u32_10
 have e0:(0:Int)≤0∧(0:Int)≤((32:Nat):Int)∧((32:Nat):Int)≤(32:Nat):=by omega
 have e1:((bs.length:Nat):Int)=10:=by omega
 have e2:(c'.drop 0).take ((((32:Nat):Int)-(0:Int)).toNat)=c':=by
  rw[List.drop_zero,List.take_of_length_le]
  rw[h4];decide
 have hf: [b,w,bs,c'].flatten.length=b.length+46:=by simp;omega
 have hc:=concat_ok [b,w,bs,c'] (fun e=>by rw[e] at hf;simp at hf) (by omega) (by simp)
 simp only[zga,hr,Option.bind_some,Bool.not_true,cond_false,h1,h3,e1,h5,↓xo,ot e0,cond_true,e2,hc,List.take_length]
 exact⟨_,rfl,by rw[hf];omega,h4⟩
theorem meter_add {mt:List De6}(h:mt.length=4){i:Nat}(hi:i<4): ∃mt' r,ze0 WX (((),(i:Int),1,()),((mt,()),()))=some ((r,()),((mt',()),()))∧mt'.length=4:=by
 have hx:=List.getElem?_eq_getElem (l:=mt) (i:=i) (by omega)
 have e1: ¬(1:Int)<0:=by omega
 have e2: ¬(1:Int)>4294967296:=by omega
 simp only[ze0,↓xo,of_ (show¬(i:Int)<0 by omega),of_ (show¬(i:Int)≥4 by omega),of_ e1,of_ e2,cond_false,ot (show 0≤(i:Int)∧(i:Int)<(4:Nat) by omega),cond_true,Int.toNat_natCast,hx,Option.bind_some]
 exact⟨_,_,rfl,by rw[List.length_set];exact h⟩
def NB (n:De15)(bs:List Int):Prop:=(∃x,zi7 WX ((n,()),())=some (.inl x)∧ziv WX (x.2,())=some (((),()),(bs,())))∨(∃x,zi7 WX ((n,()),())=some (.inr x)∧ziv WX x=some (((),()),(bs,())))
noncomputable def nbF (n:De15):Option (List Int):=(zi7 WX ((n,()),())).bind fun r=>match r with| .inl x=>(ziv WX (x.2,())).map (·.2.1)| .inr x=>(ziv WX x).map (·.2.1)
theorem nb_of {n:De15}{k:Nat}(h:((nbF n).map fun l=>Nat.beq l.length k)=some true): ∃bs,NB n bs∧bs.length=k:=by
 unfold nbF at h
 cases e:zi7 WX ((n,()),()) with
 |none=>rw[e] at h;cases h
 |some r=>
  rw[e] at h
  cases r with
  |inl x=>
   simp only[Option.bind_some] at h
   cases e2:ziv WX (x.2,()) with
   |none=>rw[e2] at h;cases h
   |some y=>
    rw[e2] at h
    obtain⟨⟨⟨⟩,⟨⟩⟩,bs,⟨⟩⟩:=y
    simp only[Option.map_some,Option.some.injEq] at h
    exact⟨bs, .inl ⟨x,e,e2⟩,Nat.eq_of_beq_eq_true h⟩
  |inr x=>
   simp only[Option.bind_some] at h
   cases e2:ziv WX x with
   |none=>rw[e2] at h;cases h
   |some y=>
    rw[e2] at h
    obtain⟨⟨⟨⟩,⟨⟩⟩,bs,⟨⟩⟩:=y
    simp only[Option.map_some,Option.some.injEq] at h
    exact⟨bs, .inr ⟨x,e,e2⟩,Nat.eq_of_beq_eq_true h⟩
theorem nb_challenge {nc:List Int}(h:nc.length=32): ∃bs,NB (1,0,0,0,0,0,0,0,0,0,nc,()) bs∧bs.length=35:=by
 obtain⟨f,rfl⟩:=range_map nc h
 have: ∀f:Nat→Int,((nbF (1,0,0,0,0,0,0,0,0,0,(List.range 32).map f,())).map fun l=>Nat.beq l.length 35)=some true:=fun f=>by kernel_rfl
 exact nb_of (this f)
theorem nb_reject (er sq:Int): ∃bs,NB (4,er,sq,0,0,0,0,0,0,0,Z32,()) bs∧bs.length=8:=nb_of (by kernel_rfl)
theorem nb_welcome: ∃bs,NB (2,0,0,0,0,0,0,0,0,0,Z32,()) bs∧bs.length=3:=nb_of (by kernel_rfl)
theorem nb_ack (sq:Int): ∃bs,NB (3,0,sq,0,0,0,0,0,0,0,Z32,()) bs∧bs.length=7:=nb_of (by kernel_rfl)
section
variable {v:V}{i f o:Nat}{s:De7}{fr:(List Int)×Bool×Unit}{ob:List Int}
theorem push_ok {bs:List Int}(hp:bs≠ [])(h:ob.length+bs.length≤4096):zgn WX (((),bs,()),((ob,false,()),()))=some ((true,()),((ob++bs,false,()),())):=by
 have e:IntKind.i64.wrap (4096-(ob.length:Int))=4096-(ob.length:Int):=w64 (by omega) (by omega)
 have hfl: [ob,bs].flatten=ob++bs:=by simp
 have hc:=concat_ok [ob,bs] (by rw[hfl];simp[hp]) (by rw[hfl,List.length_append];omega) (by simp)
 simp only[zgn,cond_false,↓xo,xw,e,of_ (show¬(bs.length:Int)>4096-(ob.length:Int) by omega),hc,Option.bind_some,hfl,List.take_length]
theorem c_note (h:Conn v i f o s fr (ob,false,())){n:De15}{bs:List Int}(hb:NB n bs)(hp:bs≠ [])(hl:ob.length+bs.length≤4096):
  zef WX (((),(i:Int),n,()),v.e)=some ((),{v with O:=v.O.set o ((ob++bs,false,()),())}.e):=by
 have hpu:=push_ok hp hl
 rcases hb with⟨x,h1,h2⟩|⟨x,h1,h2⟩
 ·simp only[zef,V.e,↓xo,ot (in16 h.lt),cond_true,Int.toNat_natCast,h.c,Option.bind_some,h1,h2,onS_succ,h.O,hpu]
 ·simp only[zef,V.e,↓xo,ot (in16 h.lt),cond_true,Int.toNat_natCast,h.c,Option.bind_some,h1,h2,onS_succ,h.O,hpu]
end
end AM
namespace AM
open Go Go.Proofs
set_option maxRecDepth 100000
section
variable {v:V}
theorem record_q {r:De10}{er now':Int}{L':List E168}{lg':De5}{mt':List De6}{b c}
  (h1:zfk WX (((),r,()),v.s)=some (.inl (((),er,()),(v.cfg,now',(),v.ph,v.mp,(),v.bp,v.lp,()),(v.tr,()),(v.op,v.ps,()),[],v.M,L',v.B,())))
  (h2:zga WX (((),r,()),(v.lg,()))=some (b,(lg',()))) (h3:ze0 WX (((),1,1,()),((v.mt,()),()))=some (c,((mt',()),()))):
  zcw WX (((),r,()),v.e)=some ((er,()),{v with now:=now',L:=L',lg:=lg',mt:=mt'}.e):=by
 have hl: ∀X,loopFix (zbc WX) (((),er,[],0,0,()),X)=some ((er,()),X):=fun X=>by
  have e0: ¬(0:Int)<0:=by omega
  rw[loopFix_eq]
  simp only[zbc,↓xo,of_ e0,cond_false]
 simp only[V.s] at h1
 simp only[zcw,V.e,h1,h2,h3,Option.bind_some,↓xl,List.length_nil,Int.natCast_zero,hl]
theorem may_locked {n p:Nat}{x:De1}{k:De0}(h:Tr v n x)(hk:Lk v n p k)(hl:isLocked k v.now=true):ze5 WX (((),(n:Int),()),v.e)=some ((15,()),v.e):=by
 have h1:=there_ok h
 have h2:=locked_ok hk
 simp only[V.s] at h2
 simp only[ze5,V.e,zel,Option.bind_some,h1,Bool.not_true,cond_false,h2,hl,cond_true]
def Alone (v:V)(n:Nat)(x:De1):Prop:= ∀i,i<16→∃f o s fr ou,Conn v i f o s fr ou∧(s.1=3→∃(m:Nat) (y:De1),s.2.1=(m:Int)∧m≠n∧Tr v m y∧y.1≠x.1)
theorem may_ok {n p:Nat}{x:De1}{k:De0}(h:Tr v n x)(hk:Lk v n p k)(hl:isLocked k v.now=false)(hoff:x.2.2.2.2.1=false)(ha:Alone v n x)(hq:1≤v.cfg.2.2.2.2.2.2.2.1):ze5 WX (((),(n:Int),()),v.e)=some ((0,()),v.e):=by
 have h1:=there_ok h
 have h2:=locked_ok hk
 have h3:=trader_ok h
 simp only[V.s] at h2
 have key: ∀m i:Nat,i+m=16→loopFix (zcb WX) (((),(n:Int),(),0,v.c,(i:Int),()),v.e)=some (.inr (((),0,()),v.e)):=by
  intro m
  induction m with
  |zero=>
   intro i hi
   rw[loopFix_eq]
   simp only[zcb,↓xo,of_ (show¬(i:Int)<16 by omega),cond_false]
  |succ m ih=>
   intro i hi
   obtain⟨f,o,s,fr,ou,hc,hf⟩:=ha i (by omega)
   rw[loopFix_eq]
   have e1:IntKind.i64.wrap ((i:Int)+1)=((i+1:Nat):Int):=by rw[w64 (by omega) (by omega)];omega
   have ih1:=ih (i+1) (by omega)
   simp only[V.e] at ih1
   by_cases h0:s.1=3
   ·obtain⟨m',y,g1,g2,g3,g4⟩:=hf h0
    have e2: ¬s.1=2:=by omega
    have e3: ¬(m':Int)=(n:Int):=by omega
    have h4:=trader_ok g3
    simp only[zcb,V.e,↓xo,xw,ot (show(i:Int)<16 by omega),ot (in16 hc.lt),cond_true,Option.bind_some,Int.toNat_natCast,hc.c,onS_succ,hc.S,zcv,ot h0,Bool.not_true,cond_false,set_self hc.S,e1,za4,of_ e2,g1,of_ e3,h3,h4,of_ g4,ih1]
   ·simp only[zcb,V.e,↓xo,xw,ot (show(i:Int)<16 by omega),ot (in16 hc.lt),cond_true,Option.bind_some,Int.toNat_natCast,hc.c,onS_succ,hc.S,zcv,of_ h0,Bool.not_false,set_self hc.S,e1,ih1]
 have hloop:=key 16 0 (by omega)
 simp only[V.e] at hloop
 change loopFix (zcb WX) (((),(n:Int),(),0,v.c,0,()),_)=_ at hloop
 simp only[ze5,V.e,zel,Option.bind_some,h1,Bool.not_true,cond_false,h2,hl,h3,hoff,↓xl,hloop,zcx,↓xo,of_ (show¬(0:Int)≥v.cfg.2.2.2.2.2.2.2.1 by omega)]
variable {i f o:Nat}{s:De7}{fr:(List Int)×Bool×Unit}{ou:(List Int)×Bool×Unit}{ob:List Int}
theorem c_refused (h:Conn v i f o s fr (ob,false,()))(er sq:Int)(hm:v.mt.length=4)(hl:ob.length+8≤4096):
  ∃bs mt',zcc WX (((),(i:Int),sq,er,()),v.e)=some ((),{v with mt:=mt',O:=v.O.set o ((ob++bs,false,()),())}.e)∧mt'.length=4∧bs.length=8:=by
 obtain⟨bs,h1,h2⟩:=nb_reject er sq
 obtain⟨mt',r,h3,h4⟩:=meter_add hm (i:=2) (by omega)
 have h5:=c_note (v:={v with mt:=mt'}) (n:=(4,er,sq,0,0,0,0,0,0,0,Z32,())) (bs:=bs) ⟨h.lt,h.c,h.S,h.F,h.O⟩ h1 (by intro e;rw[e] at h2;cases h2) (by omega)
 refine⟨bs,mt',?_,h4,h2⟩
 change ze0 WX (((),2,1,()),_)=_ at h3
 simp only[V.e] at h5
 simp only[zcc,V.e,h3,Option.bind_some,h5]
def s0:De7:=(0,0,Z32,0,0,())
theorem c_free (h:Conn v i f o s fr ou)(hm:v.mt.length=4):
  ∃mt',zeg WX (((),(i:Int),()),v.e)=some ((),{v with c:=v.c.set i (i+1,v.F.length+1,o+1,()),mt:=mt',S:=v.S.set i (s0,()),F:=v.F++ [(([],false,()),())]}.e)∧mt'.length=4:=by
 obtain⟨mt',r,h3,h4⟩:=meter_add hm (i:=3) (by omega)
 change ze0 WX (((),3,1,()),_)=_ at h3
 refine⟨mt',?_,h4⟩
 simp only[zeg,V.e,↓xo,ot (in16 h.lt),cond_true,Int.toNat_natCast,h.c,Option.bind_some,onS_succ,h.S,zbd,zic,h3,s0]
theorem c_drop (h:Conn v i f o s fr ou)(hm:v.mt.length=4)(ha:s.1=1∨s.1=2):
  ∃mt',zeh WX (((),(i:Int),()),v.e)=some ((),{v with c:=v.c.set i (i+1,v.F.length+1,o+1,()),mt:=mt',S:=v.S.set i (s0,()),F:=v.F++ [(([],false,()),())]}.e)∧mt'.length=4:=by
 obtain⟨mt',h1,h2⟩:=c_free h hm
 refine⟨mt',?_,h2⟩
 have e0: ¬s.1=0:=by omega
 have e3: ¬s.1=3:=by omega
 simp only[V.e] at h1
 rcases ha with ha|ha
 ·have e2: ¬s.1=2:=by omega
  simp only[zeh,V.e,↓xo,ot (in16 h.lt),cond_true,Int.toNat_natCast,h.c,Option.bind_some,onS_succ,h.S,zcv,za4,of_ e2,of_ e3,of_ e0,cond_false,set_self h.S,h1]
 ·simp only[zeh,V.e,↓xo,ot (in16 h.lt),cond_true,Int.toNat_natCast,h.c,Option.bind_some,onS_succ,h.S,zcv,za4,ot ha,of_ e3,of_ e0,cond_false,set_self h.S,h1]
end
end AM
namespace AM
open Go Go.Proofs
set_option maxRecDepth 100000
def MacT (key nonce tag:List Int):Prop:= ∃r1 r2,zje WX ((key,()),())=some r1∧zht WX (((),nonce,()),r1.2)=some r2∧r2.1=(tag,())
noncomputable def macF (key nonce:List Int):Option Bool:=(zje WX ((key,()),())).bind fun r1=>(zht WX (((),nonce,()),r1.2)).map fun r2=>Nat.beq r2.1.1.length 32
theorem mac': ∀f g:Nat→Int,macF ((List.range 32).map f) ((List.range 32).map g)=some true:=fun f g=>by kernel_rfl
theorem mac_ok {key nonce:List Int}(hk:key.length=32)(hn:nonce.length=32): ∃tag,MacT key nonce tag∧tag.length=32:=by
 obtain⟨f,rfl⟩:=range_map key hk
 obtain⟨g,rfl⟩:=range_map nonce hn
 have h:=mac' f g
 unfold macF at h
 cases e1:zje WX (((List.range 32).map f,()),()) with
 |none=>rw[e1] at h;cases h
 |some r1=>
  rw[e1,Option.bind_some] at h
  cases e2:zht WX (((),(List.range 32).map g,()),r1.2) with
  |none=>rw[e2] at h;cases h
  |some r2=>
   rw[e2,Option.map_some,Option.some.injEq] at h
   exact⟨r2.1.1,⟨r1,r2,e1,e2,rfl⟩,Nat.eq_of_beq_eq_true h⟩
def bv (x:Int):BitVec 8:=BitVec.ofInt 8 x
theorem wu8 (p:BitVec 8):IntKind.wrap .u8 (p.toNat:Int)=(p.toNat:Int):=by
 have:=p.isLt
 rw[IntKind.wrap_u8];omega
theorem bv_nat (p:BitVec 8):bv (p.toNat:Int)=p:=by
 unfold bv
 apply BitVec.eq_of_toNat_eq
 have:=p.isLt
 rw[BitVec.toNat_ofInt];omega
theorem x_bxor (x y:Int):WX.bxor .u8 x y=(((bv x^^^bv y).toNat:Nat):Int):=wu8 _
theorem x_bor (p q:BitVec 8):WX.bor .u8 (p.toNat:Int) (q.toNat:Int)=(((p|||q).toNat:Nat):Int):=by
 show IntKind.wrap .u8 ((((bv (p.toNat:Int))|||(bv (q.toNat:Int))).toNat:Nat):Int)=_
 rw[bv_nat,bv_nat,wu8]
theorem equal_loop (a b:List Int)(ha:a.length=32)(hb:b.length=32): ∀n i:Nat,i+n=32→∀acc:BitVec 8,∃acc':BitVec 8,loopFix (zgq WX) (((),(),(acc.toNat:Int),(i:Int),()),a,b,())=some ((((acc'.toNat:Nat):Int),()),a,b,())∧(acc≠0#8→acc'≠0#8)∧
  (acc=0#8→(∀j,i≤j→a[j]?=b[j]?)→acc'=0#8)∧(∀x y,i<32→a[i]?=some x→b[i]?=some y→bv x^^^bv y≠0#8→acc'≠0#8):=by
 intro n
 induction n with
 |zero=>
  intro i hi acc
  refine⟨acc,?_,fun h=>h,fun h _=>h,fun x y h=>by omega⟩
  rw[loopFix_eq]
  simp only[zgq,↓xo,of_ (show¬(i:Int)<32 by omega),cond_false]
 |succ n ih=>
  intro i hi acc
  have hx:=List.getElem?_eq_getElem (l:=a) (i:=i) (by omega)
  have hy:=List.getElem?_eq_getElem (l:=b) (i:=i) (by omega)
  generalize a[i]=x at hx
  generalize b[i]=y at hy
  obtain⟨acc',h1,h2,h3,h4⟩:=ih (i+1) (by omega) (acc|||(bv x^^^bv y))
  have e1:IntKind.i64.wrap ((i:Int)+1)=((i+1:Nat):Int):=by rw[w64 (by omega) (by omega)];omega
  refine⟨acc',?_,fun h=>h2 fun e=>h (BitVec.or_eq_zero_iff.1 e).1,fun h hj=>?_,fun x' y' _ hx' hy' hne=>?_⟩
  ·rw[loopFix_eq]
   simp only[zgq,↓xo,xw,ot (show(i:Int)<32 by omega),ot (in32 (show i<32 by omega)),cond_true,Int.toNat_natCast,hx,hy,Option.bind_some,x_bxor,x_bor,e1]
   exact h1
  ·have:x=y:=by have:=hj i (Nat.le_refl _);rw[hx,hy] at this;simpa using this
   subst this
   rw[h,BitVec.xor_self] at h3
   exact h3 (by rfl) fun j hj'=>hj j (by omega)
  ·rw[hx] at hx';rw[hy] at hy'
   cases hx';cases hy'
   exact h2 fun e=>hne (BitVec.or_eq_zero_iff.1 e).2
theorem equal_refl {t:List Int}(h:t.length=32):zix WX ((t,t,()),())=some ((true,()),()):=by
 obtain⟨acc',h1,_,h3,_⟩:=equal_loop t t h h 32 0 (by omega) 0#8
 have:=h3 rfl fun _ _=>rfl
 subst this
 change loopFix (zgq WX) (((),(),0,0,()),t,t,())=some ((0,()),t,t,()) at h1
 simp only[zix,↓xl,h1,Option.bind_some,↓xo,eq_self,odT]
theorem equal_flip {t:List Int}{x:Int}(h:t.length=32)(hx:t[0]?=some x):zix WX ((t.set 0 (WX.bxor .u8 x 1),t,()),())=some ((false,()),()):=by
 obtain⟨acc',h1,_,_,h4⟩:=equal_loop (t.set 0 (WX.bxor .u8 x 1)) t (by rw[List.length_set];exact h) h 32 0 (by omega) 0#8
 have:=h4 (WX.bxor .u8 x 1) x (by omega) (by rw[List.getElem?_set];simp[h]) hx (by
  rw[x_bxor,bv_nat]
  have:bv 1=1#8:=by decide
  rw[this,BitVec.xor_comm (bv x) 1#8,BitVec.xor_assoc,BitVec.xor_self,BitVec.xor_zero]
  decide)
 change loopFix (zgq WX) (((),(),0,0,()),_,_,())=_ at h1
 have hne: ¬(((acc'.toNat:Nat):Int))=0:=fun e=>this (BitVec.eq_of_toNat_eq (by
  have:acc'.toNat=0:=by omega
  rw[this];rfl))
 simp only[zix,↓xl,h1,Option.bind_some,↓xo,of_ hne]
theorem take32 {l:List Int}(h:l.length=32):(l.drop 0).take ((((32:Nat):Int)-(0:Int)).toNat)=l:=by
 rw[List.drop_zero,List.take_of_length_le]
 rw[h];decide
theorem ans_ok {key nonce tag tag':List Int}{b:Bool}(hk:key.length=32)(hn:nonce.length=32)(hm:MacT key nonce tag)(he:zix WX ((tag',tag,()),())=some ((b,()),()))(tr nx sn now:Int):
  za7 WX (((),key,tag',now,()),((2,tr,nonce,nx,sn,()),()))=some ((b,()),((if b then(3,tr,Z32,1,now,()) else s0),())):=by
 obtain⟨r1,r2,h1,h2,h3⟩:=hm
 have e0:(0:Int)≤0∧(0:Int)≤((32:Nat):Int)∧((32:Nat):Int)≤(32:Nat):=by omega
 cases b with
 |true=>simp only[za7,↓xo,eq_self,odT,Bool.not_true,cond_false,ot e0,cond_true,take32 hk,take32 hn,h1,h2,h3,he,Option.bind_some,if_true]
 |false=>simp only[za7,↓xo,eq_self,odT,Bool.not_true,Bool.not_false,cond_false,ot e0,cond_true,take32 hk,take32 hn,h1,h2,h3,he,Option.bind_some,zbd,Bool.false_eq_true,if_false,s0]
end AM
namespace AM
open Go Go.Proofs
set_option maxRecDepth 100000
section
variable {v:V}{i f o:Nat}{s:De7}{fr ou:(List Int)×Bool×Unit}
theorem bytes_one (h:Conn v i f o s fr ou)(hs:s.1≠0){bs x:List Int}{fr':(List Int)×Bool×Unit}(hf:zca WX (((),bs,()),(fr,()))=some (.inr (([x],()),(fr',()))))(hm:v.mt.length=4)
  {Q:V→Prop} (hb: ∀mt',mt'.length=4→∃v2,zem WX (((),(i:Int),x,()),{v with F:=v.F.set f (fr',()),mt:=mt'}.e)=some ((),v2.e)∧Fit v2∧(∃f2 o2 s2 fr2 ou2,Conn v2 i f2 o2 s2 fr2 ou2∧fr2.2.1=false)∧Q v2):
  ∃v2,zdo WX (((),(i:Int),bs,()),v.e)=some ((),v2.e)∧Q v2:=by
 obtain⟨mt',r,h3,h4⟩:=meter_add hm (i:=0) (by omega)
 change ze0 WX (((),0,1,()),_)=_ at h3
 obtain⟨v2,b1,b2,⟨f2,o2,s2,fr2,ou2,b3,b4⟩,b5⟩:=hb mt' h4
 refine⟨v2,?_,b5⟩
 have hc1:Conn {v with F:=v.F.set f (fr',())} i f o s fr' ou:=⟨h.lt,h.c,h.S,by
  have:=(List.getElem?_eq_some_iff.1 h.F).1
  show(v.F.set f (fr',()))[f]?=_
  rw[List.getElem?_set];simp[this],h.O⟩
 have hA:=c_At hc1
 have hS:=sweep_fit b2
 have e0:(0:Int)<1:=by omega
 have e1:(0:Int)≤0:=by omega
 have e2:IntKind.i64.wrap (0+1)=1:=by rw[w64 (by omega) (by omega)];rfl
 have e3: ¬(1:Int)<1:=by omega
 have e4:([x]:List (List Int))[(0:Int).toNat]?=some x:=rfl
 simp only[V.e] at hA b1 hS h3
 have hl:loopFix (zbv WX) (((),(i:Int),[x],1,0,()),{v with F:=v.F.set f (fr',())}.e)=some (((),(i:Int),()),v2.e):=by
  rw[loopFix_eq]
  simp only[zbv,V.e,↓xo,xw,ot e0,ot e1,cond_true,e4,Option.bind_some,hA,of_ hs,cond_false,h3,b1,hS,e2]
  rw[loopFix_eq]
  simp only[zbv,↓xo,of_ e3,cond_false]
 simp only[V.e] at hl
 simp only[zdo,V.e,↓xo,ot (in16 h.lt),cond_true,Int.toNat_natCast,h.c,Option.bind_some,onS_succ,h.F,hf,List.length_cons,List.length_nil,Nat.zero_add,Int.natCast_one,↓xl,hl,b3.c,b3.F,zc0,b4,cond_false,set_self b3.F]
theorem do_bytes (h:Conn v i f o s fr ou)(hs:s.1≠0){bs:List Int}{Q:V→Prop}(hb: ∃v2,zdo WX (((),(i:Int),bs,()),v.e)=some ((),v2.e)∧Q v2):
  ∃v2,zfq WX (((),(2,(i:Int),0,Z32,bs,()),()),v.e)=some ((true,()),v2.e)∧Q v2:=by
 obtain⟨v2,b1,b2⟩:=hb
 refine⟨v2,?_,b2⟩
 have hl:=h.lt
 have e1: ¬(2:Int)=4:=by omega
 have e2: ¬(2:Int)=1:=by omega
 simp only[V.e] at b1
 simp only[zfq,zhm,V.e,↓xo,of_ e1,of_ e2,cond_false,ot (show(i:Int)≥0 by omega),ot (show(i:Int)<16 by omega),ot (in16 hl),cond_true,Option.bind_some,Bool.not_true,eq_self,odT,Int.toNat_natCast,h.c,onS_succ,h.S,zcv,of_ hs,set_self h.S,b1]
theorem do_connect (h:Conn v i f o s fr ou)(hs:s.1=0)(nc:List Int):
  zfq WX (((),(1,(i:Int),0,nc,[],()),()),v.e)=some ((true,()),{v with c:=v.c.set i (i+1,v.F.length+1,v.O.length+1,()),S:=v.S.set i ((1,0,nc,0,v.now,()),()),F:=v.F++ [(([],false,()),())],O:=v.O++ [(([],false,()),())]}.e):=by
 have hl:=h.lt
 have e1: ¬(1:Int)=4:=by omega
 have hc:i<v.c.length:=(List.getElem?_eq_some_iff.1 h.c).1
 have e3:(v.c.set i (i+1,v.F.length+1,o+1,()))[i]?=some (i+1,v.F.length+1,o+1,()):=by rw[List.getElem?_set];simp[hc]
 simp only[zfq,zhm,V.e,↓xo,of_ e1,cond_false,ot (show(i:Int)≥0 by omega),ot (show(i:Int)<16 by omega),ot (in16 hl),cond_true,Option.bind_some,Bool.not_true,eq_self,odT,Int.toNat_natCast,h.c,onS_succ,h.S,zeo,zbt,ot hs,zic,zi8,e3,List.set_set]
theorem Conn.other {j f' o':Nat}{s':De7}{fr' ou':(List Int)×Bool×Unit}(h:Conn v j f' o' s' fr' ou')(hij:j≠i)(c':Nat×Nat×Nat×Unit)(s2:E185)(F':List E187):Conn {v with c:=v.c.set i c',S:=v.S.set i s2,F:=v.F++F'} j f' o' s' fr' ou':=by
 refine⟨h.lt,?_,?_,?_,h.O⟩
 ·show(v.c.set i c')[j]?=_
  rw[List.getElem?_set_ne (Ne.symm hij)];exact h.c
 ·show(v.S.set i s2)[j]?=_
  rw[List.getElem?_set_ne (Ne.symm hij)];exact h.S
 ·show(v.F++F')[f']?=_
  rw[List.getElem?_append_left (List.getElem?_eq_some_iff.1 h.F).1];exact h.F
end
end AM
namespace AM
open Go Go.Proofs
set_option maxRecDepth 100000
section
variable {v:V}{i f o:Nat}{s:De7}{fr ou:(List Int)×Bool×Unit}
theorem fit_same {v':V}(hc:v'.c=v.c)(hS:v'.S=v.S)(hF:v'.F=v.F)(hO:v'.O=v.O)(h:Fit v):Fit v':=fun i hi=>by
 obtain⟨f,o,s,fr,ou,h1,h2⟩:=h i hi
 exact⟨f,o,s,fr,ou,⟨h1.lt,by rw[hc];exact h1.c,by rw[hS];exact h1.S,by rw[hF];exact h1.F,by rw[hO];exact h1.O⟩,h2⟩
theorem set_get {β:Type}{l:List β}{n:Nat}{x y:β}(h:l[n]?=some x):(l.set n y)[n]?=some y:=by
 have:=(List.getElem?_eq_some_iff.1 h).1
 rw[List.getElem?_set];simp[this]
theorem set_other {β:Type}{l:List β}{n m:Nat}{y:β}(h:m≠n):(l.set n y)[m]?=l[m]?:=List.getElem?_set_ne (Ne.symm h)
theorem Conn.out (h:Conn v i f o s fr ou)(ou':(List Int)×Bool×Unit):Conn {v with O:=v.O.set o (ou',())} i f o s fr ou':=⟨h.lt,h.c,h.S,h.F,set_get h.O⟩
theorem Conn.ses (h:Conn v i f o s fr ou)(s':De7):Conn {v with S:=v.S.set i (s',())} i f o s' fr ou:=⟨h.lt,h.c,set_get h.S,h.F,h.O⟩
theorem fit_out (h:Fit v)(x:List Int)(o:Nat):Fit {v with O:=v.O.set o ((x,false,()),())}:=fun j hj=>by
 obtain⟨f,o',s,fr,ou,h1,h2⟩:=h j hj
 by_cases e:o'=o
 ·subst e
  exact⟨f,o',s,fr,_,⟨h1.lt,h1.c,h1.S,h1.F,set_get h1.O⟩,fun _=>rfl⟩
 ·exact⟨f,o',s,fr,ou,⟨h1.lt,h1.c,h1.S,h1.F,by show(v.O.set o _)[o']?=_;rw[set_other e];exact h1.O⟩,h2⟩
theorem fit_frame (h:Fit v)(x:E187)(f:Nat):Fit {v with F:=v.F.set f x}:=fun j hj=>by
 obtain⟨f',o,s,fr,ou,h1,h2⟩:=h j hj
 by_cases e:f'=f
 ·subst e
  exact⟨f',o,s,x.1,ou,⟨h1.lt,h1.c,h1.S,set_get h1.F,h1.O⟩,h2⟩
 ·exact⟨f',o,s,fr,ou,⟨h1.lt,h1.c,h1.S,by show(v.F.set f _)[f']?=_;rw[set_other e];exact h1.F,h1.O⟩,h2⟩
theorem fit_ses (h:Fit v)(hc:Conn v i f o s fr ou)(s':De7)(hs:s'.1≠0→ou.2.1=false):Fit {v with S:=v.S.set i (s',())}:=fun j hj=>by
 by_cases e:j=i
 ·subst e
  exact⟨f,o,s',fr,ou,hc.ses s',hs⟩
 ·obtain⟨f',o',s2,fr',ou',h1,h2⟩:=h j hj
  exact⟨f',o',s2,fr',ou',⟨h1.lt,h1.c,by show(v.S.set i _)[j]?=_;rw[set_other e];exact h1.S,h1.F,h1.O⟩,h2⟩
theorem fit_conn (h:Fit v)(hc:Conn v i f o s fr ou){F':List E187}{O':List E189}{f' o':Nat}{fr' ou':(List Int)×Bool×Unit}{s':De7}(hF:(v.F++F')[f']?=some (fr',()))(hO:(v.O++O')[o']?=some (ou',()))(hs:s'.1≠0→ou'.2.1=false):
  Fit {v with c:=v.c.set i (i+1,f'+1,o'+1,()),S:=v.S.set i (s',()),F:=v.F++F',O:=v.O++O'}:=fun j hj=>by
 by_cases e:j=i
 ·subst e
  exact⟨f',o',s',fr',ou',⟨hc.lt,set_get hc.c,set_get hc.S,hF,hO⟩,hs⟩
 ·obtain⟨f2,o2,s2,fr2,ou2,h1,h2⟩:=h j hj
  refine⟨f2,o2,s2,fr2,ou2,⟨h1.lt,?_,?_,?_,?_⟩,h2⟩
  ·show(v.c.set i _)[j]?=_;rw[set_other e];exact h1.c
  ·show(v.S.set i _)[j]?=_;rw[set_other e];exact h1.S
  ·show(v.F++F')[f2]?=_;rw[List.getElem?_append_left (List.getElem?_eq_some_iff.1 h1.F).1];exact h1.F
  ·show(v.O++O')[o2]?=_;rw[List.getElem?_append_left (List.getElem?_eq_some_iff.1 h1.O).1];exact h1.O
theorem c_hello {ob:List Int}{tr nx sn n:Int}{nc x:List Int}(h:Conn v i f o (1,tr,nc,nx,sn,()) fr (ob,false,()))(hn:nc.length=32)(hl:ob.length+35≤4096)(hg:zjd WX ((x,()),())=some ((helloC n,true,()),())):
  ∃bs,zem WX (((),(i:Int),x,()),v.e)=some ((),{v with S:=v.S.set i ((2,n,nc,nx,v.now,()),()),O:=v.O.set o ((ob++bs,false,()),())}.e)∧bs.length=35:=by
 obtain⟨bs,h1,h2⟩:=nb_challenge hn
 refine⟨bs,?_,h2⟩
 have h3:=c_note (h.ses (2,n,nc,nx,v.now,())) h1 (by intro e;rw[e] at h2;cases h2) (by omega)
 simp only[V.e] at h3
 have e1: ¬(2:Int)=1:=by omega
 have hs:=set_get (y:=((2,n,nc,nx,v.now,()),())) h.S
 have hk:helloC n=(1,0,n,0,0,0,0,0,0,0,0,0,0,0,Z32,()):=rfl
 rw[hk] at hg
 simp only[zem,V.e,↓xo,ot (in16 h.lt),cond_true,Int.toNat_natCast,h.c,Option.bind_some,hg,Bool.not_true,cond_false,eq_self,odT,zeo,onS_succ,h.S,zbf,hs,zbg,of_ e1,List.set_set,h3]
theorem c_ans_locked {ob:List Int}{nx sn:Int}{n p:Nat}{nc tag:List Int}{x:De1}{k:De0}(h:Conn v i f o (2,(n:Int),nc,nx,sn,()) fr (ob,false,()))(ht:Tr v n x)(hk:Lk v n p k)(hlk:isLocked k v.now=true)(hm:v.mt.length=4)(hl:ob.length+8≤4096):
  ∃bs mt',zcz WX (((),(i:Int),tag,()),v.e)=some ((),{v with c:=v.c.set i (i+1,v.F.length+1,o+1,()),mt:=mt',S:=v.S.set i (s0,()),F:=v.F++ [(([],false,()),())],O:=v.O.set o ((ob++bs,false,()),())}.e)∧mt'.length=4∧bs.length=8:=by
 have hmay:=may_locked ht hk hlk
 obtain⟨bs,mt1,h1,h2,h3⟩:=c_refused h 15 0 hm hl
 obtain⟨mt2,h4,h5⟩:=c_drop (v:={v with mt:=mt1,O:=v.O.set o ((ob++bs,false,()),())}) (i:=i) (f:=f) (o:=o) (s:=(2,(n:Int),nc,nx,sn,())) (fr:=fr) (ou:=(ob++bs,false,())) ⟨h.lt,h.c,h.S,h.F,set_get h.O⟩ h2 (.inr rfl)
 refine⟨bs,mt2,?_,h5,h3⟩
 simp only[V.e] at hmay h1 h4
 have e0: ¬(15:Int)=0:=by omega
 simp only[zcz,V.e,↓xo,ot (in16 h.lt),cond_true,Int.toNat_natCast,h.c,Option.bind_some,onS_succ,h.S,za4,zcv,eq_self,odT,set_self h.S,Bool.not_true,cond_false,hmay,of_ e0,Bool.not_false,h1,h4]
theorem c_ans_wrong {ob:List Int}{nx sn:Int}{n p m:Nat}{nc tag' tag:List Int}{x:De1}{k:De0}(h:Conn v i f o (2,(n:Int),nc,nx,sn,()) fr (ob,false,()))(ht:Tr v n x)(hk:Lk v n p k)(hlk:isLocked k v.now=false)(hoff:x.2.2.2.2.1=false)(hkey:x.2.2.2.2.2.1.length=32)(hn:nc.length=32)(ha:Alone v n x)(hq:1≤v.cfg.2.2.2.2.2.2.2.1)
  (hmac:MacT x.2.2.2.2.2.1 nc tag) (he:zix WX ((tag',tag,()),())=some ((false,()),())) (hm:v.mt.length=4) (hl:ob.length+8≤4096) (hlg:LogOK v.lg m) (hmm:m≤100000000000):
  ∃bs mt' lg',zcz WX (((),(i:Int),tag',()),v.e)=some ((),{v with c:=v.c.set i (i+1,v.F.length+1,o+1,()),mt:=mt',S:=v.S.set i (s0,()),F:=v.F++ [(([],false,()),())],O:=v.O.set o ((ob++bs,false,()),()),L:=v.L.set p (failed k v.now,()),lg:=lg'}.e)∧mt'.length=4∧bs.length=8∧LogOK lg' (m+46):=by
 have hmay:=may_ok ht hk hlk hoff ha hq
 have htr:=trader_ok ht
 have hans:=ans_ok hkey hn hmac he (n:Int) nx sn v.now
 have hdo:=do_wrong ht hk
 obtain⟨lg',g1,g2⟩:=log_add hlg hmm (right_q (k:=3) (n:=(n:Int)) (.inl rfl) (by omega) (by have:=ht.lt;omega))
 obtain⟨mt1,r1,g3,g4⟩:=meter_add hm (i:=1) (by omega)
 change ze0 WX (((),1,1,()),_)=_ at g3
 have hrec:=record_q (v:={v with S:=v.S.set i (s0,())}) (r:=(3,0,(n:Int),C0,())) hdo g1 g3
 obtain⟨bs,mt2,h1,h2,h3⟩:=c_refused (v:={v with S:=v.S.set i (s0,()),L:=v.L.set p (failed k v.now,()),lg:=lg',mt:=mt1}) (i:=i) (f:=f) (o:=o) (s:=s0) (fr:=fr) (ob:=ob) ⟨h.lt,h.c,set_get h.S,h.F,h.O⟩ 16 0 g4 hl
 obtain⟨mt3,h4,h5⟩:=c_free (v:={v with S:=v.S.set i (s0,()),L:=v.L.set p (failed k v.now,()),lg:=lg',mt:=mt2,O:=v.O.set o ((ob++bs,false,()),())}) (i:=i) (f:=f) (o:=o) (s:=s0) (fr:=fr) (ou:=(ob++bs,false,())) ⟨h.lt,h.c,set_get h.S,h.F,set_get h.O⟩ h2
 refine⟨bs,mt3,lg',?_,h5,h3,g2⟩
 simp only[V.e] at hmay h1 h4 hrec
 simp only[Bool.false_eq_true,if_false] at hans
 simp only[zcz,V.e,↓xo,ot (in16 h.lt),cond_true,Int.toNat_natCast,h.c,Option.bind_some,onS_succ,h.S,za4,zcv,eq_self,odT,set_self h.S,Bool.not_true,cond_false,hmay,zel,htr,zeo,hans,Bool.not_false,hrec,h1,h4,List.set_set]
theorem c_ans_right {ob:List Int}{nx sn:Int}{n p m:Nat}{nc tag:List Int}{x:De1}{k:De0}(h:Conn v i f o (2,(n:Int),nc,nx,sn,()) fr (ob,false,()))(ht:Tr v n x)(hk:Lk v n p k)(hlk:isLocked k v.now=false)(hoff:x.2.2.2.2.1=false)(hkey:x.2.2.2.2.2.1.length=32)(hn:nc.length=32)(ha:Alone v n x)(hq:1≤v.cfg.2.2.2.2.2.2.2.1)
  (hmac:MacT x.2.2.2.2.2.1 nc tag) (htl:tag.length=32) (hm:v.mt.length=4) (hl:ob.length+8≤4096) (hlg:LogOK v.lg m) (hmm:m≤100000000000):
  ∃bs mt' lg',zcz WX (((),(i:Int),tag,()),v.e)=some ((),{v with mt:=mt',S:=v.S.set i ((3,(n:Int),Z32,1,v.now,()),()),O:=v.O.set o ((ob++bs,false,()),()),L:=v.L.set p ((k.1,k.2.1,0,0,()),()),lg:=lg'}.e)∧mt'.length=4∧bs.length=3∧LogOK lg' (m+46):=by
 have hmay:=may_ok ht hk hlk hoff ha hq
 have htr:=trader_ok ht
 have hans:=ans_ok hkey hn hmac (equal_refl htl) (n:Int) nx sn v.now
 have hdo:=do_right ht hk hlk
 obtain⟨lg',g1,g2⟩:=log_add hlg hmm (right_q (k:=4) (n:=(n:Int)) (.inr (.inl rfl)) (by omega) (by have:=ht.lt;omega))
 obtain⟨mt1,r1,g3,g4⟩:=meter_add hm (i:=1) (by omega)
 change ze0 WX (((),1,1,()),_)=_ at g3
 have hrec:=record_q (v:={v with S:=v.S.set i ((3,(n:Int),Z32,1,v.now,()),())}) (r:=(4,0,(n:Int),C0,())) hdo g1 g3
 obtain⟨bs,h1,h2⟩:=nb_welcome
 have h3:=c_note (v:={v with S:=v.S.set i ((3,(n:Int),Z32,1,v.now,()),()),L:=v.L.set p ((k.1,k.2.1,0,0,()),()),lg:=lg',mt:=mt1}) (i:=i) (f:=f) (o:=o) (s:=(3,(n:Int),Z32,1,v.now,())) (fr:=fr) (ob:=ob) ⟨h.lt,h.c,set_get h.S,h.F,h.O⟩ h1 (by intro e;rw[e] at h2;cases h2) (by omega)
 refine⟨bs,mt1,lg',?_,g4,h2,g2⟩
 simp only[V.e] at hmay h3 hrec
 simp only[if_true] at hans
 simp only[zcz,V.e,↓xo,ot (in16 h.lt),cond_true,Int.toNat_natCast,h.c,Option.bind_some,onS_succ,h.S,za4,zcv,eq_self,odT,set_self h.S,Bool.not_true,cond_false,hmay,zel,htr,zeo,hans,hrec,h3]
end
end AM
namespace AM
open Go Go.Proofs
set_option maxRecDepth 100000
theorem nonce_ok (j:Int): ∃nc:List Int,zen WX ((j,()),())=some ((nc,()),())∧nc.length=32:=len32_ok (by kernel_rfl)
structure Q (v:V)(m:Nat):Prop where
 fit:Fit v
 mt:v.mt.length=4
 lg:LogOK v.lg m
 le:m≤10000000000
 lp: ∀n,n<32→v.lp[n]?=some (n+1)
 quota:1≤v.cfg.2.2.2.2.2.2.2.1
def Hello (n:Int):Prop:= ∃fb x r,zja WX ((helloC n,()),())=some r∧ziv WX (r.2,())=some (((),()),(fb,()))∧zca WX (((),fb,()),(([],false,()),()))=some (.inr (([x],()),(([],false,()),())))∧zjd WX ((x,()),())=some ((helloC n,true,()),())
theorem hello2:Hello 2:=by
 obtain⟨r,h1,h2⟩:=Option.bind_eq_some_iff.1 hello_frame2
 exact⟨_,_,r,h1,h2,hello_feed2,hello_get2⟩
theorem hello4:Hello 4:=by
 obtain⟨r,h1,h2⟩:=Option.bind_eq_some_iff.1 hello_frame4
 exact⟨_,_,r,h1,h2,hello_feed4,hello_get4⟩
theorem answer_ok {tag:List Int}(h:tag.length=32): ∃fb x r,zja WX ((answerC tag,()),())=some r∧ziv WX (r.2,())=some (((),()),(fb,()))∧zca WX (((),fb,()),(([],false,()),()))=some (.inr (([x],()),(([],false,()),())))∧zjd WX ((x,()),())=some ((answerC tag,true,()),()):=by
 obtain⟨f,rfl⟩:=range_map tag h
 obtain⟨r,h1,h2⟩:=Option.bind_eq_some_iff.1 (ans_frame' f)
 exact⟨_,_,r,h1,h2,ans_feed' f,ans_get' f⟩
section
variable {v:V}{i f o:Nat}{s:De7}{fr ou:(List Int)×Bool×Unit}
theorem send_ok {c:De9}{r:_}{fb:List Int}(h1:zja WX ((c,()),())=some r)(h2:ziv WX (r.2,())=some (((),()),(fb,()))){P:V→Prop}(h3: ∃v2,zfq WX (((),(2,(i:Int),0,Z32,fb,()),()),v.e)=some ((true,()),v2.e)∧P v2):
  ∃v2,zfr WX (((),(i:Int),c,()),v.e)=some ((true,()),v2.e)∧P v2:=by
 obtain⟨v2,h4,h5⟩:=h3
 exact⟨v2,by simp only[zfr,h1,Option.bind_some,h2,h4],h5⟩
structure Asked (v v2:V)(i:Nat)(n:Int)(nc:List Int):Prop where
 eq: ∃mt' ob,v2={v with c:=v.c.set i (i+1,v.F.length+1,v.O.length+1,()),S:=v.S.set i ((2,n,nc,0,v.now,()),()),mt:=mt',F:=v.F++ [(([],false,()),())],O:=v.O++ [((ob,false,()),())]}∧ob.length=35∧Conn v2 i v.F.length v.O.length (2,n,nc,0,v.now,()) ([],false,()) (ob,false,())
 fit:Fit v2
 mt:v2.mt.length=4
theorem app_set {β:Type}(l:List β)(a b:β):(l++ [a]).set l.length b=l++ [b]:=by simp
theorem asked_ok (h:Conn v i f o s fr ou)(hs:s.1=0)(hf:Fit v)(hm:v.mt.length=4){n:Int}(hh:Hello n){nc:List Int}(hn:nc.length=32):
  ∃v1 v2:V,zfq WX (((),(1,(i:Int),0,nc,[],()),()),v.e)=some ((true,()),v1.e)∧zfr WX (((),(i:Int),helloC n,()),v1.e)=some ((true,()),v2.e)∧Asked v v2 i n nc:=by
 obtain⟨fb,x,r,g1,g2,g3,g4⟩:=hh
 have h1:=do_connect h hs nc
 have hF:(v.F++ [((([]:List Int),false,()),())])[v.F.length]?=some (([],false,()),()):=by simp
 have hO:(v.O++ [((([]:List Int),false,()),())])[v.O.length]?=some (([],false,()),()):=by simp
 generalize hv1:({v with c:=v.c.set i (i+1,v.F.length+1,v.O.length+1,()),S:=v.S.set i ((1,0,nc,0,v.now,()),()),F:=v.F++ [(([],false,()),())],O:=v.O++ [(([],false,()),())]}:V)=v1 at h1
 have c1:Conn v1 i v.F.length v.O.length (1,0,nc,0,v.now,()) ([],false,()) ([],false,()):=by
  subst hv1;exact⟨h.lt,set_get h.c,set_get h.S,hF,hO⟩
 have f1:Fit v1:=by subst hv1;exact fit_conn hf h hF hO fun _=>rfl
 have m1:v1.mt.length=4:=by subst hv1;exact hm
 obtain⟨v2,h2,h3⟩:=send_ok (v:=v1) (i:=i) (P:=fun v2=>Asked v v2 i n nc) g1 g2 (do_bytes c1 (show(1:Int)≠0 by omega) (bytes_one c1 (show(1:Int)≠0 by omega) g3 m1 fun mt' hmt'=>by
  subst hv1
  have cb:=(⟨c1.lt,c1.c,c1.S,set_get c1.F,c1.O⟩:Conn {c:=v.c.set i (i+1,v.F.length+1,v.O.length+1,()),cfg:=v.cfg,now:=v.now,ph:=v.ph,mp:=v.mp,bp:=v.bp,lp:=v.lp,tr:=v.tr,op:=v.op,ps:=v.ps,lg:=v.lg,mt:=mt',M:=v.M,L:=v.L,S:=v.S.set i ((1,0,nc,0,v.now,()),()),F:=(v.F++ [(([],false,()),())]).set v.F.length (([],false,()),()),O:=v.O++ [(([],false,()),())],B:=v.B} i v.F.length v.O.length (1,0,nc,0,v.now,()) ([],false,()) ([],false,()))
  obtain⟨bs,b1,b2⟩:=c_hello cb hn (by simp) g4
  have cb2:=(cb.ses (2,n,nc,0,v.now,())).out ([]++bs,false,())
  have fb1:=fit_same (v':={c:=v.c.set i (i+1,v.F.length+1,v.O.length+1,()),cfg:=v.cfg,now:=v.now,ph:=v.ph,mp:=v.mp,bp:=v.bp,lp:=v.lp,tr:=v.tr,op:=v.op,ps:=v.ps,lg:=v.lg,mt:=mt',M:=v.M,L:=v.L,S:=v.S.set i ((1,0,nc,0,v.now,()),()),F:=(v.F++ [(([],false,()),())]).set v.F.length (([],false,()),()),O:=v.O++ [(([],false,()),())],B:=v.B}) (by rfl) (by rfl) (by rfl) (by rfl) (fit_frame f1 (([],false,()),()) v.F.length)
  have fb2:=fit_out (fit_ses fb1 cb (2,n,nc,0,v.now,()) fun _=>rfl) ([]++bs) v.O.length
  exact⟨_,b1,fb2,⟨v.F.length,v.O.length,_,_,_,cb2,rfl⟩,⟨⟨mt',[]++bs,by rw[List.set_set,app_set,app_set],by simpa using b2,cb2⟩,fb2,hmt'⟩⟩))
 exact⟨v1,v2,h1,h2,h3⟩
end
end AM
namespace AM
open Go Go.Proofs
set_option maxRecDepth 100000
section
variable {v:V}{i f o:Nat}{s:De7}{fr ou:(List Int)×Bool×Unit}
theorem c_body_ans (h:Conn v i f o s fr ou){x tag:List Int}(hg:zjd WX ((x,()),())=some ((answerC tag,true,()),())){v2:V}(ha:zcz WX (((),(i:Int),tag,()),v.e)=some ((),v2.e)):
  zem WX (((),(i:Int),x,()),v.e)=some ((),v2.e):=by
 have hk:answerC tag=(2,0,0,0,0,0,0,0,0,0,0,0,0,0,tag,()):=rfl
 rw[hk] at hg
 have e1: ¬(2:Int)=1:=by omega
 simp only[V.e] at ha
 simp only[zem,V.e,↓xo,ot (in16 h.lt),cond_true,Int.toNat_natCast,h.c,Option.bind_some,hg,Bool.not_true,cond_false,of_ e1,eq_self,odT,ha]
theorem free_fit (hf:Fit v)(hc:Conn v i f o s fr ou):Fit {v with c:=v.c.set i (i+1,v.F.length+1,o+1,()),S:=v.S.set i (s0,()),F:=v.F++ [(([],false,()),())]}∧
  Conn {v with c:=v.c.set i (i+1,v.F.length+1,o+1,()),S:=v.S.set i (s0,()),F:=v.F++ [(([],false,()),())]} i v.F.length o s0 ([],false,()) ou:=by
 have hF:(v.F++ [((([]:List Int),false,()),())])[v.F.length]?=some (([],false,()),()):=by simp
 have hO:(v.O++ [])[o]?=some (ou,()):=by rw[List.append_nil];exact hc.O
 have h1:=fit_conn (O':=[]) hf hc (s':=s0) hF hO (fun h=>absurd rfl h)
 rw[List.append_nil] at h1
 exact⟨h1,hc.lt,set_get hc.c,set_get hc.S,hF,hc.O⟩
structure Went (v v3:V)(i:Nat)(sf:De7)(L':List E168)(m':Nat):Prop where
 eq: ∃c' mt' F' O' lg',v3={v with c:=c',S:=v.S.set i (sf,()),mt:=mt',F:=F',O:=O',L:=L',lg:=lg'}
 ex:sf.1=3→∃mt' lg' ob,v3={v with c:=v.c.set i (i+1,v.F.length+1,v.O.length+1,()),S:=v.S.set i (sf,()),mt:=mt',F:=v.F++ [(([],false,()),())],O:=v.O++ [((ob,false,()),())],L:=L',lg:=lg'}∧ob.length=38
 conn: ∃f o ob,Conn v3 i f o sf ([],false,()) (ob,false,())∧ob.length≤50
 q:Q v3 m'
theorem ans_send {v2:V}{ob:List Int}{tag:List Int}(ht:tag.length=32)(hc:Conn v2 i f o s ([],false,()) (ob,false,()))(hs:s.1≠0)(hm:v2.mt.length=4){P:V→Prop}
  (hb: ∀mt',mt'.length=4→Conn {v2 with F:=v2.F.set f (([],false,()),()),mt:=mt'} i f o s ([],false,()) (ob,false,())→∃v3,zcz WX (((),(i:Int),tag,()),{v2 with F:=v2.F.set f (([],false,()),()),mt:=mt'}.e)=some ((),v3.e)∧Fit v3∧(∃f2 o2 s2 fr2 ou2,Conn v3 i f2 o2 s2 fr2 ou2∧fr2.2.1=false)∧P v3):
  ∃v3,zfr WX (((),(i:Int),answerC tag,()),v2.e)=some ((true,()),v3.e)∧P v3:=by
 obtain⟨fb,x,r,g1,g2,g3,g4⟩:=answer_ok ht
 exact send_ok g1 g2 (do_bytes hc hs (bytes_one hc hs g3 hm fun mt' hmt'=>by
  have c1:Conn {v2 with F:=v2.F.set f (([],false,()),()),mt:=mt'} i f o s ([],false,()) (ob,false,()):=⟨hc.lt,hc.c,hc.S,set_get hc.F,hc.O⟩
  obtain⟨v3,h1,h2,h3,h4⟩:=hb mt' hmt' c1
  exact⟨v3,c_body_ans c1 g4 h1,h2,h3,h4⟩))
theorem sent_locked {v2:V}{m n p:Nat}{nc tag:List Int}{x:De1}{k:De0}(hq:Q v m)(ha:Asked v v2 i (n:Int) nc)(ht:Tr v n x)(hk:Lk v n p k)(hl:isLocked k v.now=true)(htl:tag.length=32):
  ∃v3,zfr WX (((),(i:Int),answerC tag,()),v2.e)=some ((true,()),v3.e)∧Went v v3 i s0 v.L m:=by
 obtain⟨⟨mt2,ob,rfl,hob,hc⟩,hfit,hmt⟩:=ha
 generalize hc':v.c.set i (i+1,v.F.length+1,v.O.length+1,())=c' at*
 generalize hF':v.F++ [((([]:List Int),false,()),())]=F' at*
 generalize hO':v.O++ [((ob,false,()),())]=O' at*
 generalize v.F.length=f at*
 generalize v.O.length=o at*
 refine ans_send htl hc (show(2:Int)≠0 by omega) hmt fun mt' hmt' c1=>?_
 obtain⟨bs,mt3,h1,h2,h3⟩:=c_ans_locked (tag:=tag) (p:=p) (x:=x) (k:=k) c1 ⟨ht.lt,ht.tr,ht.roles⟩ ⟨hk.lt,hk.lp,hk.L⟩ hl hmt' (by omega)
 have f1:=fit_frame hfit (([],false,()),()) f
 have f2:=fit_out f1 (ob++bs) o
 have c2:=c1.out (ob++bs,false,())
 have c3:Conn {c:=c',cfg:=v.cfg,now:=v.now,ph:=v.ph,mp:=v.mp,bp:=v.bp,lp:=v.lp,tr:=v.tr,op:=v.op,ps:=v.ps,lg:=v.lg,mt:=mt2,M:=v.M,L:=v.L,S:=v.S.set i ((2,(n:Int),nc,0,v.now,()),()),F:=F'.set f (([],false,()),()),O:=O'.set o ((ob++bs,false,()),()),B:=v.B} i f o (2,(n:Int),nc,0,v.now,()) ([],false,()) (ob++bs,false,()):=⟨c2.lt,c2.c,c2.S,c2.F,c2.O⟩
 obtain⟨f3,c4⟩:=free_fit f2 c3
 refine⟨_,h1,fit_same (by rfl) (by rfl) (by rfl) (by rfl) f3,⟨_,_,_,_,_,⟨c4.lt,c4.c,c4.S,c4.F,c4.O⟩,rfl⟩,⟨⟨_,mt3,_,_,_,by rw[List.set_set]⟩,fun e=>absurd e (by show¬(0:Int)=3;omega),⟨_,_,ob++bs,⟨c4.lt,c4.c,c4.S,c4.F,c4.O⟩,by rw[List.length_append];omega⟩,⟨fit_same (by rfl) (by rfl) (by rfl) (by rfl) f3,h2,hq.lg,hq.le,hq.lp,hq.quota⟩⟩⟩
end
end AM
namespace AM
open Go Go.Proofs
set_option maxRecDepth 100000
def Al (S:List E185)(tr:List De1)(n:Nat)(x:De1):Prop:= ∀(j:Nat) (s:De7),S[j]?=some (s,())→s.1=3→∃(m:Nat) (y:De1),s.2.1=(m:Int)∧m≠n∧m<32∧tr[m]?=some y∧y.2.2.1≠0∧y.1≠x.1
theorem alone_of {v:V}{n:Nat}{x:De1}(hf:Fit v)(h:Al v.S v.tr n x):Alone v n x:=fun i hi=>by
 obtain⟨f,o,s,fr,ou,h1,h2⟩:=hf i hi
 refine⟨f,o,s,fr,ou,h1,fun h3=>?_⟩
 obtain⟨m,y,g1,g2,g3,g4,g5,g6⟩:=h i s h1.S h3
 exact⟨m,y,g1,g2,⟨g3,g4,g5⟩,g6⟩
theorem al_set {S:List E185}{tr:List De1}{n i:Nat}{x:De1}(h:Al S tr n x)(s':De7)(hs:s'.1≠3):Al (S.set i (s',())) tr n x:=fun j s h1 h3=>by
 by_cases e:j=i
 ·subst e
  rw[List.getElem?_set] at h1
  simp only[if_true] at h1
  split at h1
  ·cases h1;exact absurd h3 hs
  ·cases h1
 ·rw[set_other e] at h1;exact h j s h1 h3
section
variable {v:V}{i:Nat}
theorem sent_wrong {v2:V}{m n p:Nat}{nc tag' tag:List Int}{x:De1}{k:De0}(hq:Q v m)(hm0:m+46≤10000000000)(ha:Asked v v2 i (n:Int) nc)(ht:Tr v n x)(hk:Lk v n p k)(hl:isLocked k v.now=false)(hoff:x.2.2.2.2.1=false)(hkey:x.2.2.2.2.2.1.length=32)(hn:nc.length=32)(hal:Al v.S v.tr n x)
  (hmac:MacT x.2.2.2.2.2.1 nc tag) (he:zix WX ((tag',tag,()),())=some ((false,()),())) (htl:tag'.length=32):
  ∃v3,zfr WX (((),(i:Int),answerC tag',()),v2.e)=some ((true,()),v3.e)∧Went v v3 i s0 (v.L.set p (failed k v.now,())) (m+46):=by
 obtain⟨⟨mt2,ob,rfl,hob,hc⟩,hfit,hmt⟩:=ha
 generalize hc':v.c.set i (i+1,v.F.length+1,v.O.length+1,())=c' at*
 generalize hF':v.F++ [((([]:List Int),false,()),())]=F' at*
 generalize hO':v.O++ [((ob,false,()),())]=O' at*
 generalize v.F.length=f at*
 generalize v.O.length=o at*
 refine ans_send htl hc (show(2:Int)≠0 by omega) hmt fun mt' hmt' c1=>?_
 have f1:=fit_frame hfit (([],false,()),()) f
 have hal2:Al (v.S.set i ((2,(n:Int),nc,0,v.now,()),())) v.tr n x:=al_set hal _ (show(2:Int)≠3 by omega)
 have f1':Fit {c:=c',cfg:=v.cfg,now:=v.now,ph:=v.ph,mp:=v.mp,bp:=v.bp,lp:=v.lp,tr:=v.tr,op:=v.op,ps:=v.ps,lg:=v.lg,mt:=mt',M:=v.M,L:=v.L,S:=v.S.set i ((2,(n:Int),nc,0,v.now,()),()),F:=F'.set f (([],false,()),()),O:=O',B:=v.B}:=fit_same (by rfl) (by rfl) (by rfl) (by rfl) f1
 obtain⟨bs,mt3,lg',h1,h2,h3,h4⟩:=c_ans_wrong (tag':=tag') (tag:=tag) (p:=p) (x:=x) (k:=k) (m:=m) c1 ⟨ht.lt,ht.tr,ht.roles⟩ ⟨hk.lt,hk.lp,hk.L⟩ hl hoff hkey hn (alone_of f1' hal2) hq.quota hmac he hmt' (by omega) hq.lg (by have:=hq.le;omega)
 have f2:=fit_out f1 (ob++bs) o
 have c2:=c1.out (ob++bs,false,())
 have c3:Conn {c:=c',cfg:=v.cfg,now:=v.now,ph:=v.ph,mp:=v.mp,bp:=v.bp,lp:=v.lp,tr:=v.tr,op:=v.op,ps:=v.ps,lg:=v.lg,mt:=mt2,M:=v.M,L:=v.L,S:=v.S.set i ((2,(n:Int),nc,0,v.now,()),()),F:=F'.set f (([],false,()),()),O:=O'.set o ((ob++bs,false,()),()),B:=v.B} i f o (2,(n:Int),nc,0,v.now,()) ([],false,()) (ob++bs,false,()):=⟨c2.lt,c2.c,c2.S,c2.F,c2.O⟩
 obtain⟨f3,c4⟩:=free_fit f2 c3
 refine⟨_,h1,fit_same (by rfl) (by rfl) (by rfl) (by rfl) f3,⟨_,_,_,_,_,⟨c4.lt,c4.c,c4.S,c4.F,c4.O⟩,rfl⟩,⟨⟨_,mt3,_,_,lg',by rw[List.set_set]⟩,fun e=>absurd e (by show¬(0:Int)=3;omega),⟨_,_,ob++bs,⟨c4.lt,c4.c,c4.S,c4.F,c4.O⟩,by rw[List.length_append];omega⟩,⟨fit_same (by rfl) (by rfl) (by rfl) (by rfl) f3,h2,h4,hm0,hq.lp,hq.quota⟩⟩⟩
theorem sent_right {v2:V}{m n p:Nat}{nc tag:List Int}{x:De1}{k:De0}(hq:Q v m)(hm0:m+46≤10000000000)(ha:Asked v v2 i (n:Int) nc)(ht:Tr v n x)(hk:Lk v n p k)(hl:isLocked k v.now=false)(hoff:x.2.2.2.2.1=false)(hkey:x.2.2.2.2.2.1.length=32)(hn:nc.length=32)(hal:Al v.S v.tr n x)
  (hmac:MacT x.2.2.2.2.2.1 nc tag) (htl:tag.length=32):
  ∃v3,zfr WX (((),(i:Int),answerC tag,()),v2.e)=some ((true,()),v3.e)∧Went v v3 i (3,(n:Int),Z32,1,v.now,()) (v.L.set p ((k.1,k.2.1,0,0,()),())) (m+46):=by
 obtain⟨⟨mt2,ob,rfl,hob,hc⟩,hfit,hmt⟩:=ha
 have hFF: ∀bs:List Int,(v.F++ [((([]:List Int),false,()),())]).set v.F.length (([],false,()),())=v.F++ [(([],false,()),())]∧(v.O++ [((ob,false,()),())]).set v.O.length ((ob++bs,false,()),())=v.O++ [((ob++bs,false,()),())]:=fun bs=>⟨app_set _ _ _,app_set _ _ _⟩
 generalize hc':v.c.set i (i+1,v.F.length+1,v.O.length+1,())=c' at*
 generalize hF':v.F++ [((([]:List Int),false,()),())]=F' at*
 generalize hO':v.O++ [((ob,false,()),())]=O' at*
 generalize hfl:v.F.length=f at*
 generalize hol:v.O.length=o at*
 refine ans_send htl hc (show(2:Int)≠0 by omega) hmt fun mt' hmt' c1=>?_
 have f1:=fit_frame hfit (([],false,()),()) f
 have hal2:Al (v.S.set i ((2,(n:Int),nc,0,v.now,()),())) v.tr n x:=al_set hal _ (show(2:Int)≠3 by omega)
 have f1':Fit {c:=c',cfg:=v.cfg,now:=v.now,ph:=v.ph,mp:=v.mp,bp:=v.bp,lp:=v.lp,tr:=v.tr,op:=v.op,ps:=v.ps,lg:=v.lg,mt:=mt',M:=v.M,L:=v.L,S:=v.S.set i ((2,(n:Int),nc,0,v.now,()),()),F:=F'.set f (([],false,()),()),O:=O',B:=v.B}:=fit_same (by rfl) (by rfl) (by rfl) (by rfl) f1
 obtain⟨bs,mt3,lg',h1,h2,h3,h4⟩:=c_ans_right (tag:=tag) (p:=p) (x:=x) (k:=k) (m:=m) c1 ⟨ht.lt,ht.tr,ht.roles⟩ ⟨hk.lt,hk.lp,hk.L⟩ hl hoff hkey hn (alone_of f1' hal2) hq.quota hmac htl hmt' (by omega) hq.lg (by have:=hq.le;omega)
 have f2:=fit_out f1' (ob++bs) o
 have c2:=c1.out (ob++bs,false,())
 have f3:=fit_ses f2 c2 (3,(n:Int),Z32,1,v.now,()) fun _=>rfl
 have c4:=c2.ses (3,(n:Int),Z32,1,v.now,())
 refine⟨_,h1,fit_same (by rfl) (by rfl) (by rfl) (by rfl) f3,⟨_,_,_,_,_,⟨c4.lt,c4.c,c4.S,c4.F,c4.O⟩,rfl⟩,⟨⟨c',mt3,_,_,lg',by rw[List.set_set]⟩,fun _=>⟨mt3,lg',ob++bs,by rw[List.set_set,(hFF bs).1,(hFF bs).2];subst hfl hol hc' hF';rfl,by rw[List.length_append];omega⟩,⟨_,_,ob++bs,⟨c4.lt,c4.c,c4.S,c4.F,c4.O⟩,by rw[List.length_append];omega⟩,⟨fit_same (by rfl) (by rfl) (by rfl) (by rfl) f3,h2,h4,hm0,hq.lp,hq.quota⟩⟩⟩
theorem login_ok {f o:Nat}{s:De7}{fr ou:(List Int)×Bool×Unit}{m n:Nat}{j:Int}{x:De1}{sf:De7}{L':List E168}{m':Nat}(right:Bool)(h:Conn v i f o s fr ou)(hs:s.1=0)(hq:Q v m)(hh:Hello (n:Int))(hkey:ze9 WX (((n:Int),()),())=some ((x.2.2.2.2.2.1,()),()))(hkl:x.2.2.2.2.2.1.length=32)
  (hw: ∀nc tag tag':List Int,nc.length=32→tag.length=32→tag'.length=32→MacT x.2.2.2.2.2.1 nc tag→(right=true→tag'=tag)→(right=false→zix WX ((tag',tag,()),())=some ((false,()),()))→∀v2,Asked v v2 i (n:Int) nc→∃v3,zfr WX (((),(i:Int),answerC tag',()),v2.e)=some ((true,()),v3.e)∧Went v v3 i sf L' m'):
  ∃v3,ze7 WX (((),(i:Int),(n:Int),j,right,()),v.e)=some ((decide (sf.1=3),()),v3.e)∧Went v v3 i sf L' m':=by
 obtain⟨nc,h1,h2⟩:=nonce_ok j
 obtain⟨v1,v2,h3,h4,h5⟩:=asked_ok h hs hq.fit hq.mt hh h2
 obtain⟨tag,⟨r1,r2,g1,g2,g3⟩,g4⟩:=mac_ok hkl h2
 have e0:(0:Int)≤0∧(0:Int)≤((32:Nat):Int)∧((32:Nat):Int)≤(32:Nat):=by omega
 have e1:(0:Int)≤0∧(0:Int)<(32:Nat):=by omega
 have hk:helloC (n:Int)=(1,0,(n:Int),0,0,0,0,0,0,0,0,0,0,0,Z32,()):=rfl
 rw[hk] at h4
 have hx:=List.getElem?_eq_getElem (l:=tag) (i:=0) (by omega)
 generalize tag[0]=y at hx
 have ha: ∀t,answerC t=(2,0,0,0,0,0,0,0,0,0,0,0,0,0,t,()):=fun _=>rfl
 cases right with
 |true=>
  obtain⟨v3,h6,h7⟩:=hw nc tag tag h2 g4 g4 ⟨r1,r2,g1,g2,g3⟩ (fun _=>rfl) (fun e=>by cases e) v2 h5
  obtain⟨f3,o3,ob3,hc3,_⟩:=h7.conn
  have hA:=c_At hc3
  rw[ha] at h6
  refine⟨v3,?_,h7⟩
  simp only[ze7,h1,Option.bind_some,h3,Bool.not_true,cond_false,h4,hkey,↓xo,ot e0,cond_true,take32 hkl,take32 h2,g1,g2,g3,h6,hA]
  rw[odec_eq]
 |false=>
  obtain⟨v3,h6,h7⟩:=hw nc tag (tag.set 0 (WX.bxor .u8 y 1)) h2 g4 (by rw[List.length_set];exact g4) ⟨r1,r2,g1,g2,g3⟩ (fun e=>by cases e) (fun _=>equal_flip g4 hx) v2 h5
  obtain⟨f3,o3,ob3,hc3,_⟩:=h7.conn
  have hA:=c_At hc3
  rw[ha] at h6
  refine⟨v3,?_,h7⟩
  have hz:(0:Int).toNat=0:=rfl
  simp only[ze7,h1,Option.bind_some,h3,Bool.not_true,Bool.not_false,cond_false,h4,hkey,↓xo,ot e0,ot e1,cond_true,take32 hkl,take32 h2,g1,g2,g3,hz,hx,h6,hA]
  rw[odec_eq]
end
end AM
namespace AM
open Go Go.Proofs
set_option maxRecDepth 100000
section
variable {v:V}
def Idle (v:V):Prop:= ∀i,i<16→∃f o s fr ou,Conn v i f o s fr ou∧s.1=0
theorem idle_fit (h:Idle v):Fit v:=fun i hi=>by
 obtain⟨f,o,s,fr,ou,h1,h2⟩:=h i hi
 exact⟨f,o,s,fr,ou,h1,fun h=>absurd h2 h⟩
theorem tick_loop (h:Idle v):loopFix (zb9 WX) (((),v.c,0,()),v.e)=some (((),()),v.e):=by
 have key: ∀n i:Nat,i+n=16→loopFix (zb9 WX) (((),v.c,(i:Int),()),v.e)=some (((),()),v.e):=by
  intro n
  induction n with
  |zero=>
   intro i hi
   rw[loopFix_eq]
   simp only[zb9,↓xo,of_ (show¬(i:Int)<16 by omega),cond_false]
  |succ n ih=>
   intro i hi
   obtain⟨f,o,s,fr,ou,hc,h0⟩:=h i (by omega)
   rw[loopFix_eq]
   have e1:IntKind.i64.wrap ((i:Int)+1)=((i+1:Nat):Int):=by rw[w64 (by omega) (by omega)];omega
   have ih1:=ih (i+1) (by omega)
   simp only[V.e] at ih1
   simp only[zb9,V.e,↓xo,xw,ot (show(i:Int)<16 by omega),ot (in16 hc.lt),cond_true,Option.bind_some,Int.toNat_natCast,hc.c,zeo,zcx,onS_succ,hc.S,zbr,ot h0,Bool.not_true,cond_false,set_self hc.S,e1,ih1]
 exact key 16 0 (by omega)
theorem tick_ok {m:Nat}{k:Int}(h:Idle v)(hm:v.mt.length=4)(hlg:LogOK v.lg m)(hmm:m≤100000000000)(h1:1≤k)(h2:k≤1099511627776-v.now)(h3:0≤v.now)(h4:v.now≤1099511627776):
  ∃mt' lg',zfq WX (((),(4,0,k,Z32,[],()),()),v.e)=some ((true,()),{v with now:=v.now+k,lg:=lg',mt:=mt'}.e)∧mt'.length=4∧LogOK lg' (m+46):=by
 have hdo:=do_tick (v:=v) k h1 h2 h3 h4
 obtain⟨lg',g1,g2⟩:=log_add hlg hmm (right_t h1 (by omega))
 obtain⟨mt1,r1,g3,g4⟩:=meter_add hm (i:=1) (by omega)
 change ze0 WX (((),1,1,()),_)=_ at g3
 have hrec:=record_q (v:=v) (r:=(1,k,0,C0,())) hdo g1 g3
 have hi:Idle {v with now:=v.now+k,lg:=lg',mt:=mt1}:=fun i hi=>by
  obtain⟨f,o,s,fr,ou,c,s0⟩:=h i hi
  exact⟨f,o,s,fr,ou,⟨c.lt,c.c,c.S,c.F,c.O⟩,s0⟩
 have hl:=tick_loop hi
 have hs:=sweep_fit (idle_fit hi)
 have e:IntKind.i64.wrap (1099511627776-v.now)=1099511627776-v.now:=w64 (by omega) (by omega)
 refine⟨mt1,lg',?_,g4,g2⟩
 simp only[V.e] at hrec hl hs
 simp only[zfq,zej,V.e,↓xo,xw,eq_self,odT,cond_true,of_ (show¬k<1 by omega),cond_false,zeo,Option.bind_some,e,of_ (show¬k>1099511627776-v.now by omega),hrec,↓xl,hl,hs]
def uc:De9:=(9,1,0,0,0,0,0,0,0,0,0,3,2,0,Z32,())
theorem uc_taken:zg6 WX ((uc,()),())=some ((true,()),()):=by kernel_rfl
theorem uc_right:zhd WX (((2,0,4,uc,()),()),())=some ((true,()),()):=by kernel_rfl
theorem uc_frame:((zja WX ((uc,()),())).bind fun r1=>ziv WX (r1.2,()))=some (((),()),([0,8,9,0,0,0,1,3,2,0],())):=by kernel_rfl
theorem uc_feed:zca WX (((),[0,8,9,0,0,0,1,3,2,0],()),(([],false,()),()))=some (.inr (([[9,0,0,0,1,3,2,0]],()),(([],false,()),()))):=by kernel_rfl
theorem uc_get:zjd WX (([9,0,0,0,1,3,2,0],()),())=some ((uc,true,()),()):=by kernel_rfl
theorem uc_put: ∃bs:List Int,zim WX (((2,0,4,uc,()),()),())=some (((),()),(bs,()))∧bs.length=18:=by
 have h:(match zim WX (((2,0,4,uc,()),()),()) with|some (_,(bs,_))=>Nat.beq bs.length 18|none=>false)=true:=by kernel_rfl
 revert h
 match zim WX (((2,0,4,uc,()),()),()) with
 |none=>intro h;cases h
 |some (((),()),(bs,()))=>intro h;exact⟨bs,rfl,Nat.eq_of_beq_eq_true h⟩
theorem link18': ∀f g:Nat→Int,len32 (zh6 WX (((List.range 32).map f,(List.range 18).map g,()),()))=true:=fun f g=>by kernel_rfl
theorem u32_18: ∃u:List Int,zi6 WX (([],WX.wr .u32 18,()),())=some (((),()),(u,()))∧u.length=4:=by
 have h:(match zi6 WX (([],WX.wr .u32 18,()),()) with|some (_,(bs,_))=>Nat.beq bs.length 4|none=>false)=true:=by kernel_rfl
 revert h
 match zi6 WX (([],WX.wr .u32 18,()),()) with
 |none=>intro h;cases h
 |some (((),()),(bs,()))=>intro h;exact⟨bs,rfl,Nat.eq_of_beq_eq_true h⟩
theorem log_uc {lg:De5}{m:Nat}(h:LogOK lg m)(hm:m≤100000000000): ∃lg',zga WX (((),(2,0,4,uc,()),()),(lg,()))=some ((true,()),(lg',()))∧LogOK lg' (m+54):=by
 obtain⟨b,c,ct,u⟩:=lg
 obtain⟨hb,hc⟩:=h
 simp only at hb hc
 obtain⟨bs,h1,h2⟩:=uc_put
 obtain⟨f,rfl⟩:=range_map c hc
 obtain⟨g,hg⟩:=range_map bs h2
 obtain⟨c',h3,h4⟩:=len32_ok (link18' f g)
 rw[←hg] at h3
 obtain⟨w,h5,h6⟩:=u32_18
 have e0:(0:Int)≤0∧(0:Int)≤((32:Nat):Int)∧((32:Nat):Int)≤(32:Nat):=by omega
 have e1:((bs.length:Nat):Int)=18:=by omega
 have hf: [b,w,bs,c'].flatten.length=b.length+54:=by simp;omega
 have hcc:=concat_ok [b,w,bs,c'] (fun e=>by rw[e] at hf;simp at hf) (by omega) (by simp)
 simp only[zga,uc_right,Option.bind_some,Bool.not_true,cond_false,h1,h3,e1,h5,↓xo,ot e0,cond_true,take32 h4,hcc,List.take_length]
 exact⟨_,rfl,by rw[hf];omega,h4⟩
end
end AM
namespace AM
open Go Go.Proofs
set_option maxRecDepth 100000
section
variable {v:V}
theorem band98:WX.band .i64 9 8=8:=by kernel_rfl
theorem take_bucket {bk:De0}{now:Int}(h1:now≤bk.2.2.2.1)(h2:bk.2.2.1≠0): ∃bk',zco WX (((),now,()),(bk,()))=some ((true,()),(bk',())):=by
 by_cases h:bk.2.2.1=bk.1
 ·simp only[zco,zcn,↓xo,ot h1,cond_true,Option.bind_some,of_ h2,cond_false,ot h]
  exact⟨_,rfl⟩
 ·simp only[zco,zcn,↓xo,ot h1,cond_true,Option.bind_some,of_ h2,cond_false,of_ h]
  exact⟨_,rfl⟩
theorem may_unlock {x4 x2:De1}(h4:Tr v 4 x4)(h2:Tr v 2 x2)(hr:x4.2.2.1=9)(hoff:x4.2.2.2.2.1=false)(hf:x4.1=2)(hk:v.ph.2.1[2]?=some false):zes WX (((),4,3,0,2,()),v.s)=some ((0,()),v.s):=by
 have t4:=there_ok h4
 have t2:=there_ok h2
 have r4:=trader_ok h4
 have r2:=trader_ok h2
 change zep WX (((),4,()),_)=_ at t4
 change zep WX (((),2,()),_)=_ at t2
 change zd0 WX (((),4,()),_)=_ at r4
 change zd0 WX (((),2,()),_)=_ at r2
 have e0:(0:Int)≤2∧(2:Int)<(8:Nat):=by omega
 have ez:(2:Int).toNat=2:=rfl
 have e1: ¬(3:Int)=1:=by omega
 have e2: ¬(3:Int)=2:=by omega
 have e3: ¬(3:Int)=4:=by omega
 have e4: ¬(2:Int)=4:=by omega
 have e5: ¬(8:Int)=0:=by omega
 simp only[zes,zii,V.s,t4,r4,t2,r2,Option.bind_some,Bool.not_true,cond_false,hoff,hf,↓xo,ot e0,cond_true,ez,hk,of_ e1,of_ e2,of_ e3,of_ e4,eq_self,odT,Bool.not_false,zig,hr,band98,of_ e5,zih]
theorem do_unlock {x4 x2:De1}{p b:Nat}{k:De0}{bk:De0}(h4:Tr v 4 x4)(h2:Tr v 2 x2)(hr:x4.2.2.1=9)(hoff:x4.2.2.2.2.1=false)(hf:x4.1=2)(hkl:v.ph.2.1[2]?=some false)(hk:Lk v 2 p k)(hb:v.bp[4]?=some (b+1))(hB:v.B[b]?=some (bk,()))(hfrom:v.now≤bk.2.2.2.1)(hleft:bk.2.2.1≠0):
  ∃bk',zfk WX (((),(2,0,4,uc,()),()),v.s)=some (.inl (((),0,()),(v.cfg,v.now,(),v.ph,v.mp,(),v.bp,v.lp,()),(v.tr,()),(v.op,v.ps,()),[],v.M,v.L.set p ((k.1,k.2.1,0,0,()),()),v.B.set b (bk',()),())):=by
 obtain⟨bk',hbk⟩:=take_bucket hfrom hleft
 have t4:=there_ok h4
 change zep WX (((),4,()),_)=_ at t4
 have hmay:=may_unlock (v:={v with B:=v.B.set b (bk',())}) ⟨h4.lt,h4.tr,h4.roles⟩ ⟨h2.lt,h2.tr,h2.roles⟩ hr hoff hf hkl
 refine⟨bk',?_⟩
 have e0:(0:Int)≤4∧(4:Int)<(32:Nat):=by omega
 have e00:(0:Int)≤2∧(2:Int)<(32:Nat):=by omega
 have ez:(4:Int).toNat=4:=rfl
 have ez2:(2:Int).toNat=2:=rfl
 have e1: ¬(2:Int)=1:=by omega
 have e3: ¬(2:Int)=3:=by omega
 have e4: ¬(2:Int)=4:=by omega
 have e5: ¬(2:Int)=5:=by omega
 have q3: ¬(9:Int)=3:=by omega
 have q5: ¬(9:Int)=5:=by omega
 have q4: ¬(9:Int)=4:=by omega
 have q6: ¬(9:Int)=6:=by omega
 have u3:(3:Int)≤3:=by omega
 have u1: ¬(3:Int)=1:=by omega
 have u2: ¬(3:Int)=2:=by omega
 have hform:zdr WX (((),(2,0,4,uc,()),()),v.s)=some ((true,()),v.s):=by
  simp only[zdr,V.s,↓xo,of_ e1,cond_false,eq_self,odT,Bool.not_true,t4,Option.bind_some,cond_true,uc_taken]
 simp only[zfk,hform,Option.bind_some,Bool.not_true,cond_false,↓xo,of_ e1,of_ e3,of_ e4,of_ e5,eq_self,odT,cond_true,ot e0,ez]
 simp only[V.s] at hmay⊢
 simp only[hb,Option.bind_some,onS_succ,hB,hbk,Bool.not_true,cond_false,zex,uc,↓xo,of_ q3,of_ q5,of_ q4,of_ q6,ot u3,cond_true,zcu,hmay,eq_self,odT,of_ u1,of_ u2,ot e00,ez2,hk.lp,hk.L,zeq]
end
end AM
namespace AM
open Go Go.Proofs
set_option maxRecDepth 100000
section
variable {v:V}
theorem record_b {r:De10}{er:Int}{L':List E168}{B':List E255}{lg':De5}{mt':List De6}{b c}
  (h1:zfk WX (((),r,()),v.s)=some (.inl (((),er,()),(v.cfg,v.now,(),v.ph,v.mp,(),v.bp,v.lp,()),(v.tr,()),(v.op,v.ps,()),[],v.M,L',B',())))
  (h2:zga WX (((),r,()),(v.lg,()))=some (b,(lg',()))) (h3:ze0 WX (((),1,1,()),((v.mt,()),()))=some (c,((mt',()),()))):
  zcw WX (((),r,()),v.e)=some ((er,()),{v with L:=L',B:=B',lg:=lg',mt:=mt'}.e):=by
 have hl: ∀X,loopFix (zbc WX) (((),er,[],0,0,()),X)=some ((er,()),X):=fun X=>by
  have e0: ¬(0:Int)<0:=by omega
  rw[loopFix_eq]
  simp only[zbc,↓xo,of_ e0,cond_false]
 simp only[V.s] at h1
 simp only[zcw,V.e,h1,h2,h3,Option.bind_some,↓xl,List.length_nil,Int.natCast_zero,hl]
theorem unlock_sent {i f o:Nat}{ob:List Int}{sn:Int}{m p b:Nat}{x4 x2:De1}{k bk:De0}(hc:Conn v i f o (3,4,Z32,1,sn,()) ([],false,()) (ob,false,()))(hob:ob.length≤50)(hq:Q v m)(hm0:m+54≤10000000000)
  (h4:Tr v 4 x4) (h2:Tr v 2 x2) (hr:x4.2.2.1=9) (hoff:x4.2.2.2.2.1=false) (hf:x4.1=2) (hkl:v.ph.2.1[2]?=some false) (hk:Lk v 2 p k) (hb:v.bp[4]?=some (b+1)) (hB:v.B[b]?=some (bk,())) (hfrom:v.now≤bk.2.2.2.1) (hleft:bk.2.2.1≠0):
  ∃v3,zfr WX (((),(i:Int),uc,()),v.e)=some ((true,()),v3.e)∧Q v3 (m+54)∧∃F' O' mt' lg' B',v3={v with S:=v.S.set i ((3,4,Z32,2,v.now,()),()),F:=F',O:=O',mt:=mt',lg:=lg',L:=v.L.set p ((k.1,k.2.1,0,0,()),()),B:=B'}:=by
 obtain⟨r,g1,g2⟩:=Option.bind_eq_some_iff.1 uc_frame
 refine send_ok g1 g2 (do_bytes hc (show(3:Int)≠0 by omega) (bytes_one hc (show(3:Int)≠0 by omega) uc_feed hq.mt fun mt' hmt'=>?_))
 have c1:Conn {v with F:=v.F.set f (([],false,()),()),mt:=mt'} i f o (3,4,Z32,1,sn,()) ([],false,()) (ob,false,()):=⟨hc.lt,hc.c,hc.S,set_get hc.F,hc.O⟩
 have f1:Fit {v with F:=v.F.set f (([],false,()),()),mt:=mt'}:=fit_same (by rfl) (by rfl) (by rfl) (by rfl) (fit_frame hq.fit (([],false,()),()) f)
 obtain⟨bk',hdo⟩:=do_unlock h4 h2 hr hoff hf hkl hk hb hB hfrom hleft
 obtain⟨lg',a1,a2⟩:=log_uc hq.lg (by have:=hq.le;omega)
 obtain⟨mt1,r1,a3,a4⟩:=meter_add hmt' (i:=1) (by omega)
 change ze0 WX (((),1,1,()),_)=_ at a3
 have hrec:=record_b (v:={v with S:=v.S.set i ((3,4,Z32,2,v.now,()),()),F:=v.F.set f (([],false,()),()),mt:=mt'}) (r:=(2,0,4,uc,())) hdo a1 a3
 obtain⟨bs,n1,n2⟩:=nb_ack 1
 have c2:=c1.ses (3,4,Z32,2,v.now,())
 have hnote:=c_note (v:={v with S:=v.S.set i ((3,4,Z32,2,v.now,()),()),F:=v.F.set f (([],false,()),()),mt:=mt1,lg:=lg',L:=v.L.set p ((k.1,k.2.1,0,0,()),()),B:=v.B.set b (bk',())}) (i:=i) (f:=f) (o:=o) (s:=(3,4,Z32,2,v.now,())) (fr:=([],false,())) (ob:=ob) ⟨c2.lt,c2.c,c2.S,c2.F,c2.O⟩ n1 (by intro e;rw[e] at n2;cases n2) (by omega)
 have f2:=fit_out (fit_ses f1 c1 (3,4,Z32,2,v.now,()) fun _=>rfl) (ob++bs) o
 have c3:=c2.out (ob++bs,false,())
 refine⟨{v with S:=v.S.set i ((3,4,Z32,2,v.now,()),()),F:=v.F.set f (([],false,()),()),mt:=mt1,lg:=lg',L:=v.L.set p ((k.1,k.2.1,0,0,()),()),B:=v.B.set b (bk',()),O:=v.O.set o ((ob++bs,false,()),())},?_,fit_same (by rfl) (by rfl) (by rfl) (by rfl) f2,⟨_,_,_,_,_,⟨c3.lt,c3.c,c3.S,c3.F,c3.O⟩,rfl⟩,⟨fit_same (by rfl) (by rfl) (by rfl) (by rfl) f2,a4,a2,hm0,hq.lp,hq.quota⟩,_,_,_,_,_,rfl⟩
 have hg:=uc_get
 have e91: ¬(9:Int)=1:=by omega
 have e92: ¬(9:Int)=2:=by omega
 have e97: ¬(9:Int)=7:=by omega
 have e98: ¬(9:Int)=8:=by omega
 have e32: ¬(3:Int)=2:=by omega
 have e1m: ¬(1:Int)=1073741824:=by omega
 have ew:IntKind.i64.wrap (1+1)=2:=by rw[w64 (by omega) (by omega)];rfl
 have hs2:=set_get (y:=((3,4,Z32,2,v.now,()),())) hc.S
 simp only[V.e,uc] at hrec hnote hg
 simp only[zem,V.e,↓xo,ot (in16 hc.lt),cond_true,Int.toNat_natCast,hc.c,Option.bind_some,hg,Bool.not_true,cond_false,of_ e91,of_ e92,onS_succ,hc.S,zcv,eq_self,odT,set_self hc.S,zcd,of_ e97,of_ e98,zeo,zbh,zbu,of_ e1m,xw,ew,hs2,za4,of_ e32,set_self hs2,hrec,hnote]
end
end AM
namespace AM
open Go Go.Proofs
set_option maxRecDepth 100000
theorem within_x {v lo hi:Int}(hv: -9223372036854775808≤v∧v≤9223372036854775807)(h0: -1000000≤lo)(h1:lo≤hi)(h2:hi≤1000000): ∃r:Int,lo≤r∧r≤hi∧zc1 WX ((v,lo,hi,()),())=some ((r,()),()):=by
 obtain⟨r,h3,h4,h5⟩:=within_ok hv (lo:=lo) (hi:=hi) (by omega) h1 (by omega) (by omega)
 refine⟨r,h3,h4,?_⟩
 rw[←h5,←W0_WX]
 rfl
noncomputable abbrev kk (n:Int):List Int:=List.replicate 32 (WX.wr .u8 (WX.wr .i64 (n+1)))
theorem key_ok (n:Int):ze9 WX ((n,()),())=some ((kk n,()),()):=by kernel_rfl
abbrev I64s (c:List Int):Prop:= ∀x∈c,-9223372036854775808≤x∧x≤9223372036854775807
theorem at_ok {c:List Int}(hc:I64s c)(i:Nat){lo hi:Int}(h0: -1000000≤lo)(h1:lo≤hi)(h2:hi≤1000000): ∃r:Int,lo≤r∧r≤hi∧zbw WX (((i:Int),lo,hi,(),()),c,())=some ((r,()),c,()):=by
 by_cases h:i<c.length
 ·have hx:=List.getElem?_eq_getElem h
  have hm:=hc _ (List.getElem_mem h)
  obtain⟨r,h3,h4,h5⟩:=within_x hm h0 h1 h2
  refine⟨r,h3,h4,?_⟩
  simp only[zbw,↓xo,ot (show(i:Int)<(c.length:Int) by omega),ot (show(0:Int)≤(i:Int) by omega),cond_true,Int.toNat_natCast,hx,Option.bind_some,h5]
 ·refine⟨hi,h1,Int.le_refl _,?_⟩
  simp only[zbw,↓xo,of_ (show¬(i:Int)<(c.length:Int) by omega),cond_false]
abbrev zT:De1:=(0,0,0,0,false,Z32,())
abbrev lmt:De0:=(1048576,1099511627776,1099511627776,1099511627776,())
noncomputable def tt (a0:Int)(i:Nat):De1:=(WX.wr .i64 (Int.tdiv (i:Int) 2),WX.wr .i64 ((Int.tmod (i:Int) 2)*a0),1,7,false,kk (i:Int),())
noncomputable def fT (a0:Int):Nat→Nat→List De1→List De1
 |0,_,T=>T
 |n+1,i,T=>fT a0 n (i+1) (T.set i (tt a0 i))
def fL:Nat→Nat→List De0→List De0
 |0,_,T=>T
 |n+1,i,T=>fL n (i+1) (T.set i lmt)
theorem fT_len (a0:Int): ∀(n i:Nat) (T:List De1),(fT a0 n i T).length=T.length
 |0,_,_=>rfl
 |n+1,i,T=>by simp only[fT];rw[fT_len a0 n];simp
theorem fL_len: ∀(n i:Nat) (T:List De0),(fL n i T).length=T.length
 |0,_,_=>rfl
 |n+1,i,T=>by simp only[fL];rw[fL_len n];simp
theorem cfg_loop {c:List Int}{a0:Int}(h:zbw WX ((0,0,1,(),()),c,())=some ((a0,()),c,()))(g:De2)(rest:Int×Int×Int×Int×Int×Int×Unit):
  ∀(n i:Nat) (T:List De1) (Lm:List De0),i+n=6→T.length=32→Lm.length=32→loopFix (zbi WX) (((),((),()),(),(i:Int),()),g,c,(T,Lm,rest),())=some (((),((),()),(),()),g,c,(fT a0 n i T,fL n i Lm,rest),()):=by
 intro n
 have e2: ¬(2:Int)=0:=by omega
 induction n with
 |zero=>
  intro i T Lm hi hT hL
  rw[loopFix_eq]
  simp only[zbi,↓xo,of_ (show¬(i:Int)<6 by omega),cond_false,fT,fL]
 |succ n ih=>
  intro i T Lm hi hT hL
  have hx:=List.getElem?_eq_getElem (l:=T) (i:=i) (by omega)
  have hy:=List.getElem?_eq_getElem (l:=Lm) (i:=i) (by omega)
  have e1:IntKind.i64.wrap ((i:Int)+1)=((i+1:Nat):Int):=by rw[w64 (by omega) (by omega)];omega
  have hk:=key_ok (i:Int)
  rw[loopFix_eq]
  have ih1:=ih (i+1) (T.set i (tt a0 i)) (Lm.set i lmt) (by omega) (by rw[List.length_set];exact hT) (by rw[List.length_set];exact hL)
  have hs:zbi WX (((),((),()),(),(i:Int),()),g,c,(T,Lm,rest),())=some (.inl (((),((),()),(),((i+1:Nat):Int),()),g,c,(T.set i (tt a0 i),Lm.set i lmt,rest),())):=by
   simp only[zbi,↓xo,ot (show(i:Int)<6 by omega),of_ e2,cond_true,cond_false,h,Option.bind_some,hk,ot (in32 (show i<32 by omega)),Int.toNat_natCast,hx,hy,tt]
   rw[xw,e1]
  rw[hs]
  simp only[fT,fL]
  exact ih1
noncomputable def T6 (a0:Int):List De1:=fT a0 6 0 (List.replicate 32 zT)
def L6:List De0:=fL 6 0 (List.replicate 32 (0,0,0,0,()))
noncomputable def finT (a0 a1:Int):List De1:=
 let x7:=(T6 a0).getD 0 zT
 let T7:=(T6 a0).set 0 (x7.1,x7.2.1,WX.bor .i64 1 a1,x7.2.2.2)
 let x8:=T7.getD 2 zT
 let T8:=T7.set 2 (x8.1,x8.2.1,7,x8.2.2.2)
 let x9:=T8.getD 4 zT
 T8.set 4 (x9.1,x9.2.1,9,x9.2.2.2)
structure Cfg (c:List Int)(g:De2):Prop where
 ex: ∃a0 a1 a2 a3 a4 a5 b r t l d q:Int,(a0=0∨a0=1)∧0≤a1∧a1≤7∧(0≤a2∧a2≤20)∧(0≤a3∧a3≤3000)∧(0≤a4∧a4≤40)∧(0≤a5∧a5≤40)∧(1≤b∧b≤60)∧(1≤r∧r≤20)∧(1≤t∧t≤3)∧(1≤l∧l≤50)∧(1≤d∧d≤200)∧(1≤q∧q≤4)∧g=(finT a0 a1,L6.set 1 (a2,a3,a4,a5,()),b,r,t,l,d,q,())
theorem getD_of {β:Type}{l:List β}{n:Nat}(h:n<l.length)(z:β):l[n]?=some (l.getD n z):=by
 rw[List.getElem?_eq_getElem h,List.getD_eq_getElem?_getD,List.getElem?_eq_getElem h];rfl
theorem config_ok {c:List Int}(hc:I64s c): ∃g,zc3 WX ((c,()),())=some ((g,()),())∧Cfg c g:=by
 obtain⟨a0,p0,q0,h0⟩:=at_ok hc 0 (lo:=0) (hi:=1) (by omega) (by omega) (by omega)
 obtain⟨a1,p1,q1,h1⟩:=at_ok hc 1 (lo:=0) (hi:=7) (by omega) (by omega) (by omega)
 obtain⟨a2,p2,q2,h2⟩:=at_ok hc 2 (lo:=0) (hi:=20) (by omega) (by omega) (by omega)
 obtain⟨a3,p3,q3,h3⟩:=at_ok hc 3 (lo:=0) (hi:=3000) (by omega) (by omega) (by omega)
 obtain⟨a4,p4,q4,h4⟩:=at_ok hc 4 (lo:=0) (hi:=40) (by omega) (by omega) (by omega)
 obtain⟨a5,p5,q5,h5⟩:=at_ok hc 5 (lo:=0) (hi:=40) (by omega) (by omega) (by omega)
 obtain⟨b,p6,q6,h6⟩:=at_ok hc 6 (lo:=1) (hi:=60) (by omega) (by omega) (by omega)
 obtain⟨r,p7,q7,h7⟩:=at_ok hc 7 (lo:=1) (hi:=20) (by omega) (by omega) (by omega)
 obtain⟨t,p8,q8,h8⟩:=at_ok hc 8 (lo:=1) (hi:=3) (by omega) (by omega) (by omega)
 obtain⟨l,p9,q9,h9⟩:=at_ok hc 9 (lo:=1) (hi:=50) (by omega) (by omega) (by omega)
 obtain⟨d,p10,q10,h10⟩:=at_ok hc 10 (lo:=1) (hi:=200) (by omega) (by omega) (by omega)
 obtain⟨q,p11,q11,h11⟩:=at_ok hc 11 (lo:=1) (hi:=4) (by omega) (by omega) (by omega)
 change zbw WX ((0,0,1,(),()),c,())=_ at h0
 change zbw WX ((1,0,7,(),()),c,())=_ at h1
 change zbw WX ((2,0,20,(),()),c,())=_ at h2
 change zbw WX ((3,0,3000,(),()),c,())=_ at h3
 change zbw WX ((4,0,40,(),()),c,())=_ at h4
 change zbw WX ((5,0,40,(),()),c,())=_ at h5
 change zbw WX ((6,1,60,(),()),c,())=_ at h6
 change zbw WX ((7,1,20,(),()),c,())=_ at h7
 change zbw WX ((8,1,3,(),()),c,())=_ at h8
 change zbw WX ((9,1,50,(),()),c,())=_ at h9
 change zbw WX ((10,1,200,(),()),c,())=_ at h10
 change zbw WX ((11,1,4,(),()),c,())=_ at h11
 refine⟨(finT a0 a1,L6.set 1 (a2,a3,a4,a5,()),b,r,t,l,d,q,()),?_,⟨a0,a1,a2,a3,a4,a5,b,r,t,l,d,q,by omega,p1,q1,⟨p2,q2⟩,⟨p3,q3⟩,⟨p4,q4⟩,⟨p5,q5⟩,⟨p6,q6⟩,⟨p7,q7⟩,⟨p8,q8⟩,⟨p9,q9⟩,⟨p10,q10⟩,⟨p11,q11⟩,rfl⟩⟩
 have hl:=cfg_loop h0 (List.replicate 32 zT,List.replicate 32 (0,0,0,0,()),0,0,0,0,0,0,()) (0,0,0,0,0,0,()) 6 0 (List.replicate 32 zT) (List.replicate 32 (0,0,0,0,())) (by omega) (by simp) (by simp)
 change loopFix (zbi WX) (((),((),()),(),0,()),_,c,_,())=some (((),((),()),(),()),_,c,(T6 a0,L6,_),()) at hl
 have hT:(T6 a0).length=32:=by unfold T6;rw[fT_len];simp
 have hL:L6.length=32:=by unfold L6;rw[fL_len];simp
 have z0:(0:Int).toNat=0:=rfl
 have z1:(1:Int).toNat=1:=rfl
 have z2:(2:Int).toNat=2:=rfl
 have z4:(4:Int).toNat=4:=rfl
 have i0:(0:Int)≤0∧(0:Int)<(32:Nat):=by omega
 have i1:(0:Int)≤1∧(1:Int)<(32:Nat):=by omega
 have i2:(0:Int)≤2∧(2:Int)<(32:Nat):=by omega
 have i4:(0:Int)≤4∧(4:Int)<(32:Nat):=by omega
 have g0:=getD_of (l:=T6 a0) (n:=0) (by omega) zT
 have g1:L6[1]?=some (L6.getD 1 (0,0,0,0,())):=getD_of (by omega) _
 have g2: ∀y,((T6 a0).set 0 y)[2]?=some (((T6 a0).set 0 y).getD 2 zT):=fun y=>getD_of (by rw[List.length_set];omega) zT
 have g4: ∀y z,(((T6 a0).set 0 y).set 2 z)[4]?=some ((((T6 a0).set 0 y).set 2 z).getD 4 zT):=fun y z=>getD_of (by rw[List.length_set,List.length_set];omega) zT
 simp only[zc3,↓xl,hl,Option.bind_some,h1,↓xo,ot i0,ot i1,ot i2,ot i4,cond_true,z0,z1,z2,z4,g0,g2,g4,h2,h3,h4,h5,h6,h7,h8,h9,h10,h11,g1,finT]
end AM
namespace AM
open Go Go.Proofs
set_option maxRecDepth 100000
theorem tree_ok {a0 a1:Int}(h0:a0=0∨a0=1)(h1:0≤a1)(h2:a1≤7):ziy WX ((finT a0 a1,()),())=some (.inr (((),(-1),()),((finT a0 a1,()),())))∧(finT a0 a1)[2]?=some (1,0,7,7,false,kk 2,())∧(finT a0 a1)[4]?=some (2,0,9,7,false,kk 4,()):=by
 have:a1=0∨a1=1∨a1=2∨a1=3∨a1=4∨a1=5∨a1=6∨a1=7:=by omega
 rcases h0 with rfl|rfl<;>rcases this with rfl|rfl|rfl|rfl|rfl|rfl|rfl|rfl<;>exact⟨by kernel_rfl,by kernel_rfl,by kernel_rfl⟩
def LmR (y:De0):Prop:=0≤y.1∧y.1≤1048576∧0≤y.2.1∧0≤y.2.2.1∧y.2.2.1≤1099511627776∧0≤y.2.2.2.1∧y.2.2.2.1≤1099511627776
instance (y:De0):Decidable (LmR y):=by unfold LmR;infer_instance
theorem risk_ok {y:De0}(h:LmR y):zhw WX ((y,()),())=some ((true,()),()):=by
 obtain⟨h1,h2,h3,h4,h5,h6,h7⟩:=h
 simp only[zhw,↓xo,ot (show y.1≥0 from h1),ot h2,ot (show y.2.1≥0 from h3),ot (show y.2.2.1≥0 from h4),ot h5,ot (show y.2.2.2.1≥0 from h6),ot h7,cond_true]
theorem right_loop {l:List De0}(hl:l.length=32)(h: ∀y∈l,LmR y):loopFix (zfa WX) ((true,l,0,()),())=some ((true,()),()):=by
 have key: ∀n i:Nat,i+n=32→loopFix (zfa WX) ((true,l,(i:Int),()),())=some ((true,()),()):=by
  intro n
  induction n with
  |zero=>
   intro i hi
   rw[loopFix_eq]
   simp only[zfa,↓xo,of_ (show¬(i:Int)<32 by omega),cond_false]
  |succ n ih=>
   intro i hi
   have hx:=List.getElem?_eq_getElem (l:=l) (i:=i) (by omega)
   have hr:=risk_ok (h _ (List.getElem_mem (l:=l) (n:=i) (by omega)))
   generalize l[i]=y at hx hr
   have e1:IntKind.i64.wrap ((i:Int)+1)=((i+1:Nat):Int):=by rw[w64 (by omega) (by omega)];omega
   have ih1:=ih (i+1) (by omega)
   rw[loopFix_eq]
   simp only[zfa,↓xo,xw,ot (show(i:Int)<32 by omega),ot (in32 (show i<32 by omega)),cond_true,Int.toNat_natCast,hx,Option.bind_some,hr,e1,ih1]
 exact key 32 0 (by omega)
theorem bucket_ok {b r:Int}(hb:1≤b∧b≤60)(hr:1≤r∧r≤20):zhv WX ((b,r,()),())=some (.inr (((),0,()),((b,r,b,0,()),()))):=by
 simp only[zhv,↓xo,of_ (show¬b<1 by omega),of_ (show¬b>1048576 by omega),of_ (show¬r<1 by omega),of_ (show¬r>1099511627776 by omega),cond_false]
theorem lock_ok {t l:Int}(ht:1≤t∧t≤3)(hl:1≤l∧l≤50):ziz WX ((t,l,()),())=some (.inr (((),0,()),((t,l,0,0,()),()))):=by
 simp only[ziz,↓xo,of_ (show¬t<1 by omega),of_ (show¬t>1048576 by omega),of_ (show¬l<1 by omega),of_ (show¬l>1099511627776 by omega),cond_false]
theorem limits_ok {a2 a3 a4 a5:Int}(h2:0≤a2∧a2≤20)(h3:0≤a3∧a3≤3000)(h4:0≤a4∧a4≤40)(h5:0≤a5∧a5≤40): ∀y∈L6.set 1 (a2,a3,a4,a5,()),LmR y:=by
 intro y hy
 rcases List.mem_or_eq_of_mem_set hy with h|h
 ·have: ∀y∈L6,LmR y:=by
   have h0:(L6.all fun y=>decide (LmR y))=true:=by kernel_rfl
   intro y hy
   exact of_decide_eq_true (List.all_eq_true.1 h0 y hy)
  exact this y h
 ·subst h
  refine⟨h2.1,?_,h3.1,h4.1,?_,h5.1,?_⟩
  ·show a2≤_;omega
  ·show a4≤_;omega
  ·show a5≤_;omega
theorem L6_len {x:De0}:(L6.set 1 x).length=32:=by rw[List.length_set];unfold L6;rw[fL_len];simp
def upP:Nat→Nat→List Nat→List Nat
 |0,_,l=>l
 |n+1,i,l=>upP n (i+1) (l.set i (i+1))
theorem upP_len: ∀(n i:Nat) (l:List Nat),(upP n i l).length=l.length
 |0,_,_=>rfl
 |n+1,i,l=>by simp only[upP];rw[upP_len n];simp
theorem new_l11 {b r t lk:Int}(hb:1≤b∧b≤60)(hr:1≤r∧r≤20)(ht:1≤t∧t≤3)(hl:1≤lk∧lk≤50)(g:De2)(hg:g.2.2.1=b∧g.2.2.2.1=r∧g.2.2.2.2.1=t∧g.2.2.2.2.2.1=lk)(cfg:De2)(now:Int)(ph:De4)(mp:List Nat)(tr:(List De1)×Unit)(ac:(List (List Int))×(List (List Int))×Unit)(M:List E135):
  ∀(n i:Nat) (bp lp:List Nat) (L:List E168) (B:List E255),i+n=32→bp.length=32→lp.length=32→L.length=i→B.length=i→loopFix (zfs WX) (((),(),(i:Int),()),g,(cfg,now,(),ph,mp,(),bp,lp,()),tr,ac,M,L,B,())=
   some (((),()),g,(cfg,now,(),ph,mp,(),upP n i bp,upP n i lp,()),tr,ac,M,L++List.replicate n ((t,lk,0,0,()),()),B++List.replicate n ((b,r,b,0,()),()),()):=by
 have h1:=bucket_ok hb hr
 have h2:=lock_ok ht hl
 obtain⟨g1,g2,g3,g4⟩:=hg
 intro n
 induction n with
 |zero=>
  intro i bp lp L B hi h3 h4 h5 h6
  rw[loopFix_eq]
  simp only[zfs,↓xo,of_ (show¬(i:Int)<32 by omega),cond_false,upP,List.replicate_zero,List.append_nil]
 |succ n ih=>
  intro i bp lp L B hi h3 h4 h5 h6
  have hx:=List.getElem?_eq_getElem (l:=bp) (i:=i) (by omega)
  have hy:=List.getElem?_eq_getElem (l:=lp) (i:=i) (by omega)
  have e1:IntKind.i64.wrap ((i:Int)+1)=((i+1:Nat):Int):=by rw[w64 (by omega) (by omega)];omega
  have ih1:=ih (i+1) (bp.set i (i+1)) (lp.set i (i+1)) (L++ [((t,lk,0,0,()),())]) (B++ [((b,r,b,0,()),())]) (by omega) (by rw[List.length_set];exact h3) (by rw[List.length_set];exact h4) (by rw[List.length_append,h5];rfl) (by rw[List.length_append,h6];rfl)
  rw[loopFix_eq]
  simp only[zfs,↓xo,xw,ot (show(i:Int)<32 by omega),ot (in32 (show i<32 by omega)),cond_true,g1,g2,g3,g4,h1,h2,Option.bind_some,Int.toNat_natCast,hx,hy,e1,h5,h6,ih1,upP,List.append_assoc,List.singleton_append,←List.replicate_succ]
abbrev ph0:De4:=(List.replicate 8 false,List.replicate 8 false,List.replicate 8 (0:Int),())
abbrev oo:List (List Int):=List.replicate 32 (List.replicate 8 (0:Int))
abbrev e0:E135:=(((),(),()),(((),(),()),0,0,()),[],[],[],[],())
abbrev p8:List Nat:=(List.range 8).map (·+1)
abbrev c16:List De8:=(List.range 16).map fun i=>(i+1,i+1,i+1,())
theorem new_l6 (g:De2)(T:List De1):WX.loopFix (zgb WX) (((),(),0,()),g,(g,0,(),ph0,List.replicate 8 0,(),List.replicate 32 0,List.replicate 32 0,()),(T,()),(oo,oo,()),[],[],[],())=
  some (((),(),()),g,(g,0,(),ph0,p8,(),List.replicate 32 0,List.replicate 32 0,()),(T,()),(oo,oo,()),List.replicate 8 e0,[],[],()):=by kernel_rfl
theorem ven_l6 (s:De2×Int×Unit×De4×(List Nat)×Unit×(List Nat)×(List Nat)×Unit)(tr:(List De1)×Unit)(ac:(List (List Int))×(List (List Int))×Unit)(lg:De5)(mt:(List De6)×Unit)(M:List E135)(L:List E168)(B:List E255):
  WX.loopFix (zgc WX) (((),0,()),((),List.replicate 16 (0,0,0,()),(),(),()),s,tr,ac,lg,mt,M,L,[],[],[],B,())=some (((),()),((),c16,(),(),()),s,tr,ac,lg,mt,M,L,List.replicate 16 (s0,()),List.replicate 16 (([],false,()),()),List.replicate 16 (([],false,()),()),B,()):=by kernel_rfl
def v0 (g:De2):V:={c:=c16,cfg:=g,now:=0,ph:=ph0,mp:=p8,bp:=upP 32 0 (List.replicate 32 0),lp:=upP 32 0 (List.replicate 32 0),tr:=g.1,op:=oo,ps:=oo,lg:=([],Z32,0,()),mt:=List.replicate 4 ((),(),0,()),M:=List.replicate 8 e0,L:=List.replicate 32 ((g.2.2.2.2.1,g.2.2.2.2.2.1,0,0,()),()),S:=List.replicate 16 (s0,()),F:=List.replicate 16 (([],false,()),()),O:=List.replicate 16 (([],false,()),()),B:=List.replicate 32 ((g.2.2.1,g.2.2.2.1,g.2.2.1,0,()),())}
theorem new_ok {c:List Int}{g:De2}(h:Cfg c g):zid WX ((g,()),())=some (.inr (((),0,()),(v0 g).e)):=by
 obtain⟨a0,a1,a2,a3,a4,a5,b,r,t,l,d,q,h0,h1,h1',h2,h3,h4,h5,hb,hr,ht,hl,hd,hq,rfl⟩:=h
 have ht1:=(tree_ok h0 h1 h1').1
 have hb1:=bucket_ok hb hr
 have hl1:=lock_ok ht hl
 have hrt:=right_loop L6_len (limits_ok h2 h3 h4 h5)
 generalize finT a0 a1=T at ht1
 generalize L6.set 1 (a2,a3,a4,a5,())=Lm at hrt
 have hR:zgt WX (((T,Lm,b,r,t,l,d,q,()),()),())=some ((true,()),()):=by
  simp only[zgt,ht1,Option.bind_some,hb1,hl1,↓xo,eq_self,odT,cond_true,ot (show d≥1 by omega),ot (show d≤1099511627776 by omega),ot (show q≥1 by omega),ot (show q≤16 by omega),↓xl,hrt]
 have h11:=new_l11 hb hr ht hl (T,Lm,b,r,t,l,d,q,()) ⟨rfl,rfl,rfl,rfl⟩ (T,Lm,b,r,t,l,d,q,()) 0 ph0 p8 (T,()) (oo,oo,()) (List.replicate 8 e0) 32 0 (List.replicate 32 0) (List.replicate 32 0) [] [] (by omega) (by simp) (by simp) rfl rfl
 change loopFix (zfs WX) (((),(),0,()),_,_,_,_,_,_,_,())=_ at h11
 simp only[List.nil_append] at h11
 have h6:=new_l6 (T,Lm,b,r,t,l,d,q,()) T
 rw[xl] at h6
 simp only[zid,zh9,hR,Option.bind_some,Bool.not_true,cond_false,zi0,ht1,h6,↓xl,h11,↓xo,eq_self,odT,zia,zib]
 have hv:=ven_l6
 simp only[↓xl] at hv
 simp only[hv,Option.bind_some]
 rfl
end AM
namespace AM
open Go Go.Proofs
set_option maxRecDepth 100000
structure Sc (g:De2)(v:V)(k:De0)(m:Nat):Prop where
 cfg:v.cfg=g
 now:v.now=0
 tr:v.tr=g.1
 ph:v.ph=ph0
 bp:v.bp=(v0 g).bp
 B:v.B=(v0 g).B
 S:v.S=List.replicate 16 (s0,())
 L:v.L=(v0 g).L.set 2 (k,())
 q:Q v m
theorem upP_get: ∀n,n<32→(upP 32 0 (List.replicate 32 0))[n]?=some (n+1):=by decide
theorem rep_get {β:Type}{n i:Nat}(h:i<n)(a:β):(List.replicate n a)[i]?=some a:=by rw[List.getElem?_replicate,if_pos h]
theorem v0_conn (g:De2): ∀i,i<16→Conn (v0 g) i i i s0 ([],false,()) ([],false,()):=fun i hi=>by
 refine⟨hi,?_,?_,?_,?_⟩
 ·show c16[i]?=_
  simp[hi]
 ·exact rep_get hi _
 ·exact rep_get hi _
 ·exact rep_get hi _
theorem v0_sc {c:List Int}{g:De2}(h:Cfg c g):Sc g (v0 g) (g.2.2.2.2.1,g.2.2.2.2.2.1,0,0,()) 0:=by
 refine⟨rfl,rfl,rfl,rfl,rfl,rfl,rfl,?_,⟨fun i hi=>⟨_,_,_,_,_,v0_conn g i hi,fun _=>rfl⟩,rfl,⟨rfl,by simp[v0]⟩,by omega,upP_get,?_⟩⟩
 ·exact(set_self (by simp[v0])).symm
 ·obtain⟨a0,a1,a2,a3,a4,a5,b,r,t,l,d,q,_,_,_,_,_,_,_,_,_,_,_,_,hq,rfl⟩:=h
  exact hq.1
theorem sc_free {g:De2}{v:V}{k:De0}{m:Nat}(h:Sc g v k m)(i:Nat)(hi:i<16): ∃f o fr ou,Conn v i f o s0 fr ou:=by
 obtain⟨f,o,s,fr,ou,h1,_⟩:=h.q.fit i hi
 have h2:=h1.S
 rw[h.S] at h2
 simp only[List.getElem?_replicate,hi,if_true,Option.some.injEq,Prod.mk.injEq,and_true] at h2
 subst h2
 exact⟨f,o,fr,ou,h1⟩
theorem sc_idle {g:De2}{v:V}{k:De0}{m:Nat}(h:Sc g v k m):Idle v:=fun i hi=>by
 obtain⟨f,o,fr,ou,h1⟩:=sc_free h i hi
 exact⟨f,o,s0,fr,ou,h1,rfl⟩
theorem sc_al {g:De2}{v:V}{k:De0}{m:Nat}(h:Sc g v k m)(n:Nat)(x:De1):Al v.S v.tr n x:=fun j s h1 h3=>by
 rw[h.S,List.getElem?_replicate] at h1
 split at h1
 ·cases h1;exact absurd h3 (by show¬(0:Int)=3;omega)
 ·cases h1
noncomputable abbrev x2:De1:=(1,0,7,7,false,kk 2,())
noncomputable abbrev x4:De1:=(2,0,9,7,false,kk 4,())
theorem cfg_tr {c:List Int}{g:De2}(h:Cfg c g):g.1[2]?=some x2∧g.1[4]?=some x4:=by
 obtain⟨a0,a1,a2,a3,a4,a5,b,r,t,l,d,q,h0,h1,h1',_,_,_,_,_,_,_,_,_,_,rfl⟩:=h
 exact(tree_ok h0 h1 h1').2
theorem sc_tr2 {c:List Int}{g:De2}(hc:Cfg c g){v:V}{k:De0}{m:Nat}(h:Sc g v k m):Tr v 2 x2:=⟨by omega,by rw[h.tr];exact(cfg_tr hc).1,by show¬(7:Int)=0;omega⟩
theorem sc_tr4 {c:List Int}{g:De2}(hc:Cfg c g){v:V}{k:De0}{m:Nat}(h:Sc g v k m):Tr v 4 x4:=⟨by omega,by rw[h.tr];exact(cfg_tr hc).2,by show¬(9:Int)=0;omega⟩
theorem sc_lk2 {g:De2}{v:V}{k:De0}{m:Nat}(h:Sc g v k m):Lk v 2 2 k:=⟨by omega,h.q.lp 2 (by omega),by rw[h.L];exact set_get (x:=((g.2.2.2.2.1,g.2.2.2.2.2.1,0,0,()),())) (by simp[v0])⟩
theorem kk_len (n:Int):(kk n).length=32:=by simp
def lockAt (g:De2)(j:Int):De0:=(g.2.2.2.2.1,g.2.2.2.2.2.1,j,(if j=g.2.2.2.2.1 then g.2.2.2.2.2.1 else 0),())
theorem s0_set (i:Nat):(List.replicate 16 ((s0,()):E185)).set i (s0,())=List.replicate 16 (s0,()):=by
 by_cases h:i<16
 ·exact set_self (rep_get h _)
 ·rw[List.set_eq_of_length_le (by simp;omega)]
theorem wrong_step {c:List Int}{g:De2}(hc:Cfg c g){v:V}{m:Nat}{j:Int}(h:Sc g v (lockAt g j) m)(hj:0≤j)(hjt:j<g.2.2.2.2.1)(hm:m+46≤10000000000):
  ∃v3,ze7 WX (((),0,2,j,false,()),v.e)=some ((false,()),v3.e)∧Sc g v3 (lockAt g (j+1)) (m+46):=by
 obtain⟨f,o,fr,ou,hcn⟩:=sc_free h 0 (by omega)
 have hb:g.2.2.2.2.1≤3∧1≤g.2.2.2.2.2.1∧g.2.2.2.2.2.1≤50:=by
  obtain⟨a0,a1,a2,a3,a4,a5,b,r,t,l,d,q,_,_,_,_,_,_,_,_,_,ht,hl,_,_,rfl⟩:=hc
  exact⟨ht.2,hl⟩
 have hl:isLocked (lockAt g j) v.now=false:=decide_eq_false (fun q=>by have:=q.1;simp only[lockAt] at this;omega)
 have hf:failed (lockAt g j) v.now=lockAt g (j+1):=by
  have e1:IntKind.i64.wrap (j+1)=j+1:=w64 (by omega) (by omega)
  have e2:IntKind.i64.wrap (0+g.2.2.2.2.2.1)=g.2.2.2.2.2.1:=by rw[w64 (by omega) (by omega)];omega
  unfold failed
  rw[hl,h.now]
  simp only[lockAt,Bool.false_eq_true,if_false,e1,e2,if_neg (show¬j≥g.2.2.2.2.1 by omega),if_neg (show¬j=g.2.2.2.2.1 by omega)]
 obtain⟨v3,h1,h2⟩:=login_ok (x:=x2) (n:=2) (j:=j) (sf:=s0) (L':=v.L.set 2 (failed (lockAt g j) v.now,())) (m':=m+46) false hcn rfl h.q hello2 (key_ok 2) (kk_len 2) (fun nc tag tag' a1 a2 a3 a4 _ a6 v2 a7=>sent_wrong h.q hm a7 (sc_tr2 hc h) (sc_lk2 h) hl rfl (kk_len 2) a1 (sc_al h 2 x2) a4 (a6 rfl) a3)
 obtain⟨⟨c',mt',F',O',lg',e⟩,_,_,hq⟩:=h2
 refine⟨v3,h1,?_⟩
 subst e
 refine⟨h.cfg,h.now,h.tr,h.ph,h.bp,h.B,?_,?_,hq⟩
 ·show v.S.set 0 (s0,())=_
  rw[h.S];exact s0_set 0
 ·show v.L.set 2 (failed (lockAt g j) v.now,())=_
  rw[hf,h.L,List.set_set]
theorem locked_step {c:List Int}{g:De2}(hc:Cfg c g){v:V}{m:Nat}{k:De0}{now:Int}(h:Sc g v k m)(j:Int)(hl:isLocked k now=true): ∀v',v'={v with now:=now}→Q v' m→
  ∃v3,ze7 WX (((),0,2,j,true,()),v'.e)=some ((false,()),v3.e)∧(now=0→Sc g v3 k m):=by
 rintro v' rfl hq
 obtain⟨f,o,fr,ou,hcn⟩:=sc_free h 0 (by omega)
 have t2:=sc_tr2 hc h
 have l2:=sc_lk2 h
 obtain⟨v3,h1,h2⟩:=login_ok (v:={v with now:=now}) (x:=x2) (n:=2) (j:=j) (sf:=s0) (L':=v.L) (m':=m) true ⟨hcn.lt,hcn.c,hcn.S,hcn.F,hcn.O⟩ rfl hq hello2 (key_ok 2) (kk_len 2) (fun nc tag tag' a1 a2 a3 a4 _ a6 v2 a7=>sent_locked hq a7 ⟨t2.lt,t2.tr,t2.roles⟩ ⟨l2.lt,l2.lp,l2.L⟩ hl a3)
 obtain⟨⟨c',mt',F',O',lg',e⟩,_,_,hq3⟩:=h2
 refine⟨v3,h1,fun h0=>?_⟩
 subst h0
 subst e
 refine⟨h.cfg,rfl,h.tr,h.ph,h.bp,h.B,?_,h.L,hq3⟩
 show v.S.set 0 (s0,())=_
 rw[h.S];exact s0_set 0
end AM
namespace AM
open Go Go.Proofs
set_option maxRecDepth 100000
noncomputable def g0:De2:=(finT 1 7,L6.set 1 (20,3000,40,40,()),60,20,3,50,200,4,())
theorem config_nil:zc3 WX ((([]:List Int),()),())=some ((g0,()),()):=by kernel_rfl
theorem cfg_nil:Cfg [] g0:=⟨⟨1,7,20,3000,40,40,60,20,3,50,200,4, .inr rfl,by omega,by omega,by omega,by omega,by omega,by omega,by omega,by omega,by omega,by omega,by omega,by omega,rfl⟩⟩
noncomputable def aftr (vt:VT):Option ze8.R:=(((zfr WX) (((),0,(3,1,0,0,1,2,1,100,5,0,0,0,0,0,(List.replicate 32 (0:Int)),()),()),vt)).bind fun r6=>(((zfr WX) (((),1,(3,1,0,0,1,1,1,100,3,0,0,0,0,0,(List.replicate 32 (0:Int)),()),()),r6.2)).bind fun r7=>(((zdp WX) (((),()),r7.2)).bind fun r8=>(bif r6.1.1 then(bif r7.1.1 then(((zdq WX) (((),()),r8.2.2.1,r8.2.2.2.1,r8.2.2.2.2.1,r8.2.2.2.2.2.2.2.1,r8.2.2.2.2.2.2.2.2.1,r8.2.2.2.2.2.2.2.2.2.2.2.2)).bind fun r9=>(((zdq WX) r9).bind fun r10=>(((zff WX) (((),4,0,()),r10.2.2.2.1,())).bind fun r11=>(bif (WX.odec (r11.1.1=3)) then(((zdq WX) (((),()),r10.2.1,r10.2.2.1,r11.2.1,r10.2.2.2.2)).bind fun r12=>(((zff WX) (((),2,0,()),r12.2.2.2.1,())).bind fun r13=>some ((((WX.odec (r13.1.1=(-3))),()),())))) else some (((false,()),())))))) else some (((false,()),()))) else some (((false,()),()))))))
def okT:Option ze8.R→Bool|some ((b,_),_)=>b|none=>false
theorem okT_ok {r:Option ze8.R}(h:okT r=true):r=some (((true,()),())):=by
 match r with
 |none=>cases h
 |some ((b,()),())=>cases b;cases h;rfl
noncomputable def lkd:E168:=((3,50,0,0,()),())
noncomputable def vv (mt:List De6)(lg:De5)(o1 o2:List Int):V:={v0 g0 with c:=(c16.set 0 (1,17,17,())).set 1 (2,18,18,()),S:=((List.replicate 16 (s0,())).set 0 ((3,2,Z32,1,0,()),())).set 1 ((3,4,Z32,1,0,()),()),mt:=mt,F:=(List.replicate 16 (([],false,()),())++ [(([],false,()),())])++ [(([],false,()),())],O:=(List.replicate 16 (([],false,()),())++ [((o1,false,()),())])++ [((o2,false,()),())],L:=((v0 g0).L.set 2 lkd).set 4 lkd,lg:=lg}
theorem two_sends: ∀(f g h h':Nat→Int) (m0 m1 m2 m3 n:Int),okT (aftr (vv [((),(),m0,()),((),(),m1,()),((),(),m2,()),((),(),m3,())] ((List.range 92).map f,(List.range 32).map g,n,()) ((List.range 38).map h) ((List.range 38).map h')).e)=true:=fun f g h h' m0 m1 m2 m3 n=>by kernel_rfl
end AM
namespace AM
open Go Go.Proofs
set_option maxRecDepth 100000
theorem mt4 {mt:List De6}(h:mt.length=4): ∃m0 m1 m2 m3,mt=[((),(),m0,()),((),(),m1,()),((),(),m2,()),((),(),m3,())]:=by
 match mt,h with
 | [((),(),a,()),((),(),b,()),((),(),c,()),((),(),d,())],_=>exact⟨a,b,c,d,rfl⟩
theorem awake_of {p:Unit×(List Int)×Unit}{y1 y2 y3:VT}{r:_}(hN:zft WX ((([]:List Int),()),())=some (.inr (((),()),p,y1)))(h1:ze7 WX (((),0,2,5,true,()),y1)=some ((true,()),y2))(h2:ze7 WX (((),1,4,6,true,()),y2)=some ((true,()),y3))(h3:aftr y3=some r):ze8 WX ((),())=some r:=by
 rw[←h3]
 simp only[ze8,hN,Option.bind_some,h1,h2,Bool.not_true,cond_false,aftr]
theorem awake_true:ze8 WX ((),())=some (((true,()),())):=by
 have hnew:=new_ok cfg_nil
 have hN:zft WX ((([]:List Int),()),())=some (.inr (((),()),((),List.replicate 16 (0:Int),()),(v0 g0).e)):=by
  simp only[zft,config_nil,Option.bind_some,hnew,↓xo,eq_self,odT,Bool.not_true,cond_false]
 have hs:=v0_sc cfg_nil
 have l2:Lk (v0 g0) 2 2 (3,50,0,0,()):=⟨by omega,hs.q.lp 2 (by omega),rep_get (by omega) _⟩
 obtain⟨v1,h1,w1⟩:=login_ok (x:=x2) (n:=2) (j:=5) (sf:=(3,2,Z32,1,(v0 g0).now,())) (L':=(v0 g0).L.set 2 ((3,50,0,0,()),())) (m':=0+46) true (v0_conn g0 0 (by omega)) rfl hs.q hello2 (key_ok 2) (kk_len 2) (fun nc tag tag' b1 b2 b3 b4 b5 _ w b7=>by
  rw[b5 rfl]
  exact sent_right (k:=(3,50,0,0,())) hs.q (by omega) b7 (sc_tr2 cfg_nil hs) l2 (by decide) rfl (kk_len 2) b1 (sc_al hs 2 x2) b4 b2)
 obtain⟨mt1,lg1,ob1,e1,hob1⟩:=w1.ex rfl
 have hq1:=w1.q
 have hS1:v1.S=(List.replicate 16 ((s0,()):E185)).set 0 ((3,2,Z32,1,0,()),()):=by rw[e1];rfl
 have htr1:v1.tr=g0.1:=by rw[e1];rfl
 obtain⟨f,o,s,fr,ou,hc1,_⟩:=hq1.fit 1 (by omega)
 have hs1:s=s0:=by
  have:=hc1.S
  rw[hS1,set_other (by omega),rep_get (by omega)] at this
  cases this;rfl
 subst hs1
 have l4:Lk v1 4 4 (3,50,0,0,()):=⟨by omega,hq1.lp 4 (by omega),by rw[e1];show((v0 g0).L.set 2 _)[4]?=_;rw[set_other (by omega)];exact rep_get (by omega) _⟩
 have al4:Al v1.S v1.tr 4 x4:=fun j s h1 h3=>by
  rw[hS1] at h1
  by_cases e:j=0
  ·subst e
   rw[set_get (rep_get (by omega) _)] at h1
   cases h1
   exact⟨2,x2,rfl,by omega,by omega,by rw[htr1];exact(cfg_tr cfg_nil).1,by show¬(7:Int)=0;omega,by show¬(1:Int)=2;omega⟩
  ·rw[set_other e,List.getElem?_replicate] at h1
   split at h1
   ·cases h1;exact absurd h3 (by show¬(0:Int)=3;omega)
   ·cases h1
 have hn1:v1.now=0:=by rw[e1];rfl
 obtain⟨v2,h2,w2⟩:=login_ok (x:=x4) (n:=4) (j:=6) (sf:=(3,4,Z32,1,v1.now,())) (L':=v1.L.set 4 ((3,50,0,0,()),())) (m':=0+46+46) true hc1 rfl hq1 hello4 (key_ok 4) (kk_len 4) (fun nc tag tag' b1 b2 b3 b4 b5 _ w b7=>by
  rw[b5 rfl]
  exact sent_right (k:=(3,50,0,0,())) hq1 (by omega) b7 ⟨by decide,by rw[htr1];exact(cfg_tr cfg_nil).2,by show¬(9:Int)=0;omega⟩ l4 (decide_eq_false (fun q=>by have:=q.1;change (0:Int)≥3 at this;omega)) rfl (kk_len 4) b1 al4 b4 b2)
 obtain⟨mt2,lg2,ob2,e2,hob2⟩:=w2.ex rfl
 have hlg:=w2.q.lg
 have hmt:=w2.q.mt
 have e2lg:v2.lg=lg2:=by rw[e2]
 have e2mt:v2.mt=mt2:=by rw[e2]
 rw[e2lg] at hlg
 rw[e2mt] at hmt
 have ev:v2=vv mt2 lg2 ob1 ob2:=by
  rw[e2,hn1,e1]
  rfl
 obtain⟨b,c,n,u⟩:=lg2
 obtain⟨hl1,hl2⟩:=hlg
 obtain⟨f',hf'⟩:=range_map b (n:=92) hl1
 obtain⟨g',hg'⟩:=range_map c (n:=32) hl2
 obtain⟨k1,hk1⟩:=range_map ob1 (n:=38) hob1
 obtain⟨k2,hk2⟩:=range_map ob2 (n:=38) hob2
 obtain⟨m0,m1,m2,m3,rfl⟩:=mt4 hmt
 have key:=okT_ok (two_sends f' g' k1 k2 m0 m1 m2 m3 n)
 rw[←hf',←hg',←hk1,←hk2] at key
 rw[ev] at h2
 change ze7 WX (((),0,2,5,true,()),_)=some ((true,()),_) at h1
 change ze7 WX (((),1,4,6,true,()),_)=some ((true,()),_) at h2
 exact awake_of hN h1 h2 key
end AM
namespace AM
open Go Go.Proofs
set_option maxRecDepth 100000
abbrev pl0:Unit×(List Int)×Unit:=((),List.replicate 16 (0:Int),())
theorem wrong_loop {c:List Int}{g:De2}(hc:Cfg c g)(a0 a1:Int)(a2:Bool): ∀(n:Nat) (j m:Nat) (v:V),(j:Int)+n=g.2.2.2.2.1→Sc g v (lockAt g j) m→m+46*n≤1000→∃v3 m3,loopFix (za8 WX) ((a0,a1,a2,(),(),(j:Int),()),g,pl0,v.e)=some (.inr ((a0,a1,a2,(),(),()),g,pl0,v3.e))∧Sc g v3 (lockAt g g.2.2.2.2.1) m3∧m3≤1000:=by
 intro n
 induction n with
 |zero=>
  intro j m v hj h hm
  refine⟨v,m,?_,?_,by omega⟩
  ·rw[loopFix_eq]
   simp only[za8,↓xo,of_ (show¬(j:Int)<g.2.2.2.2.1 by omega),cond_false]
  ·rw[←show(j:Int)=g.2.2.2.2.1 by omega];exact h
 |succ n ih=>
  intro j m v hj h hm
  obtain⟨v1,h1,h2⟩:=wrong_step hc h (by omega) (by omega) (by omega)
  have hb:g.2.2.2.2.1≤3:=by
   obtain⟨a0,a1,a2,a3,a4,a5,b,r,t,l,d,q,_,_,_,_,_,_,_,_,_,ht,hl,_,_,rfl⟩:=hc
   exact ht.2
  have e1:IntKind.i64.wrap ((j:Int)+1)=((j+1:Nat):Int):=by rw[w64 (by omega) (by omega)];omega
  obtain⟨v3,m3,h3,h4⟩:=ih (j+1) (m+46) v1 (by omega) (by rw[show((j+1:Nat):Int)=(j:Int)+1 by omega];exact h2) (by omega)
  refine⟨v3,m3,?_,h4⟩
  rw[loopFix_eq]
  simp only[za8,↓xo,xw,ot (show(j:Int)<g.2.2.2.2.1 by omega),cond_true,h1,Option.bind_some,cond_false,e1,h3]
theorem zce.lawX (a0:List Int)(a1 a2:Int)(a3:Bool)(h0:I64s a0)(h1: -9223372036854775808≤a1∧a1≤9223372036854775807)(h2: -9223372036854775808≤a2∧a2≤9223372036854775807):zce WX ((a0,a1,a2,a3,()),())=some ((true,()),()):=by
 obtain⟨g,hg,hc⟩:=config_ok h0
 have hnew:=new_ok hc
 have hN:zft WX ((a0,()),())=some (.inr (((),()),pl0,(v0 g).e)):=by
  simp only[zft,hg,Option.bind_some,hnew,↓xo,eq_self,odT,Bool.not_true,cond_false]
 have hb:1≤g.2.2.2.2.1∧g.2.2.2.2.1≤3∧1≤g.2.2.2.2.2.1∧g.2.2.2.2.2.1≤50∧1≤g.2.2.1:=by
  obtain⟨a0,a1,a2,a3,a4,a5,b,r,t,l,d,q,_,_,_,_,_,_,_,hb,_,ht,hl,_,_,rfl⟩:=hc
  exact⟨ht.1,ht.2,hl.1,hl.2,hb.1⟩
 have hsc0:Sc g (v0 g) (lockAt g ((0:Nat):Int)) 0:=by
  have:lockAt g ((0:Nat):Int)=(g.2.2.2.2.1,g.2.2.2.2.2.1,0,0,()):=by
   simp only[lockAt]
   rw[if_neg (by omega)];rfl
  rw[this];exact v0_sc hc
 obtain⟨v1,m1,hl1,hs1,hm1⟩:=wrong_loop hc a1 a2 a3 g.2.2.2.2.1.toNat 0 0 (v0 g) (by omega) hsc0 (by omega)
 change loopFix (za8 WX) ((a1,a2,a3,(),(),0,()),g,pl0,(v0 g).e)=_ at hl1
 have hk:lockAt g g.2.2.2.2.1=(g.2.2.2.2.1,g.2.2.2.2.2.1,g.2.2.2.2.1,g.2.2.2.2.2.1,()):=by simp only[lockAt,if_true]
 have hlk:isLocked (lockAt g g.2.2.2.2.1) 0=true:=by rw[hk];exact decide_eq_true ⟨Int.le_refl _,by show(0:Int)<g.2.2.2.2.2.1;omega⟩
 obtain⟨v2,hl2,hs2'⟩:=locked_step hc hs1 50 hlk v1 (by rw[←hs1.now]) hs1.q
 have hs2:=hs2' rfl
 have hq2:=locked_ok (sc_lk2 hs2)
 rw[hs2.now,hlk] at hq2
 change zcg WX (((),2,()),_)=_ at hq2
 simp only[V.s] at hq2
 cases a3 with
 |true=>
  obtain⟨f,o,fr,ou,hcn⟩:=sc_free hs2 1 (by omega)
  have hL4:v2.L[4]?=some ((g.2.2.2.2.1,g.2.2.2.2.2.1,0,0,()),()):=by
   rw[hs2.L,set_other (by omega)];exact rep_get (by omega) _
  have l4:Lk v2 4 4 (g.2.2.2.2.1,g.2.2.2.2.2.1,0,0,()):=⟨by omega,hs2.q.lp 4 (by omega),hL4⟩
  obtain⟨v3,hl3,hw3⟩:=login_ok (x:=x4) (n:=4) (j:=51) (sf:=(3,4,Z32,1,v2.now,())) (L':=v2.L.set 4 ((g.2.2.2.2.1,g.2.2.2.2.2.1,0,0,()),())) (m':=m1+46) true hcn rfl hs2.q hello4 (key_ok 4) (kk_len 4) (fun nc tag tag' b1 b2 b3 b4 b5 _ w b7=>by
   rw[b5 rfl]
   exact sent_right (k:=(g.2.2.2.2.1,g.2.2.2.2.2.1,0,0,())) hs2.q (by omega) b7 (sc_tr4 hc hs2) l4 (decide_eq_false (fun q=>by have:=q.1;change (0:Int)≥g.2.2.2.2.1 at this;omega)) rfl (kk_len 4) b1 (sc_al hs2 4 x4) b4 b2)
  obtain⟨⟨c',mt',F',O',lg',e3⟩,_,⟨f3,o3,ob3,hc3,hob3⟩,hq3⟩:=hw3
  have hn3:v3.now=0:=by rw[e3];exact hs2.now
  have htr3:v3.tr=g.1:=by rw[e3];exact hs2.tr
  have hL3:v3.L=v2.L:=by rw[e3];exact set_self hL4
  rw[hs2.now] at hc3
  obtain⟨v4,hl4,hq4,F4,O4,mt4,lg4,B4,e4⟩:=unlock_sent (x4:=x4) (x2:=x2) (p:=2) (b:=4) (k:=lockAt g g.2.2.2.2.1) (bk:=(g.2.2.1,g.2.2.2.1,g.2.2.1,0,())) hc3 hob3 hq3 (by omega) ⟨by omega,by rw[htr3];exact(cfg_tr hc).2,by show¬(9:Int)=0;omega⟩ ⟨by omega,by rw[htr3];exact(cfg_tr hc).1,by show¬(7:Int)=0;omega⟩ rfl rfl rfl
   (by rw[e3];show v2.ph.2.1[2]?=_;rw[hs2.ph];rfl) ⟨by omega,hq3.lp 2 (by omega),by rw[hL3];exact(sc_lk2 hs2).L⟩ (by rw[e3];show v2.bp[4]?=_;rw[hs2.bp];exact upP_get 4 (by omega)) (by rw[e3];show v2.B[4]?=_;rw[hs2.B];exact rep_get (by omega) _) (by rw[hn3];exact Int.le_refl _) (by show¬g.2.2.1=0;omega)
  have hS4:v4.S=((List.replicate 16 ((s0,()):E185)).set 1 ((3,4,Z32,2,0,()),())):=by
   rw[e4];show v3.S.set 1 _=_;rw[hn3,e3];show(v2.S.set 1 _).set 1 _=_;rw[List.set_set,hs2.S]
  have htr4:v4.tr=g.1:=by rw[e4];exact htr3
  have hn4:v4.now=0:=by rw[e4];exact hn3
  have hL4':v4.L[2]?=some ((g.2.2.2.2.1,g.2.2.2.2.2.1,0,0,()),()):=by
   rw[e4];show(v3.L.set 2 _)[2]?=_;rw[hL3]
   rw[set_get (sc_lk2 hs2).L,hk]
  obtain⟨f5,o5,s5,fr5,ou5,hc5,_⟩:=hq4.fit 0 (by omega)
  have hs5:s5=s0:=by
   have:=hc5.S
   rw[hS4,set_other (by omega),rep_get (by omega)] at this
   cases this;rfl
  subst hs5
  have t2:Tr v4 2 x2:=⟨by omega,by rw[htr4];exact(cfg_tr hc).1,by show¬(7:Int)=0;omega⟩
  have l2:Lk v4 2 2 (g.2.2.2.2.1,g.2.2.2.2.2.1,0,0,()):=⟨by omega,hq4.lp 2 (by omega),hL4'⟩
  have al2:Al v4.S v4.tr 2 x2:=fun j s h1 h3=>by
   rw[hS4] at h1
   by_cases e:j=1
   ·subst e
    rw[set_get (rep_get (by omega) _)] at h1
    cases h1
    exact⟨4,x4,rfl,by omega,by omega,by rw[htr4];exact(cfg_tr hc).2,by show¬(9:Int)=0;omega,by show¬(2:Int)=1;omega⟩
   ·rw[set_other e,List.getElem?_replicate] at h1
    split at h1
    ·cases h1;exact absurd h3 (by show¬(0:Int)=3;omega)
    ·cases h1
  obtain⟨v5,hl5,_⟩:=login_ok (x:=x2) (n:=2) (j:=52) (sf:=(3,2,Z32,1,v4.now,())) (L':=v4.L.set 2 ((g.2.2.2.2.1,g.2.2.2.2.2.1,0,0,()),())) (m':=m1+46+54+46) true hc5 rfl hq4 hello2 (key_ok 2) (kk_len 2) (fun nc tag tag' b1 b2 b3 b4 b5 _ w b7=>by
   rw[b5 rfl]
   exact sent_right (k:=(g.2.2.2.2.1,g.2.2.2.2.2.1,0,0,())) hq4 (by omega) b7 t2 l2 (decide_eq_false (fun q=>by have:=q.1;change (0:Int)≥g.2.2.2.2.1 at this;omega)) rfl (kk_len 2) b1 al2 b4 b2)
  change ze7 WX (((),1,4,51,true,()),_)=some ((true,()),_) at hl3
  change ze7 WX (((),0,2,52,true,()),_)=some ((true,()),_) at hl5
  change zfr WX (((),1,uc,()),_)=_ at hl4
  simp only[V.e,uc] at hl1 hl2 hl3 hl4 hl5
  simp only[zce,hg,hN,Option.bind_some,↓xl,V.e,hl1,hl2,cond_false,zdp,hq2,Bool.not_true,cond_true,hl3,hl4,hl5,awake_true]
 |false=>
  obtain⟨k,hk1,hk2,hk3⟩:=within_x h2 (lo:=1) (hi:=g.2.2.2.2.2.1) (by omega) (by omega) (by omega)
  obtain⟨z,hz1,hz2,hz3⟩:=within_x h1 (lo:=0) (hi:=9) (by omega) (by omega) (by omega)
  have ez:IntKind.i64.wrap (53+z)=53+z:=w64 (by omega) (by omega)
  obtain⟨mt3,lg3,ht1,ht2,ht3⟩:=tick_ok (k:=k) (sc_idle hs2) hs2.q.mt hs2.q.lg (by omega) hk1 (by rw[hs2.now];omega) (by rw[hs2.now];exact Int.le_refl _) (by rw[hs2.now];omega)
  rw[hs2.now,Int.zero_add] at ht1
  have hs3:Sc g {v2 with lg:=lg3,mt:=mt3} (lockAt g g.2.2.2.2.1) (m1+46):=⟨hs2.cfg,hs2.now,hs2.tr,hs2.ph,hs2.bp,hs2.B,hs2.S,hs2.L,⟨fit_same (by rfl) (by rfl) (by rfl) (by rfl) hs2.q.fit,ht2,ht3,by omega,hs2.q.lp,hs2.q.quota⟩⟩
  have hq3:Q {v2 with now:=k,lg:=lg3,mt:=mt3} (m1+46):=⟨fit_same (by rfl) (by rfl) (by rfl) (by rfl) hs2.q.fit,ht2,ht3,by omega,hs2.q.lp,hs2.q.quota⟩
  by_cases hkl:k<g.2.2.2.2.2.1
  ·have hlk3:isLocked (lockAt g g.2.2.2.2.1) k=true:=by rw[hk];exact decide_eq_true ⟨Int.le_refl _,hkl⟩
   obtain⟨v4,hl4,_⟩:=locked_step hc hs3 (53+z) hlk3 _ rfl hq3
   simp only[V.e] at hl1 hl2 hl4 ht1
   simp only[zce,hg,hN,Option.bind_some,↓xl,V.e,hl1,hl2,cond_false,zdp,hq2,Bool.not_true,cond_true,hk3,ht1,hz3,xw,ez,hl4,↓xo,of_ (show¬k≥g.2.2.2.2.2.1 by omega),boolEq_eq,beq_self_eq_true,awake_true]
  ·obtain⟨f,o,fr,ou,hcn⟩:=sc_free hs3 0 (by omega)
   have t2:=sc_tr2 hc hs3
   have l2:=sc_lk2 hs3
   have al:=sc_al hs3 2 x2
   obtain⟨v4,hl4,_⟩:=login_ok (v:={v2 with now:=k,lg:=lg3,mt:=mt3}) (x:=x2) (n:=2) (j:=53+z) (sf:=(3,2,Z32,1,k,())) (L':=v2.L.set 2 (((lockAt g g.2.2.2.2.1).1,(lockAt g g.2.2.2.2.1).2.1,0,0,()),())) (m':=m1+46+46) true ⟨hcn.lt,hcn.c,hcn.S,hcn.F,hcn.O⟩ rfl hq3 hello2 (key_ok 2) (kk_len 2) (fun nc tag tag' b1 b2 b3 b4 b5 _ w b7=>by
    rw[b5 rfl]
    exact sent_right hq3 (by omega) b7 ⟨t2.lt,t2.tr,t2.roles⟩ ⟨l2.lt,l2.lp,l2.L⟩ (by rw[hk];exact decide_eq_false (fun q=>hkl q.2)) rfl (kk_len 2) b1 al b4 b2)
   change ze7 WX (((),0,2,53+z,true,()),_)=some ((true,()),_) at hl4
   simp only[V.e] at hl1 hl2 hl4 ht1
   simp only[zce,hg,hN,Option.bind_some,↓xl,V.e,hl1,hl2,cond_false,zdp,hq2,Bool.not_true,cond_true,hk3,ht1,hz3,xw,ez,hl4,↓xo,ot (show k≥g.2.2.2.2.2.1 by omega),boolEq_eq,beq_self_eq_true,awake_true]
end AM
namespace AM
open Go Go.Proofs
theorem i64s_of {c:List Int}(h:Rng (.deep (.int .i64)) c):I64s c:=fun x hx=>rng64 (h.2 x hx)
theorem zce.law (a0:List Int)(a1 a2:Int)(a3:Bool)(h0:Rng (.deep (.int .i64)) a0)(h1:Rng (.int .i64) a1)(h2:Rng (.int .i64) a2)(h3:Rng .bool a3):zce W0 ((a0,a1,a2,a3,()),())=some ((true,()),()):=by
 rw[W0_WX]
 exact zce.lawX a0 a1 a2 a3 (i64s_of h0) (rng64 h1) (rng64 h2)
end AM
