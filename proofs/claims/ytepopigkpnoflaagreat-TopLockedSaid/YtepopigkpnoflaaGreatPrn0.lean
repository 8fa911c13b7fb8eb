/- slices.Insert at levels, by its own walk; what the printed functions share. Conditions: none. -/
import Derived.Tactics
import Derived.Tactics2
import Derived.Defers
import Derived.Laws.Pointers
import Derived.Laws.LoneSync
import Derived.RegionTactic
import Derived.RegionCalls
import Derived.ChangeAlike
import Derived.Test.YtepopigkpnoflaaGreatProg
import Derived.Shelf.Spec.SlicesInsertGrow
import Derived.Test.YtepopigkpnoflaaGreatAm3
set_option linter.unusedVariables false
set_option linter.unusedSimpArgs false
namespace AM
open Go Go.Proofs
set_option maxRecDepth 100000
set_option linter.unusedVariables false
theorem mixed:Tryz.prog.follows .mixedOrders=true:=by kernel_rfl
theorem disable (w:World):(callFunc 196 #[]).run Tryz.prog w= .ok (.value (.tuple #[])) w:=run_call_mark0 Tryz.func196 (by kernel_rfl) (by kernel_rfl) (by kernel_rfl) .disable (by kernel_rfl) w
theorem enable (w:World):(callFunc 198 #[]).run Tryz.prog w= .ok (.value (.tuple #[])) w:=run_call_mark0 Tryz.func198 (by kernel_rfl) (by kernel_rfl) (by kernel_rfl) .enable (by kernel_rfl) w
theorem acquire (a:Addr)(w:World):(callFunc 199 #[.pointer (some a)]).run Tryz.prog w= .ok (.value (.tuple #[])) w:=run_call_marked Tryz.func199 (by kernel_rfl) (by kernel_rfl) (by kernel_rfl) .acquire (by kernel_rfl) a w
theorem releaseMerge (a:Addr)(w:World):(callFunc 201 #[.pointer (some a)]).run Tryz.prog w= .ok (.value (.tuple #[])) w:=run_call_marked Tryz.func201 (by kernel_rfl) (by kernel_rfl) (by kernel_rfl) .releaseMerge (by kernel_rfl) a w
theorem store_deferred (a:Addr)(x:Value)(u:FrameMode)(w:World)(hc:w.cell? a=some x)(hz:w.frozen? a=false):
  CallsD Tryz.prog 138 #[.pointer (some a), .bool true] u w fun e u' w'=>u'=u∧(e= .returned (.tuple #[])∧w'=w.drew.setCell a (.int .u32 1)):=by
 have hc':w.drew.cell? a=some x:=by go_simp
 have hz':w.drew.frozen? a=false:=by go_simp
 have hst:=run_call_store (P:=Tryz.prog) Tryz.func172 (by kernel_rfl) (by kernel_rfl) (by kernel_rfl) (by kernel_rfl) (k:= .u32) (y:=1) hc' hz'
 go_enter_d Tryz.func138,Tryz.ntmps138
 go_wp2
 go_region_calls
 all_goals (go_end0;exact⟨rfl,rfl⟩)
theorem unlock_deferred (a:Addr)(u:FrameMode)(w:World)(hc:w.cell? a=some (.int .i32 1))(hz:w.frozen? a=false):
  CallsD Tryz.prog 137 #[.pointer (some a)] u w fun e u' w'=>u'=u∧(e= .returned (.tuple #[])∧w'=w.setCell a (.int .i32 0)):=by
 have hd:=disable
 have he:=enable
 have hr:=releaseMerge
 have hadd:=run_call_add (P:=Tryz.prog) Tryz.func202 (by kernel_rfl) (by kernel_rfl) (by kernel_rfl) .i32 (by kernel_rfl) (y:= -1) (s:=0) hc hz (by simp[go_sem];rfl)
 have hcv:=run_convert_to_unsafe (P:=Tryz.prog) (src:=305) (dst:=309) Tryz.underlying305 Tryz.underlying309 (by kernel_rfl) hc
 go_enter_d Tryz.func137,Tryz.ntmps137
 go_wp2
 go_end0
 go_wp2
 go_end0
 exact⟨rfl,rfl⟩
theorem lock_free (a:Addr)(w:World)(hc:w.cell? a=some (.int .i32 0))(hz:w.frozen? a=false):
  Calls Tryz.prog 136 #[.pointer (some a)] w fun e w'=>e= .returned (.tuple #[])∧w'=w.setCell a (.int .i32 1):=by
 have hd:=disable
 have he:=enable
 have ha:=acquire
 have hcas:=run_call_cas_hit (P:=Tryz.prog) Tryz.func197 (by kernel_rfl) (by kernel_rfl) (by kernel_rfl) .i32 (by kernel_rfl) (y:=1) hc hz
 have hc':(w.setCell a (.int .i32 1)).cell? a=some (.int .i32 1):=World.cell?_setCell_same w a _ hc
 have hcv:=run_convert_to_unsafe (P:=Tryz.prog) (src:=305) (dst:=309) Tryz.underlying305 Tryz.underlying309 (by kernel_rfl) hc'
 go_enter Tryz.func136,Tryz.ntmps136
 go_wp2
 first|go_end0|(simp only[Exit.inBlock,Exit.then];refine bodyPost_ret (results_none rfl _ _ _) rfl ?_)|refine bodyPost_ret (results_none rfl _ _ _) rfl ?_
 go_wp2
 go_end0
 exact⟨rfl,rfl⟩
set_option maxRecDepth 100000 in
set_option maxHeartbeats 1600000 in
theorem slow_any (b off:Nat)(g:FuncId)(first caps:Array Value)(Post:World→Prop)(w:World)(hg: ∀w:World,(callFunc g (first++caps)).run Tryz.prog w= .ok (.enter g (first++caps)) w)
  (h0:w.cell? ⟨b,off,none⟩=some (.int .u32 0)) (h1:w.cell? ⟨b,off+1,none⟩=some (.int .i32 0))
  (f1:w.frozen? ⟨b,off+1,none⟩=false)
  (hcl:Calls Tryz.prog g (first++caps) (w.setCell ⟨b,off+1,none⟩ (.int .i32 1)) fun e w'=>e= .returned (.tuple #[])∧Post w'∧(∃x,w'.cell? ⟨b,off,none⟩=some x)∧w'.frozen? ⟨b,off,none⟩=false∧w'.cell? ⟨b,off+1,none⟩=some (.int .i32 1)∧w'.frozen? ⟨b,off+1,none⟩=false):
  Calls Tryz.prog 109 #[.pointer (some ⟨b,off,none⟩), .func (.func g) first caps] w fun e w'=>e= .returned (.tuple #[])∧
   ∃w1,Post w1∧(∃x,w1.cell? ⟨b,off,none⟩=some x)∧w1.frozen? ⟨b,off,none⟩=false∧w1.cell? ⟨b,off+1,none⟩=some (.int .i32 1)∧w1.frozen? ⟨b,off+1,none⟩=false∧w'=(w1.drew.setCell ⟨b,off,none⟩ (.int .u32 1)).setCell ⟨b,off+1,none⟩ (.int .i32 0):=by
 have hl:=run_call_load (P:=Tryz.prog) Tryz.func135 (by kernel_rfl) (by kernel_rfl) (by kernel_rfl) .u32 (by kernel_rfl) (w:=w.setCell ⟨b,off+1,none⟩ (.int .i32 1)) (a:=⟨b,off,none⟩) (x:=0) ((World.cell?_setCell_other _ ⟨b,off+1,none⟩ ⟨b,off,none⟩ _ (by simp)).trans h0)
 have hnot: ∀(x:Bool) (w:World),(Op.unary .not (.bool x)).run Tryz.prog w= .ok (.bool (!x)) w:=fun _ _=>rfl
 have happ:first++(#[]:Array Value)=first:=by simp
 go_enter_defers Tryz.func109,Tryz.ntmps109
 go_wp2_with (first|(go_at_call 136;refine(lock_free ⟨b,off+1,none⟩ _ (by go_simp) (by go_simp)).mono ?_;rintro e w' ⟨rfl,rfl⟩)|(go_at_call 108;go_in)|(refine hcl.mono ?_;rintro e w1 ⟨rfl,hpost,⟨xx,hx0⟩,hz0,hx1,hz1⟩))
 go_wp2
 refine leaves_cons (f:=138) (args:= #[.pointer (some ⟨b,off,none⟩), .bool true]) (by simp) (by simp[go_sem]) ?_
 refine(store_deferred ⟨b,off,none⟩ xx .returning _ hx0 hz0).mono ?_
 rintro e u' w'' ⟨rfl,rfl,rfl⟩
 refine leaves_cons (f:=137) (args:= #[.pointer (some ⟨b,off+1,none⟩)]) (by simp[settle]) (by simp[go_sem]) ?_
 refine(unlock_deferred ⟨b,off+1,none⟩ _ _ ?_ (by simp[hz1])).mono ?_
 ·refine(World.cell?_setCell_other _ ⟨b,off,none⟩ ⟨b,off+1,none⟩ _ (by simp)).trans ?_
  rw[World.cell?_drew]
  exact hx1
 rintro e u' w'' ⟨rfl,rfl,rfl⟩
 simp only[Leaves,settle,results,Tryz.results109]
 simp
 exact⟨w1,hpost,⟨xx,hx0⟩,hz0,hx1,hz1,rfl⟩
set_option maxRecDepth 100000 in
set_option maxHeartbeats 1600000 in
theorem once_first (b off:Nat)(g:FuncId)(first caps:Array Value)(Post:World→Prop)(w:World)(hg: ∀w:World,(callFunc g (first++caps)).run Tryz.prog w= .ok (.enter g (first++caps)) w)
  (h0:w.cell? ⟨b,off,none⟩=some (.int .u32 0)) (h1:w.cell? ⟨b,off+1,none⟩=some (.int .i32 0))
  (f1:w.frozen? ⟨b,off+1,none⟩=false)
  (hcl:Calls Tryz.prog g (first++caps) (w.setCell ⟨b,off+1,none⟩ (.int .i32 1)) fun e w'=>e= .returned (.tuple #[])∧Post w'∧(∃x,w'.cell? ⟨b,off,none⟩=some x)∧w'.frozen? ⟨b,off,none⟩=false∧w'.cell? ⟨b,off+1,none⟩=some (.int .i32 1)∧w'.frozen? ⟨b,off+1,none⟩=false):
  Calls Tryz.prog 78 #[.pointer (some ⟨b,off,none⟩), .func (.func g) first caps] w fun e w'=>e= .returned (.tuple #[])∧
   ∃w1,Post w1∧w'=(w1.drew.setCell ⟨b,off,none⟩ (.int .u32 1)).setCell ⟨b,off+1,none⟩ (.int .i32 0):=by
 have hl:=run_call_load (P:=Tryz.prog) Tryz.func135 (by kernel_rfl) (by kernel_rfl) (by kernel_rfl) .u32 (by kernel_rfl) h0
 have hnot: ∀(x:Bool) (w:World),(Op.unary .not (.bool x)).run Tryz.prog w= .ok (.bool (!x)) w:=fun _ _=>rfl
 go_enter Tryz.func78,Tryz.ntmps78
 go_wp2_with (first|(go_at_call 109;refine(slow_any b off g first caps Post _ hg h0 h1 f1 hcl).mono ?_;rintro e w' ⟨rfl,w1,hpost,hx0,hz0,hx1,hz1,rfl⟩)|(go_at_call 108;go_in))
 go_end0
 exact⟨rfl,w1,hpost,rfl⟩
theorem once_done (a:Addr)(d:Int)(hd: ¬d=0)(fv:Value)(w:World)(h0:w.cell? a=some (.int .u32 d)):
  Calls Tryz.prog 78 #[.pointer (some a),fv] w fun e w'=>e= .returned (.tuple #[])∧w'=w:=by
 have hl:=run_call_load (P:=Tryz.prog) Tryz.func135 (by kernel_rfl) (by kernel_rfl) (by kernel_rfl) .u32 (by kernel_rfl) h0
 have hnot: ∀(x:Bool) (w:World),(Op.unary .not (.bool x)).run Tryz.prog w= .ok (.bool (!x)) w:=fun _ _=>rfl
 have hd':(d !=0)=true:=by simp[hd]
 go_enter Tryz.func78,Tryz.ntmps78
 go_wp2
 go_end0
 exact⟨rfl,rfl⟩
theorem w78:WOnce Tryz.prog 78:=⟨⟨Tryz.f78,rfl,rfl,by decide⟩,fun a d hd fv w h0=>once_done a d hd fv w h0,fun b off g first caps Post w hg h0 h1 f1 hcl=>once_first b off g first caps Post w hg h0 h1 f1 hcl⟩
theorem run_call_swap {P:Program}{f:FuncId}{fn:Func}(hf:P.funcs[f]?=some fn)(hname:(fn.name== "runtime.NumGoroutine")=false)(hb:fn.body.isNone=true)(hn:Extern.findNext fn=none)(k:IntKind)
  (he:Extern.find fn=some (Extern.Atomic.swapT (.int k))) {a:Addr} {x y:Int} {w:World} (hc:w.cell? a=some (.int k x)) (hz:w.frozen? a=false):
  (callFunc f #[.pointer (some a), .int k y]).run P w= .ok (.value (.int k x)) (w.setCell a (.int k y)):=by
 rw[run_callFunc_extern hf hname hb hn he]
 change (Sem.run P (do
  let a'←asAddr (.pointer (some a))
  let old←Extern.Atomic.read (.int k) a'
  store a' (.int k y) .atomic
  pure old) w).andThen _=_
 simp[Extern.Atomic.read,asAddr,hc,hz,run_store P w a (.int k y) .atomic rfl,Result.andThen]
theorem w100:WLoad Tryz.prog 100 .i64:=⟨⟨Tryz.f100,rfl,rfl,by decide⟩,fun b o x w h0=>by
 have hl:=run_call_load (P:=Tryz.prog) Tryz.func131 (by kernel_rfl) (by kernel_rfl) (by kernel_rfl) .i64 (by kernel_rfl) h0
 go_enter Tryz.func100,Tryz.ntmps100
 go_wp2
 go_ret
 exact⟨rfl,rfl⟩⟩
theorem w122:WAdd Tryz.prog 122 .i64:=⟨⟨Tryz.f122,rfl,rfl,by decide⟩,fun b o x y w h0 hz=>by
 obtain⟨s,hs⟩: ∃s,s=IntKind.i64.wrap (x+y):=⟨_,rfl⟩
 have hl:=run_call_add (P:=Tryz.prog) Tryz.func156 (by kernel_rfl) (by kernel_rfl) (by kernel_rfl) .i64 (by kernel_rfl) (y:=y) (s:=s) h0 hz (by rw[hs];rfl)
 rw[←hs]
 clear hs
 go_enter Tryz.func122,Tryz.ntmps122
 go_wp2
 go_ret
 exact⟨rfl,rfl⟩⟩
end AM
set_option linter.unusedVariables false
set_option linter.unusedSimpArgs false
namespace AM
open Go Go.Proofs Go.Shelf Go.RowKit Go.Lib
theorem Lz.t0:Tryz.prog.underlying 0=some (.tuple #[]):=by kernel_rfl
theorem Lz.a0: ∀w,(isAgg 0).run Tryz.prog w= .ok false w:=fun w=>by kernel_rfl
theorem Lz.z0: ∀w,(Go.sizeOf 0).run Tryz.prog w= .ok 1 w:=fun w=>by kernel_rfl
theorem Lz.v0: ∀w,(zeroValue 0).run Tryz.prog w= .ok (.tuple #[]) w:=fun w=>by kernel_rfl
theorem Lz.t3:Tryz.prog.underlying 3=some (.int .i64):=by kernel_rfl
theorem Lz.a3: ∀w,(isAgg 3).run Tryz.prog w= .ok false w:=fun w=>by kernel_rfl
theorem Lz.z3: ∀w,(Go.sizeOf 3).run Tryz.prog w= .ok 1 w:=fun w=>by kernel_rfl
theorem Lz.v3: ∀w,(zeroValue 3).run Tryz.prog w= .ok (.int .i64 0) w:=fun w=>by kernel_rfl
theorem Lz.t4:Tryz.prog.underlying 4=some (.bool):=by kernel_rfl
theorem Lz.a4: ∀w,(isAgg 4).run Tryz.prog w= .ok false w:=fun w=>by kernel_rfl
theorem Lz.z4: ∀w,(Go.sizeOf 4).run Tryz.prog w= .ok 1 w:=fun w=>by kernel_rfl
theorem Lz.v4: ∀w,(zeroValue 4).run Tryz.prog w= .ok (.bool false) w:=fun w=>by kernel_rfl
theorem Lz.t143:Tryz.prog.underlying 143=some (.pointer 197):=by kernel_rfl
theorem Lz.a143: ∀w,(isAgg 143).run Tryz.prog w= .ok false w:=fun w=>by kernel_rfl
theorem Lz.z143: ∀w,(Go.sizeOf 143).run Tryz.prog w= .ok 1 w:=fun w=>by kernel_rfl
theorem Lz.v143: ∀w,(zeroValue 143).run Tryz.prog w= .ok (.pointer none) w:=fun w=>by kernel_rfl
theorem Lz.t137:Tryz.prog.underlying 137=some (.slice 143):=by kernel_rfl
theorem Lz.a137: ∀w,(isAgg 137).run Tryz.prog w= .ok false w:=fun w=>by kernel_rfl
theorem Lz.z137: ∀w,(Go.sizeOf 137).run Tryz.prog w= .ok 1 w:=fun w=>by kernel_rfl
theorem Lz.v137: ∀w,(zeroValue 137).run Tryz.prog w= .ok (.slice none 0 0) w:=fun w=>by kernel_rfl
theorem Lz.i143:(Tryz.prog.info? 143).map (fun i=>(i.zero,i.size,i.bytes))=some (some (Value.pointer none),1,8):=by kernel_rfl
set_option maxHeartbeats 4000000 in
set_option maxRecDepth 100000 in
theorem ins_shift (b off n c i vb voff m vc:Nat)(cs vs:List Value)(w:World)(hi:i<n)(hm:0<m)(hroom:n+m≤c)(hc63:n+m≤9223372036854775807)(hvb:vb≠b)
  (hcl:cs.length=n) (hvl:vs.length=m)
  (hcs: ∀j v,cs[j]?=some v→w.cell? ⟨b,off+j,none⟩=some v) (hsp: ∀j,j<n+m→(w.cell? ⟨b,off+j,none⟩).isSome=true) (hfz: ∀j,j<n+m→w.frozen? ⟨b,off+j,none⟩=false)
  (hvs: ∀j v,vs[j]?=some v→w.cell? ⟨vb,voff+j,none⟩=some v) (h1c: ∀v∈cs,v.oneCell'=true) (h1v: ∀v∈vs,v.oneCell'=true)
  (tA tB:TypeId) (kA kB:Nat) (hsa:w.shape? vb=some (tA,kA)) (hsb:w.shape? b=some (tB,kB)) (hkB:kB≠0) (hfa:w.frozen? ⟨vb,voff,none⟩=false) (hfe:w.frozen? ⟨vb,kA,none⟩=false):
  Calls Tryz.prog 266 #[.slice (some ⟨b,off,none⟩) n c, .int .i64 i, .slice (some ⟨vb,voff,none⟩) m vc] w fun e w'=>
   e= .returned (.slice (some ⟨b,off,none⟩) (n+m) c)∧w'=(w.drew.setCells b (off+(i+m)) (cs.drop i)).setCells b (off+i) vs:=by
 have t0:=Lz.t0;have a0:=Lz.a0;have z0:=Lz.z0;have v0:=Lz.v0;have t3:=Lz.t3;have a3:=Lz.a3;have z3:=Lz.z3;have v3:=Lz.v3;have t4:=Lz.t4;have a4:=Lz.a4;have z4:=Lz.z4;have v4:=Lz.v4;have t143:=Lz.t143;have a143:=Lz.a143;have z143:=Lz.z143;have v143:=Lz.v143;have t137:=Lz.t137;have a137:=Lz.a137;have z137:=Lz.z137;have v137:=Lz.v137
 have u0:=run_underlying Lz.t0;have u3:=run_underlying Lz.t3;have u4:=run_underlying Lz.t4;have u143:=run_underlying Lz.t143;have u137:=run_underlying Lz.t137
 have hz1: ¬((m:Int)=0):=by omega
 have hz2: ¬((i:Int)=(n:Int)):=by omega
 have hsz:(Tryz.prog.info? 143).map (·.size)=some 1:=by
  obtain⟨i0,hi0,h0,h1,h2⟩:=info_parts Lz.i143
  rw[hi0];simp[h1]
 have hov: ∀lb cb,(callFunc 271 #[.slice (some ⟨vb,voff,none⟩) m vc, .slice (some ⟨b,off+(i+m),none⟩) lb cb]).run Tryz.prog w= .ok (.value (.bool false)) w:=fun lb cb=>by
  rw[run_callFunc_extern Tryz.func271 (by kernel_rfl) (by kernel_rfl) (by kernel_rfl) (e:=Extern.SlicesOverlaps.overlaps #[137,137] #[4]) (by kernel_rfl),
   Lib.run_overlaps_apart w 137 4 143 Lz.t137 1 Lz.z143 ⟨vb,voff,none⟩ ⟨b,off+(i+m),none⟩ m vc lb cb hvb tA tB kA kB hsa hsb hkB hfa hfe]
  rfl
 have hdl:(cs.drop i).length=n-i:=by rw[List.length_drop,hcl]
 have mixed:=mixed
 have hw1:IntKind.i64.wrap ((i:Int)+(m:Int))=(i:Int)+(m:Int):=by rw[IntKind.wrap_i64];omega
 have hb1:(0:Int)≤(i:Int)+(m:Int):=by omega
 have hin:i≤n:=by omega
 have htn:((i:Int)+(m:Int)).toNat=i+m:=by omega
 have hb2: ¬(c=i+m):=by omega
 have hb3:(i:Int)≤(n:Int)+(m:Int):=by omega
 have hb4: ¬(c=i):=by omega
 have hcp1: ∀ty dc sc,(Builtin.copy_ #[137,137] ty #[.slice (some ⟨b,off+(i+m),none⟩) (n+m-(i+m)) dc, .slice (some ⟨b,off+i,none⟩) (n+m-i) sc]).run Tryz.prog w.drew= .ok (goInt (cs.drop i).length) (w.drew.setCells b (off+(i+m)) (cs.drop i)):=fun ty dc sc=>
  run_copy_cells w.drew _ _ ty 143 b (off+(i+m)) (n+m-(i+m)) dc ⟨b,off+i,none⟩ (n+m-i) sc (cs.drop i) Lz.t137 hsz (by rw[hdl];simp only[Nat.min_def];split<;>omega)
   (fun j v hj=>by rw[Addr.add_lit,Nat.add_assoc];exact hcs (i+j) v (by rwa [List.getElem?_drop] at hj))
   (fun j hj=>by rw[Nat.add_assoc];exact hsp _ (by omega)) (fun j hj=>by rw[Nat.add_assoc];exact hfz _ (by omega)) (fun v hv=>h1c v (List.mem_of_mem_drop hv))
 obtain⟨W1,hW1⟩: ∃W1,W1=w.drew.setCells b (off+(i+m)) (cs.drop i):=⟨_,rfl⟩
 have hsp1: ∀k,k<n+m→(W1.cell? ⟨b,off+k,none⟩).isSome=true:=fun k hk=>by
  rw[hW1]
  exact isSome_setCells b _ _ _ (fun j hj=>by rw[Nat.add_assoc];exact hsp _ (by omega)) _ (hsp k hk)
 have hcp2: ∀(W:World),(∀x,W.cell? x=W1.cell? x)→(∀x,W.frozen? x=W1.frozen? x)→∀ty dc,(Builtin.copy_ #[137,137] ty #[.slice (some ⟨b,off+i,none⟩) (n+m-i) dc, .slice (some ⟨vb,voff,none⟩) m vc]).run Tryz.prog W= .ok (goInt vs.length) (W.setCells b (off+i) vs):=fun W hWc hWf ty dc=>
  run_copy_cells W _ _ ty 143 b (off+i) (n+m-i) dc ⟨vb,voff,none⟩ m vc vs Lz.t137 hsz (by rw[hvl];simp only[Nat.min_def];split<;>omega)
   (fun j v hj=>by
    rw[Addr.add_lit,hWc,hW1,World.cell?_setCells_out b _ _ _ _ (fun h _=>absurd h hvb)]
    exact hvs j v hj)
   (fun j hj=>by rw[hWc,Nat.add_assoc];exact hsp1 _ (by omega)) (fun j hj=>by rw[hWf,hW1,World.frozen?_setCells,Nat.add_assoc];exact hfz _ (by omega)) h1v
 rw[←hW1] at hcp1
 go_enter Tryz.func266,Tryz.ntmps266
 go_wp2_with (simp only[hov])
 go_region_law_o (refine step_copy_runI rfl _ _ 137 137 rfl _ _ (by simp[Act.eval,Act.put]) (by simp[Act.eval,Act.put]) (hcp1 _ _ _) ?_)
 go_wp2_with (at_builtin;refine wpList_copy_runI _ rfl _ _ 137 137 rfl _ _ rfl rfl (hcp2 _ (fun _=>rfl) (fun _=>rfl) _ _) ?_)
 go_ret
 first|exact⟨rfl,rfl⟩|exact⟨rfl,by rw[hW1]⟩
set_option maxHeartbeats 4000000 in
set_option maxRecDepth 100000 in
theorem ins_end_room (b off n c vb voff m vc:Nat)(vs:List Value)(w:World)(hm:0<m)(hroom:n+m≤c)(hc63:n+m≤9223372036854775807)
  (hvl:vs.length=m) (hsp: ∀j,j<m→(w.cell? ⟨b,off+n+j,none⟩).isSome=true) (hfz: ∀j,j<m→w.frozen? ⟨b,off+n+j,none⟩=false)
  (hvs: ∀j v,vs[j]?=some v→w.cell? ⟨vb,voff+j,none⟩=some v) (h1v: ∀v∈vs,v.oneCell'=true):
  Calls Tryz.prog 266 #[.slice (some ⟨b,off,none⟩) n c, .int .i64 n, .slice (some ⟨vb,voff,none⟩) m vc] w fun e w'=>
   e= .returned (.slice (some ⟨b,off,none⟩) (n+m) c)∧w'=w.setCells b (off+n) vs:=by
 have t0:=Lz.t0;have a0:=Lz.a0;have z0:=Lz.z0;have v0:=Lz.v0;have t3:=Lz.t3;have a3:=Lz.a3;have z3:=Lz.z3;have v3:=Lz.v3;have t4:=Lz.t4;have a4:=Lz.a4;have z4:=Lz.z4;have v4:=Lz.v4;have t143:=Lz.t143;have a143:=Lz.a143;have z143:=Lz.z143;have v143:=Lz.v143;have t137:=Lz.t137;have a137:=Lz.a137;have z137:=Lz.z137;have v137:=Lz.v137
 have u0:=run_underlying Lz.t0;have u3:=run_underlying Lz.t3;have u4:=run_underlying Lz.t4;have u143:=run_underlying Lz.t143;have u137:=run_underlying Lz.t137
 have mixed:=mixed
 have hz1: ¬((m:Int)=0):=by omega
 have hsrc:Go.Src Tryz.prog 1 137 (.slice (some ⟨vb,voff,none⟩) m vc) m vs w:=Go.Src.ofSlice w Lz.t137 ⟨vb,voff,none⟩ m vc vs (by omega) (fun j u hj=>by rw[Addr.add_lit];exact hvs j u hj) h1v
 go_enter Tryz.func266,Tryz.ntmps266
 go_wp2_with (at_builtin;refine wpList_append_room1 _ rfl _ _ 137 137 rfl 143 _ _ Lz.t137 Lz.i143 b off n c rfl _ rfl m vs hsrc hroom (by rw[hvl];exact hsp) (by rw[hvl];exact hfz) ?_)
 go_ret
 exact⟨rfl,rfl⟩
set_option maxHeartbeats 4000000 in
set_option maxRecDepth 100000 in
theorem ins_end_grow (base:Option Addr)(n c vb voff m vc:Nat)(cs vs:List Value)(w:World)(hm:0<m)(hnc:n≤c)(hroom:c<n+m)(hbig:(n+m)*8≤140737488355328)
  (hcl:cs.length=n) (hvl:vs.length=m) (hnil:base=none→n=0)
  (hcs: ∀a,base=some a→∀j v,cs[j]?=some v→w.cell? (a.add j)=some v)
  (hvs: ∀j v,vs[j]?=some v→w.cell? ⟨vb,voff+j,none⟩=some v) (h1v: ∀v∈vs,v.oneCell'=true):
  Calls Tryz.prog 266 #[.slice base n c, .int .i64 n, .slice (some ⟨vb,voff,none⟩) m vc] w fun e w'=>
   e= .returned (.slice (some ⟨w.heap.size,0,none⟩) (n+m) (grownCap w (n+m) c 143))∧
   w'=w.drew.alloc (.cells ((cs++vs).toArray++Builtin.zeroCells (Value.pointer none).cells (grownCap w (n+m) c 143-(n+m))) 143):=by
 have t0:=Lz.t0;have a0:=Lz.a0;have z0:=Lz.z0;have v0:=Lz.v0;have t3:=Lz.t3;have a3:=Lz.a3;have z3:=Lz.z3;have v3:=Lz.v3;have t4:=Lz.t4;have a4:=Lz.a4;have z4:=Lz.z4;have v4:=Lz.v4;have t143:=Lz.t143;have a143:=Lz.a143;have z143:=Lz.z143;have v143:=Lz.v143;have t137:=Lz.t137;have a137:=Lz.a137;have z137:=Lz.z137;have v137:=Lz.v137
 have u0:=run_underlying Lz.t0;have u3:=run_underlying Lz.t3;have u4:=run_underlying Lz.t4;have u143:=run_underlying Lz.t143;have u137:=run_underlying Lz.t137
 have mixed:=mixed
 obtain⟨i0,hi0,hz0,hzs,hzb⟩:=info_parts Lz.i143
 have hz1: ¬((m:Int)=0):=by omega
 have hsrc:Go.Src Tryz.prog i0.size 137 (.slice (some ⟨vb,voff,none⟩) m vc) m vs w:=by
  rw[hzs]
  exact Go.Src.ofSlice w Lz.t137 ⟨vb,voff,none⟩ m vc vs (by omega) (fun j u hj=>by rw[Addr.add_lit];exact hvs j u hj) h1v
 have hold:(Builtin.firstCells i0.size n (.slice base n c)).run Tryz.prog w.drew= .ok cs.toArray w.drew:=by
  rw[hzs]
  cases base with
  |none=>
   have h0:=hnil rfl
   subst h0
   rw[List.length_eq_zero_iff.1 hcl]
   exact run_firstCells_none w.drew 1 0 0 c
  |some a=>exact run_firstCells_some w.drew 1 n a n c cs (by omega) (fun j v hj=>hcs a rfl j v hj)
 have hrun: ∀ty,(Builtin.append_ #[137,137] ty #[.slice base n c, .slice (some ⟨vb,voff,none⟩) m vc]).run Tryz.prog w=_:=fun ty=>
  run_append_grow_src w 137 137 ty 143 i0 _ Lz.t137 hi0 hz0 base n c cs hold _ m vs hsrc hroom (by omega) (by rw[hzb];exact growslice_fits hroom hbig)
 go_enter Tryz.func266,Tryz.ntmps266
 cases base with
 |none=>
  have h0:=hnil rfl
  subst h0
  go_wp2_with (at_builtin;refine Lib.wpList_append_run _ rfl _ _ _ _ rfl _ _ rfl rfl _ _ (hrun _) ?_)
  go_ret
  exact⟨rfl,rfl⟩
 |some a=>
  obtain⟨ab,ao,asp⟩:=a
  go_wp2_with (at_builtin;refine Lib.wpList_append_run _ rfl _ _ _ _ rfl _ _ rfl rfl _ _ (hrun _) ?_)
  all_goals (go_ret;exact⟨rfl,rfl⟩)
set_option maxHeartbeats 4000000 in
set_option maxRecDepth 100000 in
theorem ins_grow (b off n c i vb voff m vc:Nat)(cs vs:List Value)(w:World)(hi:i<n)(hm:0<m)(hnc:n≤c)(hroom:c<n+m)(hbig:(n+m)*8≤140737488355328)
  (hcl:cs.length=n) (hvl:vs.length=m)
  (hcs: ∀j v,cs[j]?=some v→w.cell? ⟨b,off+j,none⟩=some v)
  (hvs: ∀j v,vs[j]?=some v→w.cell? ⟨vb,voff+j,none⟩=some v) (h1c: ∀v∈cs,v.oneCell'=true) (h1v: ∀v∈vs,v.oneCell'=true):
  Calls Tryz.prog 266 #[.slice (some ⟨b,off,none⟩) n c, .int .i64 i, .slice (some ⟨vb,voff,none⟩) m vc] w fun e w'=>
   e= .returned (.slice (some ⟨w.heap.size,0,none⟩) (n+m) (grownCap w (n+m) c 143))∧
   w'=(((w.alloc (.cells ((cs.take i).toArray++Builtin.zeroCells (Value.pointer none).cells (n+m-i)++Builtin.zeroCells (Value.pointer none).cells (grownCap w (n+m) c 143-(n+m))) 143)).drew.setCells w.heap.size i vs).drew).setCells w.heap.size (i+m) (cs.drop i):=by
 have t0:=Lz.t0;have a0:=Lz.a0;have z0:=Lz.z0;have v0:=Lz.v0;have t3:=Lz.t3;have a3:=Lz.a3;have z3:=Lz.z3;have v3:=Lz.v3;have t4:=Lz.t4;have a4:=Lz.a4;have z4:=Lz.z4;have v4:=Lz.v4;have t143:=Lz.t143;have a143:=Lz.a143;have z143:=Lz.z143;have v143:=Lz.v143;have t137:=Lz.t137;have a137:=Lz.a137;have z137:=Lz.z137;have v137:=Lz.v137
 have u0:=run_underlying Lz.t0;have u3:=run_underlying Lz.t3;have u4:=run_underlying Lz.t4;have u143:=run_underlying Lz.t143;have u137:=run_underlying Lz.t137
 have mixed:=mixed
 obtain⟨i0,hi0,hz0,hzs,hzb⟩:=info_parts Lz.i143
 have hz1: ¬((m:Int)=0):=by omega
 have hz2: ¬((i:Int)=(n:Int)):=by omega
 have hz3:(c:Int)<(n:Int)+(m:Int):=by omega
 have hsz:(Tryz.prog.info? 143).map (·.size)=some 1:=by rw[hi0];simp[hzs]
 have hbw:b<w.heap.size:=block_lt_of_cell (hcs 0 _ (List.getElem?_eq_getElem (by omega)))
 have hvw:vb<w.heap.size:=block_lt_of_cell (hvs 0 _ (List.getElem?_eq_getElem (by omega)))
 have hkk:(n:Int)+(m:Int)-(i:Int)=((n+m-i:Nat):Int):=by omega
 have hik:i+(n+m-i)=n+m:=by omega
 have hold:(Builtin.firstCells i0.size i (.slice (some ⟨b,off,none⟩) i c)).run Tryz.prog w.drew= .ok (cs.take i).toArray w.drew:=by
  rw[hzs]
  exact run_firstCells_some w.drew 1 i ⟨b,off,none⟩ i c (cs.take i) (by rw[List.length_take];omega) (fun j v hj=>by
   rw[Addr.add_lit]
   rw[List.getElem?_take] at hj
   split at hj
   ·exact hcs j v hj
   ·cases hj)
 have hrz: ∀ty,(Builtin.append_ #[137,3] ty #[.slice (some ⟨b,off,none⟩) i c, .int .i64 ((n:Int)+(m:Int)-(i:Int))]).run Tryz.prog w=
   .ok (.slice (some ⟨w.heap.size,0,none⟩) (n+m) (grownCap w (n+m) c 143)) (w.drew.alloc (.cells ((cs.take i).toArray++Builtin.zeroCells (Value.pointer none).cells (n+m-i)++Builtin.zeroCells (Value.pointer none).cells (grownCap w (n+m) c 143-(n+m))) 143)):=fun ty=>by
  have h:=Lib.run_append_grow_zeros w 137 3 ty 143 i0 _ .i64 .i64 Lz.t137 Lz.t3 hi0 hz0 (some ⟨b,off,none⟩) i c (cs.take i) hold (n+m-i) (by omega) (by omega) (by omega) (by omega) (by rw[hzb];omega) (by rw[hzb,hik];exact growslice_fits hroom hbig)
  rw[hik] at h
  rw[hkk]
  exact h
 obtain⟨G,hG⟩: ∃G,G=grownCap w (n+m) c 143:=⟨_,rfl⟩
 obtain⟨ROW,hROW⟩: ∃ROW:Array Value,ROW=(cs.take i).toArray++Builtin.zeroCells (Value.pointer none).cells (n+m-i)++Builtin.zeroCells (Value.pointer none).cells (G-(n+m)):=⟨_,rfl⟩
 rw[←hG] at hrz⊢
 rw[←hROW] at hrz⊢
 have hRl:n+m≤ROW.size:=by
  rw[hROW]
  simp[Builtin.zeroCells,Value.cells]
  omega
 obtain⟨W1,hW1⟩: ∃W1,W1=w.drew.alloc (.cells ROW 143):=⟨_,rfl⟩
 rw[←hW1] at hrz
 have hN: ∀j,j<n+m→(W1.cell? ⟨w.heap.size,j,none⟩).isSome=true:=fun j hj=>by
  rw[hW1,World.cell?_alloc_at (w:=w.drew) ROW _ w.heap.size j rfl,Array.getElem?_eq_getElem (by omega)];rfl
 have hNf: ∀j,W1.frozen? ⟨w.heap.size,j,none⟩=false:=fun j=>by rw[hW1];exact World.frozen?_alloc_at (w:=w.drew) ROW _ w.heap.size j rfl
 have hOb: ∀j v,w.cell? ⟨b,j,none⟩=some v→W1.cell? ⟨b,j,none⟩=some v:=fun j v h=>by rw[hW1,World.cell?_alloc_past (w:=w.drew) _ b j hbw];exact h
 have hOv: ∀j v,w.cell? ⟨vb,j,none⟩=some v→W1.cell? ⟨vb,j,none⟩=some v:=fun j v h=>by rw[hW1,World.cell?_alloc_past (w:=w.drew) _ vb j hvw];exact h
 have hcpA: ∀(W:World),(∀x,W.cell? x=W1.cell? x)→(∀x,W.frozen? x=W1.frozen? x)→∀ty dc,(Builtin.copy_ #[137,137] ty #[.slice (some ⟨w.heap.size,i,none⟩) (n+m-i) dc, .slice (some ⟨vb,voff,none⟩) m vc]).run Tryz.prog W= .ok (goInt vs.length) (W.setCells w.heap.size i vs):=fun W hWc hWf ty dc=>
  run_copy_cells W _ _ ty 143 w.heap.size i (n+m-i) dc ⟨vb,voff,none⟩ m vc vs Lz.t137 hsz (by rw[hvl];simp only[Nat.min_def];split<;>omega)
   (fun j v hj=>by rw[Addr.add_lit,hWc];exact hOv _ v (hvs j v hj))
   (fun j hj=>by rw[hWc];exact hN _ (by omega)) (fun j hj=>by rw[hWf];exact hNf _) h1v
 have hGn:n+m≤G:=by rw[hG];exact grownCap_ge w _ _ _
 have hG63:G≤9223372036854775807:=by
  have:=grownCap_le_maxLen w (n+m) c 143 (by unfold maxLen;omega)
  rw[←hG] at this
  unfold maxLen at this
  omega
 have hGi: ¬(G=i):=by omega
 have hGim: ¬(G=i+m):=by omega
 have hci: ¬(c=i):=by omega
 have hbN:b≠w.heap.size:=by omega
 have hdl:(cs.drop i).length=n-i:=by rw[List.length_drop,hcl]
 have hcpB: ∀(W:World),(∀x,W.cell? x=(W1.setCells w.heap.size i vs).cell? x)→(∀x,W.frozen? x=(W1.setCells w.heap.size i vs).frozen? x)→∀ty dc sc,(Builtin.copy_ #[137,137] ty #[.slice (some ⟨w.heap.size,i+m,none⟩) (n+m-(i+m)) dc, .slice (some ⟨b,off+i,none⟩) (n-i) sc]).run Tryz.prog W= .ok (goInt (cs.drop i).length) (W.setCells w.heap.size (i+m) (cs.drop i)):=fun W hWc hWf ty dc sc=>
  run_copy_cells W _ _ ty 143 w.heap.size (i+m) (n+m-(i+m)) dc ⟨b,off+i,none⟩ (n-i) sc (cs.drop i) Lz.t137 hsz (by rw[hdl];simp only[Nat.min_def];split<;>omega)
   (fun j v hj=>by
    rw[Addr.add_lit,hWc,World.cell?_setCells_out _ _ _ _ _ (fun h _=>absurd h hbN),Nat.add_assoc]
    exact hOb _ v (hcs (i+j) v (by rwa [List.getElem?_drop] at hj)))
   (fun j hj=>by rw[hWc];exact isSome_setCells _ _ _ _ (fun t ht=>hN _ (by omega)) _ (hN _ (by omega)))
   (fun j hj=>by rw[hWf,World.frozen?_setCells];exact hNf _) (fun v hv=>h1c v (List.mem_of_mem_drop hv))
 subst hW1
 have hE1: ∀x,((w.alloc (.cells ROW 143)).drew).cell? x=(w.drew.alloc (.cells ROW 143)).cell? x:=fun x=>rfl
 have hE2: ∀x,((w.alloc (.cells ROW 143)).drew).frozen? x=(w.drew.alloc (.cells ROW 143)).frozen? x:=fun x=>rfl
 have hF1: ∀x,(((w.alloc (.cells ROW 143)).drew.setCells w.heap.size i vs).drew).cell? x=((w.drew.alloc (.cells ROW 143)).setCells w.heap.size i vs).cell? x:=fun x=>rfl
 have hF2: ∀x,(((w.alloc (.cells ROW 143)).drew.setCells w.heap.size i vs).drew).frozen? x=((w.drew.alloc (.cells ROW 143)).setCells w.heap.size i vs).frozen? x:=fun x=>rfl
 have hw1:IntKind.i64.wrap ((i:Int)+(m:Int))=(i:Int)+(m:Int):=by rw[IntKind.wrap_i64];omega
 have hb1:(0:Int)≤(i:Int)+(m:Int):=by omega
 have hin:i≤n:=by omega
 have htn:((i:Int)+(m:Int)).toNat=i+m:=by omega
 have hb3:(i:Int)≤(n:Int):=by omega
 clear hkk hik hold hROW hG hRl
 go_enter Tryz.func266,Tryz.ntmps266
 go_wp2_with (first
  |(at_builtin;refine Lib.wpList_append_run _ rfl _ _ _ _ rfl _ _ rfl rfl _ _ (hrz _) ?_)
  |(at_builtin;refine wpList_copy_runI _ rfl _ _ 137 137 rfl _ _ rfl rfl (hcpA _ hE1 hE2 _ _) ?_)
  |(at_builtin;refine wpList_copy_runI _ rfl _ _ 137 137 rfl _ _ rfl rfl (hcpB _ (fun _=>rfl) (fun _=>rfl) _ _ _) ?_))
 go_region_law_o (refine step_copy_runI rfl _ _ 137 137 rfl (.slice (some ⟨w.heap.size,i+m,none⟩) (n+m-(i+m)) (G-(i+m))) (.slice (some ⟨b,off+i,none⟩) (n-i) (c-i)) (by simp[Act.eval,Act.put]) (by simp[Act.eval,Act.put]) (hcpB _ hF1 hF2 3 (G-(i+m)) (c-i)) ?_)
 go_wp2
 go_ret
 exact⟨rfl,rfl⟩
end AM
namespace AM
open Go Go.Proofs
variable {base:Nat}{N:Nm_}{D:Nat→Prop}{w:World}{h:Nat→Option AObj}
theorem tail_value {g:Nat}(S:Sim N D w base h){q:Nat}{xs:List Nat}(ho:h q=some (.row false (.ref g) xs)){v:Value}(hv:VRel N D w (.tail q 0) v):
  (xs=[]∧∃b,v= .slice b 0 0)∨∃nm a cap C ty fz,N q=some nm∧nm.base=some a∧a.spot=none∧v= .slice (some a) xs.length cap∧xs.length≤cap∧0<cap∧cap≤nm.cap∧nm.len=xs.length∧w.heap[a.block]?=some (.cells C ty fz)∧a.off+nm.cap≤C.size∧(fz=(0,0)∨C.size≤fz.1∧Ty.ref g= .int .u8)∧base≤a.block∧¬D a.block∧RowAt N D w (.ref g) xs (cA w a):=by
 unfold VRel at hv
 simp only[AV.isAgg,vrel,RA] at hv
 obtain⟨nm,g1,g2,g3,g4,g5⟩:=hv
 obtain⟨nm',i1,i2,i3,i4,i5,i6⟩:=S.obj q _ ho
 rw[g1] at i1;cases i1
 have hl:nm.len=xs.length:=i4
 cases hb:nm.base with
 |none=>
  rw[hb] at g5
  obtain⟨g5,g6⟩:=g5
  simp only[Option.some.injEq] at g6
  exact .inl ⟨List.eq_nil_of_length_eq_zero (by omega),none,g6⟩
 |some a=>
  rw[hb] at g5 i6
  obtain⟨v',cap,g6,g7,a',cap',rfl,g8,rfl,g9⟩:=g5
  simp only[Option.some.injEq] at g6
  subst g6
  obtain⟨j1,⟨C,cty,fz,j2,j3,j4⟩,j5,j6⟩:=i6
  replace j4:=j4 rfl
  simp only[Bool.false_eq_true,if_false] at j5
  simp only[Nat.sub_zero] at*
  by_cases h0:cap'=0
  ·subst h0
   have:xs.length=0:=by omega
   exact .inl ⟨List.eq_nil_of_length_eq_zero this,some a',by rw[hl,this]⟩
  ·rcases g9 with rfl|g9
   ·refine .inr ⟨nm,a,cap',C,cty,fz,g1,hb,j1,?_,by omega,by omega,by omega,hl,j2,by simpa [Ty.size] using j3,j4,j5.1,j5.2,j6⟩
    rw[hl]
    obtain⟨ab,ao,asp⟩:=a
    simp only at j1
    subst j1
    simp[Addr.at_]
   ·exact absurd g9 h0
end AM
namespace AM
open Go Go.Proofs
variable {base:Nat}
def InsOut (base:Nat)(N:Nm_)(D:Nat→Prop)(w:World)(h:Nat→Option AObj)(v:Value)(i:Nat)(x:Value)(h':Nat→Option AObj)(u:AV):Prop:=
 ∃N' D' w' v',Calls Tryz.prog 266 #[v, .int .i64 i,x] w (fun e w''=>e= .returned v'∧w''=w')∧Ext N D w h N' D' w' h'∧Sim N' D' w' base h'∧VRel N' D' w' u v'
section
variable {N:Nm_}{D:Nat→Prop}{w:World}{h:Nat→Option AObj}{te:Ty}
theorem InsOut.after {N':Nm_}{D':Nat→Prop}{h' h'':Nat→Option AObj}{v x:Value}{u:AV}{i:Nat}(a:InsOut base N' D' w h' v i x h'' u)(y:Ext N D w h N' D' w h'):InsOut base N D w h v i x h'' u:=by
 obtain⟨N2,D2,w2,v2,h1,h2,h3,h4⟩:=a
 exact⟨N2,D2,w2,v2,h1,y.trans h2,h3,h4⟩
theorem ins_moved (S:Sim N D w base h){id q:Nat}{xs zs:List te.den}(ho:h q=some (.row false te xs))(hfree:upd h q .dead id=none){nm:Nm}{a:Addr}{C:Array Value}{ty:TypeId}{fz:Nat×Nat}{cap:Nat}(g1:N q=some nm)(hb:nm.base=some a)
  (hsp:a.spot=none) (hc:cap≤nm.cap) (hh:w.heap[a.block]?=some (.cells C ty fz)) (hs:a.off+nm.cap*te.size≤C.size) (hz:fz=(0,0)∨C.size≤fz.1∧te= .int .u8) (hba:base≤a.block) (hD: ¬D a.block) {w':World} (hos:w'.os=w.os) (htp:w'.tape=w.tape) (hout:w'.output=w.output) (hsz:w'.heap.size=w.heap.size)
  (hother: ∀b,b≠a.block→w'.heap[b]?=w.heap[b]?) {C':Array Value} (hh':w'.heap[a.block]?=some (.cells C' ty fz)) (hC:C'.size=C.size) (hl:llen (β:=te.den) zs≤cap) {g:Nat→Option Value} (hr:RowAt N D w te zs g) (hg: ∀j,j<llen (β:=te.den) zs*te.size→g j=cA w' a j):
  ∃N',Ext N D w h N' D w' (upd (upd h q .dead) id (.row false te zs))∧Sim N' D w' base (upd (upd h q .dead) id (.row false te zs))∧VRel N' D w' (.tail id 0) (.slice (some a) (llen (β:=te.den) zs) cap):=by
 have hDw: ∀b,D b→w'.heap[b]?=w.heap[b]?:=fun b hb'=>hother b (fun e=>hD (e▸hb'))
 obtain⟨N',n1,n2,n3⟩:=S.move (id:=id) (nm':=⟨some a,tsh te,true,llen (β:=te.den) zs,cap⟩) (a':=a) (o':= .row false te zs) ho rfl g1 hb hfree rfl rfl hos htp hout hsz hother (by
  refine⟨_,Nm_.up_at,rfl,rfl,rfl,hl,?_⟩
  show _∧_∧_∧_
  refine⟨hsp,⟨C',ty,fz,hh',?_,fun _=>by rw[hC];exact hz⟩,by simp only[Bool.false_eq_true,if_false];exact⟨hba,hD⟩,?_⟩
  ·rw[hC]
   have:=Nat.mul_le_mul_right te.size hc
   show a.off+cap*te.size≤C.size
   omega
  ·exact(hr.monoN ((S.kill q).1.newN hfree _) (fun _ h=>h) hDw).congr hg)
 refine⟨N',n3,n2,?_⟩
 unfold VRel
 simp only[AV.isAgg,vrel,RA]
 refine⟨_,n1,rfl,Nat.zero_le _,hl,?_⟩
 show∃v room,_
 refine⟨_,cap,rfl,by simp,a,cap,by simp,by simpa using hl,rfl,?_⟩
 left
 obtain⟨ab,ao,asp⟩:=a
 simp only at hsp
 subst hsp
 simp[Addr.at_]
theorem ins_new (S:Sim N D w base h){id:Nat}{zs:List te.den}(hfree:h id=none){w':World}(hos:w'.os=w.os)(htp:w'.tape=w.tape)(hout:w'.output=w.output)(hsz:w.heap.size<w'.heap.size)(hother: ∀b,b<w.heap.size→w'.heap[b]?=w.heap[b]?){C':Array Value}{ty:TypeId}{cap:Nat}
  (hh':w'.heap[w.heap.size]?=some (.cells C' ty (0,0))) (hC:cap*te.size≤C'.size) (hl:llen (β:=te.den) zs≤cap) {g:Nat→Option Value} (hr:RowAt N D w te zs g) (hg: ∀j,j<llen (β:=te.den) zs*te.size→g j=cA w' ⟨w.heap.size,0,none⟩ j):
  ∃N',Ext N D w h N' D w' (upd h id (.row false te zs))∧Sim N' D w' base (upd h id (.row false te zs))∧VRel N' D w' (.tail id 0) (.slice (some ⟨w.heap.size,0,none⟩) (llen (β:=te.den) zs) cap):=by
 let nm:Nm:=⟨some ⟨w.heap.size,0,none⟩,tsh te,true,llen (β:=te.den) zs,cap⟩
 obtain⟨N',n1,n2,n3⟩:=S.make (w':=w') (o:= .row false te zs) (nm:=nm) hfree hos htp hout (by omega) hother (fun a ha=>by cases ha;exact⟨Nat.le_refl _,hsz⟩) (by
  refine⟨nm,Nm_.up_at,rfl,rfl,rfl,hl,?_⟩
  show _∧_∧_∧_
  refine⟨rfl,⟨C',ty,(0,0),hh',by simpa [nm] using hC,fun _=> .inl rfl⟩,?_,?_⟩
  ·simp only[Bool.false_eq_true,if_false]
   exact⟨S.size,fun hd=>Nat.lt_irrefl _ (S.frozen _ hd)⟩
  ·exact(hr.monoN (S.newN hfree nm) (fun _ h=>h) (fun b hb=>hother b (S.frozen b hb))).congr hg)
 refine⟨N',n3,n2,?_⟩
 unfold VRel
 simp only[AV.isAgg,vrel,RA]
 refine⟨_,n1,rfl,Nat.zero_le _,hl,?_⟩
 show∃v room,_
 refine⟨_,cap,rfl,by simp[nm],⟨w.heap.size,0,none⟩,cap,by simp[nm],by simpa using hl,rfl,?_⟩
 left
 simp[Addr.at_]
end
section
variable {N:Nm_}{D:Nat→Prop}{w:World}{h:Nat→Option AObj}{g:Nat}
theorem ins_get {α:Type}{cs vs:List α}{i:Nat}(hi:i≤cs.length)(j:Nat):(cs.take i++(vs++cs.drop i))[j]?=if j<i then cs[j]? else if j<i+vs.length then vs[j-i]? else cs[j-vs.length]?:=by
 have hl:(cs.take i).length=i:=by rw[List.length_take];omega
 by_cases h1:j<i
 ·rw[if_pos h1,List.getElem?_append_left (by omega),List.getElem?_take,if_pos h1]
 ·rw[if_neg h1,List.getElem?_append_right (by omega),hl]
  by_cases h2:j<i+vs.length
  ·rw[if_pos h2,List.getElem?_append_left (by omega)]
  ·rw[if_neg h2,List.getElem?_append_right (by omega),List.getElem?_drop]
   congr 1;omega
theorem ins_row {xs ys:List (Ty.ref g).den}{cs vs:List Value}{i:Nat}(hi:i≤cs.length)(hc:cs.length=llen (β:=(Ty.ref g).den) xs)(hr:RowAt N D w (.ref g) xs (cs[·]?))(hv:vs.length=llen (β:=(Ty.ref g).den) ys)(hs:RowAt N D w (.ref g) ys (vs[·]?)):
  RowAt N D w (.ref g) (xs.take i++(ys++xs.drop i):List (Ty.ref g).den) ((cs.take i++(vs++cs.drop i))[·]?):=by
 have h1:(Ty.ref g).size=1:=rfl
 have hl:llen (β:=(Ty.ref g).den) (xs.take i)=i:=by simp only[llen,List.length_take];simp only[llen] at hc;omega
 refine RowAt.append_cells ((hr.take i).congr fun j hj=>?_) (by rw[hl,h1,List.length_take];omega) (RowAt.append_cells hs (by rw[hv,h1];omega) ?_)
 ·rw[hl,h1,Nat.mul_one] at hj
  rw[List.getElem?_take,if_pos hj]
 ·refine(hr.drop i).congr fun j hj=>?_
  rw[h1,Nat.mul_one,List.getElem?_drop]
theorem ins_endgrow (S:Sim N D w base h){id:Nat}(hfree:h id=none){b:Option Addr}{n m cap vb voff vc:Nat}{cs vs:List Value}{zs:List (Ty.ref g).den}(hm:0<m)(hnc:n≤cap)(hroom:cap<n+m)(hbig:(n+m)*8≤140737488355328)(hcl:cs.length=n)(hvl:vs.length=m)(hnil:b=none→n=0)
  (hcs: ∀a,b=some a→∀j v,cs[j]?=some v→w.cell? (a.add j)=some v) (hvs: ∀j v,vs[j]?=some v→w.cell? ⟨vb,voff+j,none⟩=some v) (h1v: ∀v∈vs,v.oneCell'=true) (hzl:llen (β:=(Ty.ref g).den) zs=n+m) (hrow:RowAt N D w (.ref g) zs ((cs++vs)[·]?)):
  InsOut base N D w h (.slice b n cap) n (.slice (some ⟨vb,voff,none⟩) m vc) (upd h id (.row false (.ref g) zs)) (.tail id 0):=by
 have h1:(Ty.ref g).size=1:=rfl
 have hrun:=ins_end_grow b n cap vb voff m vc cs vs w hm hnc hroom hbig hcl hvl hnil hcs hvs h1v
 have hge:=grownCap_ge w (n+m) cap 143
 generalize hG:grownCap w (n+m) cap 143=G at*
 generalize hR:((cs++vs).toArray++Builtin.zeroCells (Value.pointer none).cells (G-(n+m)))=R at*
 have hRs:R.size=G:=by
  rw[←hR];simp[size_zeroCells,Value.cells];omega
 have hR1: ∀j,j<n+m→R[j]?=(cs++vs)[j]?:=fun j hj=>by
  rw[←hR,Array.getElem?_append_left (by simp;omega)]
  simp
 have hW0:(w.drew.alloc (.cells R 143)).heap[w.heap.size]?=some (.cells R 143 (0,0)):=by show(w.heap.push _)[_]?=_;simp
 obtain⟨N',n1,n2,n3⟩:=ins_new (id:=id) (te:= .ref g) (zs:=zs) S hfree (w':=w.drew.alloc (.cells R 143)) rfl rfl rfl
  (by show w.heap.size<(w.heap.push _).size;simp) (fun c hc=>by show(w.heap.push _)[c]?=_;rw[Array.getElem?_push,if_neg (by omega)]) hW0 (cap:=G) (by rw[h1,hRs];omega) (by rw[hzl];exact hge) hrow (fun j hj=>by
  rw[hzl,h1,Nat.mul_one] at hj
  rw[←hR1 j hj]
  unfold cA World.cell?
  simp only
  rw[hW0]
  simp)
 rw[hzl] at n3
 exact⟨N',D,_,_,hrun,n1,n2,n3⟩
set_option maxHeartbeats 4000000 in
theorem ins_out (S:Sim N D w base h){id q q2 i:Nat}{xs ys:List (Ty.ref g).den}(ho:h q=some (.row false (.ref g) xs))(ho2:h q2=some (.row false (.ref g) ys))(hne:q≠q2)(hfree:upd h q .dead id=none)(hi:i≤llen (β:=(Ty.ref g).den) xs)(hy:0<llen (β:=(Ty.ref g).den) ys)
  (hby:(llen (β:=(Ty.ref g).den) xs+llen (β:=(Ty.ref g).den) ys)*8≤70368744177664) {v x:Value} (hv:VRel N D w (.tail q 0) v) (hx:VRel N D w (.tail q2 0) x):
  InsOut base N D w h v i x (upd (upd h q .dead) id (.row false (.ref g) (xs.take i++(ys++xs.drop i):List (Ty.ref g).den))) (.tail id 0):=by
 have h1:(Ty.ref g).size=1:=rfl
 obtain⟨kS,kE⟩:=S.kill q
 have hzl:llen (β:=(Ty.ref g).den) (xs.take i++(ys++xs.drop i))=llen (β:=(Ty.ref g).den) xs+llen (β:=(Ty.ref g).den) ys:=by simp only[llen,List.length_append,List.length_take,List.length_drop];simp only[llen] at hi;omega
 rcases tail_value S ho2 hx with⟨e,_⟩|⟨nm2,⟨vb,voff,vsp⟩,vc,C2,ty2,fz2,a1,a2,a3,a4,a5,a6,a7,a8,a9,a10,a11,a12,a13,a14⟩
 ·exact absurd (show llen (β:=(Ty.ref g).den) ys=0 by rw[e];rfl) (by omega)
 simp only at a3
 subst a3
 obtain⟨vs,v1,v2,v3,v4⟩:=a14.cells
 rw[h1,Nat.mul_one] at v1
 have hvs: ∀j u,vs[j]?=some u→w.cell? ⟨vb,voff+j,none⟩=some u:=v2
 subst a4
 change InsOut base N D w h v i (.slice (some ⟨vb,voff,none⟩) (llen (β:=(Ty.ref g).den) ys) vc) _ _
 rcases tail_value S ho hv with⟨e,b,rfl⟩|⟨nm,⟨b,off,sp⟩,cap,C,ty,fz,b1,b2,b3,b4,b5,b6,b7,b8,b9,b10,b11,b12,b13,b14⟩
 ·have hx0:llen (β:=(Ty.ref g).den) xs=0:=by rw[e];rfl
  have hi0:i=0:=by omega
  subst hi0
  refine InsOut.after (ins_endgrow (cs:=[]) (vs:=vs) kS hfree hy (Nat.le_refl _) (by omega) (by omega) rfl v1 (fun _=>rfl) (fun a ha j v hj=>by simp at hj) hvs v4 (by rw[hzl,hx0]) ?_) kE
  have e0:([]:List Value)++vs=([]:List Value).take 0++(vs++([]:List Value).drop 0):=by simp
  rw[e0]
  exact ins_row (cs:=[]) (i:=0) (Nat.zero_le _) hx0.symm (by rw[e];exact RowAt.nil) v1 v3
 simp only at b3
 subst b3
 subst b4
 obtain⟨cs,c1,c2,c3,c4⟩:=b14.cells
 rw[h1,Nat.mul_one] at c1
 have hcs: ∀j u,cs[j]?=some u→w.cell? ⟨b,off+j,none⟩=some u:=c2
 have hic:i≤cs.length:=by rw[c1];exact hi
 have hrow:=ins_row (i:=i) hic c1 c3 v1 v3
 change llen (β:=(Ty.ref g).den) xs≤cap at b5
 change InsOut base N D w h (.slice (some ⟨b,off,none⟩) (llen (β:=(Ty.ref g).den) xs) cap) i (.slice (some ⟨vb,voff,none⟩) (llen (β:=(Ty.ref g).den) ys) vc) _ _
 have b10':off+nm.cap≤C.size:=b10
 generalize hn:llen (β:=(Ty.ref g).den) xs=n at*
 generalize hm:llen (β:=(Ty.ref g).den) ys=m at*
 simp only at b7 b9 b10 b11 b12 b13
 have hdl:(cs.take i++(vs++cs.drop i)).length=n+m:=by simp only[List.length_append,List.length_take,List.length_drop];omega
 have hold: ∀j,j<n→w.cell? ⟨b,off+j,none⟩=cs[j]?:=fun j hj=>by rw[List.getElem?_eq_getElem (by omega)];exact hcs j _ (List.getElem?_eq_getElem (by omega))
 by_cases hroom:n+m≤cap
 ·have hc63:n+m≤9223372036854775807:=by omega
  have hvb:vb≠b:=fun e=>by
   subst e
   exact hne (S.apart q q2 _ _ vb ho ho2 ⟨nm,_,b1,b2,rfl⟩ ⟨nm2,_,a1,a2,rfl⟩)
  have hfz:fz=(0,0):=by
   rcases b11 with e|⟨_,e⟩
   ·exact e
   ·cases e
  have hfz2:fz2=(0,0):=by
   rcases a11 with e|⟨_,e⟩
   ·exact e
   ·cases e
  have hsome: ∀j,j<n+m→(w.cell? ⟨b,off+j,none⟩).isSome=true:=fun j hj=>cells_isSome b9 (by omega)
  have hnfz: ∀j,j<n+m→w.frozen? ⟨b,off+j,none⟩=false:=fun j hj=>not_frozen b9 (.inl hfz) (by omega)
  by_cases hin:i<n
  ·have hrun:=ins_shift b off n cap i vb voff m vc cs vs w hin hy hroom hc63 hvb c1 v1 hcs hsome hnfz hvs c4 v4 ty2 ty C2.size C.size (by unfold World.shape?;rw[a9]) (by unfold World.shape?;rw[b9]) (by omega) (by unfold World.frozen?;rw[a9,hfz2];simp) (by unfold World.frozen?;rw[a9,hfz2];simp)
   obtain⟨C',f1,f2⟩:=setCells_block b (cs.drop i) (off+(i+m)) w.drew C ty fz b9
   obtain⟨C'',f3,f4⟩:=setCells_block b vs (off+i) (w.drew.setCells b (off+(i+m)) (cs.drop i)) C' ty fz f1
   obtain⟨o1,o2,o3⟩:=setCells_os b (cs.drop i) (off+(i+m)) w.drew
   obtain⟨o4,o5,o6⟩:=setCells_os b vs (off+i) (w.drew.setCells b (off+(i+m)) (cs.drop i))
   obtain⟨N',n1,n2,n3⟩:=ins_moved (id:=id) S ho hfree b1 b2 rfl b7 b9 (by rw[h1,Nat.mul_one];exact b10') b11 b12 b13 (o4.trans o1) (o5.trans o2) (o6.trans o3) ((setCells_size ..).trans (setCells_size ..)) (fun c hc=>(setCells_ne _ _ _ _ c hc).trans (setCells_ne _ _ _ _ c hc)) f3 (f4.trans f2) (zs:=(xs.take i++(ys++xs.drop i):List (Ty.ref g).den)) (by rw[hzl];exact hroom) hrow (fun j hj=>by
    rw[hzl,h1,Nat.mul_one] at hj
    rw[ins_get hic,v1]
    unfold cA
    simp only
    by_cases j1:j<i
    ·rw[if_pos j1,World.cell?_setCells_out _ _ _ _ _ (fun _ _=>by simp only;omega),World.cell?_setCells_out _ _ _ _ _ (fun _ _=>by simp only;omega)]
     exact(hold j (by omega)).symm
    ·rw[if_neg j1]
     by_cases j2:j<i+m
     ·rw[if_pos j2]
      have:=World.cell?_setCells_in b vs (off+i) (w.drew.setCells b (off+(i+m)) (cs.drop i)) (fun k hk=>cells_isSome f1 (by omega)) (j-i) (by omega)
      rw[show off+i+(j-i)=off+j by omega] at this
      rw[this,List.getElem?_eq_getElem (by omega)]
     ·rw[if_neg j2,World.cell?_setCells_out _ _ _ _ _ (fun _ _=>by simp only;omega)]
      have hdl2:(cs.drop i).length=n-i:=by rw[List.length_drop,c1]
      have:=World.cell?_setCells_in b (cs.drop i) (off+(i+m)) w.drew (fun k hk=>cells_isSome b9 (by omega)) (j-(i+m)) (by omega)
      rw[show off+(i+m)+(j-(i+m))=off+j by omega] at this
      rw[this,List.getElem_drop,List.getElem?_eq_getElem (by omega)]
      congr 2;omega)
   rw[hzl] at n3
   exact⟨N',D,_,_,hrun,n1,n2,n3⟩
  ·have hin2:i=n:=by omega
   subst hin2
   have hrun:=ins_end_room b off i cap vb voff m vc vs w hy hroom hc63 v1 (fun j hj=>by rw[Nat.add_assoc];exact hsome _ (by omega)) (fun j hj=>by rw[Nat.add_assoc];exact hnfz _ (by omega)) hvs v4
   obtain⟨C',f1,f2⟩:=setCells_block b vs (off+i) w C ty fz b9
   obtain⟨o1,o2,o3⟩:=setCells_os b vs (off+i) w
   obtain⟨N',n1,n2,n3⟩:=ins_moved (id:=id) S ho hfree b1 b2 rfl b7 b9 (by rw[h1,Nat.mul_one];exact b10') b11 b12 b13 o1 o2 o3 (setCells_size ..) (fun c hc=>setCells_ne _ _ _ _ c hc) f1 f2 (zs:=(xs.take i++(ys++xs.drop i):List (Ty.ref g).den)) (by rw[hzl];exact hroom) hrow (fun j hj=>by
    rw[hzl,h1,Nat.mul_one] at hj
    rw[ins_get hic,v1]
    unfold cA
    simp only
    by_cases j1:j<i
    ·rw[if_pos j1,World.cell?_setCells_out _ _ _ _ _ (fun _ _=>by simp only;omega)]
     exact(hold j (by omega)).symm
    ·rw[if_neg j1,if_pos (by omega)]
     have:=World.cell?_setCells_in b vs (off+i) w (fun k hk=>cells_isSome b9 (by omega)) (j-i) (by omega)
     rw[show off+i+(j-i)=off+j by omega] at this
     rw[this,List.getElem?_eq_getElem (by omega)])
   rw[hzl] at n3
   exact⟨N',D,_,_,hrun,n1,n2,n3⟩
 ·by_cases hin:i<n
  ·have hrun:=ins_grow b off n cap i vb voff m vc cs vs w hin hy b5 (by omega) (by omega) c1 v1 hcs hvs c4 v4
   have hge:=grownCap_ge w (n+m) cap 143
   generalize hG:grownCap w (n+m) cap 143=G at*
   generalize hR:((cs.take i).toArray++Builtin.zeroCells (Value.pointer none).cells (n+m-i)++Builtin.zeroCells (Value.pointer none).cells (G-(n+m)))=R at*
   have hRs:R.size=G:=by
    rw[←hR];simp[size_zeroCells,Value.cells];omega
   have hR1: ∀j,j<i→R[j]?=cs[j]?:=fun j hj=>by
    rw[←hR,Array.append_assoc,Array.getElem?_append_left (by simp;omega)]
    simp[List.getElem?_take,hj]
   have hW0:(w.alloc (.cells R 143)).drew.heap[w.heap.size]?=some (.cells R 143 (0,0)):=by show(w.heap.push _)[_]?=_;simp
   obtain⟨C',f1,f2⟩:=setCells_block w.heap.size vs i (w.alloc (.cells R 143)).drew R 143 (0,0) hW0
   have f1':((w.alloc (.cells R 143)).drew.setCells w.heap.size i vs).drew.heap[w.heap.size]?=some (.cells C' 143 (0,0)):=f1
   obtain⟨C'',f3,f4⟩:=setCells_block w.heap.size (cs.drop i) (i+m) ((w.alloc (.cells R 143)).drew.setCells w.heap.size i vs).drew C' 143 (0,0) f1'
   obtain⟨o1,o2,o3⟩:=setCells_os w.heap.size vs i (w.alloc (.cells R 143)).drew
   obtain⟨o4,o5,o6⟩:=setCells_os w.heap.size (cs.drop i) (i+m) ((w.alloc (.cells R 143)).drew.setCells w.heap.size i vs).drew
   have s1:=setCells_size w.heap.size vs i (w.alloc (.cells R 143)).drew
   have s2:=setCells_size w.heap.size (cs.drop i) (i+m) ((w.alloc (.cells R 143)).drew.setCells w.heap.size i vs).drew
   have s0:(w.alloc (.cells R 143)).drew.heap.size=w.heap.size+1:=by show(w.heap.push _).size=_;simp
   obtain⟨N',n1,n2,n3⟩:=ins_new (id:=id) (te:= .ref g) (zs:=(xs.take i++(ys++xs.drop i):List (Ty.ref g).den)) kS hfree (w':=((w.alloc (.cells R 143)).drew.setCells w.heap.size i vs).drew.setCells w.heap.size (i+m) (cs.drop i)) (o4.trans o1) (o5.trans o2) (o6.trans o3)
    (by rw[s2];show _<((w.alloc (.cells R 143)).drew.setCells w.heap.size i vs).heap.size;rw[s1,s0];omega)
    (fun c hc=>(setCells_ne _ _ _ _ c (by omega)).trans ((setCells_ne w.heap.size vs i (w.alloc (.cells R 143)).drew c (by omega)).trans (by show(w.heap.push _)[c]?=_;rw[Array.getElem?_push,if_neg (by omega)]))) f3 (cap:=G) (by rw[h1,f4,f2,hRs];omega) (by rw[hzl];exact hge) hrow (fun j hj=>by
    rw[hzl,h1,Nat.mul_one] at hj
    rw[ins_get hic,v1]
    unfold cA
    simp only[Nat.zero_add]
    by_cases j1:j<i
    ·rw[if_pos j1,World.cell?_setCells_out _ _ _ _ _ (fun _ _=>by simp only;omega)]
     show _=((w.alloc (.cells R 143)).drew.setCells w.heap.size i vs).cell? _
     rw[World.cell?_setCells_out _ _ _ _ _ (fun _ _=>by simp only;omega)]
     rw[←hR1 j j1]
     unfold World.cell?
     simp only
     rw[hW0]
     simp
    ·rw[if_neg j1]
     by_cases j2:j<i+m
     ·rw[if_pos j2,World.cell?_setCells_out _ _ _ _ _ (fun _ _=>by simp only;omega)]
      show _=((w.alloc (.cells R 143)).drew.setCells w.heap.size i vs).cell? _
      have:=World.cell?_setCells_in w.heap.size vs i (w.alloc (.cells R 143)).drew (fun k hk=>cells_isSome hW0 (by omega)) (j-i) (by omega)
      rw[show i+(j-i)=j by omega] at this
      rw[this,List.getElem?_eq_getElem (by omega)]
     ·rw[if_neg j2]
      have hdl2:(cs.drop i).length=n-i:=by rw[List.length_drop,c1]
      have:=World.cell?_setCells_in w.heap.size (cs.drop i) (i+m) ((w.alloc (.cells R 143)).drew.setCells w.heap.size i vs).drew (fun k hk=>cells_isSome f1' (by omega)) (j-(i+m)) (by omega)
      rw[show(i+m)+(j-(i+m))=j by omega] at this
      rw[this,List.getElem_drop,List.getElem?_eq_getElem (by omega)]
      congr 2;omega)
   rw[hzl] at n3
   exact InsOut.after ⟨N',D,_,_,hrun,n1,n2,n3⟩ kE
  ·have hin2:i=n:=by omega
   subst hin2
   refine InsOut.after (ins_endgrow (cs:=cs) (vs:=vs) kS hfree hy b5 (by omega) (by omega) c1 v1 (fun e=>by cases e) (fun a ha j u hj=>by cases ha;rw[Addr.add_lit];exact hcs j u hj) hvs v4 hzl ?_) kE
   have e1:cs.take i++(vs++cs.drop i)=cs++vs:=by rw[List.take_of_length_le (by omega),List.drop_eq_nil_of_le (by omega),List.append_nil]
   rw[←e1];exact hrow
end
end AM
namespace AM
open Go Go.Proofs
def insPre (g:Nat)(ep:List (Nat×OPat)):SPat:=⟨[(0, .own 0),(1, .hole (.int .i64)),(2, .own 1)],[(0, .row (.ref g)),(1, .row (.ref g)),(SB+g, .store ep)]⟩
def insEx (g:Nat)(ep:List (Nat×OPat)):SPat:=⟨[(0, .own 50)],[(50, .row (.ref g)),(SB+g, .store ep)]⟩
def insSt (g:Nat)(ep:List (Nat×OPat))(d:hD_ (insPre g ep).heap)(zs:List (Ty.ref g).den):St:=
 {t:=fun y=>if y=0 then .tail 50 0 else .undef,h:=upd (upd (mkH (fun c=>c) (insPre g ep).heap d (fun _=>none)) 0 .dead) 50 (.row false (.ref g) zs),ep:=0,nt:=0}
noncomputable def insF {β:Type}(d:(Unit×Int×Unit×Unit)×(List Nat×List Nat×β×Unit)):Option ((Unit×Unit)×(List Nat×β×Unit)):=bif odec (0≤d.1.2.1∧d.1.2.1≤(d.2.1.length:Int)∧0<d.2.2.1.length∧(((d.2.1.length+d.2.2.1.length:Nat):Int)*8≤room)) then some (((),()),((d.2.1.take d.1.2.1.toNat++(d.2.2.1++d.2.1.drop d.1.2.1.toNat)),d.2.2.2.1,())) else none
theorem ins_con (base:Nat)(g:Nat)(ep:List (Nat×OPat))(hok:FSpec.ok ⟨insPre g ep,[insEx g ep],true⟩=true)
  (hm: ∀(d:hD_ (insPre g ep).heap) (zs:List (Ty.ref g).den),tryEx (insSt g ep d zs) (keepB (insPre g ep)) [insEx g ep] some=some (((),()),(zs,d.2.2.1,()))):
  fO Tryz.prog base 266 ⟨insPre g ep,[insEx g ep],true⟩ (insF (β:=List (hD_ ep))):=by
 refine⟨⟨_,Tryz.func266,by kernel_rfl,by kernel_rfl⟩,fun(d:(Unit×Int×Unit×Unit)×(List Nat×List Nat×List (hD_ ep)×Unit)) r hF N D w cargs S hl ha=>?_⟩
 obtain⟨⟨u0,i',u2,u3⟩,xs,ys,st,u4⟩:=d
 unfold insF at hF
 simp only at hF
 cases hc:odec (0≤i'∧i'≤(xs.length:Int)∧0<ys.length∧(((xs.length+ys.length:Nat):Int)*8≤room)) with
 |false=>rw[hc] at hF;cases hF
 |true=>
 rw[hc] at hF
 simp only[cond_true] at hF
 cases hF
 obtain⟨h1,h2,h3,h4⟩:=odec_iff.1 hc
 have hlen:cargs.length=3:=hl
 obtain⟨v,iv,x,rfl⟩: ∃v iv x,cargs=[v,iv,x]:=by
  match cargs,hlen with
  | [v,iv,x],_=>exact⟨v,iv,x,rfl⟩
 have a0:VRel N D w (.tail 0 0) v:=ha 0
 have a1:VRel N D w (.val (.int .i64 i')) iv:=ha 1
 have a2:VRel N D w (.tail 1 0) x:=ha 2
 rw[Vv] at a1
 subst a1
 obtain⟨i,hi⟩: ∃i:Nat,i'=(i:Int):=⟨i'.toNat,by omega⟩
 have hi2:i'.toNat=i:=by omega
 obtain⟨N',D',w',v',q1,q2,q3,q4⟩:=ins_out (g:=g) S (id:=50) (q:=0) (q2:=1) (i:=i) (xs:=xs) (ys:=ys) rfl rfl (by decide) (by simp[upd,mkH,insPre,SB];omega) (by show i≤xs.length;omega) h3 (by show(xs.length+ys.length)*8≤_;unfold room at h4;omega) a0 a2
 have hm2:=hm (xs,ys,st,u4) (xs.take i++(ys++xs.drop i):List (Ty.ref g).den)
 obtain⟨y,hy,hcase⟩:=tryEx_spec _ _ _ hm2 fun e he=>(FSpec.ok_ex hok he).1.closed
 cases hy
 rw[hi]
 refine Calls.mono q1 ?_
 rintro e w'' ⟨rfl,rfl⟩
 show caseP _ _ _
 rw[show((i:Nat):Int).toNat=i by omega]
 refine caseP_mono _ _ (fun e n d' hmem ht=>?_) hcase
 obtain⟨Ne,De,post,hvals⟩:=took_post (FSpec.ok_pre hok).st (d:=(xs,ys,st,u4)) (s:=insSt g ep (xs,ys,st,u4) (xs.take i++(ys++xs.drop i):List (Ty.ref g).den)) S q3 q2 rfl ht
 refine⟨Ne,De,post,?_⟩
 have he:e=insEx g ep:=by simpa using hmem
 subst he
 have:=hvals 0 v' q4
 exact this
end AM
