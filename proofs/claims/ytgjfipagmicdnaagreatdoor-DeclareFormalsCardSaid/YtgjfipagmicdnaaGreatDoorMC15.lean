/- What each statement of layer 15 asks beside the law's own walk -/
import Derived.Test.YtgjfipagmicdnaaGreatDoorML15
import Derived.Test.YtgjfipagmicdnaaGreatDoorMDec
import Derived.ProofKit
import Derived.SizedLaws
import Derived.Carry
import Derived.ChangeOld
import Derived.ChangeSame
import Derived.ChangeVars
import Derived.Stop.Joined
import Derived.JoinedOf
import Derived.RowKitTokens
import Derived.Below
import Derived.SevenTiedAt
import Derived.Test.YtgjfipagmicdnaaGreatDoorTie
import Derived.Test.YtgjfipagmicdnaaGreatDoorCards
namespace Go.Proofs.YtgjfipagmicdnaaGreatDoor
open Go Go.ChangeShapes Go.WideShapes Go.ChangeAt Go.RowKit Go.Abs
set_option linter.unusedVariables false
set_option maxRecDepth 100000
theorem own:ownKnob Tryz.prog.godebug=none:=by kernel_rfl
theorem laidOut:laidOutB Tryz.prog=true:=by kernel_rfl
variable {W:World} {ps:List MemPlace}
theorem arg_fos {H:Type} {enc:TypeId × Value→H} {base:Nat} {v:Value} {d:DataW H} (hok:Value.okWide Tryz.prog W .any base 45 v)
  (h:DataW.Trod enc Tryz.prog W 0 (fun _=>true) true 45 v d ps) (hw:∀ k,k∈d.weights Tryz.prog 45→k≤reachBytes) (β:Names):∃ l:List Formal,RepV (Go.Abs.all W) W β (.d (.slice (foR l))) v:=by
 obtain⟨n,rows,h1,h2⟩:=arg_slice dataTs_ok (by simp [dataTs]) Tryz.underlying45 hok h hw β
 obtain⟨l,hl⟩:=conf_fos h1
 simp only [List.cons.injEq,D.slice.injEq,and_true] at hl
 subst hl
 exact⟨l,h2⟩
theorem trod_block {H:Type} {enc:TypeId × Value→H} {P:Program} {t:TypeId} {v:Value} {d:DataW H} (h:DataW.Trod enc P W 0 (fun _=>true) true t v d ps):∀ x∈ps,x.block < W.heap.size:=by
 obtain⟨m,hm⟩:=h
 exact DataW.trod_lt m _ _ _ hm
def noNames:Names:=fun _=>{ base:=none }
theorem law_calls {P:Program} {f:FuncId} {args:List SV} (h:CallOK P f args (boolV true)) {W:World} {vs:List Value} (hv:RepL (Go.Abs.all W) W noNames args vs)(ht:∀ b cs,fixedRow b cs→∃ ty fr,W.heap[b]? = some (.cells cs ty fr)) :
  Calls P f ⟨vs⟩ W fun e W'=>e=.returned (.bool true)∧Below W.heap.size W W':=by
 refine (h.calls hv ht).mono ?_
 rintro e W' ⟨v,S',β',rfl,hr,hb⟩
 rw [hr.inv_bool]
 exact⟨rfl,hb⟩
theorem weights_three {H:Type} {P:Program} {t0 t1 t2:TypeId} {ts:List TypeId} {d0 d1 d2:DataW H} {gs:List (DataW H)} (h:(DataW.weightsEach P ([t0,t1,t2]++ts) ([d0,d1,d2]++gs)).all (·≤reachBytes)=true) :
  (∀ k,k∈d0.weights P t0→k≤reachBytes)∧(∀ k,k∈d1.weights P t1→k≤reachBytes)∧∀ k,k∈d2.weights P t2→k≤reachBytes:=by
 simp only [List.cons_append,List.nil_append,DataW.weightsEach,List.all_append,Bool.and_eq_true,List.all_eq_true,decide_eq_true_eq] at h
 exact⟨h.1,h.2.1,h.2.2.1⟩
theorem arg_si {H:Type} {enc:TypeId × Value→H} {base:Nat} {v:Value} {d:DataW H} (hok:Value.okWide Tryz.prog W .any base 48 v)
  (h:DataW.Trod enc Tryz.prog W 0 (fun _=>true) true 48 v d ps) (hw:∀ k,k∈d.weights Tryz.prog 48→k≤reachBytes) (β:Names):∃ s:Sig,RepV (Go.Abs.all W) W β (siV s) v:=by
 obtain⟨n,ds,h1,h2⟩:=arg_agg dataTs_ok (by simp [dataTs]) Tryz.underlying48 hok h hw β
 obtain⟨s,rfl⟩:=conf_si h1
 exact⟨s,h2⟩
def cellsOfD:DataW Unit→Array Value
 | .agg ds=>(ds.map fun | .lit l=>l.value | _=>undef).toArray
 | _=>#[]
noncomputable def laidWorld (os:Os):World :=
 let w0:=World.holding Tryz.prog os ⟨#[],#[],[]⟩
 (((w0.setRow 0 errTy).setRow 1 pow10).setRow 2 (cellsOfD Rows.laid_math_bits_deBruijn32tab)).setRow 3 (cellsOfD Rows.laid_math_bits_deBruijn64tab)
theorem laidWorld_met (os:Os)(args:Array Value):laidMetH Tryz.prog Rows.declareMatchesReferenceRow.laid ((laidWorld os).forCall (fun _ _=>0) ⟨#[],args,[]⟩).memory :=
 laidMetH_of_parts (laidMet_of_run' 8 (by kernel_rfl) (by kernel_rfl)) (by kernel_rfl)
end Go.Proofs.YtgjfipagmicdnaaGreatDoor
