/- What each statement of layer 23 asks beside the law's own walk -/
import Derived.Test.YtaneedhchnaniaaGreatDoorQL21
import Derived.Test.YtaneedhchnaniaaGreatDoorQDec
import Derived.Test.YtaneedhchnaniaaGreatDoorQO08
import Derived.Test.YtaneedhchnaniaaGreatDoorQU01
import Derived.ProofKit
import Derived.SizedLaws
import Derived.Carry
import Derived.ChangeOld
import Derived.ChangeSame
import Derived.ChangeVars
import Derived.Stop.Joined
import Derived.JoinedOf
import Derived.RowKitTokens
import Derived.Below
import Derived.SevenTiedAt
import Derived.Deep.DeepHandedRow
import Derived.Test.YtaneedhchnaniaaGreatDoorTie
import Derived.Test.YtaneedhchnaniaaGreatDoorCards
namespace Go.Proofs.YtaneedhchnaniaaGreatDoor
open Go Go.ChangeShapes Go.WideShapes Go.ChangeAt Go.RowKit Go.Abs
set_option linter.unusedVariables false
set_option maxRecDepth 100000
theorem rep_flat21 {S:Nat→Prop} {w:World} {β:Names} {xs:List SV} {v:Value} (h:RepV S w β (.agg xs) v):∃ vs:List Value,v=.agg ⟨vs⟩∧vs.length=xs.length∧∀ (j:Nat)(c:SV)(u:Value),xs[j]? = some c→vs[j]? = some u→RepV S w β c u:=by
 cases h with | agg _ vs h1 _ h3=>exact⟨vs,rfl,h1,h3⟩
theorem own:ownKnob Tryz.prog.godebug=none:=by kernel_rfl
theorem laidOut:laidOutB Tryz.prog=true:=by kernel_rfl
variable {W:World} {ps:List MemPlace}
theorem trod_block {H:Type} {enc:TypeId × Value→H} {P:Program} {t:TypeId} {v:Value} {d:DataW H} (h:DataW.Trod enc P W 0 (fun _=>true) true t v d ps):∀ x∈ps,x.block < W.heap.size:=by
 obtain⟨m,hm⟩:=h
 exact DataW.trod_lt m _ _ _ hm
theorem f_maps:mapsRowed Tryz.prog=true:=by kernel_rfl
theorem f_heard:Tryz.prog.stopsHeard=true:=by kernel_rfl
theorem f_enter:Tryz.prog.mayEnter=true:=by kernel_rfl
theorem f_lifts:Tryz.prog.liftsFinal=Rows.instanceOrdersUptoRow.lifted:=by kernel_rfl
theorem f_make:Tryz.prog.make=some Rows.instanceOrdersUptoRow.make:=by kernel_rfl
theorem no_goes:Tryz.prog.funcs.any Func.goes=false:=by kernel_rfl
theorem goes_none {P:Program} (h:P.funcs.any Func.goes=false)(f:FuncId):P.goes f=false:=by
 unfold Program.goes
 rw [h,Bool.and_false,Bool.or_false,List.any_eq_false]
 intro g _
 cases hg:P.funcs[g]? with
 | none=>simp
 | some fn =>
  have:=Array.any_eq_false.1 h g (Array.getElem?_eq_some_iff.1 hg).1
  rw [(Array.getElem?_eq_some_iff.1 hg).2] at this
  simpa using this
theorem goes_row {c:OpenClaim} (hs:c.start=.entering):false=c.goesBy Tryz.prog:=by
 unfold OpenClaim.goesBy Program.goesAt Program.goesFrom
 rw [hs]
 cases Tryz.prog.funcNamed c.func with
 | none=>rfl
 | some f=>simp only [Option.any_some,goes_none no_goes f,Bool.or_false]
def noNames:Names:=fun _=>{ base:=none }
theorem law_calls {P:Program} {f:FuncId} {args:List SV} (h:CallOK P f args (boolV true)) {W:World} {vs:List Value} (hv:RepL (Go.Abs.all W) W noNames args vs) {sy ra:TypeId × Value} (ht:∀ b cs,fixedRow sy ra b cs→∃ ty fr,W.heap[b]? = some (.cells cs ty fr)) :
  Calls P f ⟨vs⟩ W fun e W'=>e=.returned (.bool true)∧Below W.heap.size W W':=by
 refine (h.calls hv ht).mono ?_
 rintro e W' ⟨v,S',β',rfl,hr,hb⟩
 rw [hr.inv_bool]
 exact⟨rfl,hb⟩
theorem weights_four {H:Type} {P:Program} {t0 t1 t2 t3:TypeId} {ts:List TypeId} {d0 d1 d2 d3:DataW H} {gs:List (DataW H)} (h:(DataW.weightsEach P ([t0,t1,t2,t3]++ts) ([d0,d1,d2,d3]++gs)).all (·≤reachBytes)=true) :
  (∀ k,k∈d0.weights P t0→k≤reachBytes)∧(∀ k,k∈d1.weights P t1→k≤reachBytes)∧(∀ k,k∈d2.weights P t2→k≤reachBytes)∧∀ k,k∈d3.weights P t3→k≤reachBytes:=by
 simp only [List.cons_append,List.nil_append,DataW.weightsEach,List.all_append,Bool.and_eq_true,List.all_eq_true,decide_eq_true_eq] at h
 exact⟨h.1,h.2.1,h.2.2.1,h.2.2.2.1⟩
theorem arg_tys {H:Type} {enc:TypeId × Value→H} {base:Nat} {v:Value} {d:DataW H} (hok:Value.okWide Tryz.prog W .any base 22 v)
  (h:DataW.Trod enc Tryz.prog W 0 (fun _=>true) true 22 v d ps) (hw:∀ k,k∈d.weights Tryz.prog 22→k≤reachBytes) (β:Names):∃ l:List Ty,RepV (Go.Abs.all W) W β (tysV l) v:=by
 obtain⟨n,rows,h1,h2⟩:=arg_slice dataTs_ok (by simp [dataTs]) Tryz.underlying22 hok h hw β
 obtain⟨l,hl⟩:=conf_tys h1
 simp only [List.cons.injEq,D.slice.injEq,and_true] at hl
 subst hl
 exact⟨l,h2⟩
theorem bulk_one {H:Type} (d:DataW H):1≤Rows.uptoBulk d:=by
 cases d with
 | lit l=>cases l <;> simp [Rows.uptoBulk]
 | _=>simp [Rows.uptoBulk]
theorem bulk_len {H:Type} (l:List (DataW H)):l.length≤Rows.uptoBulkAll l:=by
 induction l with
 | nil=>simp [Rows.uptoBulkAll]
 | cons x r ih=>have:=bulk_one x;simp only [Rows.uptoBulkAll,List.length_cons];omega
theorem bulk_bound {H:Type} {l:List (DataW H)} (hk:Rows.uptoSmall H l=true):Rows.uptoBulkAll l≤1048576:=of_decide_eq_true hk
theorem conf_ca {n:Nat} {ds:List D} (h:Conf Tryz.prog n 26 ds):∃ c:CallT,ds=caC c:=by
 obtain⟨m,rfl,hL⟩:=conf_struct Tryz.underlying26 h
 simp only [ConfL] at hL
 obtain⟨a,_,rfl,h1,_,b,_,rfl,h2,_,c,_,rfl,h3,_,rfl⟩:=hL
 obtain⟨t,rfl⟩:=conf_ty m h1
 obtain⟨s,rfl⟩:=conf_str Tryz.underlying9 h2
 obtain⟨l,rfl⟩:=conf_tys h3
 exact⟨⟨t,s,l⟩,by simp [caC,tyC]⟩
def dataTs2:List TypeId:=26::dataTs
theorem dataTs2_ok:okTs Tryz.prog dataTs2=true:=by kernel_rfl
theorem arg_ca {H:Type} {enc:TypeId × Value→H} {base:Nat} {v:Value} {d:DataW H} (hok:Value.okWide Tryz.prog W .any base 26 v)
  (h:DataW.Trod enc Tryz.prog W 0 (fun _=>true) true 26 v d ps) (hw:∀ k,k∈d.weights Tryz.prog 26→k≤reachBytes) (β:Names) :
  ∃ c:CallT,RepV (Go.Abs.all W) W β (caV c) v∧c.targs.length≤Rows.uptoBulk d:=by
 obtain⟨n,ds,h1,h2⟩:=arg_agg dataTs2_ok (by simp [dataTs2]) Tryz.underlying26 hok h hw β
 obtain⟨c,rfl⟩:=conf_ca h1
 refine⟨c,h2,?_⟩
 obtain⟨vs,rfl,hvl,hvr⟩:=rep_flat21 h2
 obtain⟨m,hm⟩:=h
 obtain⟨xs,n',_,hx,_,hxl,hf⟩:=DataW.trod_struct Tryz.underlying26 hm
 simp only [Prod.mk.injEq] at hx
 obtain⟨rfl,rfl⟩:=hx
 match vs,hvl with
 | [v0,v1,v2,v3,v4],_ =>
 match xs,hxl with
 | [x0,x1,x2],_ =>
 have h4:=(hvr 4 _ v4 rfl rfl).inv_d
 have hc:Tryz.prog.cellsOf 22=1:=by kernel_rfl
 have hb:Tryz.prog.bytesOf 24=48:=by kernel_rfl
 have h5:DataW.trod enc Tryz.prog W 0 (fun _=>true) true n' 22 (([v0,v1,v2,v3,v4].drop 4).take (Tryz.prog.cellsOf 22))=some x2:=hf 2 _ rfl
 rw [hc] at h5
 have h6:DataW.trod enc Tryz.prog W 0 (fun _=>true) true n' 22 [v4]=some x2:=h5
 rcases DataW.trod_slice Tryz.underlying22 h6 with ⟨hcs,_⟩ | ⟨a,len,cap,elems,rest,n2,_,hcs,rfl,_,_,_,hel,_⟩
 ·simp only [List.cons.injEq,and_true] at hcs
  subst hcs
  generalize hR:tyR c.targs=R at h4
  cases h4
  have:=tyR_len c.targs
  rw [hR] at this
  simp only [List.length_nil] at this
  omega
 ·simp only [List.cons.injEq,and_true] at hcs
  subst hcs
  have h7:=bulk_len (elems.map (·.1))
  have h8:c.targs.length=len:=by
   have h9:=tyR_len c.targs
   generalize tyR c.targs=R at h4 h9
   cases h4 with
   | slice0=>rw [← h9];rfl
   | slice=>exact h9.symm
  simp only [Rows.uptoBulk,Rows.uptoBulkAll,List.map_cons,List.map_nil,List.length_map] at h7 ⊢
  omega
def cellsOfD:DataW Unit→Array Value
 | .agg ds=>(ds.map fun | .lit l=>l.value | _=>undef).toArray
 | _=>#[]
noncomputable def laidWorld (os:Os):World :=
 let w0:=World.holding Tryz.prog os ⟨#[],#[],[]⟩
 ((w0.setRow 0 pow10).setRow 6 (cellsOfD Rows.laid_math_bits_deBruijn32tab)).setRow 7 (cellsOfD Rows.laid_math_bits_deBruijn64tab)
theorem laidWorld_met (os:Os)(args:Array Value):laidMetH Tryz.prog Rows.instanceOrdersUptoRow.laid ((laidWorld os).forCall (fun _ _=>0) ⟨#[],args,[]⟩).memory :=
 laidMetH_of_parts (laidMet_of_run' 8 (by kernel_rfl) (by kernel_rfl)) (by kernel_rfl)
end Go.Proofs.YtaneedhchnaniaaGreatDoor
