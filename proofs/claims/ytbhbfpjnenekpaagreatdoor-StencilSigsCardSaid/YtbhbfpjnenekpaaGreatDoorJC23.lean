/- What each statement of layer 23 asks beside the law's own walk -/
import Derived.Test.YtbhbfpjnenekpaaGreatDoorJL23
import Derived.Test.YtbhbfpjnenekpaaGreatDoorJDec
import Derived.Test.YtbhbfpjnenekpaaGreatDoorJW13
import Derived.ProofKit
import Derived.SizedLaws
import Derived.Carry
import Derived.ChangeOld
import Derived.ChangeSame
import Derived.ChangeVars
import Derived.Stop.Joined
import Derived.JoinedOf
import Derived.RowKitTokens
import Derived.Below
import Derived.SevenTiedAt
import Derived.Test.YtbhbfpjnenekpaaGreatDoorTie
import Derived.Test.YtbhbfpjnenekpaaGreatDoorCards
namespace Go.Proofs.YtbhbfpjnenekpaaGreatDoor
open Go Go.ChangeShapes Go.WideShapes Go.ChangeAt Go.RowKit Go.Abs
set_option linter.unusedVariables false
set_option maxRecDepth 100000
theorem own:ownKnob Tryz.prog.godebug=none:=by kernel_rfl
theorem laidOut:laidOutB Tryz.prog=true:=by kernel_rfl
theorem trod_block {H:Type} {enc:TypeId × Value→H} {P:Program} {W:World} {t:TypeId} {v:Value} {d:DataW H} {ps:List MemPlace} (h:DataW.Trod enc P W 0 (fun _=>true) true t v d ps):∀ x∈ps,x.block < W.heap.size:=by
 obtain⟨m,hm⟩:=h
 exact DataW.trod_lt m _ _ _ hm
theorem f_maps:mapsRowed Tryz.prog=true:=by kernel_rfl
theorem f_heard:Tryz.prog.stopsHeard=true:=by kernel_rfl
theorem f_enter:Tryz.prog.mayEnter=true:=by kernel_rfl
theorem f_lifts:Tryz.prog.liftsFinal=Rows.stencilSigsRow.lifted:=by kernel_rfl
theorem f_make:Tryz.prog.make=some Rows.stencilSigsRow.make:=by kernel_rfl
theorem no_goes:Tryz.prog.funcs.any Func.goes=false:=by kernel_rfl
theorem goes_none {P:Program} (h:P.funcs.any Func.goes=false)(f:FuncId):P.goes f=false:=by
 unfold Program.goes
 rw [h,Bool.and_false,Bool.or_false,List.any_eq_false]
 intro g _
 cases hg:P.funcs[g]? with
 | none=>simp
 | some fn =>
  have:=Array.any_eq_false.1 h g (Array.getElem?_eq_some_iff.1 hg).1
  rw [(Array.getElem?_eq_some_iff.1 hg).2] at this
  simpa using this
theorem goes_row {c:OpenClaim} (hs:c.start=.entering):false=c.goesBy Tryz.prog:=by
 unfold OpenClaim.goesBy Program.goesAt Program.goesFrom
 rw [hs]
 cases Tryz.prog.funcNamed c.func with
 | none=>rfl
 | some f=>simp only [Option.any_some,goes_none no_goes f,Bool.or_false]
def noNames:Names:=fun _=>{ base:=none }
theorem law_calls {P:Program} {f:FuncId} {args:List SV} (h:CallOK P f args (boolV true)) {W:World} {vs:List Value} (hv:RepL (Go.Abs.all W) W noNames args vs) {sy ra:TypeId × Value} (ht:∀ b cs,fixedRow sy ra b cs→∃ ty fr,W.heap[b]? = some (.cells cs ty fr)) :
  Calls P f ⟨vs⟩ W fun e W'=>e=.returned (.bool true)∧Below W.heap.size W W':=by
 refine (h.calls hv ht).mono ?_
 rintro e W' ⟨v,S',β',rfl,hr,hb⟩
 rw [hr.inv_bool]
 exact⟨rfl,hb⟩
theorem weights_two {H:Type} {P:Program} {t0 t1:TypeId} {ts:List TypeId} {d0 d1:DataW H} {gs:List (DataW H)} (h:(DataW.weightsEach P ([t0,t1]++ts) ([d0,d1]++gs)).all (·≤reachBytes)=true) :
  (∀ k,k∈d0.weights P t0→k≤reachBytes)∧∀ k,k∈d1.weights P t1→k≤reachBytes:=by
 simp only [List.cons_append,List.nil_append,DataW.weightsEach,List.all_append,Bool.and_eq_true,List.all_eq_true,decide_eq_true_eq] at h
 exact⟨h.1,h.2.1⟩
theorem conf_ca {n:Nat} {ds:List D} (h:Conf Tryz.prog n 46 ds):∃ c:CallT,ds=caC c:=by
 obtain⟨m,rfl,hL⟩:=conf_struct Tryz.underlying46 h
 simp only [ConfL] at hL
 obtain⟨a,_,rfl,h1,_,b,_,rfl,h2,_,c,_,rfl,h3,_,rfl⟩:=hL
 obtain⟨t,rfl⟩:=conf_ty m h1
 obtain⟨s,rfl⟩:=conf_str Tryz.underlying9 h2
 obtain⟨l,rfl⟩:=conf_tys h3
 exact⟨⟨t,s,l⟩,by simp [caC,tyC]⟩
def dataTs2:List TypeId:=46::dataTs
theorem dataTs2_ok:okTs Tryz.prog dataTs2=true:=by kernel_rfl
theorem arg_ca {H:Type} {enc:TypeId × Value→H} {W:World} {base:Nat} {v:Value} {d:DataW H} {ps:List MemPlace} (hok:Value.okWide Tryz.prog W .any base 46 v)
  (h:DataW.Trod enc Tryz.prog W 0 (fun _=>true) true 46 v d ps) (hw:∀ k,k∈d.weights Tryz.prog 46→k≤reachBytes) (β:Names) :
  ∃ c:CallT,RepV (Go.Abs.all W) W β (caV c) v∧c.targs.length*48≤140737488351232:=by
 obtain⟨n,ds,h1,h2⟩:=arg_agg dataTs2_ok (by simp [dataTs2]) Tryz.underlying46 hok h hw β
 obtain⟨c,rfl⟩:=conf_ca h1
 refine⟨c,h2,?_⟩
 obtain⟨vs,rfl,hvl,hvr⟩:=rep_flat h2
 obtain⟨m,hm⟩:=h
 obtain⟨xs,n',_,hx,_,hxl,hf⟩:=DataW.trod_struct Tryz.underlying46 hm
 simp only [Prod.mk.injEq] at hx
 obtain⟨rfl,rfl⟩:=hx
 match vs,hvl with
 | [v0,v1,v2,v3,v4],_ =>
 match xs,hxl with
 | [x0,x1,x2],_ =>
 have h4:=(hvr 4 _ v4 rfl rfl).inv_d
 have hc:Tryz.prog.cellsOf 23=1:=by kernel_rfl
 have hb:Tryz.prog.bytesOf 25=48:=by kernel_rfl
 have h5:DataW.trod enc Tryz.prog W 0 (fun _=>true) true n' 23 (([v0,v1,v2,v3,v4].drop 4).take (Tryz.prog.cellsOf 23))=some x2:=hf 2 _ rfl
 rw [hc] at h5
 have h6:DataW.trod enc Tryz.prog W 0 (fun _=>true) true n' 23 [v4]=some x2:=h5
 have hw2:∀ k,k∈x2.1.weights Tryz.prog 23→k≤reachBytes:=fun k hk=>hw k (by
  simp only [DataW.weights,Tryz.underlying46,List.map_cons,List.map_nil,DataW.weightsEach,List.mem_append]
  exact .inr (.inr (.inl hk)))
 rcases DataW.trod_slice Tryz.underlying23 h6 with ⟨hcs,_⟩ | ⟨a,len,cap,elems,rest,n2,_,hcs,rfl,_,_,_,hel,_⟩
 ·simp only [List.cons.injEq,and_true] at hcs
  subst hcs
  generalize hR:tyR c.targs=R at h4
  cases h4
  have:=tyR_len c.targs
  rw [hR] at this
  simp only [List.length_nil] at this
  omega
 ·simp only [List.cons.injEq,and_true] at hcs
  subst hcs
  have h7:=hw2 ((elems.length+rest.length)*48) (by
   simp only [DataW.weights,Tryz.underlying23,List.length_map,hb,List.mem_cons,true_or])
  have h8:c.targs.length=len:=by
   have h9:=tyR_len c.targs
   generalize tyR c.targs=R at h4 h9
   cases h4 with
   | slice0=>rw [← h9];rfl
   | slice=>exact h9.symm
  have h9:reachBytes=140737488351232:=rfl
  omega
mutual
def leavesD:DataW Unit→List Value
 | .agg ds=>leavesDL ds
 | .lit l=>[l.value]
 | _=>[]
def leavesDL:List (DataW Unit)→List Value
 | []=>[]
 | d::ds=>leavesD d++leavesDL ds
end
def cellsOfD (d:DataW Unit):Array Value:=(leavesD d).toArray
abbrev synS:ByteArray:=⟨#[105,110,118,97,108,105,100,32,115,121,110,116,97,120]⟩
abbrev ranS:ByteArray:=⟨#[118,97,108,117,101,32,111,117,116,32,111,102,32,114,97,110,103,101]⟩
noncomputable def low:Nat:=(World.holding Tryz.prog default ⟨#[],#[],[]⟩).heap.size
noncomputable def laidWorld (os:Os):World :=
 let w0:=World.holding Tryz.prog os ⟨#[.cells #[.string synS] 374,.cells #[.string ranS] 374],#[],[]⟩
 ((((((w0.setRow 1 pow10).setRow 7 (cellsOfD Rows.laid_math_bits_deBruijn32tab)).setRow 8 (cellsOfD Rows.laid_math_bits_deBruijn64tab)).setRow 4 (cellsOfD Rows.laid_unicode_utf8_acceptRanges)).setRow 3 (cellsOfD Rows.laid_unicode_utf8_first)).setRow 5 #[.iface 372 (.pointer (some ⟨low,0,none⟩))]).setRow 6 #[.iface 372 (.pointer (some ⟨low+1,0,none⟩))]
theorem laidWorld_met (os:Os)(args:Array Value):laidMetH Tryz.prog Rows.stencilSigsRow.laid ((laidWorld os).forCall (fun _ _=>0) ⟨#[],args,[]⟩).memory :=
 laidMetH_of_parts (laidMet_of_run' 8 (by kernel_rfl) (by kernel_rfl)) (by kernel_rfl)
end Go.Proofs.YtbhbfpjnenekpaaGreatDoor
