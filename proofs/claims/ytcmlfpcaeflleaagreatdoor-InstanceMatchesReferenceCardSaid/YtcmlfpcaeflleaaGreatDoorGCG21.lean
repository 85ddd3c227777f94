/- What each statement of castingslaw21 asks beside the law's own walk -/
import Derived.Test.YtcmlfpcaeflleaaGreatDoorGLG21
import Derived.Test.YtcmlfpcaeflleaaGreatDoorGO19
import Derived.SizedLaws
import Derived.Carry
import Derived.ChangeOld
import Derived.ChangeSame
import Derived.ChangeVars
import Derived.Stop.Joined
import Derived.JoinedOf
import Derived.RowKitTokens
import Derived.SevenTiedAt
import Derived.Deep.DeepHandedRow
import Derived.Test.YtcmlfpcaeflleaaGreatDoorTie
import Derived.Test.YtcmlfpcaeflleaaGreatDoorCards
set_option linter.all false
set_option maxRecDepth 100000
namespace Go.Proofs.YtcmlfpcaeflleaaGreatDoor
open Go Go.ChangeShapes Go.WideShapes Go.ChangeAt Go.RowKit Go.Abs
def own:ownKnob Tryz.prog.godebug=none:=by kernel_rfl
def laidOut:laidOutB Tryz.prog=true:=by kernel_rfl
def A4c{H:Type}{enc:TypeId × Value->H}{P:Program}{W:World}{t:TypeId}{v:Value}{d:DataW H}{ps:List MemPlace}(h:DataW.Trod enc P W 0 (λ_=>true) true t v d ps):∀x∈ps,x.block<W.heap.size:=by obtain⟨m,E⟩:=h;exact DataW.trod_lt m _ _ _ E
def B4m:mapsRowed Tryz.prog=true:=by kernel_rfl
def B5e:Tryz.prog.stopsHeard=true:=by kernel_rfl
def B4f:Tryz.prog.mayEnter=true:=by kernel_rfl
def B3b:Tryz.prog.liftsFinal=Rows.instanceMatchesReferenceRow.lifted:=by kernel_rfl
def B4o:Tryz.prog.make=some Rows.instanceMatchesReferenceRow.make:=by kernel_rfl
def G1c:Tryz.prog.funcs.any Func.goes=false:=by kernel_rfl
def F4z{P:Program}(h:P.funcs.any Func.goes=false)(f:FuncId):P.goes f=false:=by
 unfold Program.goes;rw[h,Wx,Ar1,List.any_eq_false];intro g _;cases E:P.funcs[g]? with
 |none=>simp
 |some fn =>have:=Array.any_eq_false.1 h g (Vd.1 E).1;rw[(Vd.1 E).2]at this;simpa using this
def B6n{c:OpenClaim}(hs:c.start=.entering):false=c.goesBy Tryz.prog:=by
 unfold OpenClaim.goesBy Program.goesAt Program.goesFrom;rw[hs];cases Tryz.prog.funcNamed c.func with
 |none=>rfl
 |some f=>simp only[Option.any_some,F4z G1c f,Ar1]
def A1c:Names:=λ_=>{ base:=none }
def B4q{P:Program}{f:FuncId}{args:List SV}(h:Ac P f args (Ay true)){W:World}{vs:List Value}(L:Bv (Go.Abs.all W) W A1c args vs){sy ra:TypeId × Value}(ht:∀b cs,A4w sy ra b cs->∃ty I,W.heap[b]?=some (.cells cs ty I)) :
  Calls P f ⟨vs⟩ W λe E=>e=.returned (.bool true)/\Below W.heap.size W E:=by
 refine(h.calls L ht).mono ?_;rintro e E ⟨v,S',β',rfl,hr,J⟩;rw[hr.Wc];exact⟨rfl,J⟩
def D3s:DataW Unit->Array Value
 |.agg ds=>(ds.map fun| .lit l=>l.value|_=>undef).toArray
 |_=>#[]
noncomputable def B0f (os:Os):World :=
 let w0:=World.holding Tryz.prog os ⟨#[],#[],[]⟩
 ((w0.setRow 1 B7q).setRow 2 (D3s Rows.laid_math_bits_deBruijn32tab)).setRow 3 (D3s Rows.laid_math_bits_deBruijn64tab)
def B5n(os:Os)(args:Array Value):laidMetH Tryz.prog Rows.instanceMatchesReferenceRow.laid ((B0f os).forCall (λ_ _=>0) ⟨#[],args,[]⟩).memory :=
 laidMetH_of_parts (laidMet_of_run' 8 (by kernel_rfl) (by kernel_rfl)) (by kernel_rfl)
end Go.Proofs.YtcmlfpcaeflleaaGreatDoor
