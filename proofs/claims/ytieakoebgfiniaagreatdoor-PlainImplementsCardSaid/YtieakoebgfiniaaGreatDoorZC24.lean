/- What each statement of layer 24 asks beside the law's own walk -/
import Derived.Test.YtieakoebgfiniaaGreatDoorZL24
import Derived.Test.YtieakoebgfiniaaGreatDoorZDec
import Derived.SizedLaws
import Derived.Carry
import Derived.ChangeOld
import Derived.ChangeSame
import Derived.ChangeVars
import Derived.Stop.Joined
import Derived.JoinedOf
import Derived.RowKitTokens
import Derived.SevenTiedAt
import Derived.Test.YtieakoebgfiniaaGreatDoorTie
import Derived.Test.YtieakoebgfiniaaGreatDoorCards
set_option linter.all false
set_option maxRecDepth 100000
namespace Go.Proofs.YtieakoebgfiniaaGreatDoor
open Go Go.ChangeShapes Go.WideShapes Go.ChangeAt Go.RowKit Go.Abs
def own:ownKnob Tryz.prog.godebug=none:=by kernel_rfl
def laidOut:laidOutB Tryz.prog=true:=by kernel_rfl
def C5v{H:Type}{enc:TypeId × Value->H}{P:Program}{W:World}{t:TypeId}{v:Value}{d:DataW H}{ps:List MemPlace}(h:DataW.Trod enc P W 0 (λ_=>true) true t v d ps):∀x∈ps,x.block<W.heap.size:=by obtain⟨m,E⟩:=h;exact DataW.trod_lt m _ _ _ E
def H2i:mapsRowed Tryz.prog=true:=by kernel_rfl
def F5d:Tryz.prog.stopsHeard=true:=by kernel_rfl
def F6a:Tryz.prog.mayEnter=true:=by kernel_rfl
def G2r:Tryz.prog.liftsFinal=Rows.plainStencilsRow.lifted:=by kernel_rfl
def F7t:Tryz.prog.make=some Rows.plainStencilsRow.make:=by kernel_rfl
def F4v:Tryz.prog.funcs.any Func.goes=false:=by kernel_rfl
def H3d{P:Program}(h:P.funcs.any Func.goes=false)(f:FuncId):P.goes f=false:=by
 unfold Program.goes;rw[h,Rc,Ar2,List.any_eq_false];intro g _;cases E:P.funcs[g]? with
 |none=>simp
 |some fn =>have:=Array.any_eq_false.1 h g (Uq.1 E).1;rw[(Uq.1 E).2]at this;simpa using this
def H3e{c:OpenClaim}(hs:c.start=.entering):false=c.goesBy Tryz.prog:=by
 unfold OpenClaim.goesBy Program.goesAt Program.goesFrom;rw[hs];cases Tryz.prog.funcNamed c.func with
 |none=>rfl
 |some f=>simp only[Option.any_some,H3d F4v f,Ar2]
def B9r:Names:=λ_=>{ base:=none }
def G9c{P:Program}{f:FuncId}{args:List SV}(h:Aa P f args (Aw true)){W:World}{vs:List Value}(I:Bv (Go.Abs.all W) W B9r args vs){sy ra:TypeId × Value}(ht:∀b cs,A9q sy ra b cs->∃ty L,W.heap[b]?=some (.cells cs ty L)) :
  Calls P f ⟨vs⟩ W λe E=>e=.returned (.bool true)/\Below W.heap.size W E:=by
 refine(h.calls I ht).mono ?_;rintro e E ⟨v,S',β',rfl,hr,J⟩;rw[hr.Vn];exact⟨rfl,J⟩
def F7h{H:Type}{P:Program}{t0 t1 t2:TypeId}{I:List TypeId}{d0 d1 d2:DataW H}{E:List (DataW H)}(h:(DataW.weightsEach P ([t0,t1,t2]++I) ([d0,d1,d2]++E)).all (·<=reachBytes)=true) :
  (∀k,k∈d0.weights P t0->k<=reachBytes)/\(∀k,k∈d1.weights P t1->k<=reachBytes)/\∀k,k∈d2.weights P t2->k<=reachBytes:=by
 simp only[Jq,Vi,DataW.weightsEach,Y0,Bb,Dm,Dp]at h;exact⟨h.1,h.2.1,h.2.2.1⟩
def E4x:DataW Unit->Array Value
 |.agg ds=>(ds.map fun| .lit l=>l.value|_=>undef).toArray
 |_=>#[]
noncomputable def C9w (os:Os):World :=
 let w0:=World.holding Tryz.prog os ⟨#[],#[],[]⟩
 (((w0.setRow 0 B6g).setRow 1 C0j).setRow 2 (E4x Rows.laid_math_bits_deBruijn32tab)).setRow 3 (E4x Rows.laid_math_bits_deBruijn64tab)
def F8n(os:Os)(args:Array Value):laidMetH Tryz.prog Rows.plainStencilsRow.laid ((C9w os).forCall (λ_ _=>0) ⟨#[],args,[]⟩).memory :=
 laidMetH_of_parts (laidMet_of_run' 8 (by kernel_rfl) (by kernel_rfl)) (by kernel_rfl)
end Go.Proofs.YtieakoebgfiniaaGreatDoor
