/- What each statement of layer 26 asks beside the law's own walk -/
import Derived.Test.YtjneockcgjfhaaaGreatDoorKL26
import Derived.Test.YtjneockcgjfhaaaGreatDoorKDec
import Derived.Carry
import Derived.ChangeOld
import Derived.ChangeSame
import Derived.ChangeVars
import Derived.Stop.Joined
import Derived.JoinedOf
import Derived.RowKitTokens
import Derived.SevenTiedAt
import Derived.Test.YtjneockcgjfhaaaGreatDoorTie
import Derived.Test.YtjneockcgjfhaaaGreatDoorCards
set_option linter.all false
set_option maxRecDepth 100000
namespace Go.Proofs.YtjneockcgjfhaaaGreatDoor
open Go Go.ChangeShapes Go.WideShapes Go.ChangeAt Go.RowKit Go.Abs
def own:ownKnob Tryz.prog.godebug=none:=by kernel_rfl
def laidOut:laidOutB Tryz.prog=true:=by kernel_rfl
def D5o{H:Type}{enc:TypeId × Value->H}{P:Program}{W:World}{t:TypeId}{v:Value}{d:DataW H}{ps:List MemPlace}(h:DataW.Trod enc P W 0 (λ_=>true) true t v d ps):∀x∈ps,x.block<W.heap.size:=by obtain⟨m,E⟩:=h;exact DataW.trod_lt m _ _ _ E
def H0z:mapsRowed Tryz.prog=true:=by kernel_rfl
def G7b:Tryz.prog.stopsHeard=true:=by kernel_rfl
def F1a:Tryz.prog.mayEnter=true:=by kernel_rfl
def G6u:Tryz.prog.liftsFinal=Rows.runPairsRow.lifted:=by kernel_rfl
def F9z:Tryz.prog.make=some Rows.runPairsRow.make:=by kernel_rfl
def F4t:Tryz.prog.funcs.any Func.goes=false:=by kernel_rfl
def G2y{P:Program}(h:P.funcs.any Func.goes=false)(f:FuncId):P.goes f=false:=by
 unfold Program.goes;rw[h,Sf,Ar4,List.any_eq_false];intro g _;cases E:P.funcs[g]? with
 |none=>simp
 |some fn =>have:=Array.any_eq_false.1 h g (Ai6.1 E).1;rw[(Ai6.1 E).2]at this;simpa using this
def G2u{c:OpenClaim}(hs:c.start=.entering):false=c.goesBy Tryz.prog:=by
 unfold OpenClaim.goesBy Program.goesAt Program.goesFrom;rw[hs];cases Tryz.prog.funcNamed c.func with
 |none=>rfl
 |some f=>simp only[Option.any_some,G2y F4t f,Ar4]
def C7g:Names:=λ_=>{ base:=none }
def E7m{P:Program}{f:FuncId}{args:List SV}(h:Ab P f args (B1 true)){W:World}{vs:List Value}(I:Bz (Go.Abs.all W) W C7g args vs){sy ra:TypeId × Value}(ht:∀b cs,A2s sy ra b cs->∃ty L,W.heap[b]?=some (.cells cs ty L)) :Calls P f ⟨vs⟩ W λe E=>e=.returned (.bool true)/\Below W.heap.size W E:=by refine(h.calls I ht).mono ?_;rintro e E ⟨v,S',β',rfl,hr,J⟩;rw[hr.Wk];exact⟨rfl,J⟩
def G0q{H:Type}{P:Program}{t0 t1:TypeId}{I:List TypeId}{d0 d1:DataW H}{E:List (DataW H)}(h:(DataW.weightsEach P ([t0,t1]++I) ([d0,d1]++E)).all (·<=reachBytes)=true) :(∀k,k∈d0.weights P t0->k<=reachBytes)/\∀k,k∈d1.weights P t1->k<=reachBytes:=by simp only[Nj,Y7,DataW.weightsEach,Ya,Bi,Dr,E4]at h;exact⟨h.1,h.2.1⟩
mutual
def E4b:DataW Unit->List Value
 |.agg ds=>E0r ds
 |.lit l=>[l.value]
 |_=>[]
def E0r:List (DataW Unit)->List Value
 |[]=>[]
 |d::ds=>E4b d++E0r ds
end
def B7k(d:DataW Unit):Array Value:=(E4b d).toArray
abbrev G0h:ByteArray:=⟨#[105,110,118,97,108,105,100,32,115,121,110,116,97,120]⟩
abbrev G7h:ByteArray:=⟨#[118,97,108,117,101,32,111,117,116,32,111,102,32,114,97,110,103,101]⟩
noncomputable def low:Nat:=(World.holding Tryz.prog default ⟨#[],#[],[]⟩).heap.size
noncomputable def D1y (os:Os):World :=let w0:=World.holding Tryz.prog os ⟨#[.cells #[.string G0h] 323,.cells #[.string G7h] 323],#[],[]⟩
 (((((((w0.setRow 1 B7j).setRow 3 (B7k Rows.laid_math_bits_deBruijn32tab)).setRow 4 (B7k Rows.laid_math_bits_deBruijn64tab)).setRow 0 B2y).setRow 8 (B7k Rows.laid_unicode_utf8_acceptRanges)).setRow 7 (B7k Rows.laid_unicode_utf8_first)).setRow 5 #[.iface 321 (.pointer (some ⟨low,0,none⟩))]).setRow 6 #[.iface 321 (.pointer (some ⟨low+1,0,none⟩))]
def E9j(os:Os)(args:Array Value):laidMetH Tryz.prog Rows.runPairsRow.laid ((D1y os).forCall (λ_ _=>0) ⟨#[],args,[]⟩).memory :=laidMetH_of_parts (laidMet_of_run' 8 (by kernel_rfl) (by kernel_rfl)) (by kernel_rfl)
end Go.Proofs.YtjneockcgjfhaaaGreatDoor
