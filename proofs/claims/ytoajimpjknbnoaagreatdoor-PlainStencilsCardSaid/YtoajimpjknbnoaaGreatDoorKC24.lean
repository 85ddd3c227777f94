import Derived.Test.YtoajimpjknbnoaaGreatDoorRows
import Derived.Lib.LaidTab
import Derived.Lib.LaidU8
import Derived.LaidHandle
import Derived.LaidLaws
import Derived.Test.YtoajimpjknbnoaaGreatDoorKDec
import Derived.SizedLaws
import Derived.Carry
import Derived.ChangeOld
import Derived.ChangeSame
import Derived.ChangeVars
import Derived.Stop.Joined
import Derived.JoinedOf
import Derived.RowKitTokens
import Derived.SevenTiedAt
import Derived.Test.YtoajimpjknbnoaaGreatDoorTie
import Derived.Test.YtoajimpjknbnoaaGreatDoorCards
set_option linter.all false
set_option maxRecDepth 100000
namespace Go.Proofs.YtoajimpjknbnoaaGreatDoor
open Go Go.iA Go.Lib
def jr:Tryz.prog.globalNamed "errors.errorType" =some 0:=by kernel_rfl
def uY:Tryz.prog.globalNamed "internal/strconv.uint64pow10" =some 1:=by kernel_rfl
def rtT:(Tryz.prog.cutTypes.find? (·.1 == "internal/reflectlite.rtype")).map (·.2)=some 273:=by kernel_rfl
def G3h:((List.range Tryz.prog.types.size).filter λt=>Tryz.prog.rowNamed t [101,114,114,111,114])=[40]:=by kernel_rfl
def x4{w:World}{name:String}{g:Nat}{cs:Array Value}(J:Tryz.prog.globalNamed name=some g)(h:w.var? Tryz.prog name=some cs):∃ty E,w.heap[g]?=some (.cells cs ty E):=by unfold World.var? at h;rw[J]at h;simp only[zJ]at h;split at h;rename_i c t E I;simp only[B8]at h;subst h;exact⟨t,E,I⟩;simp at h
def G3d:List Int:=[1,10,100,1000,10000,100000,1000000,10000000,100000000,1000000000,10000000000,100000000000,1000000000000,10000000000000,100000000000000,1000000000000000,10000000000000000,100000000000000000,1000000000000000000,10000000000000000000]
def H3e{W:World}(h:laidMetH Tryz.prog Rows.plainStencilsRow.laid W):∃sy ra,∀b cs,qJ sy ra b cs->∃ty U,W.heap[b]?=some (.cells cs ty U):=by
 refine⟨(0,undef),(0,undef),?_⟩;have h':laidMet Tryz.prog [("math/bits.deBruijn32tab",Rows.laid_math_bits_deBruijn32tab),("math/bits.deBruijn64tab",Rows.laid_math_bits_deBruijn64tab),("internal/strconv.uint64pow10",Rows.laid_internal_strconv_uint64pow10)] W/\handlesMet Tryz.prog [("errors.errorType",Rows.laid_errors_errorType)] W:=h;rintro b cs (⟨rfl,rfl⟩|⟨rfl,rfl,_⟩|⟨_,_,E⟩|⟨_,_,E⟩|⟨_,_,E⟩);rotate_left 2;exact E.elim;exact E.elim;exact E.elim
 .obtain⟨g,t,cs,Z,p,J,O,V,I⟩:=laidMet.reads h'.1 (n := "internal/strconv.uint64pow10") (d:=Rows.laid_internal_strconv_uint64pow10) (by simp);obtain rfl:=Tf (uY.symm.trans J);obtain⟨ty,U,L⟩:=x4 uY V;obtain rfl:=Tf ((show(Tryz.prog.globals[1]?).map (·.type)=some 371 by kernel_rfl).symm.trans O);have hd:Rows.laid_internal_strconv_uint64pow10 (H:=Unit)=tabData .u64 G3d:=by kernel_rfl
  rw[hd]at I;have hc:=cells_of_tab Tryz.underlying371 Tryz.underlying297 (by kernel_rfl) (by kernel_rfl) I;have:cs=WO:=by apply L5;rw[hc];rfl
  rw[<-this];exact⟨ty,U,L⟩
 .obtain⟨name,u,ty,J,O,V,I,e5⟩:=h'.2 _ (Pj.2 rfl);have en:name=[101,114,114,111,114]:=(Tf J).symm;subst en;obtain rfl:=Tf (rtT.symm.trans O);have hm:ty∈(List.range Tryz.prog.types.size).filter λt=>Tryz.prog.rowNamed t [101,114,114,111,114]:=Kp.2 ⟨wJ.2 V,I⟩;rw[G3h]at hm;obtain rfl:=Pj.1 hm;have L:typeHandle Tryz.prog 40=.pointer (some ⟨4,40,none⟩):=by kernel_rfl
  rw[L]at e5;exact x4 jr e5
end Go.Proofs.YtoajimpjknbnoaaGreatDoor
namespace Go.Proofs.YtoajimpjknbnoaaGreatDoor
open Go Go.ChangeShapes Go.WideShapes Go.ChangeAt Go.RowKit Go.iA
def own:ownKnob Tryz.prog.godebug=none:=by kernel_rfl
def laidOut:laidOutB Tryz.prog=true:=by kernel_rfl
def H1s{H:Type}{enc:TypeId × Value->H}{P:Program}{W:World}{t:TypeId}{v:Value}{d:DataW H}{ps:List MemPlace}(h:DataW.Trod enc P W 0 (λ_=>true) true t v d ps):∀x∈ps,x.block<W.heap.size:=by obtain⟨m,E⟩:=h;exact DataW.trod_lt m _ _ _ E
def F8o:mapsRowed Tryz.prog=true:=by kernel_rfl
def H8a:Tryz.prog.stopsHeard=true:=by kernel_rfl
def H6u:Tryz.prog.mayEnter=true:=by kernel_rfl
def H2x:Tryz.prog.liftsFinal=Rows.plainStencilsRow.lifted:=by kernel_rfl
def H7d:Tryz.prog.make=some Rows.plainStencilsRow.make:=by kernel_rfl
def H2p:Tryz.prog.funcs.any Func.goes=false:=by kernel_rfl
def G2c{P:Program}(h:P.funcs.any Func.goes=false)(f:FuncId):P.goes f=false:=by
 unfold Program.goes;rw[h,Tx,uJ,List.any_eq_false];intro g _;cases E:P.funcs[g]? with
 |none=>simp
 |some fn =>have:=Array.any_eq_false.1 h g (U6.1 E).1;rw[(U6.1 E).2]at this;simpa using this
def H1b{c:OpenClaim}(hs:c.start=.entering):false=c.goesBy Tryz.prog:=by
 unfold OpenClaim.goesBy Program.goesAt Program.goesFrom;rw[hs];cases Tryz.prog.funcNamed c.func with
 |none=>rfl
 |some f=>simp only[Option.any_some,G2c H2p f,uJ]
def jb:Names:=λ_=>{ base:=none }
def H1a{P:Program}{f:FuncId}{args:List SV}(h:Ab P f args (Ar true)){W:World}{vs:List Value}(I:C7 (Go.iA.all W) W jb args vs){sy ra:TypeId × Value}(ht:∀b cs,qJ sy ra b cs->∃ty J,W.heap[b]?=some (.cells cs ty J)) :Calls P f ⟨vs⟩ W λe E=>e=.returned (.bool true)/\Below W.heap.size W E:=by refine(h.calls I ht).mono ?_;rintro e E ⟨v,S',β',rfl,hr,L⟩;rw[hr.Yg];exact⟨rfl,L⟩
def F9n{H:Type}{P:Program}{t0:TypeId}{I:List TypeId}{d0:DataW H}{E:List (DataW H)}(h:(DataW.weightsEach P ([t0]++I) ([d0]++E)).all (·<=reachBytes)=true):∀k,k∈d0.weights P t0->k<=reachBytes:=by simp only[Kn,Wv,DataW.weightsEach,Z1,Bh,Dz,Di]at h;exact h.1
def w8:DataW Unit->Array Value
 |.agg ds=>(ds.map fun| .lit l=>l.value|_=>undef).toArray
 |_=>#[]
noncomputable def e8 (os:Os):World :=let w0:=World.holding Tryz.prog os ⟨#[],#[],[]⟩
 (((w0.setRow 0 HP).setRow 1 WO).setRow 2 (w8 Rows.laid_math_bits_deBruijn32tab)).setRow 3 (w8 Rows.laid_math_bits_deBruijn64tab)
def F6e(os:Os)(args:Array Value):laidMetH Tryz.prog Rows.plainStencilsRow.laid ((e8 os).forCall (λ_ _=>0) ⟨#[],args,[]⟩).memory :=laidMetH_of_parts (laidMet_of_run' 8 (by kernel_rfl) (by kernel_rfl)) (by kernel_rfl)
end Go.Proofs.YtoajimpjknbnoaaGreatDoor
