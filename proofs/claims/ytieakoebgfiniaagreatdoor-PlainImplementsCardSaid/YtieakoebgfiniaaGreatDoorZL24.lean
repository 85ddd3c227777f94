/- What a row's laid variables give a walk: castingslaw24 -/
import Derived.Test.YtieakoebgfiniaaGreatDoorRows
import Derived.Test.YtieakoebgfiniaaGreatDoorZTab
import Derived.Lib.LaidTab
import Derived.Lib.LaidU8
import Derived.LaidHandle
import Derived.LaidLaws
set_option maxRecDepth 100000
namespace Go.Proofs.YtieakoebgfiniaaGreatDoor
open Go Go.Abs Go.Lib
theorem F0s:Tryz.prog.globalNamed "errors.errorType" =some 0:=by kernel_rfl
theorem E2s:Tryz.prog.globalNamed "internal/strconv.uint64pow10" =some 1:=by kernel_rfl
theorem rtT:(Tryz.prog.cutTypes.find? (·.1 == "internal/reflectlite.rtype")).map (·.2)=some 283:=by kernel_rfl
theorem F9n:((List.range Tryz.prog.types.size).filter λt=>Tryz.prog.rowNamed t [101,114,114,111,114])=[40]:=by kernel_rfl
theorem D2w{w:World}{name:String}{g:Nat}{cs:Array Value}(I:Tryz.prog.globalNamed name=some g)(h:w.var? Tryz.prog name=some cs):∃ty E,w.heap[g]?=some (.cells cs ty E):=by
 unfold World.var? at h;rw[I]at h;simp only[Option.bind_some]at h;split at h
 .rename_i c t E J;simp only[Option.some.injEq]at h;subst h;exact⟨t,E,J⟩
 .simp at h
def F2n:List Int:=[1,10,100,1000,10000,100000,1000000,10000000,100000000,1000000000,10000000000,100000000000,1000000000000,10000000000000,100000000000000,1000000000000000,10000000000000000,100000000000000000,1000000000000000000,10000000000000000000]
theorem F8i{W:World}(h:laidMetH Tryz.prog Rows.plainStencilsRow.laid W):∃sy ra,∀b cs,A9q sy ra b cs->∃ty O,W.heap[b]?=some (.cells cs ty O):=by
 refine⟨(0,undef),(0,undef),?_⟩
 have h':laidMet Tryz.prog [("math/bits.deBruijn32tab",Rows.laid_math_bits_deBruijn32tab),("math/bits.deBruijn64tab",Rows.laid_math_bits_deBruijn64tab),("internal/strconv.uint64pow10",Rows.laid_internal_strconv_uint64pow10)] W/\handlesMet Tryz.prog [("errors.errorType",Rows.laid_errors_errorType)] W:=h
 rintro b cs (⟨rfl,rfl⟩|⟨rfl,rfl,_⟩|⟨_,_,E⟩|⟨_,_,E⟩|⟨_,_,E⟩);rotate_left 2
 .exact E.elim
 .exact E.elim
 .exact E.elim
 .obtain⟨g,t,cs,a0,p,U,J,V,I⟩:=laidMet.reads h'.1 (n := "internal/strconv.uint64pow10") (d:=Rows.laid_internal_strconv_uint64pow10) (by simp)
  obtain rfl:=Option.some.inj (E2s.symm.trans U);obtain⟨ty,O,L⟩:=D2w E2s V;obtain rfl:=Option.some.inj ((show(Tryz.prog.globals[1]?).map (·.type)=some 372 by kernel_rfl).symm.trans J);have hd:Rows.laid_internal_strconv_uint64pow10 (H:=Unit)=tabData .u64 F2n:=by kernel_rfl
  rw[hd]at I;have hc:=cells_of_tab Tryz.underlying372 Tryz.underlying307 (by kernel_rfl) (by kernel_rfl) I;have:cs=C0j:=by apply Array.ext';rw[hc];rfl
  rw[<-this];exact⟨ty,O,L⟩
 .obtain⟨name,u,ty,U,J,V,I,e5⟩:=h'.2 _ (List.mem_singleton.2 rfl);have en:name=[101,114,114,111,114]:=(Option.some.inj U).symm;subst en;obtain rfl:=Option.some.inj (rtT.symm.trans J);have Z:ty∈(List.range Tryz.prog.types.size).filter λt=>Tryz.prog.rowNamed t [101,114,114,111,114]:=List.mem_filter.2 ⟨List.mem_range.2 V,I⟩;rw[F9n]at Z;obtain rfl:=List.mem_singleton.1 Z;have L:typeHandle Tryz.prog 40=.pointer (some ⟨4,40,none⟩):=by kernel_rfl
  rw[L]at e5;exact D2w F0s e5
end Go.Proofs.YtieakoebgfiniaaGreatDoor
