/- What a row's laid variables give a walk: castingslaw21, the laws on found sets -/
import Derived.Test.YtcmlfpcaeflleaaGreatDoorRows
import Derived.Test.YtcmlfpcaeflleaaGreatDoorGTab
import Derived.Lib.LaidTab
import Derived.Lib.LaidU8
import Derived.LaidHandle
import Derived.LaidLaws
set_option linter.all false
set_option maxRecDepth 100000
namespace Go.Proofs.YtcmlfpcaeflleaaGreatDoor
open Go Go.Abs Go.Lib
def D2v:Tryz.prog.globalNamed "internal/strconv.uint64pow10" =some 1:=by kernel_rfl
def H1r{w:World}{name:String}{g:Nat}{cs:Array Value}(J:Tryz.prog.globalNamed name=some g)(h:w.var? Tryz.prog name=some cs):∃ty E,w.heap[g]?=some (.cells cs ty E):=by
 unfold World.var? at h;rw[J]at h;simp only[Option.bind_some]at h;split at h
 .rename_i c t E I;simp only[Option.some.injEq]at h;subst h;exact⟨t,E,I⟩
 .simp at h
def F6m:List Int:=[1,10,100,1000,10000,100000,1000000,10000000,100000000,1000000000,10000000000,100000000000,1000000000000,10000000000000,100000000000000,1000000000000000,10000000000000000,100000000000000000,1000000000000000000,10000000000000000000]
def B2t{W:World}(h:laidMetH Tryz.prog Rows.instanceMatchesReferenceRow.laid W):∃sy ra,∀b cs,A4w sy ra b cs->∃ty I,W.heap[b]?=some (.cells cs ty I):=by
 refine⟨(0,undef),(0,undef),?_⟩
 have U:laidMet Tryz.prog [("math/bits.deBruijn32tab",Rows.laid_math_bits_deBruijn32tab),("math/bits.deBruijn64tab",Rows.laid_math_bits_deBruijn64tab),("internal/strconv.uint64pow10",Rows.laid_internal_strconv_uint64pow10)] W:=h
 rintro b cs (⟨rfl,rfl⟩|⟨_,_,E⟩|⟨_,_,E⟩|⟨_,_,E⟩|⟨_,_,E⟩);rotate_left 2
 .exact E.elim
 .exact E.elim
 .exact E.elim
 .obtain⟨g,t,cs,J,p,e1,Z,V,L⟩:=laidMet.reads U (n := "internal/strconv.uint64pow10") (d:=Rows.laid_internal_strconv_uint64pow10) (by simp)
  obtain rfl:=Option.some.inj (D2v.symm.trans e1);obtain⟨ty,I,O⟩:=H1r D2v V;obtain rfl:=Option.some.inj ((show(Tryz.prog.globals[1]?).map (·.type)=some 360 by kernel_rfl).symm.trans Z);have M:Rows.laid_internal_strconv_uint64pow10 (H:=Unit)=tabData .u64 F6m:=by kernel_rfl
  rw[M]at L;have hc:=cells_of_tab Tryz.underlying360 Tryz.underlying233 (by kernel_rfl) (by kernel_rfl) L;have:cs=B7q:=by apply Array.ext';rw[hc];rfl
  rw[<-this];exact⟨ty,I,O⟩
 .exact False.elim E
end Go.Proofs.YtcmlfpcaeflleaaGreatDoor
