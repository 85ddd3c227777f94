/- What a row's laid variables give a walk: castingslaw21 -/
import Derived.Test.YtaneedhchnaniaaGreatDoorRows
import Derived.Test.YtaneedhchnaniaaGreatDoorQTab
import Derived.Lib.LaidTab
import Derived.Lib.LaidU8
import Derived.LaidHandle
import Derived.LaidLaws
namespace Go.Proofs.YtaneedhchnaniaaGreatDoor
open Go Go.Abs Go.Lib
set_option maxRecDepth 100000
theorem powT:Tryz.prog.globalNamed "internal/strconv.uint64pow10" = some 0:=by kernel_rfl
theorem var_heap {w:World} {name:String} {g:Nat} {cs:Array Value} (hg:Tryz.prog.globalNamed name=some g)(h:w.var? Tryz.prog name=some cs):∃ ty fr,w.heap[g]? = some (.cells cs ty fr):=by
 unfold World.var? at h
 rw [hg] at h
 simp only [Option.bind_some] at h
 split at h
 ·rename_i c t fr hh
  simp only [Option.some.injEq] at h;subst h
  exact⟨t,fr,hh⟩
 ·simp at h
def pow10Z:List Int:=[1,10,100,1000,10000,100000,1000000,10000000,100000000,1000000000,10000000000,100000000000,1000000000000,10000000000000,100000000000000,1000000000000000,10000000000000000,100000000000000000,1000000000000000000,10000000000000000000]
theorem fixed_of_laid {W:World} (h:laidMetH Tryz.prog Rows.instanceOrdersUptoRow.laid W):∃ sy ra,∀ b cs,fixedRow sy ra b cs→∃ ty fr,W.heap[b]? = some (.cells cs ty fr):=by
 refine⟨(0,undef),(0,undef),?_⟩
 have h':laidMet Tryz.prog [("math/bits.deBruijn32tab",Rows.laid_math_bits_deBruijn32tab),("math/bits.deBruijn64tab",Rows.laid_math_bits_deBruijn64tab),("internal/strconv.uint64pow10",Rows.laid_internal_strconv_uint64pow10)] W:=h
 rintro b cs (⟨rfl,rfl⟩ | ⟨_,_,he⟩ | ⟨_,_,he⟩ | ⟨_,_,he⟩ | ⟨_,_,he⟩)
 rotate_left 2
 ·exact he.elim
 ·exact he.elim
 ·exact he.elim
 ·obtain⟨g,t,cs,fuel,p,e1,e2,e3,e4⟩:=laidMet.reads h' (n := "internal/strconv.uint64pow10") (d:=Rows.laid_internal_strconv_uint64pow10) (by simp)
  obtain rfl:=Option.some.inj (powT.symm.trans e1)
  obtain⟨ty,fr,hh⟩:=var_heap powT e3
  obtain rfl:=Option.some.inj ((show (Tryz.prog.globals[0]?).map (·.type)=some 383 by kernel_rfl).symm.trans e2)
  have hd:Rows.laid_internal_strconv_uint64pow10 (H:=Unit)=tabData .u64 pow10Z:=by kernel_rfl
  rw [hd] at e4
  have hc:=cells_of_tab Tryz.underlying383 Tryz.underlying259 (by kernel_rfl) (by kernel_rfl) e4
  have:cs=pow10:=by apply Array.ext';rw [hc];rfl
  rw [← this]
  exact⟨ty,fr,hh⟩
 ·exact False.elim he
end Go.Proofs.YtaneedhchnaniaaGreatDoor
