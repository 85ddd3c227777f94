/- What a row's laid variables give a walk: castingslaw23 -/
import Derived.Test.YtaneedhchnaniaaGreatDoorRows
import Derived.Test.YtaneedhchnaniaaGreatDoorKHS
import Derived.Test.YtaneedhchnaniaaGreatDoorKShelfM
import Derived.Lib.LaidTab
import Derived.Lib.LaidU8
import Derived.LaidHandle
namespace Go.Proofs.YtaneedhchnaniaaGreatDoor
open Go Go.Abs Go.Lib
set_option maxRecDepth 100000
theorem C8s:Tryz.prog.globalNamed "internal/strconv.uint64pow10" = some 0:=by kernel_rfl
theorem D0h:Tryz.prog.globalNamed "strconv.ErrSyntax" = some 4:=by kernel_rfl
theorem F8a:Tryz.prog.globalNamed "strconv.ErrRange" = some 5:=by kernel_rfl
theorem D5f {w:World} {name:String} {g:Nat} {cs:Array Value} (J:Tryz.prog.globalNamed name=some g)(h:w.var? Tryz.prog name=some cs):∃ty E,w.heap[g]? = some (.cells cs ty E):=by
 unfold World.var? at h;rw [J] at h;simp only [Option.bind_some] at h;split at h
 ·rename_i c t E I;simp only [Option.some.injEq] at h;subst h;exact⟨t,E,I⟩
 ·simp at h
def F8e:List Int:=[1,10,100,1000,10000,100000,1000000,10000000,100000000,1000000000,10000000000,100000000000,1000000000000,10000000000000,100000000000000,1000000000000000,10000000000000000,100000000000000000,1000000000000000000,10000000000000000000]
theorem E4h {W:World} (h:laidMetH Tryz.prog Rows.stencilPlainRow.laid W)(hs:W.ShapedOpen Tryz.prog):∃sy ra,∀b cs,A3d sy ra b cs→∃ty E,W.heap[b]? = some (.cells cs ty E):=by
 have J:laidMet Tryz.prog [("math/bits.deBruijn32tab",Rows.laid_math_bits_deBruijn32tab),("math/bits.deBruijn64tab",Rows.laid_math_bits_deBruijn64tab),("internal/strconv.uint64pow10",Rows.laid_internal_strconv_uint64pow10),("unicode/utf8.acceptRanges",Rows.laid_unicode_utf8_acceptRanges),("strconv.ErrRange",Rows.laid_strconv_ErrRange),("strconv.ErrSyntax",Rows.laid_strconv_ErrSyntax),("unicode/utf8.first",Rows.laid_unicode_utf8_first)] W:=h
 obtain⟨g1,t1,c1,f1,p1,a1,a2,a3,a4⟩:=laidMet.reads J (n := "strconv.ErrSyntax") (d:=Rows.laid_strconv_ErrSyntax) (by simp)
 obtain⟨g2,t2,c2,f2,p2,b1,b2,b3,b4⟩:=laidMet.reads J (n := "strconv.ErrRange") (d:=Rows.laid_strconv_ErrRange) (by simp)
 obtain rfl:=Option.some.inj (D0h.symm.trans a1);obtain rfl:=Option.some.inj (F8a.symm.trans b1);obtain rfl:=Option.some.inj ((show (Tryz.prog.globals[4]?).map (·.type)=some 161 by kernel_rfl).symm.trans a2);obtain rfl:=Option.some.inj ((show (Tryz.prog.globals[5]?).map (·.type)=some 161 by kernel_rfl).symm.trans b2);obtain⟨_,u1,R,O,_,_⟩:=iface_of_trod Tryz.underlying161 a4;obtain⟨_,u2,v2,U,_,_⟩:=iface_of_trod Tryz.underlying161 b4;obtain⟨m,hm⟩:=Tryz.E5r.s1_3 W hs;refine⟨(u1,R),(0,.int .i64 m),?_⟩;rintro b cs (⟨rfl,rfl⟩| ⟨_,_,he⟩| ⟨_,_,L⟩| ⟨rfl,rfl,_⟩| ⟨rfl,rfl,_⟩)
 ·obtain⟨g,t,cs,Z,p,O,U,e3,V⟩:=laidMet.reads J (n := "internal/strconv.uint64pow10") (d:=Rows.laid_internal_strconv_uint64pow10) (by simp)
  obtain rfl:=Option.some.inj (C8s.symm.trans O);obtain⟨ty,E,I⟩:=D5f C8s e3;obtain rfl:=Option.some.inj ((show (Tryz.prog.globals[0]?).map (·.type)=some 383 by kernel_rfl).symm.trans U);have hd:Rows.laid_internal_strconv_uint64pow10 (H:=Unit)=tabData .u64 F8e:=by kernel_rfl
  rw [hd] at V;have hc:=cells_of_tab Tryz.underlying383 Tryz.underlying259 (by kernel_rfl) (by kernel_rfl) V;have:cs=B6k:=by apply Array.ext';rw [hc];rfl
  rw [←this];exact⟨ty,E,I⟩
 ·exact False.elim he
 ·exact False.elim L
 ·obtain⟨ty,E,I⟩:=D5f D0h a3;have:c1 = #[.iface u1 R]:=by apply Array.ext';rw [O]
  rw [this] at I;exact⟨ty,E,I⟩
 ·exact E4n (t:=3) hs (of_decide_eq_true (by kernel_rfl)) (by kernel_rfl) hm
end Go.Proofs.YtaneedhchnaniaaGreatDoor
