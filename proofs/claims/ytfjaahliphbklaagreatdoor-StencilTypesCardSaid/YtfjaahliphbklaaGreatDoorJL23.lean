/- What a row's laid variables give a walk: castingslaw23 -/
import Derived.Test.YtfjaahliphbklaaGreatDoorRows
import Derived.Test.YtfjaahliphbklaaGreatDoorJHS
import Derived.Test.YtfjaahliphbklaaGreatDoorJShelfM
import Derived.Lib.LaidTab
import Derived.Lib.LaidU8
import Derived.LaidHandle
namespace Go.Proofs.YtfjaahliphbklaaGreatDoor
open Go Go.Abs Go.Lib
set_option maxRecDepth 100000
theorem G5u:Tryz.prog.globalNamed "internal/strconv.uint64pow10" = some 0:=by kernel_rfl
theorem G5s:Tryz.prog.globalNamed "strconv.ErrSyntax" = some 1:=by kernel_rfl
theorem G5w:Tryz.prog.globalNamed "strconv.ErrRange" = some 2:=by kernel_rfl
theorem D9y {w:World} {name:String} {g:Nat} {cs:Array Value} (hg:Tryz.prog.globalNamed name=some g)(h:w.var? Tryz.prog name=some cs):∃ ty fr,w.heap[g]? = some (.cells cs ty fr):=by
 unfold World.var? at h;rw [hg] at h;simp only [Option.bind_some] at h;split at h
 ·rename_i c t fr hh;simp only [Option.some.injEq] at h;subst h;exact⟨t,fr,hh⟩
 ·simp at h
def G3u:List Int:=[1,10,100,1000,10000,100000,1000000,10000000,100000000,1000000000,10000000000,100000000000,1000000000000,10000000000000,100000000000000,1000000000000000,10000000000000000,100000000000000000,1000000000000000000,10000000000000000000]
theorem B5k {W:World} (h:laidMetH Tryz.prog Rows.stencilMatchesReferenceRow.laid W)(hs:W.ShapedOpen Tryz.prog):∃ sy ra,∀ b cs,A9w sy ra b cs→∃ ty fr,W.heap[b]? = some (.cells cs ty fr):=by
 have h':laidMet Tryz.prog [("math/bits.deBruijn32tab",Rows.laid_math_bits_deBruijn32tab),("math/bits.deBruijn64tab",Rows.laid_math_bits_deBruijn64tab),("internal/strconv.uint64pow10",Rows.laid_internal_strconv_uint64pow10),("unicode/utf8.acceptRanges",Rows.laid_unicode_utf8_acceptRanges),("strconv.ErrRange",Rows.laid_strconv_ErrRange),("strconv.ErrSyntax",Rows.laid_strconv_ErrSyntax),("unicode/utf8.first",Rows.laid_unicode_utf8_first)] W:=h
 obtain⟨g1,t1,c1,f1,p1,a1,a2,a3,a4⟩:=laidMet.reads h' (n := "strconv.ErrSyntax") (d:=Rows.laid_strconv_ErrSyntax) (by simp)
 obtain⟨g2,t2,c2,f2,p2,b1,b2,b3,b4⟩:=laidMet.reads h' (n := "strconv.ErrRange") (d:=Rows.laid_strconv_ErrRange) (by simp)
 obtain rfl:=Option.some.inj (G5s.symm.trans a1);obtain rfl:=Option.some.inj (G5w.symm.trans b1);obtain rfl:=Option.some.inj ((show (Tryz.prog.globals[1]?).map (·.type)=some 245 by kernel_rfl).symm.trans a2);obtain rfl:=Option.some.inj ((show (Tryz.prog.globals[2]?).map (·.type)=some 245 by kernel_rfl).symm.trans b2);obtain⟨_,u1,v1,e1,_,_⟩:=iface_of_trod Tryz.underlying245 a4;obtain⟨_,u2,v2,e2,_,_⟩:=iface_of_trod Tryz.underlying245 b4;obtain⟨m,hm⟩:=Tryz.replM.s1_3 W hs;refine⟨(u1,v1),(0,.int .i64 m),?_⟩;rintro b cs (⟨rfl,rfl⟩ | ⟨_,_,he⟩ | ⟨_,_,he2⟩ | ⟨rfl,rfl,_⟩ | ⟨rfl,rfl,_⟩)
 ·obtain⟨g,t,cs,fuel,p,e1,e2,e3,e4⟩:=laidMet.reads h' (n := "internal/strconv.uint64pow10") (d:=Rows.laid_internal_strconv_uint64pow10) (by simp)
  obtain rfl:=Option.some.inj (G5u.symm.trans e1);obtain⟨ty,fr,hh⟩:=D9y G5u e3;obtain rfl:=Option.some.inj ((show (Tryz.prog.globals[0]?).map (·.type)=some 303 by kernel_rfl).symm.trans e2);have hd:Rows.laid_internal_strconv_uint64pow10 (H:=Unit)=tabData .u64 G3u:=by kernel_rfl
  rw [hd] at e4;have hc:=cells_of_tab Tryz.underlying303 Tryz.underlying239 (by kernel_rfl) (by kernel_rfl) e4;have:cs=F3v:=by apply Array.ext';rw [hc];rfl
  rw [← this];exact⟨ty,fr,hh⟩
 ·exact False.elim he
 ·exact False.elim he2
 ·obtain⟨ty,fr,hh⟩:=D9y G5s a3;have:c1 = #[.iface u1 v1]:=by apply Array.ext';rw [e1]
  rw [this] at hh;exact⟨ty,fr,hh⟩
 ·exact C4e (t:=3) hs (of_decide_eq_true (by kernel_rfl)) (by kernel_rfl) hm
end Go.Proofs.YtfjaahliphbklaaGreatDoor
