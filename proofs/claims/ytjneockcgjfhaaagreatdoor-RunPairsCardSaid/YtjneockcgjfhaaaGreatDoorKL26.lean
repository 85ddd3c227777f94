/- What a row's laid variables give a walk: castingslaw26 -/
import Derived.Test.YtjneockcgjfhaaaGreatDoorRows
import Derived.Test.YtjneockcgjfhaaaGreatDoorKHS
import Derived.Test.YtjneockcgjfhaaaGreatDoorKShelfM
import Derived.Lib.LaidTab
import Derived.Lib.LaidU8
import Derived.LaidHandle
set_option maxRecDepth 100000
namespace Go.Proofs.YtjneockcgjfhaaaGreatDoor
open Go Go.Abs Go.Lib
theorem D7w:Tryz.prog.globalNamed "internal/strconv.uint64pow10" =some 1:=by kernel_rfl
theorem D9p:Tryz.prog.globalNamed "castings/run.words" =some 0:=by kernel_rfl
theorem E3x:Tryz.prog.globalNamed "strconv.ErrSyntax" =some 5:=by kernel_rfl
theorem F5z:Tryz.prog.globalNamed "strconv.ErrRange" =some 6:=by kernel_rfl
theorem C2z{w:World}{name:String}{g:Nat}{cs:Array Value}(J:Tryz.prog.globalNamed name=some g)(h:w.var? Tryz.prog name=some cs):∃ty E,w.heap[g]?=some (.cells cs ty E):=by unfold World.var? at h;rw[J]at h;simp only[Option.bind_some]at h;split at h;rename_i c t E I;simp only[Option.some.injEq]at h;subst h;exact⟨t,E,I⟩;simp at h
theorem H0k{H:Type}{enc:TypeId × Value->H}{P:Program}{w:World}{base:Nat}{sp:Nat->Bool}{I:Bool}{E:Nat}{t e:TypeId}{n:Nat}{cs:List Value}{L:List (List UInt8)}{p:List MemPlace}
  (ht:P.underlying t=some (.array n e))(he:P.underlying e=some .string)(U:P.cellsOf e=1)(W:P.cellsOf t=n)
  (h:DataW.trod enc P w base sp I E t cs=some (.agg (L.map λz=>.lit (.string z)),p)):cs=L.map λz=>Value.string ⟨⟨z⟩⟩:=by
 cases E with
 |zero=>simp[DataW.trod]at h
 |succ E =>
  simp only[DataW.trod,ht,U,W,Nat.mul_one]at h;split at h
  .rename_i hl;obtain⟨xs,Z,hx⟩:=Option.map_eq_some_iff.1 h;have J:xs.map (·.1)=L.map λz=>(DataW.lit (.string z):DataW H):=by have:=congrArg Prod.fst hx;simpa using this
   have a1:xs.length=n:=by simpa using mapM_length Z
   have a0:L.length=n:=by have:=congrArg List.length J;simp at this;omega
   apply List.ext_getElem?;intro i;by_cases hi:i<n
   .obtain⟨b,hb,hf⟩:=mapM_at Z i i (by simp[hi]);obtain⟨z,hc,rfl,_⟩:=DataW.trod_string he hf;have h1:cs[i]?=some (.string z):=by have:=congrArg (·[0]?) hc;simpa [List.getElem?_take,List.getElem?_drop]using this
    have V:(xs.map (·.1))[i]?=some (DataW.lit (.string z.data.toList):DataW H):=by simp[hb]
    rw[J]at V;simp only[List.getElem?_map,Option.map_eq_some_iff,DataW.lit.injEq,Lit.string.injEq]at V;obtain⟨z',O,rfl⟩:=V;simp[h1,O]
   rw[List.getElem?_eq_none (by omega),List.getElem?_eq_none (by simp;omega)]
  cases h
def F1v:List Int:=[1,10,100,1000,10000,100000,1000000,10000000,100000000,1000000000,10000000000,100000000000,1000000000000,10000000000000,100000000000000,1000000000000000,10000000000000000,100000000000000000,1000000000000000000,10000000000000000000]
def F4p:List (List UInt8):=[[],[],[118,97,108,117,101],[112,97,110,105,99],[115,116,117,99,107],[102,117,101,108]]
theorem G6n{W:World}(h:laidMetH Tryz.prog Rows.runPairsRow.laid W)(hs:W.ShapedOpen Tryz.prog):∃sy ra,∀b cs,A2s sy ra b cs->∃ty E,W.heap[b]?=some (.cells cs ty E):=by
 have V:laidMet Tryz.prog [("math/bits.deBruijn32tab",Rows.laid_math_bits_deBruijn32tab),("math/bits.deBruijn64tab",Rows.laid_math_bits_deBruijn64tab),("internal/strconv.uint64pow10",Rows.laid_internal_strconv_uint64pow10),("unicode/utf8.acceptRanges",Rows.laid_unicode_utf8_acceptRanges),("strconv.ErrRange",Rows.laid_strconv_ErrRange),("strconv.ErrSyntax",Rows.laid_strconv_ErrSyntax),("castings/run.words",Rows.laid_castings_run_words),("unicode/utf8.first",Rows.laid_unicode_utf8_first)] W:=h;obtain⟨g1,t1,c1,f1,p1,a1,a2,a3,a4⟩:=laidMet.reads V (n := "strconv.ErrSyntax") (d:=Rows.laid_strconv_ErrSyntax) (by simp);obtain⟨g2,t2,c2,f2,p2,b1,b2,b3,b4⟩:=laidMet.reads V (n := "strconv.ErrRange") (d:=Rows.laid_strconv_ErrRange) (by simp);obtain rfl:=Option.some.inj (E3x.symm.trans a1);obtain rfl:=Option.some.inj (F5z.symm.trans b1);obtain rfl:=Option.some.inj ((show(Tryz.prog.globals[5]?).map (·.type)=some 131 by kernel_rfl).symm.trans a2);obtain rfl:=Option.some.inj ((show(Tryz.prog.globals[6]?).map (·.type)=some 131 by kernel_rfl).symm.trans b2);obtain⟨_,u1,v1,O,_,_⟩:=iface_of_trod Tryz.underlying131 a4;obtain⟨_,u2,v2,U,_,_⟩:=iface_of_trod Tryz.underlying131 b4;obtain⟨m,hm⟩:=Tryz.G4x.s1_3 W hs;refine⟨(u1,v1),(0,.int .i64 m),?_⟩;rintro b cs (⟨rfl,rfl⟩|⟨_,_,he⟩|⟨rfl,rfl,_⟩|⟨rfl,rfl,_⟩|⟨rfl,rfl,_⟩)
 .obtain⟨g,t,cs,J,p,O,U,e3,L⟩:=laidMet.reads V (n := "internal/strconv.uint64pow10") (d:=Rows.laid_internal_strconv_uint64pow10) (by simp);obtain rfl:=Option.some.inj (D7w.symm.trans O);obtain⟨ty,E,I⟩:=C2z D7w e3;obtain rfl:=Option.some.inj ((show(Tryz.prog.globals[1]?).map (·.type)=some 263 by kernel_rfl).symm.trans U);have hd:Rows.laid_internal_strconv_uint64pow10 (H:=Unit)=tabData .u64 F1v:=by kernel_rfl
  rw[hd]at L;have Z:=cells_of_tab Tryz.underlying263 Tryz.underlying228 (by kernel_rfl) (by kernel_rfl) L;have:cs=B7j:=by apply Array.ext';rw[Z];rfl
  rw[<-this];exact⟨ty,E,I⟩
 exact False.elim he
 .obtain⟨g,t,cs,J,p,O,U,e3,L⟩:=laidMet.reads V (n := "castings/run.words") (d:=Rows.laid_castings_run_words) (by simp);obtain rfl:=Option.some.inj (D9p.symm.trans O);obtain⟨ty,E,I⟩:=C2z D9p e3;obtain rfl:=Option.some.inj ((show(Tryz.prog.globals[0]?).map (·.type)=some 74 by kernel_rfl).symm.trans U);have hd:Rows.laid_castings_run_words (H:=Unit)=.agg (F4p.map λz=>.lit (.string z)):=by kernel_rfl
  rw[hd]at L;have Z:=H0k Tryz.underlying74 Tryz.underlying9 (by kernel_rfl) (by kernel_rfl) L;have:cs=B2y:=by apply Array.ext';rw[Z];rfl
  rw[<-this];exact⟨ty,E,I⟩
 .obtain⟨ty,E,I⟩:=C2z E3x a3;have:c1 = #[.iface u1 v1]:=by apply Array.ext';rw[O]
  rw[this]at I;exact⟨ty,E,I⟩
 exact G9o (t:=3) hs (of_decide_eq_true (by kernel_rfl)) (by kernel_rfl) hm
end Go.Proofs.YtjneockcgjfhaaaGreatDoor
