/- local names -/
import Derived.Lib.ItoaLen
import Derived.Test.YtcmlfpcaeflleaaGreatDoorGShelf
import Derived.Test.YtcmlfpcaeflleaaGreatDoorGAb8
import Derived.Test.YtcmlfpcaeflleaaGreatDoorGSB
import Derived.Shelf.Lay
import Derived.Shelf.Strings.OnBuilder
import Derived.Shelf.Strings.Count
import Derived.Shelf.Small.Wraps
import Derived.Shelf.Strconv.ErrVarAll
set_option linter.all false
set_option maxHeartbeats 1000000
set_option maxRecDepth 100000
namespace Go.Abs
open Go Go.Proofs Tryz
variable {S:Nat->Prop} {β:Names}
def Inv.grown{C:Ctx}{w:World}{bx:Aa}(h:Inv C S w β bx)(k:Nat)(os:Array Obj):Inv C S (Sort.grow (w.drewN k) os) β bx/\Bk S w S (Sort.grow (w.drewN k) os) :=
 h.grow (λ_ h=>h) (λ_ h=>.inl h) (λb E=>by have:=h.Bf b E;simp[Sort.grow];omega) (λb E=>by simp only[Sort.grow];exact Ak5 E) rfl rfl rfl (by simp[Sort.grow])
def F0c{C:Ctx}{w:World}{bx:Aa}(h:Inv C S w β bx):Lib.TabIs prog w "internal/strconv.uint64pow10" .u64 Lib.pow10Tab:=by
 obtain⟨_,ty,I,E⟩:=h.Dh 1 B7q (.inl ⟨rfl,rfl⟩);unfold Lib.TabIs World.var?
 rw[show prog.globalNamed "internal/strconv.uint64pow10" =some 1 by kernel_rfl]
 simp only[Ar6,E,B4];rfl
def H0r(n:Int)(L:-9223372036854775808<=n)(M:n<=9223372036854775807):Ac prog 289 [A8 n] (D9 (Lib.itoa n)):=by
 refine⟨(Enters.of func289 rfl (by decide)),λC β vs O U=>?_⟩;obtain⟨v,E,J⟩:=U.get (j:=0) (c:=A8 n) rfl;have I:vs=[.int .i64 n]:=by
  have W:=U.1
  match vs,W with
  |[u],_=>simp only[Qt,B4]at E;subst E;rw[J.J4]
 subst I;refine(Any.strconv_Itoa F7b n L M C.w0 (F0c O)).mono ?_;rintro e w' ⟨rfl,k,os,rfl⟩;obtain⟨V,_⟩:=O.grown k os;exact⟨_,C.S0,β,rfl,V,.d _ _ (.str _ (by have:=Lib.itoa_length_le n L M;unfold lim;omega))⟩
def G0(i:Nat):A3:=36::Lib.itoa i
def C8d(i:Nat):Lib.itoa (i:Int)=Lib.decDigits i:=by unfold Lib.itoa;rw[A6 (by omega)];rfl
def E6h(i:Nat)(h:i<=sm):(G0 i).length<=30:=by have:=Lib.itoa_length_le i (by omega) (by unfold sm at h;omega);simp only[G0,C6];omega
def E5y(i:Nat)(h:i<=sm):Ac prog 265 [A8 i] (D9 (G0 i)):=by
 have E:¬(i:Int)<0:=by omega
 have hit:=H0r i (by omega) (by unfold sm at h;omega);have I:=Lib.itoa_length_le i (by omega) (by unfold sm at h;omega);unfold G0;generalize Lib.itoa (i:Int)=s at*;refine cB func265 ?_;refine sR [0,2,4] ?_;refine Ai E [0,2,4] λJ u1=>?_;refine kI u1 ?_;clear u1 J
 (refine sV [0,2,4] λK z=>?_;refine cc hit ?_;refine⟨by unfold lim;omega,?_⟩;(try refine ev ?_);apply z;clear z K)
 exact aR
variable {n:Nat}
def E6j(h:n<10):Lib.decDigits n=[UInt8.ofNat (48+n)]:=by rw[Lib.decDigits,dif_pos h]
def E2v(h:¬n<10):Lib.decDigits n=Lib.decDigits (n / 10)++[UInt8.ofNat (48+n % 10)]:=by rw[Lib.decDigits,dif_neg h]
def E1s(h:n<10):[[D.int .u8 (IntKind.u8.wrap (48+(n:Int)))]]=[UInt8.ofNat (48+n)].map λc=>[D.int .u8 c.toNat]:=by
 have:IntKind.u8.wrap (48+(n:Int))=((UInt8.ofNat (48+n)).toNat:Int):=by
  have:n=0\/n=1\/n=2\/n=3\/n=4\/n=5\/n=6\/n=7\/n=8\/n=9:=by omega
  rcases this with rfl|rfl|rfl|rfl|rfl|rfl|rfl|rfl|rfl|rfl <;> decide
 simp only[Ck,Hy,this]
def F0m(n:Nat)(L:n<=sm):Ac prog 278 [A8 n] (D9 (Lib.decDigits n)):=by
 induction n using Nat.strongRecOn with
 |_ n V =>
 refine cB func278 ?_;refine sR [0,2,4]<|sK λM u1=>?_;by_cases I:n<10
 .have E:(n:Int)<10:=by omega
  refine Aq E [0,2,4] ?_;refine tI ?_
  (refine sV [0,2,4] λK z=>?_;refine cl ?_;refine⟨_,E0v (e:=5) [UInt8.ofNat (48+n)] (by kernel_rfl) (by kernel_rfl) (by kernel_rfl) rfl (E1s I) (by simp),?_⟩;(try refine ev ?_);apply z;clear z K)
  rw[E6j I];exact aR
 .have E:¬(n:Int)<10:=by omega
  refine Aq E [0,2,4] ?_;refine kI u1 ?_;clear u1 M;have J:=V (n / 10) (by omega) (by omega);have W:((n:Int)).tdiv 10=((n / 10:Nat):Int):=rfl;have U:((n:Int)).tmod 10=((n % 10:Nat):Int):=rfl;rw[E2v I];have O:=Lib.itoa_length_le (n / 10:Nat) (by omega) (by unfold sm at L;omega);rw[C8d]at O
  (refine sG [0,2,4] [] 9 [] λK z=>?_;simp -implicitDefEqProofs only[EV,Nat.reduceAdd,Nat.reduceEqDiff,Nat.reduceLeDiff,Nat.reduceMul,Int.reduceEq,reduceCtorEq,J3,TF5,Mx,D9b];simp only[W,U];(try refine ev ?_);refine ca ?_;refine cc J ?_;refine cl ?_;refine⟨_,E0v (e:=5) [UInt8.ofNat (48+n % 10)] (by kernel_rfl) (by kernel_rfl) (by kernel_rfl) rfl (E1s (Zk _ (by decide))) (by simp),?_⟩;(try refine ev ?_);refine⟨by unfold lim;omega,?_⟩;(try refine ev ?_);apply z;clear z K)
  exact aR
def G6g(i:Nat)(h:i<=sm):Ac prog 238 [A8 i] (D9 (G0 i)):=by
 have E:¬(i:Int)<0:=by omega
 have hit:=F0m i h;have I:=Lib.itoa_length_le i (by omega) (by unfold sm at h;omega);unfold G0;rw[C8d]at*;generalize Lib.decDigits i=s at*;refine cB func238 ?_;refine sR [0,2,4] ?_;refine Ai E [0,2,4] λJ u1=>?_;refine kI u1 ?_;clear u1 J
 (refine sV [0,2,4] λK z=>?_;refine cc hit ?_;refine⟨by unfold lim;omega,?_⟩;(try refine ev ?_);apply z;clear z K)
 exact aR
open Go Go.Proofs Go.RowKit Go.Lib Go.Sort Tryz
def C8g:Builder.Extra prog D1a where
 sizeBuilder:=by kernel_rfl
 liesBuilder:=by kernel_rfl
 t5:=underlying5
 a5:=run_isAgg_plain underlying5 rfl
 z5:=sizeOf5
 v5:=zeroValue5
 infoByte:=by kernel_rfl
 cellsByte:=by kernel_rfl
 sizeByte:=by kernel_rfl
 neB5:=by decide
def Inv.below{C:Ctx}{w w':World}{bx:Aa}(h:Inv C S w β bx)(b:Below w.heap.size w w'):Inv C S w' β bx :=
 (h.grow (λ_ h=>h) (λ_ h=>.inl h) (λk E=>Vr (h.Bf k E) b.size) (λk E=>b.block k E) b.os b.tape b.output b.size).1
def F8c(l:List A3)(E:A3)(hl:l.length<=sm)(hj:(Lib.join l E).length<=lim):Ac prog 204 [.d (.slice (C5 l)),D9 E] (D9 (Lib.join l E)):=by
 refine⟨(Enters.of func204 rfl (by decide)),λC β vs hi hv=>?_⟩;obtain⟨v0,e0,r0⟩:=hv.get (j:=0) rfl;obtain⟨v1,e1,r1⟩:=hv.get (j:=1) rfl;have M:=hv.1
 match vs,M with
 |[a,b],_ =>
  simp only[Qt,B4]at e0;simp only[Xo,Qt,B4]at e1;subst e0;subst e1;have h1:=r1.J0;cases h1 with
  |str _ hs =>
  have h0:=r0.J0;have I:∀{a:Value},(Calls prog 204 #[a,.string (mkStr E)] C.w0 λe w'=>e=.returned (.string (mkStr (Lib.join l E)))/\Below C.w0.heap.size C.w0 w') ->
    Calls prog 204 ⟨[a,.string (mkStr E)]⟩ C.w0 (λe w'=>∃v S' β',e=.returned v/\Inv C S' w' β' []/\Ak S' w' β' (D9 (Lib.join l E)) v):=λW=>by
   refine W.mono ?_;rintro e w' ⟨rfl,hb⟩;exact⟨_,C.S0,β,rfl,hi.below hb,.d _ _ (.str _ hj)⟩
  generalize hR:C5 l=R at h0;cases h0 with
  |Jz a cap _ =>
   have:l=[]:=by cases l <;> simp[C5]at hR |-
   subst this;refine I ((Any.strings_Join_none C8a C8g a cap (mkStr E) C.w0).mono ?_);rintro e w' ⟨rfl,rfl⟩;exact⟨rfl,Below.refl _ _⟩
  |slice rows b off cap sz hS a2 Z h3 h4 h5 h6 =>
   subst hR;have L:(C5 l).length=l.length:=by simp[C5]
   by_cases V:l=[]
   .subst V;refine I ((Any.strings_Join_none C8a C8g (some ⟨b,off,none⟩) cap (mkStr E) C.w0).mono ?_);rintro e w' ⟨rfl,rfl⟩;exact⟨rfl,Below.refl _ _⟩
   .have a0:sz=1:=by
     cases l with
     |nil=>exact absurd rfl V
     |cons x r=>have:=h3 [.str x] (by simp[C5]);simpa using this.symm
    subst a0;have hd:(l.map mkStr).map (·.data.toList)=l:=by
     rw[Fo]
     conv=>rhs;rw[<-List.map_id l]
     refine J7 λs _=>?_;simp[mkStr]
    have J:(l.map mkStr).length=l.length:=by simp
    have W:=Any.strings_Join C8a C8g b off cap (l.map mkStr) (mkStr E) C.w0 (λj x hx=>by rw[Db,N9]at hx;obtain⟨s,O,rfl⟩:=hx;have a1:=(B5.1 O).1;obtain⟨v,U⟩:=h5 j 0 (by rw[L];exact a1) (by decide);have:=h6 j 0 [.str s] (.str s) v (by simp[C5,O]) rfl U;cases this;simpa using U) (hi.Bf _ hS) (by rw[J];unfold sm at hl;omega) (by rw[J,<-L];exact Z) (by rw[hd,show(mkStr E).data.toList=E by simp[mkStr]];exact hj)
    rw[hd,J,show(mkStr E).data.toList=E by simp[mkStr]]at W;rw[L];exact I W
def G4e(s:A3):Bool:=match Lib.atoiAll s with
 |.ok _=>false
 |.range=>false
 |_=>true
end Go.Abs
