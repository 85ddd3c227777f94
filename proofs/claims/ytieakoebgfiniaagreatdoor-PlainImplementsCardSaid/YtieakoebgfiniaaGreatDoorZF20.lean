/- table.Program -/
import Derived.Test.YtieakoebgfiniaaGreatDoorZS49
set_option linter.all false
set_option maxHeartbeats 1000000
set_option maxRecDepth 100000
namespace Go.Abs
open Go Go.Proofs Tryz
def C5q(p:Prog)(h:p.Sm):Aa prog 150 [.A9 (Dh p) 0] (Ct p):=by
 refine cB func150 ?_;refine sR [0,2,4] ?_;refine kR [0,2,4] λI u1=>?_;refine A0.ff rfl (A0.kk (u1 _ _ ?_));clear u1 I
 (refine sQ [0,2,4] λK E=>?_;simp -implicitDefEqProofs only[EV,Nat.reduceAdd,Nat.reduceEqDiff,Nat.reduceLeDiff,reduceCtorEq,Xz,B1q,Dh])
 refine⟨Ct p,.inl ⟨_,rfl,D8q p h,rfl⟩,?_⟩;refine ev ?_
 (apply E;clear E K)
 exact aR
mutual
def Ty.B3u(p:Prog):Ty->List (D × D)->List (D × D)
 |.mk n a _,m=>if kindOf p n=1 then Ty.B2q p a (Wf (.str n) (.bool true) m)else m
def Ty.B2q(p:Prog):List Ty->List (D × D)->List (D × D)
 |[],m=>m
 |t::E,m=>Ty.B2q p E (t.B3u p m)
end
def Xy(p:Prog)(nm:A2):List Decl->List Param
 |[]=>[]
 |d::ds=>if d.kind=1/\d.name=nm/\kindOf p nm=1 then d.fields else Xy p nm ds
abbrev Wd:List Nat:=[0,1,4,6,9,10,11,12,29]
def G8f(p:Prog)(h:p.Sm)(nm:A2):Aa prog 328 [.A9 (Dh p) 0,Bm nm] (.d (.slice (Av (Xy p nm p.decls)))):=by
 have Z:=h.decls.1;refine cB func328 ?_;refine sR Wd ?_;refine kC (C5q p h) Wd λK1 u1=>?_;refine A0.bb (A0.ii p.decls (X:=Unit) (λj _=>[(0,.A9 (Dh p) 0),(1,Bm nm),(9,.d (.slice (C1 p.decls))),(10,A5 p.decls.length),(11,A5 j)]) (λ_ _=>[])
  (λj _=>Xy p nm (p.decls.drop j)=Xy p nm p.decls) () rfl sS sB ?_ ?_)
 .intro _ E;rw[Db,Xy]at E;refine Ak B3 Wd ?_;refine A0.stop rfl ?_;simp only[A4,Ac,Af];refine u1 _ _<|sR Wd ?_;rw[<-E];exact aR
 .intro j _ d hd V dp _ O E;rw[dp,Xy]at E;refine Ak O Wd ?_;refine A0.Er rfl<|sK λW u2=>A0.bb ?_
  (refine sV Wd λK z=>?_;refine ci (Dx hd) ?_;apply z;clear z K)
  have I:¬(d.kind=1/\d.name=nm/\kindOf p nm=1)->∀sl bx,sle sl [(0,.A9 (Dh p) 0),(1,Bm nm),(9,.d (.slice (C1 p.decls))),(10,A5 p.decls.length),(11,A5 j)]->W sl bx:=by intro hn sl bx hs;rw[A6 hn]at E;refine u2 _ _ (A0.ww (bx':=[]) hs trivial ?_);clear u2 W;refine lT Wd ?_;exact⟨(),E,sS,sB⟩
  have L:(d.kind=1/\d.name=nm)\/¬d.kind=1\/(d.kind=1/\¬d.name=nm):=by by_cases h1:d.kind=1 <;> by_cases J:d.name=nm <;> simp[h1,J]
  rcases L with⟨h1,J⟩|h1|⟨h1,J⟩
  ·(refine sQ Wd λK z=>?_;refine Fm h1 J ?_;refine cc (E8c p h nm) ?_;apply z;clear z K)
   refine A0.cond rfl (λU=>?_) (λU=>?_)
   .rw[A8 ⟨h1,J,by simpa using U⟩]at E;refine sR Wd ?_;rw[<-E];exact aR
   .refine A0.kk (I (by rintro⟨_,_,h3⟩;simp[h3]at U) _ _ sS)
  .refine Ak h1 Wd ?_;refine A0.ff rfl (A0.kk (I (by simp[h1]) _ _ sS))
  .refine Ei h1 J Wd ?_;refine A0.ff rfl (A0.kk (I (by simp[J]) _ _ sS))
def C1d(p:Prog):List Param->List (D × D)->List (D × D)
 |[],m=>m
 |f::fs,m=>C1d p fs (f.type.B3u p m)
abbrev Vg:List Nat:=[0,1,4,5,10,12,13,14,24]
def E2t(a b:List A2):Aa prog 15 [Cc a,Cc b] (Aw (decide (a=b))):=by
 refine C8.bd (Enters.of func15 rfl (by decide)) λI=>?_;have a0:=(A5c I.1).1;have a1:=(A5c I.2.1).1;refine cB func15 ?_;refine sR Vg ?_;refine kR Vg λK1 u1=>?_;refine A0.N2 rfl u1 (λE=>?_) (λE=>?_)
 .have V:¬a=b:=by rintro rfl;simp at E
  refine sR Vg ?_;rw[C9 V];exact aR
 have hl:a.length=b.length:=by simp at E;omega
 clear u1 K1;refine kR Vg λK1 u1=>?_;refine A0.bb (A0.ii a (X:=Unit) (λj _=>[(0,Cc a),(1,Cc b),(12,A5 a.length),(13,A5 j)]) (λ_ _=>[]) (λj _=>a.take j=b.take j) () (by simp) sS sB ?_ ?_)
 .intro _ L;rw[Ci,hl,Ci]at L;refine Ak B3 Vg ?_;refine A0.stop rfl ?_;simp only[A4,Ac,Af];refine u1 _ _<|sR Vg ?_;rw[Bj L];exact aR
 .intro j _ x W Z _ tk O L;have J:b[j]?=some b[j]:=Bi (by omega);have U:b.take (j+1)=b.take j++[b[j]]:=J0 (by omega);generalize b[j]=y at*;refine Ak O Vg ?_;refine A0.Er rfl<|sK λK2 u2=>A0.bb<|sR Vg ?_
  (refine sG Vg [] 8 [] λK z=>?_;refine ev ?_;refine ci (Ko W) ?_;refine ci (Ko J) ?_;apply z;clear z K)
  refine A0.cond rfl (λE=>?_) (λE=>?_)
  .have V:¬a=b:=by
    rintro rfl;rw[W]at J;simp only[B5]at J;subst J;simp at E
   refine sR Vg ?_;rw[C9 V];exact aR
  .refine A0.kk ?_;simp only[A4,Ac];refine u2 _ _ ?_;clear u2 K2
   (refine lV Vg λK z=>?_;refine⟨by first| (unfold B4;omega)| (simp only[B4,lim]at*;omega),?_⟩;(try refine ev ?_);apply z;clear z K;try simp only[A4,])
   exact⟨(),by rw[tk,U,L,show x=y by simpa using E],sS,sB⟩
def Asc(l:List A2):Prop:=l.Pairwise λa b=>a<b
def Asc.get{l:List A2}(h:Asc l){i j:Nat}{a b:A2}(O:l[i]?=some a)(L:l[j]?=some b)(E:i<j):a<b:=by obtain⟨I,rfl⟩:=Az.1 O;obtain⟨J,rfl⟩:=Az.1 L;exact Am4.1 h i j I J E
def A8y(l:List A2):List (D × D):=l.map λs=>(.str s,.bool true)
def B0h(l:List A2)(s:A2):List A2:=if s∈l then l else l++[s]
def Qp(l:List A2):List A2:=l.mergeSort λa b=>decide (a<=b)
def H2b{l:List A2}(s:A2)(h:l.Nodup):(B0h l s).Nodup:=by
 unfold B0h;split
 .exact h
 .rename_i hs;rw[Ao4];exact⟨h,by simp,by rintro a I b E rfl;simp at E;subst E;exact hs I⟩
def F3t{l:List A2}{s x:A2}:x∈B0h l s↔x=s\/x∈l:=by
 unfold B0h;split
 .constructor
  .exact .inr
  .rintro(rfl|h)
   .assumption
   .exact h
 .simp[or_comm]
mutual
def Ty.B8z(p:Prog):Ty->List A2->List A2
 |.mk n a _,m=>if kindOf p n=1 then Ty.C6a p a (B0h m n)else m
def Ty.C6a(p:Prog):List Ty->List A2->List A2
 |[],m=>m
 |t::E,m=>Ty.C6a p E (t.B8z p m)
end
def C1t(p:Prog):List Param->List A2->List A2
 |[],m=>m
 |f::fs,m=>C1t p fs (f.type.B8z p m)
def A6x(p:Prog)(nm:A2):List A2:=C1t p (Xy p nm p.decls) []
theorem Cz.add{p:Prog}{l:List A2}{s:A2}(h:Cz p l)(hs:kindOf p s=1):Cz p (B0h l s) :=
 ⟨H2b s h.nodup,λx hx=>by
  rcases F3t.1 hx with rfl|hx
  .exact hs
  .exact h.isS x hx⟩
mutual
theorem Cz.B3u{p:Prog}:∀(t:Ty) {l:List A2},Cz p l->Cz p (t.B8z p l)
 |.mk n a q,l,h=>by
  simp only[Ty.B8z];split
  .exact Cz.B2q a (h.add (by assumption))
  .exact h
theorem Cz.B2q{p:Prog}:∀(E:List Ty) {l:List A2},Cz p l->Cz p (Ty.C6a p E l)
 |[],_,h=>h
 |t::E,_,h=>Cz.B2q E (Cz.B3u t h)
end
def Cz.C1d{p:Prog}:∀(fs:List Param) {l:List A2},Cz p l->Cz p (C1t p fs l)
 |[],_,h=>h
 |t::E,_,h=>Cz.C1d E (Cz.B3u t.type h)
def Cz.A6x(p:Prog)(nm:A2):Cz p (A6x p nm):=Cz.C1d _ (Cz.nil p)
def C9y(l:List A2):(Qp l).Perm l:=List.mergeSort_perm ..
def H4o{l:List A2}{x:A2}:x∈Qp l↔x∈l:=(C9y l).mem_iff
def E6u(l:List A2):(Qp l).length=l.length:=(C9y l).length_eq
def H5j:Prop:=∀l:List A2,l.Nodup->l.length<=sm->(∀s,s∈l->s.length<=lim)->C8 prog 314 [.d (.map (A8y l))] [] (.acc 0) [(0,.rows 1 (Bq (Qp l)))]
theorem Cz.names{p:Prog}(h:p.Sm){l:List A2}(E:Cz p l):∀s,s∈l->s.length<=lim:=by intro s hs;obtain⟨d,hd,rfl⟩:=Au.1 (D3b (E.isS s hs));exact Cp (h.decls.2 d hd).name (by decide)
end Go.Abs
