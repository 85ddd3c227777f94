import Derived.Test.YtoajimpjknbnoaaGreatDoorKS49
import Derived.Test.YtoajimpjknbnoaaGreatDoorKIterP
set_option linter.all false
set_option maxHeartbeats 1000000
set_option maxRecDepth 100000
namespace Go.iA
open Go Go.Proofs Tryz
def fR(p:Prog)(h:p.Sm):Ab Tryz.prog 146 [.A8 (D4 p) 0] (Cs p):=by refine cB func146 ?_;refine sR [0,2,4] ?_;refine kR [0,2,4] λI u1=>?_;refine dA rfl (cA (u1 _ _ ?_));refine sQ [0,2,4] λK E=>?_;refine Bb @D4.eq_1 ?_;refine⟨Cs p,.inl ⟨_,rfl,MW p h,rfl⟩,?_⟩;refine ev ?_;apply E;exact aR
def CN(s:A3)(h:s.length<=lim):E1 Tryz.prog 9 (.str s):=by have E:Tryz.prog.underlying 9=some .string:=xN.2.2.2.2.1;refine⟨rfl,by simp[D.kv,D.lit,Lit.value,Value.formed,E],?_⟩;simp[D.kv,D.lit,D.lits,Lit.value,Value.cells,Program.keyLits,E,ByteArray.size];unfold lim at h;unfold maxLen;omega
mutual
def Ty.Vo(p:Prog):Ty->List (D × D)->List (D × D)
 |.mk n a _,m=>if kindOf p n=1 then Ty.W6 p a (Ro (.str n) (.bool true) m)else m
def Ty.W6(p:Prog):List Ty->List (D × D)->List (D × D)
 |[],m=>m
 |t::E,m=>Ty.W6 p E (t.Vo p m)
end
def iG(p:Prog)(t:Ty)(m:List (D × D)):t.Vo p m=if kindOf p t.name=1 then Ty.W6 p t.args (Ro (.str t.name) (.bool true) m)else m:=by cases t;rfl
def Ty.Sm.F6n{t:Ty}(h:t.Sm):t.name.length<=lim:=Cy h.name (by decide)
mutual
theorem dS{p:Prog}:∀(t:Ty),t.Sm->∀{m:List (D × D)},(∀kv,kv∈m->E1 Tryz.prog 9 kv.1)->∀kv,kv∈t.Vo p m->E1 Tryz.prog 9 kv.1
 |.mk n a q,ht,m,E=>by simp only[Ty.Vo];split;exact UZ a ht.arg (PN E (CN n ht.F6n));exact E
theorem UZ{p:Prog}:∀(l:List Ty),(∀t,t∈l->t.Sm)->∀{m:List (D × D)},(∀kv,kv∈m->E1 Tryz.prog 9 kv.1)->∀kv,kv∈Ty.W6 p l m->E1 Tryz.prog 9 kv.1
 |[],_,_,E=>E
 |t::I,h,_,E=>UZ I (λu J=>h u (by simp[J])) (dS t (h t (by simp)) E)
end
abbrev OE:=[0,1,2,4,7,12,17,18,19,20,1000000]
def qx(p:Prog)(h:p.Sm):∀(t:Ty),t.Sm->∀m,(∀kv,kv∈m->E1 Tryz.prog 9 kv.1) ->Ci Tryz.prog 328 [.A8 (D4 p) 0,Ba t,.mp 1000000] [(1000000,.map m)] (.tuple []) [(1000000,.map (t.Vo p m))]:=by
 intro t
 induction t using Ty.induct with
 |h t ih =>
 intro ht m hm;refine Ci.bd (Enters.of func328 rfl (by decide)) λV=>?_;have a0:=BQ V.2.1;have hl:=ht.len;have E:=iG p t m;refine bB func328 ?_;refine sR OE ?_;refine kC (MN p h t.name) OE λK1 u1=>?_;refine pA rfl u1 (λU=>?_) (λU=>?_)
 .rw[A5 (by simpa using U)]at E;rw[E];exact A0.ret ⟨_,by rw[results328];rfl,.inr rfl,by simp[ble,A9]⟩
 rw[A7 (by simpa using U)]at E;have L:=CN t.name a0.name
 (refine sV OE λK z=>?_;refine⟨hm,L,?_⟩;(try refine ev ?_);apply z)
 refine sR OE ?_;refine bA (A0.ii t.args (λj _=>[(0,.A8 (D4 p) 0),(2,.mp 1000000),(17,Cv t.args),(18,A6 t.args.length),(19,A6 j)]) (λ_ J=>[(1000000,.map J)]) (λj J=>(∀kv,kv∈J->E1 Tryz.prog 9 kv.1)/\Ty.W6 p (t.args.drop j) J=t.Vo p m) (Ro (.str t.name) (.bool true) m) ⟨PN hm L,by rw[E];rfl⟩ sS sB ?_ ?_)
 .rintro J ⟨Z,O⟩;rw[Dk,Ty.W6]at O;refine Ak B1 OE ?_;refine A0.stop rfl ?_;rw[<-O];simp only[Aa,Af,Av];exact⟨_,by rw[results328];rfl,.inr rfl,by simp[ble,A9]⟩
 .rintro j J x hx I dp _ W ⟨Z,O⟩;rw[dp,Ty.W6]at O;refine Ak W OE ?_;refine kA rfl<|sK λK1 u1=>bA<|sI (Fs hx) [0,1,2,4,7,12,17,18,19,20,1000000] ?_
  (refine lV OE λK z=>?_;refine⟨_,_,_,rfl,(by rfl),ih x I (ht.arg x I) J Z,(by rfl),?_⟩;(try refine ev ?_);apply z;try simp only[Aa,Af])
  apply u1;refine lT OE ?_;exact⟨x.Vo p J,⟨dS x (ht.arg x I) Z,O⟩,sS,sB⟩
def Mf(p:Prog)(nm:A3):List Decl->List Param
 |[]=>[]
 |d::ds=>if d.kind=1/\d.name=nm/\kindOf p nm=1 then d.fields else Mf p nm ds
abbrev zC:=[0,1,4,6,9,10,11,12,29]
def lh(p:Prog)(h:p.Sm)(nm:A3):Ab Tryz.prog 327 [.A8 (D4 p) 0,Bo nm] (.d (.slice (Aw (Mf p nm p.decls)))):=by
 have V:=h.decls.1;refine cB func327 ?_;refine sR zC ?_;refine kC (fR p h) zC λK1 u1=>?_;refine bA (A0.ii p.decls (X:=Unit) (λj _=>[(0,.A8 (D4 p) 0),(1,Bo nm),(9,.d (.slice (Bx p.decls))),(10,A6 p.decls.length),(11,A6 j)]) (λ_ _=>[]) (λj _=>Mf p nm (p.decls.drop j)=Mf p nm p.decls) () rfl sS sB ?_ ?_);intro _ E;rw[Dk,Mf]at E;refine Ak B1 zC ?_;refine A0.stop rfl ?_;simp only[Aa,Af,Av];refine u1 _ _<|sR zC ?_;rw[<-E];exact aR
 .intro j _ d hd Z dp _ U E;rw[dp,Mf]at E;refine Ak U zC ?_;refine kA rfl<|sK λW u2=>bA<|sI (E6 hd) [0,1,4,6,9,10,11,12,29] ?_;have J:¬(d.kind=1/\d.name=nm/\kindOf p nm=1)->∀sl bx,sle sl [(0,.A8 (D4 p) 0),(1,Bo nm),(9,.d (.slice (Bx p.decls))),(10,A6 p.decls.length),(11,A6 j)]->W sl bx:=by intro hn sl bx hs;rw[A5 hn]at E;refine u2 _ _ (A0.ww (bx':=[]) hs trivial ?_);refine lT zC ?_;exact⟨(),E,sS,sB⟩
  have L:(d.kind=1/\d.name=nm)\/¬d.kind=1\/(d.kind=1/\¬d.name=nm):=by by_cases h1:d.kind=1 <;> by_cases I:d.name=nm <;> simp[h1,I]
  rcases L with⟨h1,I⟩|h1|⟨h1,I⟩
  ·(refine sQ zC λK z=>?_;refine G1 h1 I ?_;refine cc (MN p h nm) ?_;apply z)
   refine A0.cond rfl (λO=>?_) (λO=>?_)
   .rw[A7 ⟨h1,I,by simpa using O⟩]at E;refine sR zC ?_;rw[<-E];exact aR
   .refine cA (J (by rintro⟨_,_,h3⟩;simp[h3]at O) _ _ sS)
  .refine Ak h1 zC ?_;refine dA rfl (cA (J (by simp[h1]) _ _ sS))
  .refine Ee h1 I zC ?_;refine dA rfl (cA (J (by simp[I]) _ _ sS))
def Xw(p:Prog):List Param->List (D × D)->List (D × D)
 |[],m=>m
 |f::fs,m=>Xw p fs (f.type.Vo p m)
def RR(p:Prog)(nm:A3):List (D × D):=Xw p (Mf p nm p.decls) []
def fY{p:Prog}{nm:A3}:∀{ds:List Decl},(∀d,d∈ds->d.Sm)->(Mf p nm ds).length<=sm/\∀f,f∈Mf p nm ds->f.Sm
 |[],_=>by simp[Mf]
 |d::ds,h=>by simp only[Mf];split;exact(h d (by simp)).fields;exact fY λx E=>h x (by simp[E])
abbrev xE:=[0,1,4,5,7,8,11,12,13,14]
def py(p:Prog)(h:p.Sm)(nm:A3):Ab Tryz.prog 312 [.A8 (D4 p) 0,Bo nm] (.d (.map (RR p nm))):=by
 obtain⟨V,I⟩:=fY (p:=p) (nm:=nm) h.decls.2;have U:=lh p h nm;unfold RR;generalize Mf p nm p.decls=L at*;refine cB func312 ?_;refine sR xE ?_;refine sR xE ?_;refine kC U xE λK1 u1=>?_;refine bA (A0.ii L (λj _=>[(0,.A8 (D4 p) 0),(5,.mp 8),(11,.d (.slice (Aw L))),(12,A6 L.length),(13,A6 j)]) (λ_ m=>[(8,.map m)]) (λj m=>(∀kv,kv∈m->E1 Tryz.prog 9 kv.1)/\Xw p (L.drop j) m=Xw p L []) [] ⟨by simp,rfl⟩ sS sB ?_ ?_);rintro m ⟨_,J⟩;rw[Dk,Xw]at J;refine Ak B1 xE ?_;refine A0.stop rfl ?_;simp only[Aa,Af,Av];refine u1 _ _<|sR xE ?_;rw[<-J];exact aR
 .rintro j m f Z E dp _ O ⟨W,J⟩;rw[dp,Xw]at J;refine Ak O xE ?_;refine kA rfl<|sK λK2 u2=>bA<|sI (Dt Z) [0,1,4,5,7,8,11,12,13,14] ?_
  (refine lV xE λK z=>?_;refine⟨_,_,_,rfl,(by rfl),qx p h f.type (I f E).type m W,(by rfl),?_⟩;(try refine ev ?_);apply z;try simp only[Aa,Af]);apply u2;refine lT xE ?_;exact⟨_,⟨dS f.type (I f E).type W,J⟩,sS,sB⟩
def H4j(s:A3):Ab Tryz.prog 254 [Bo s] (Ar false):=by refine cB func254 ?_;refine sR [0,2] ?_;refine sR [0,2] ?_;exact aR
def Oz(s:A3):Ab Tryz.prog 311 [Bo s] (Ar false):=by refine cB func311 ?_;refine sR [0,2] ?_;refine sR [0,2] ?_;exact aR
def H7w(a b:A3):Ab Tryz.prog 310 [Bo a,Bo b] (Ar (Op.bytesLess a b)):=by refine cB func310 ?_;refine sR [0,1,4] ?_;refine sC (H4j a) [0,1,4] ?_;exact aR
abbrev Xk:=[0,1,4,5,10,12,13,14,24]
def o5(a b:List A3):Ab Tryz.prog 11 [Cm a,Cm b] (Ar (decide (a=b))):=by
 refine Ci.bd (Enters.of func11 rfl (by decide)) λI=>?_;have a1:=(FE I.1).1;have a2:=(FE I.2.1).1;refine cB func11 ?_;refine sR Xk ?_;refine kR Xk λW u1=>?_;refine pA rfl u1 (λE=>?_) (λE=>?_)
 .have V:¬a=b:=by rintro rfl;simp at E
  refine sR Xk ?_;rw[Cb V];exact aR
 have hl:a.length=b.length:=by simp at E;omega
 refine kR Xk λW u1=>?_;refine bA (A0.ii a (X:=Unit) (λj _=>[(0,Cm a),(1,Cm b),(12,A6 a.length),(13,A6 j)]) (λ_ _=>[]) (λj _=>a.take j=b.take j) () (by simp) sS sB ?_ ?_);intro _ J;rw[Ca,hl,Ca]at J;refine Ak B1 Xk ?_;refine A0.stop rfl ?_;simp only[Aa,Af,Av];refine u1 _ _<|sR Xk ?_;rw[Bn J];exact aR
 .intro j _ x Z a0 _ tk O J;have L:b[j]?=some b[j]:=Bu (by omega);have U:b.take (j+1)=b.take j++[b[j]]:=Kj (by omega);generalize b[j]=y at*;refine Ak O Xk ?_;refine kA rfl<|sK λK2 u2=>bA<|sR Xk ?_
  refine sG Xk [] 8 [] λK z=>?_;refine ev ?_;refine ci (Jj Z) ?_;refine ci (Jj L) ?_;apply z;refine A0.cond rfl (λE=>?_) (λE=>?_)
  .have V:¬a=b:=by rintro rfl;rw[Z]at L;simp only[B8]at L;subst L;simp at E
   refine sR Xk ?_;rw[Cb V];exact aR
  refine cA ?_;simp only[Aa,Af];apply u2;(refine lV Xk λK z=>?_;refine⟨by first| (unfold B6;omega)| (simp only[B6,lim]at*;omega),?_⟩;(try refine ev ?_);apply z;try simp only[Aa,]);exact⟨(),by rw[tk,U,J,show x=y by simpa using E],sS,sB⟩
def XS:∀{a b:A3},Op.bytesLess a b=true↔a<b
 |[],[]=>by simp[Op.bytesLess]
 |[],_::_=>by simp[Op.bytesLess]
 |_::_,[]=>by simp[Op.bytesLess]
 |x::a,y::b=>by have E:=XS (a:=a) (b:=b);simp only[Op.bytesLess,U7,Bh,Di,W8,E,List.cons_lt_cons_iff]
def uO{a b c:A3}(h:a<b)(k:b<c):a<c:=List.lt_trans h k
def lP(a:A3):¬a<a:=List.lt_irrefl a
def F5w{a b:A3}(h:¬a<b)(k:¬b<a):a=b:=List.le_antisymm (List.not_lt.1 k) (List.not_lt.1 h)
def Iv(l:List A3):Prop:=l.Pairwise λa b=>a<b
def Iv.get{l:List A3}(h:Iv l){i j:Nat}{a b:A3}(I:l[i]?=some a)(L:l[j]?=some b)(E:i<j):a<b:=by obtain⟨O,rfl⟩:=Az.1 I;obtain⟨J,rfl⟩:=Az.1 L;exact LG.1 h i j O J E
def LO(s:A3)(l:List A3):Nat:=(l.takeWhile λx=>decide (x<s)).length
def vX(s:A3):∀(l:List A3)(i:Nat),i<=l.length->(∀k x,k<i->l[k]?=some x->x<s)->(∀x,l[i]?=some x->¬x<s)->LO s l=i
 |[],i,h,_,_=>by simp at h;subst h;rfl
 |y::l,0,_,_,E=>by simp[LO,E y rfl]
 |y::l,i+1,h,J,E=>by have:=vX s l i (by simpa using h) (λk x O I=>J (k+1) x (by omega) (by simpa using I)) (λx I=>E x (by simpa using I));have L:y<s:=J 0 y (by omega) rfl;unfold LO at*;simp[L,this]
def Ml{m n:Nat}(h:m+n<281474976710656):IntKind.i64.wrap ((IntKind.u64.wrap ((m:Int)+n)).fdiv (2 ^ min 1 IntKind.u64.bits))=(((m+n) / 2:Nat):Int):=by
 have J:IntKind.u64.wrap ((m:Int)+n)=((m+n:Nat):Int):=by unfold IntKind.wrap;simp[IntKind.signed,IntKind.bits];omega
 rw[J];have I:(2:Int) ^ min 1 IntKind.u64.bits=2:=by decide
 rw[I];have E:(((m+n:Nat):Int)).fdiv 2=(((m+n) / 2:Nat):Int):=by rw[Int.fdiv_eq_ediv_of_nonneg _ (by omega)];rfl
 rw[E];exact wrap_i64 (by first| (unfold B6;omega)| (simp only[B6,sm,lim]at*;omega))
abbrev W7:=[0,1,4,5,6,7,8,9,15,27]
def G5i(l:List A3)(s:A3)(ha:Iv l):Ab Tryz.prog 280 [Cm l,Bo s] (.tuple [A6 (LO s l),Ar (decide (s∈l))]):=by
 refine Ci.bd (Enters.of func280 rfl (by decide)) λa7=>?_;have hl:=(FE a7.1).1;refine cB func280 ?_;refine sR W7 ?_;refine sR W7 ?_;refine sR W7<|sK λK1 u1=>?_;refine bA (A0.loop (X:=Nat × Nat) (λx=>[(0,Cm l),(1,Bo s),(6,A6 l.length),(7,A6 x.1),(8,A6 x.2)]) (λ_=>[]) (λx=>x.1<=x.2/\x.2<=l.length/\(∀k y,k<x.1->l[k]?=some y->y<s)/\(∀k y,x.2<=k->l[k]?=some y->¬y<s)) (λx=>x.2 - x.1) (0,l.length) ?_ ?_ ?_ ?_)
 refine⟨by simp,by simp,by simp,?_⟩;intro k y I E;have:=(Az.1 E).1;omega;exact sS;exact sB;rintro⟨i,j⟩ ⟨h1,h2,Z,h4⟩;simp only at h1 h2 Z h4;by_cases a0:(i:Int)<(j:Int)
 .refine Ag a0 W7 λK2 u2=>?_;refine gI u2 ?_;refine bA ?_;have L:i+j<281474976710656:=by unfold lim at hl;omega
  have a9:(i+j) / 2<j:=by omega
  have a4:i<=(i+j) / 2:=by omega
  refine sQ W7 λK z=>?_;simp -implicitDefEqProofs only[EV,D8,Nat.reduceEqDiff,Int.reduceLE,Int.reduceToNat,reduceCtorEq,Ml L];refine⟨by first| (unfold B6;omega)| (simp only[B6,sm,lim]at*;omega),?_⟩;(try simp -implicitDefEqProofs only[EV,D8,M6,Mp,Nat.reduceAdd,Nat.reduceEqDiff,Nat.reduceBEq,Nat.reduceLeDiff,Nat.reduceSub,Nat.reduceMul,Int.reduceEq,Int.reduceLT,Int.reduceLE,Int.reduceSub,Int.reduceAdd,Int.reduceToNat,reduceCtorEq,Int.reduceNeg,Ml L]);apply z;generalize(i+j) / 2=m at*;have E:l[m]?=some l[m]:=Bu (by omega);generalize l[m]=y at*;refine sV W7 λK z=>?_;refine ci (Jj E) ?_;refine cc (H7w y s) ?_;apply z;refine A0.cond rfl (λJ=>?_) (λJ=>?_);rw[XS]at J;(refine lV W7 λK z=>?_;refine cl ?_;apply z;try simp only[Aa,Af]);refine⟨(m+1,j),⟨by simp only;omega,h2,?_,h4⟩,by simp only;omega,sS,sB⟩;intro k x I W;by_cases U:k=m;subst U;rw[W]at E;simp only[B8]at E;subst E;exact J;exact uO (ha.get W E (by simp only at I;omega)) J
  .have J:¬y<s:=by rw[<-XS];simp[J]
   (refine lV W7 λK z=>?_;apply z;try simp only[Aa,Af]);refine⟨(i,m),⟨a4,by simp only;omega,Z,?_⟩,by simp only;omega,sS,sB⟩;intro k x I W a1;by_cases U:k=m;subst U;rw[W]at E;simp only[B8]at E;subst E;exact J a1;exact J (uO (ha.get E W (by simp only at I;omega)) a1)
 .have a5:i=j:=by omega
  subst a5;have a2:=vX s l i h2 Z (λx W=>h4 i x (Bv _) W);refine Ag a0 W7 λK2 u2=>?_;refine sE ?_;apply u1;rw[a2];by_cases hi:(i:Int)<(l.length:Int)
  .have E:l[i]?=some l[i]:=Bu (by omega);have a3:=Gc (h:=show i<l.length by omega);generalize l[i]=y at*;by_cases V:y=s;subst V;refine sQ W7 λK z=>?_;refine Bb hi ?_;refine ci (Jj E) ?_;apply z;rw[Bn a3];exact aR
   .have O:¬s∈l:=by intro hm;obtain⟨k,I⟩:=Re.1 hm;by_cases a8:k<i;exact lP _ (Z k s a8 I);by_cases a6:k=i;subst a6;rw[I]at E;simp only[B8]at E;exact V E.symm;exact h4 i y (Bv _) E (ha.get E I (by omega))
    refine sQ W7 λK z=>?_;refine Bb hi ?_;refine C0 V (Jj E) ?_;refine ci (Jj E) ?_;refine cc (Oz y) ?_;apply z;rw[Cb O];exact aR
  .have O:¬s∈l:=by intro hm;obtain⟨k,I⟩:=Re.1 hm;have:=(Az.1 I).1;exact lP _ (Z k s (by omega) I)
   refine Ak hi W7 ?_;rw[Cb O];exact aR
def Ix(l:List A3):List (D × D):=l.map λs=>(.str s,.bool true)
def Rp(l:List A3)(s:A3):List A3:=if s∈l then l else l++[s]
def Hz(l:List A3):List A3:=l.mergeSort λa b=>decide (a<=b)
def JL(s:A3):∀(l:List A3)(i:Nat),(s∈l->∃j,l[j]?=some s/\Fh (D.str s).lits (Ix l) i=some (i+j,.bool true))/\(s∉l->Fh (D.str s).lits (Ix l) i=none)
 |[],i=>by simp[Ix,Fh]
 |x::l,i=>by
  have J:=JL s l (i+1);have U:Ix (x::l)=(.str x,.bool true)::Ix l:=rfl;rw[U];simp only[Fh];by_cases I:s=x;subst I;refine⟨λ_=>⟨0,rfl,by simp⟩,λh=>absurd (GG ..) h⟩
  .have E:¬(D.str s).lits=(D.str x).lits:=by simp[D.lits,D.lit,I]
   rw[A5 E];refine⟨λh=>?_,λh=>J.2 λO=>h (by simp[O])⟩;obtain⟨j,V,L⟩:=J.1 ((Ay.1 h).resolve_left I);exact⟨j+1,by simpa using V,by rw[L];congr 2;omega⟩
def CR(s:A3)(l:List A3):Ro (.str s) (.bool true) (Ix l)=Ix (Rp l s):=by unfold Ro Rp;by_cases h:s∈l;obtain⟨j,E,J⟩:=(JL s l 0).1 h;rw[J,A7 h];have I:=(Az.1 E).1;have O:l[j]=s:=(Az.1 E).2;simp only[Kf];apply Kx;intro k;by_cases L:k=j;subst L;rw[List.getElem?_set_self (by simpa [Ix]using I)];simp[Ix,E];rw[uR (by omega)];rw[(JL s l 0).2 h,A5 h];simp[Ix]
def zX(s:A3)(l:List A3):T2 (.str s) (Ix l) (.d (.bool false))=Ar (decide (s∈l)):=by unfold T2;by_cases h:s∈l;obtain⟨j,I,E⟩:=(JL s l 0).1 h;rw[E];simp[ofD,h];rw[(JL s l 0).2 h];simp[h]
def H1r{l:List A3}(s:A3)(h:l.Nodup):(Rp l s).Nodup:=by unfold Rp;split;exact h;rename_i hs;rw[CJ];exact⟨h,by simp,by rintro a I b E rfl;simp at E;subst E;exact hs I⟩
def aD{l:List A3}{s x:A3}:x∈Rp l s↔x=s\/x∈l:=by unfold Rp;split;constructor;exact .inr;rintro(rfl|h);assumption;exact h;simp[or_comm]
mutual
def Ty.nF(p:Prog):Ty->List A3->List A3
 |.mk n a _,m=>if kindOf p n=1 then EA p a (Rp m n)else m
def EA(p:Prog):List Ty->List A3->List A3
 |[],m=>m
 |t::E,m=>EA p E (t.nF p m)
end
mutual
theorem VX(p:Prog):∀(t:Ty)(l:List A3),t.Vo p (Ix l)=Ix (t.nF p l)
 |.mk n a _,l=>by simp only[Ty.Vo,Ty.nF];split;rw[CR,qf p a];rfl
theorem qf(p:Prog):∀(E:List Ty)(l:List A3),Ty.W6 p E (Ix l)=Ix (EA p E l)
 |[],l=>rfl
 |t::E,l=>by simp only[Ty.W6,EA];rw[VX p t,qf p E]
end
def KF(p:Prog):List Param->List A3->List A3
 |[],m=>m
 |f::fs,m=>KF p fs (f.type.nF p m)
def tc(p:Prog):∀(fs:List Param)(l:List A3),Xw p fs (Ix l)=Ix (KF p fs l)
 |[],l=>rfl
 |f::fs,l=>by simp only[Xw,KF];rw[VX p f.type,tc p fs]
def Gk(p:Prog)(nm:A3):List A3:=KF p (Mf p nm p.decls) []
def H1v(p:Prog)(nm:A3):RR p nm=Ix (Gk p nm):=tc p _ []
theorem C8.add{p:Prog}{l:List A3}{s:A3}(h:C8 p l)(hs:kindOf p s=1):C8 p (Rp l s) :=⟨H1r s h.nodup,λx hx=>by
  rcases aD.1 hx with rfl|hx
  .exact hs
  .exact h.T4 x hx⟩
mutual
theorem C8.Vo{p:Prog}:∀(t:Ty) {l:List A3},C8 p l->C8 p (t.nF p l)
 |.mk n a q,l,h=>by simp only[Ty.nF];split;exact C8.W6 a (h.add (by assumption));exact h
theorem C8.W6{p:Prog}:∀(E:List Ty) {l:List A3},C8 p l->C8 p (EA p E l)
 |[],_,h=>h
 |t::E,_,h=>C8.W6 E (C8.Vo t h)
end
def XD{p:Prog}:∀(fs:List Param) {l:List A3},C8 p l->C8 p (KF p fs l)
 |[],_,h=>h
 |t::E,_,h=>XD E (C8.Vo t.type h)
def BA(p:Prog)(nm:A3):C8 p (Gk p nm):=XD _ (C8.nil p)
def WS(l:List A3):(Hz l).Perm l:=List.mergeSort_perm ..
def Vs{l:List A3}{x:A3}:x∈Hz l↔x∈l:=(WS l).mem_iff
def ON(l:List A3):(Hz l).length=l.length:=(WS l).length_eq
def OJ:Prop:=∀l:List A3,l.Nodup->l.length<=sm->(∀s,s∈l->s.length<=lim)->Ci Tryz.prog 313 [.d (.map (Ix l))] [] (.acc 0) [(0,.rows 1 (Bq (Hz l)))]
theorem C8.names{p:Prog}(h:p.Sm){l:List A3}(E:C8 p l):∀s,s∈l->s.length<=lim:=by intro s hs;obtain⟨d,hd,rfl⟩:=Ap.1 (r7 (E.T4 s hs));exact Cy (h.decls.2 d hd).name (by decide)
def OJ.win{p:Prog}(hs:OJ)(h:p.Sm){l:List A3}(E:C8 p l):Ci Tryz.prog 313 [.d (.map (Ix l))] [] (.acc 0) [(0,.rows 1 (Bq (Hz l)))] :=hs l E.nodup (Cy E.len h.decls.1) (E.names h)
def RD(p:Prog):Nat->List A3->List A3->List A3
 |0,_,out=>out
 |_+1,[],out=>out
 |n+1,s::op,out=>if s∈out then RD p n op out else RD p n (op++Hz (Gk p s)) (Rp out s)
def Tr(N:Nat)(op out:List A3):Nat:=(N - out.length)*(N+1)+op.length
def T6(p:Prog)(nm:A3):List A3:=RD p (Tr p.decls.length (Hz (Gk p nm)) []) (Hz (Gk p nm)) []
def yo{p:Prog}{s:A3}{op out:List A3}(I:C8 p (Rp out s))(hs:s∉out):Tr p.decls.length (op++Hz (Gk p s)) (Rp out s)<Tr p.decls.length (s::op) out:=by
 have J:=I.len;have E:(Rp out s).length=out.length+1:=by simp[Rp,hs]
 have L:=(BA p s).len;unfold Tr;rw[B5,ON,E];rw[E]at J;generalize p.decls.length=N at*;obtain⟨q,O⟩:∃q,N=out.length+1+q:=⟨N - (out.length+1),by omega⟩;rw[show N - (out.length+1)=q by omega,show N - out.length=q+1 by omega,Ii];simp only[Bg];omega
def LX(s:A3)(l:List A3):Bq (s::l)=[.str s]::Bq l:=rfl
def F4o{l:List A3}(h:∀s,s∈l->s.length<=lim):∀kv,kv∈Ix l->E1 Tryz.prog 9 kv.1:=by intro kv E;obtain⟨s,hs,rfl⟩:=Ap.1 E;exact CN s (h s hs)
abbrev Wt:=[0,1,2,4,5,6,7,8,11,15,18,26]
def H3u(hs:OJ)(p:Prog)(h:p.Sm)(nm:A3):Ab Tryz.prog 281 [Cs p,Bo nm] (Cm (Hz (T6 p nm))):=by
 have hc:=λs=>py p h s;simp only[H1v]at hc;have hN:=h.decls.1;refine cB func281 ?_;refine sR Wt ?_;refine sC (zM p h) Wt ?_;refine sR Wt ?_
 (refine jA Wt [15] (by decide +kernel) λK z=>?_;refine ev ?_;refine cc (hc nm) ?_;refine⟨_,_,_,_,_,rfl,hs.win h (BA p nm),?_⟩;(try refine ev ?_);apply z)
 refine sK λK1 u1=>?_;refine bA (A0.loop (X:=Nat × List A3 × List A3) (λx=>[(5,.A8 (D4 p) 0),(6,.mp 11),(7,.acc 15)]) (λx=>[(11,.map (Ix x.2.2)),(15,.rows 1 (Bq x.2.1))]) (λx=>C8 p x.2.2/\(∀s,s∈x.2.1->kindOf p s=1)/\Tr p.decls.length x.2.1 x.2.2<=x.1/\x.1<=p.decls.length*(p.decls.length+1)+p.decls.length/\RD p x.1 x.2.1 x.2.2=T6 p nm) (λx=>x.1) (Tr p.decls.length (Hz (Gk p nm)) [],Hz (Gk p nm),[]) ?_ ?_ ?_ ?_)
 .refine⟨C8.nil p,λs a1=>(BA p nm).T4 s (Vs.1 a1),Bv _,?_,rfl⟩;have:=(BA p nm).len;simp only[Tr,Ck,ON,tJ];omega
 .exact sS
 .simp[ble,A9,Ix]
 rintro⟨n,op,out⟩ ⟨O,hk,V,hn,J⟩;simp only at O hk V hn J;cases op with
 |nil =>
  have J:out=T6 p nm:=by rw[<-J];cases n <;> rfl
  refine sK λK2 u2=>?_;refine sQ Wt λK z=>?_;simp -implicitDefEqProofs only[EV,D8,Nat.reduceEqDiff,reduceCtorEq,Bq];apply z;refine sE ?_;apply u1;subst J;refine vB 11 rfl<|sC ((hs.win h O).pub) Wt ?_;exact aR
 |cons s op =>
  have Tt:0<n:=by simp only[Tr,Bg]at V;omega
  obtain⟨n,rfl⟩:∃m,n=m+1:=⟨n - 1,by omega⟩;rw[RD]at J;have U:=hk s (by simp);have L:=O.names h;have a2:=O.add (s:=s) U |>.names h s (aD.2 (.inl rfl));have Z:=CN s a2;have E:=F4o L;have a0:0<((op.length+1:Nat):Int):=by omega
  refine Ag a0 Wt λK2 u2=>?_;refine gI u2 ?_;refine bA ?_;refine sQ Wt λK z=>?_;simp -implicitDefEqProofs only[EV,D8,Nat.reduceEqDiff,Int.reduceLE,Int.reduceToNat,reduceCtorEq,LX];refine⟨by omega,?_⟩;(try simp -implicitDefEqProofs only[EV,D8,M6,Mp,Nat.reduceAdd,Nat.reduceEqDiff,Nat.reduceBEq,Nat.reduceLeDiff,Nat.reduceSub,Nat.reduceMul,Int.reduceEq,Int.reduceLT,Int.reduceLE,Int.reduceSub,Int.reduceAdd,Int.reduceToNat,reduceCtorEq,Int.reduceNeg,LX]);apply z;refine sV Wt λK z=>?_;refine⟨by omega,?_⟩;(try simp -implicitDefEqProofs only[EV,D8,M6,Mp,Nat.reduceAdd,Nat.reduceEqDiff,Nat.reduceBEq,Nat.reduceLeDiff,Nat.reduceSub,Nat.reduceMul,Int.reduceEq,Int.reduceLT,Int.reduceLE,Int.reduceSub,Int.reduceAdd,Int.reduceToNat,reduceCtorEq,Int.reduceNeg,VR,List.drop_one,List.tail_cons]);apply z;refine sK λK3 u3=>?_;refine sQ Wt λK z=>?_;simp -implicitDefEqProofs only[EV,D8,Nat.reduceEqDiff,reduceCtorEq,zX];refine⟨E,Z,?_⟩;(try simp -implicitDefEqProofs only[EV,D8,M6,Mp,Nat.reduceAdd,Nat.reduceEqDiff,Nat.reduceBEq,Nat.reduceLeDiff,Nat.reduceSub,Nat.reduceMul,Int.reduceEq,Int.reduceLT,Int.reduceLE,Int.reduceSub,Int.reduceAdd,Int.reduceToNat,reduceCtorEq,Int.reduceNeg,zX]);apply z;by_cases I:s∈out;rw[A7 I]at J;refine eA (by simp[Aq,Ae,I]) (lA ?_);simp only[Aa,Af,Av];refine⟨(n,op,out),⟨O,λx hx=>hk x (by simp[hx]),?_,by simp only;omega,J⟩,by simp only;omega,sS,sB⟩;simp only[Tr,Bg]at V |-;omega
  .rw[A5 I]at J;refine dA (by simp[Aq,Ae,I]) (cA (u3 _ _ ?_));have a3:=yo (O.add U) I (op:=op);have W:(op++Hz (Gk p s)).length<=sm*(sm+1)+sm:=by
    have h1:(op++Hz (Gk p s)).length<=Tr p.decls.length (op++Hz (Gk p s)) (Rp out s):=by unfold Tr;omega
    have h2:p.decls.length*(p.decls.length+1)<=sm*(sm+1):=Nat.mul_le_mul hN (by omega);omega
   refine sQ Wt λK z=>?_;simp -implicitDefEqProofs only[EV,D8,Nat.reduceEqDiff,reduceCtorEq,CR];refine⟨E,Z,?_⟩;(try simp -implicitDefEqProofs only[EV,D8,M6,Mp,Nat.reduceAdd,Nat.reduceEqDiff,Nat.reduceBEq,Nat.reduceLeDiff,Nat.reduceSub,Nat.reduceMul,Int.reduceEq,Int.reduceLT,Int.reduceLE,Int.reduceSub,Int.reduceAdd,Int.reduceToNat,reduceCtorEq,Int.reduceNeg,CR]);apply z;(refine lV Wt λK z=>?_;refine cc (hc s) ?_;refine cc ((hs.win h (BA p s)).pub) ?_;refine⟨LD _,by rw[B5]at W;simp only[sm,lim]at*;omega,?_⟩;(try simp -implicitDefEqProofs only[EV,D8,M6,Mp,Nat.reduceAdd,Nat.reduceEqDiff,Nat.reduceBEq,Nat.reduceLeDiff,Nat.reduceSub,Nat.reduceMul,Int.reduceEq,Int.reduceLT,Int.reduceLE,Int.reduceSub,Int.reduceAdd,Int.reduceToNat,reduceCtorEq,Int.reduceNeg,VR]);apply z;try simp only[Aa,Af]);refine⟨(n,op++Hz (Gk p s),Rp out s),⟨O.add U,?_,by simp only;omega,by simp only;omega,J⟩,by simp only;omega,sS,by simp[ble,A9,G5j]⟩;intro x hx;rcases Bj.1 hx with hx|hx;exact hk x (by simp[hx]);exact(BA p s).T4 x (Vs.1 hx)
def QV{p:Prog}:∀(n:Nat) {op out:List A3},C8 p out->(∀s,s∈op->kindOf p s=1)->C8 p (RD p n op out)
 |0,_,_,h,_=>h
 |_+1,[],_,h,_=>h
 |n+1,s::op,out,h,E=>by simp only[RD];split;exact QV n h λx hx=>E x (by simp[hx]);refine QV n (h.add (E s (by simp))) λx hx=>?_;rcases Bj.1 hx with hx|hx;exact E x (by simp[hx]);exact(BA p s).T4 x (Vs.1 hx)
def F5g(p:Prog)(nm:A3):C8 p (T6 p nm):=QV _ (C8.nil p) λs hs=>(BA p nm).T4 s (Vs.1 hs)
def H4a{l:List A3}(h:l.Nodup):Iv (Hz l):=by have O:(Hz l).Nodup:=(WS l).nodup_iff.2 h;have L:(Hz l).Pairwise λa b=>decide (a<=b)=true:=List.pairwise_mergeSort (λa b c h k=>by simp only[Di]at*;exact List.le_trans h k) (λa b=>by simp only[U7,Di];exact List.le_total a b) l;refine(L.and O).imp ?_;rintro a b ⟨E,I⟩;simp only[Di]at E;exact Classical.byContradiction λJ=>I (List.le_antisymm E (List.not_lt.1 J))
def G6n(hs:OJ)(p:Prog)(h:p.Sm)(nm:A3):Ab Tryz.prog 224 [Cs p,Bo nm] (Ar (decide (nm∈T6 p nm))):=by
 have E:=G5i (Hz (T6 p nm)) nm (H4a (F5g p nm).nodup);have hd:decide (nm∈Hz (T6 p nm))=decide (nm∈T6 p nm):=by simp[Vs]
 rw[hd]at E;refine cB func224 ?_;refine sR [0,1,2,4,6] ?_;refine sV [0,1,2,4,6] λK z=>?_;refine cc (H3u hs p h nm) ?_;refine cc E ?_;apply z;refine sR [0,1,2,4,6] ?_;exact aR
end Go.iA
namespace Go.Proofs
open Go.RowKit Go.Maps Go.Sort Go.Shelf Tryz Go.iA
def G3r(m:Nat):AnyZ.SortsIn Tryz.prog Tryz.O4 Fence.wide m :=⟨λJ off cap ss W L E I=>callsIn_wide.2 (AnyM.slices_Sort_string Tryz.rf J off cap ss W L E I),λp cap W=>callsIn_wide.2 (AnyM.slices_Sort_string_none Tryz.rf p cap W)⟩
def ir(mb:Option Nat)(W:World):CallsIn Fence.wide 5 Tryz.prog 330 #[.map mb] W λe w'=>e=.returned (.func (.func 335) #[] #[.pointer (some ⟨W.heap.size,0,none⟩)])/\w'=W.alloc (.cells #[.map mb] 341) :=AnyZ.keys_in Tryz.eY Fence.wide 5 trivial rfl mb W
def H5v{H:Type}(b nn:Nat)(I:DataW H)(R:Value->Option (DataW H × List MemPlace))(w:World)(E:w.ownsMap Tryz.prog 9 R b nn I)(O:Maps.size I<=maxLen)(xI:Maps.size I*16<=140737488355328) :CallsIn Fence.wide 5 Tryz.prog 329 #[.func (.func 335) #[] #[.pointer (some ⟨w.heap.size,0,none⟩)]] (w.alloc (.cells #[.map (some b)] 341)) λe w'=>∃(v:Value) (ss:List (List UInt8)),e=.returned v/\ss.Perm (strKeys I) /\w'.ownsRow (w.alloc (.cells #[.map (some b)] 341)).heap.size 9 1 v ss.length ((ss.mergeSort (λx y=>decide (x<=y))).map encStr)/\(v=.slice none 0 0↔ss=[])/\Below (w.alloc (.cells #[.map (some b)] 341)).heap.size (w.alloc (.cells #[.map (some b)] 341)) w':=by
 have U:=E.lt;have L:SeqGives Fence.wide 2 Tryz.prog 335 #[.pointer (some ⟨w.heap.size,0,none⟩)] encStr (λss=>ss.Perm (strKeys I)) (Maps.size I) (w.alloc (.cells #[.map (some b)] 341)) :=AnyZ.keys_gives (ρ:=Tryz.p7) { Tryz.eY with } Fence.wide _ trivial rfl (by omega) w.heap.size b nn I _ (by simp) (by simp) (by obtain⟨es,J,Z,W,hs,V⟩:=E;exact⟨es,J,(Below.heap_alloc _ _ b U).trans Z,W,hs,V⟩)
 exact AnyZ.sorted_in Tryz.F8h Fence.wide 5 trivial trivial trivial trivial rfl (by omega) (G3r _) (enters_of func334 (by kernel_rfl) rfl) 335 #[.pointer (some ⟨w.heap.size,0,none⟩)] trivial (enters_of func335 (by kernel_rfl) rfl) _ _ O xI _ L
def pw{H:Type}(b nn:Nat)(O:DataW H)(R:Value->Option (DataW H × List MemPlace))(w:World)(J:w.ownsMap Tryz.prog 9 R b nn O)(L:Maps.size O<=maxLen)(xI:Maps.size O*16<=140737488355328) :Calls Tryz.prog 313 #[.map (some b)] w λe w'=>∃(v:Value) (ss:List (List UInt8)),e=.returned v/\ss.Perm (strKeys O) /\w'.ownsRow w.heap.size 9 1 v ss.length ((ss.mergeSort (λx y=>decide (x<=y))).map encStr)/\(v=.slice none 0 0↔ss=[])/\Below w.heap.size w w':=by
 refine(callsIn_wide (n:=6)).1 ?_;have U:Fence.wide.fn 330:=trivial;have V:Fence.wide.fn 329:=trivial;refine callsIn_of_wp func313 rfl trivial ?_ rfl;simp only[ntmps313,List.size_toArray,Bg,Ck,Nat.reduceAdd,Nat.reduceSub,Array.replicate_succ,Array.replicate_zero,List.push_toArray,List.append_toArray,Wv,Kn]
 gi_wp2_with (first
  |(gi_at_call 330;refine(ir _ _).mono ?_;rintro e w' ⟨rfl,rfl⟩)
  |(gi_at_call 329;refine(H5v b nn O R w J L xI).mono ?_;rintro e w' ⟨v,ss,rfl,W,E,I,Z⟩))
 go_ret
 exact⟨v,ss,rfl,W,ownsRow_base_a E (by simp),I,((Below.refl _ w).alloc (Bv _) _).trans (Z.mono (by simp))⟩
end Go.Proofs
namespace Go.iA
open Go Go.Proofs Tryz
def PM:Value->Option (DataW Unit × List MemPlace):=λ_=>some (.nil,[])
def kY{S:Nat->Prop}{w:World}:∀(l:List A3)(es:List MapEntry),es.length=l.length->(∀(i:Nat)(kv:D × D)(e:MapEntry),(Ix l)[i]?=some kv->es[i]?=some e->C5 S w kv.1 e.key) ->es.map (·.key)=l.map encStr/\∀s,s∈l->s.length<=lim
 |[],[],_,_=>by simp
 |[],_::_,h,_=>by simp at h
 |_::_,[],h,_=>by simp at h
 |s::l,e::es,h,J=>by
  have I:=kY l es (by simpa using h) (λi kv x V U=>J (i+1) kv x (by simpa [Ix]using V) (by simpa using U));have L:C5 S w (.str s) e.key:=J 0 (.str s,.bool true) e rfl rfl;generalize E:e.key=k at L;cases L with
  |str _ O =>
   refine⟨?_,?_⟩
   .simp only[Cj,E,I.1];rfl
   .intro x hx;rcases Ay.1 hx with rfl|hx
    .exact O
    .exact I.2 x hx
def H4y(E:List (Lit × DataW Unit)):(strKeys (.map (E.foldr DataW.insert []))).Perm (E.map λp=>strOf p.1) :=(Go.WideShapes.sorted_perm E).map _
def pa{α β:Type}{f:α->β}(E:∀a b,f a=f b->a=b):∀{l m:List α},l.map f=m.map f->l=m
 |[],[],_=>rfl
 |[],_::_,h=>by simp at h
 |_::_,[],h=>by simp at h
 |a::l,b::m,h=>by simp only[Cj,Ya]at h;rw[E a b h.1,pa E h.2]
def cz{S:Nat->Prop}{w:World}{l:List A3}(hn:l.Nodup)(hl:l.length<=sm){v:Value}(h:C5 S w (.map (Ix l)) v) :∃b D0,v=.map (some b)/\w.ownsMap Tryz.prog 9 PM b l.length D0/\Go.Maps.size D0=l.length/\(strKeys D0).Perm l:=by
 cases h with
 |map _ r es I hr hh hs h1 h2 =>
  have E:es.size=l.length:=by rw[hs.1];simp[Ix]
  obtain⟨hk,L⟩:=kY l es.toList (by simpa using E) (λi kv e a0 Z=>h1 i kv e a0 (by simpa using Z));have hu:Tryz.prog.underlying 9=some .string:=xN.2.2.2.2.1;have O:∀x,x∈es.toList->∃s,s∈l/\x.key=encStr s/\Go.WideElems.rd Tryz.prog 9 PM x=some (.string s,.nil):=by
   intro x U;have:x.key∈l.map encStr:=by rw[<-hk];exact List.mem_map_of_mem U
   obtain⟨s,W,V⟩:=Ap.1 this;refine⟨s,W,V.symm,?_⟩;have a1:=L s W;have hm:s.length<=maxLen:=Cy a1 (by decide);simp[Go.WideElems.rd,<-V,encStr,keyOf,hu,mapKey,ByteArray.size,hm,PM]
  refine⟨r,_,rfl,⟨es,I,hh,⟨by rw[E];exact Cy hl (by decide),⟨hs.2.1,hs.2.2,?_⟩,λx U=>?_⟩,Nat.le_of_eq E,rfl⟩,?_,?_⟩;rw[hk];exact List.Pairwise.map _ (λa b J Z=>J (encStr_inj Z)) hn;obtain⟨s,_,_,h3⟩:=O x U;exact⟨_,h3⟩;show(List.foldr DataW.insert [] _).length=_;rw[(Go.WideShapes.sorted_perm _).length_eq];simpa using E
  .refine(H4y _).trans ?_;rw[Dn];have:es.toList.map ((λp:Lit × DataW Unit=>strOf p.1) ∘ Go.WideElems.rg Tryz.prog 9 PM)=l:=by apply pa (f:=encStr) (λa b J=>encStr_inj J);rw[Dn,<-hk];apply Hb;intro x U;obtain⟨s,_,h2,h3⟩:=O x U;simp[Function.comp,Go.WideElems.rg,h3,strOf,h2]
   rw[this]
def QX:OJ:=by
 intro l hn hl a2;refine⟨Enters.of func313 rfl (by decide),?_⟩;intro C β vs hi W;have aa:=W.2;have Z:=W.1
 match vs,Z with
 |[v],_ =>
 have hr:=(aa 0 _ v rfl rfl).Js;obtain⟨b,D0,rfl,a1,ad,J⟩:=cz hn hl hr;have hs:Go.Maps.size D0<=sm:=by omega
 refine(pw b l.length D0 PM C.w0 a1 (Cy hs (by decide)) (by unfold sm at hs;omega)).mono ?_;rintro e w' ⟨v,ss,rfl,hS,E,ac,O⟩;have a7:ss.mergeSort (λx y=>decide (x<=y))=Hz l:=mergeSort_of_perm (hS.trans J);rw[a7]at E;have af:ss.length=l.length:=(hS.trans J).length_eq;obtain⟨h1,h2⟩:=E;have a6:(Bq (Hz l)).length=l.length:=by simp[Bq,ON]
 have I:∀row,row∈Bq (Hz l)->row.length=1:=by intro row E;simp only[Bq,Ap]at E;obtain⟨s,_,rfl⟩:=E;rfl
 have U:∀row,row∈Bq (Hz l)->∀d,d∈row->d.one=true:=by intro row E d hd;simp only[Bq,Ap]at E;obtain⟨s,_,rfl⟩:=E;simp at hd;subst hd;rfl
 have a5:(Bq (Hz l)).length<=lim:=by rw[a6];exact Cy hl (by decide)
 rcases h2 with⟨rfl,h3⟩|⟨g,cap,a0,rfl,a9,hg,a4,ae,ab,a'⟩
 .obtain⟨p1,_⟩:=hi.Vj (k:=0) (w':=w') (c:=.rows 1 (Bq (Hz l))) { base:=none,sz:=1 } (by decide) (by simp) (λb L _=>O.block b L) O.os O.tape O.output O.size (λ_ =>
   ⟨rfl,by simp only;omega,by simp,a5,I,U,rfl⟩)
  refine⟨_,_,_,rfl,p1.sub (by simp),?_⟩;have:=An.acc (S:=C.S0) (w:=w') (β:=F4 β 0 { base:=none,sz:=1 }) 0;rw[Ht]at this;exact this
 .have a8:g<w'.heap.size:=(U6.1 hg).1;obtain⟨p1,_⟩:=hi.Vj (k:=0) (w':=w') (c:=.rows 1 (Bq (Hz l))) { base:=some g,len:=ss.length,cap:=cap,sz:=1 } (by decide) (by
    intro b L;cases L;exact⟨λh=>by have:=hi.C9 _ h;omega,a8,.inl a9⟩) (λb L _=>O.block b L) O.os O.tape O.output O.size (λ_=>by
   refine⟨rfl,by simp only;omega,a4,a5,I,U,9,a0.toList,hg,by simp[ab],?_⟩;intro r j row d v hr hd W;have hj:j=0:=by have:=I row (Bs hr);have:=(Az.1 hd).1;omega
   subst hj;simp only[Bq,Df,Jn]at hr;obtain⟨s,V,rfl⟩:=hr;simp only[Rh,B8]at hd;subst hd;simp only[Kf,Nat.mul_one,Nd]at W;have a3:=(Az.1 V).1;rw[ON]at a3;have h4:(a0.toList.take (ss.length*1))[r]?=some v:=by rw[uN (by omega)];exact W
   rw[a',Df,V]at h4;simp only[Em,B8]at h4;subst h4;exact .str s (a2 s (Vs.1 (Bs V))))
  refine⟨_,_,_,rfl,p1.sub (by simp),?_⟩;have:=An.acc (S:=C.S0) (w:=w') (β:=F4 β 0 { base:=some g,len:=ss.length,cap:=cap,sz:=1 }) 0;rw[Ht]at this;simpa using this
mutual
def Ty.strs(p:Prog):Ty->List A3
 |.mk n a _=>if kindOf p n=1 then n::zA p a else[]
def zA(p:Prog):List Ty->List A3
 |[]=>[]
 |t::E=>t.strs p++zA p E
end
mutual
theorem AY{p:Prog}{x:A3}:∀(t:Ty) {l:List A3},x∈t.structs p l↔x∈l\/x∈t.strs p
 |.mk n a q,l=>by simp only[Ty.structs,Ty.strs];split;rw[QY a,CT,Ay,or_comm (a:=x=n),or_assoc];simp
theorem QY{p:Prog}{x:A3}:∀(E:List Ty) {l:List A3},x∈Ty.Ps p E l↔x∈l\/x∈zA p E
 |[],l=>by simp[Ty.Ps,zA]
 |t::E,l=>by simp only[Ty.Ps,zA];rw[QY E,AY t,Bj,or_assoc]
end
mutual
theorem mn{p:Prog}{x:A3}:∀(t:Ty) {l:List A3},x∈t.nF p l↔x∈l\/x∈t.strs p
 |.mk n a q,l=>by simp only[Ty.nF,Ty.strs];split;rw[j5 a,aD,Ay,or_comm (a:=x=n),or_assoc];simp
theorem j5{p:Prog}{x:A3}:∀(E:List Ty) {l:List A3},x∈EA p E l↔x∈l\/x∈zA p E
 |[],l=>by simp[EA,zA]
 |t::E,l=>by simp only[EA,zA];rw[j5 E,mn t,Bj,or_assoc]
end
def W3(p:Prog)(fs:List Param):List A3:=fs.flatMap λf=>f.type.strs p
def nj{p:Prog}{x:A3}:∀(fs:List Param) {l:List A3},x∈KF p fs l↔x∈l\/x∈W3 p fs
 |[],l=>by simp[KF,W3]
 |f::fs,l=>by simp only[KF];rw[nj fs,mn f.type];unfold W3;rw[Ww,Bj,or_assoc]
def bZ{p:Prog}{x:A3}:∀(fs:List Param) {l:List A3},x∈Tw p fs l↔x∈l\/x∈W3 p fs
 |[],l=>by simp[Tw,W3]
 |f::fs,l=>by simp only[Tw];rw[bZ fs,AY f.type];unfold W3;rw[Ww,Bj,or_assoc]
def fieldsOf(p:Prog)(nm:A3):List Param:=match p.decls.find? (λd=>d.E5 nm)with
 |some d=>if d.kind=1 then d.fields else[]
 |none=>[]
def pD{d:Decl}{nm:A3}:d.E5 nm=true↔(d.kind=1\/d.kind=2)/\d.name=nm:=by simp[Decl.E5]
def HU{p:Prog}{nm:A3}(h:¬kindOf p nm=1):∀ds,Mf p nm ds=[]
 |[]=>rfl
 |d::ds=>by simp only[Mf];rw[A5 (by simp[h]),HU h ds]
def eb{p:Prog}{nm:A3}(h:kindOf p nm=1):∀(ds:List Decl)(d:Decl),ds.find? (λd=>d.E5 nm)=some d->d.kind=1->Mf p nm ds=d.fields
 |[],d,hd,_=>by simp at hd
 |e::ds,d,hd,I=>by simp only[Y6]at hd;simp only[Mf];split at hd;rename_i E;simp only[B8]at hd;subst hd;rw[A7 ⟨I,(pD.1 E).2,h⟩];rename_i E;rw[A5 (by rintro⟨J,L,_⟩;exact absurd (pD.2 ⟨.inl J,L⟩) (by simp[E])),eb h ds d hd I]
def F9g(p:Prog)(nm:A3):Mf p nm p.decls=fieldsOf p nm:=by
 unfold fieldsOf;cases E:p.decls.find? (λd=>d.E5 nm)with
 |none=>exact HU (by simp[kindOf,E]) _
 |some d =>
  simp only;split;rename_i I;exact eb (by simp[kindOf,E,I]) _ d E I;rename_i I;exact HU (by simp[kindOf,E,I]) _
def cO{p:Prog}{nm x:A3}:x∈Gk p nm↔x∈W3 p (fieldsOf p nm):=by unfold Gk;rw[nj,F9g];simp
def iQ{p:Prog}{nm x:A3}{acc:List A3}:x∈M7 p nm acc↔x∈acc\/x∈Gk p nm:=by
 rw[cO];unfold M7 fieldsOf;cases p.decls.find? (λd=>d.E5 nm)with
 |none=>simp[W3]
 |some d =>simp only;split;exact bZ _;simp[W3]
def fp{s:A3}:∀{l:List A3},Iv l->s∉l->Iv (ins s l)
 |[],_,_=>by simp[ins,Iv]
 |x::l,h,hs=>by obtain⟨I,L⟩:=Tm.1 h;simp only[ins];split;rename_i E;refine Tm.2 ⟨?_,h⟩;intro y hy;rcases Ay.1 hy with rfl|hy;exact XK.1 E;exact uO (XK.1 E) (I y hy);rename_i E;rw[XK]at E;refine Tm.2 ⟨?_,fp L λO=>hs (by simp[O])⟩;intro y hy;rcases NU.1 hy with rfl|hy;exact Classical.byContradiction λJ=>hs (by rw[F5w E J];simp);exact I y hy
def H0z{s:A3}{l:List A3}(h:Iv l):Iv (Te l s):=by unfold Te;split;exact h;exact fp h (by assumption)
mutual
theorem ym{p:Prog}:∀(t:Ty) {l:List A3},Iv l->Iv (t.structs p l)
 |.mk n a q,l,h=>by simp only[Ty.structs];split;exact ia a (H0z h);exact h
theorem ia{p:Prog}:∀(E:List Ty) {l:List A3},Iv l->Iv (Ty.Ps p E l)
 |[],_,h=>h
 |t::E,_,h=>ia E (ym t h)
end
def Ul{p:Prog}:∀(fs:List Param) {l:List A3},Iv l->Iv (Tw p fs l)
 |[],_,h=>h
 |t::E,_,h=>Ul E (ym t.type h)
def nT{p:Prog}{nm:A3}{l:List A3}(h:Iv l):Iv (M7 p nm l):=by unfold M7;split;split;exact Ul _ h;exact h;exact h
def G4m:Iv []:=List.Pairwise.nil
def H0n{l m:List A3}(I:Iv l)(J:Iv m)(h:∀x,x∈l↔x∈m):l=m:=by have nd:∀{l:List A3},Iv l->l.Nodup:=λ{l} h=>List.Pairwise.imp (R:=λa b=>a<b) (S:=λa b=>a≠b) (λ{a b} E O=>lP a (by rw[<-O]at E;exact E)) h;refine List.Perm.eq_of_pairwise (le:=λa b=>a<b) (λa b _ _ U L=>absurd (uO U L) (lP a)) I J ?_;exact(List.perm_ext_iff_of_nodup (nd I) (nd J)).2 h
inductive Way(p:Prog)(nm:A3):A3->Prop where
 |one {x:A3}:x∈Gk p nm->Way p nm x
 |more {y x:A3}:Way p nm y->x∈Gk p y->Way p nm x
def Way.trans{p:Prog}{a b c:A3}(h:Way p a b)(k:Way p b c):Way p a c:=by
 induction k with
 |one E=>exact .more h E
 |more _ E I=>exact .more I E
def Way.T4{p:Prog}{a b:A3}(h:Way p a b):kindOf p b=1:=by
 cases h with
 |one h=>exact(BA p a).T4 b h
 |more _ h=>exact(BA p _).T4 b h
def gR(p:Prog)(l:List A3):Prop:=∀y,y∈l->∀x,x∈Gk p y->x∈l
def Way.mem{p:Prog}{nm x:A3}{l:List A3}(h:Way p nm x)(L:∀x,x∈Gk p nm->x∈l)(E:gR p l):x∈l:=by
 induction h with
 |one h=>exact L _ h
 |more _ J I=>exact E _ I _ J
def G0r{l m:List A3}(L:l.Nodup)(hs:∀x,x∈l->x∈m)(E:m.length<=l.length):∀x,x∈m->x∈l:=by
 intro x J;refine Classical.byContradiction λI=>?_;have:=HK (l:=x::l) (m:=m) (Vm.2 ⟨I,L⟩) λy hy=>by rcases Ay.1 hy with rfl|hy;exact J;exact hs y hy
 simp only[Bg]at this;omega
def qY{p:Prog}:∀(is:List Nat) {l:List A3},Iv l->Iv (Pe p is l)
 |[],_,h=>h
 |_::is,_,h=>qY is (nT h)
def yd{p:Prog}{nm:A3}:∀(is:List Nat) {l:List A3},(∀i,i∈is->i<l.length)->(∀x,x∈l->Way p nm x)->C8 p l->∀x,x∈Pe p is l->Way p nm x
 |[],_,_,h,_=>h
 |i::is,l,I,h,J=>by have E:=I i (by simp);refine yd is (λk L=>X0 (I k (by simp[L])) (LR _ J)) ?_ (J.cont _);intro x hx;rcases iQ.1 hx with hx|hx;exact h x hx;rw[Bu E,Dx]at hx;exact .more (h _ (Gc E)) hx
def vi{p:Prog}:∀(is:List Nat) {l:List A3},Iv l->C8 p l->(Pe p is l).length=l.length->Pe p is l=l/\∀i,i∈is->∀y,l[i]?=some y->∀x,x∈Gk p y->x∈l
 |[],l,_,_,_=>⟨rfl,by simp⟩
 |i::is,l,L,J,I=>by
  simp only[Pe]at I |-;have h1:=LR (l[i]?.getD []) J;have Z:=CV is (J.cont (l[i]?.getD []));have E:M7 p (l[i]?.getD []) l=l:=H0n (nT L) L λx=>⟨G0r J.nodup (λ_=>YO) (by omega) x,λh=>YO h⟩;rw[E]at I |-;obtain⟨V,W⟩:=vi is L J I;refine⟨V,?_⟩;intro k hk y O x U;rcases Ay.1 hk with rfl|hk
  rw[O,Dx]at E;rw[<-E];exact iQ.2 (.inr U);exact W k hk y O x U
def Og{p:Prog}{nm:A3}:∀(k:Nat)(n:Int)(l:List A3),Iv l->C8 p l->(∀x,x∈l->Way p nm x)->(n=l.length->gR p l)->p.decls.length+2<=k+l.length->(p.decls.length+1<=k+l.length\/n=l.length) ->Iv (Zg p k n l)/\gR p (Zg p k n l)/\(∀x,x∈l->x∈Zg p k n l)/\∀x,x∈Zg p k n l->Way p nm x
 |0,n,l,L,I,E,Z,hk,_=>by have:=I.len;omega
 |k+1,n,l,L,I,E,Z,hk,a1=>by
  simp only[Zg];split
  .exact⟨L,Z (by assumption),λ_ h=>h,E⟩
  .rename_i a2;have O:C8 p (Pe p (List.range' 0 l.length) l):=C8.round _ I;have a0:=CV (List.range' 0 l.length) I;by_cases J:(Pe p (List.range' 0 l.length) l).length=l.length
   .obtain⟨g1,g2⟩:=vi _ L I J;have V:gR p l:=by
     intro y hy x E;obtain⟨i,U⟩:=Re.1 hy;exact g2 i (by simp only[List.mem_range'_1];have:=(Az.1 U).1;omega) y U x E
    rw[g1];have W:=I.len;cases k with
    |zero=>omega
    |succ k=>simp only[Zg,Av];exact⟨L,V,λ_ h=>h,E⟩
   .have W:=O.len;obtain⟨q1,q2,q3,q4⟩:=Og k l.length (Pe p (List.range' 0 l.length) l) (qY _ L) O (yd _ (λi U=>by simp only[List.mem_range'_1]at U;omega) E I) (λh=>by omega) (by omega) (by omega);exact⟨q1,q2,λx E=>q3 x (ZU _ E),q4⟩
def GM(p:Prog)(hp:p.decls.length<=100000)(nm:A3):Iv (N9 p nm)/\∀x,x∈N9 p nm↔Way p nm x:=by obtain⟨O,I,J,E⟩:=Og (p:=p) (nm:=nm) 100003 (-1) (M7 p nm []) (nT G4m) ((C8.nil p).cont nm) (λx U=>.one (by simpa using iQ.1 U)) (λh=>by omega) (by omega) (by omega);exact⟨O,λx=>⟨E x,λh=>h.mem (λy L=>J y (iQ.2 (.inr L))) I⟩⟩
def jT{p:Prog}{nm:A3}:∀(n:Nat)(op out:List A3),C8 p out->(∀s,s∈op->kindOf p s=1)->Tr p.decls.length op out<=n->(∀x,x∈op->Way p nm x)->(∀x,x∈out->Way p nm x) ->(∀y,y∈out->∀x,x∈Gk p y->x∈out\/x∈op)->(∀x,x∈Gk p nm->x∈out\/x∈op)->∀x,x∈RD p n op out↔Way p nm x
 |0,[],out,U,V,E,W,L,O,J=>λx=>⟨L x,λh=>h.mem (l:=out) (λy hy=>by simpa using J y hy) (λy hy x hx=>by simpa using O y hy x hx)⟩
 |0,s::op,out,U,V,E,W,L,O,J=>by simp[Tr]at E
 |n+1,[],out,U,V,E,W,L,O,J=>λx=>⟨L x,λh=>h.mem (l:=out) (λy hy=>by simpa using J y hy) (λy hy x hx=>by simpa using O y hy x hx)⟩
 |n+1,s::op,out,U,V,E,W,L,O,J=>by
  simp only[RD];split
  .rename_i I;refine jT n op out U (λx hx=>V x (by simp[hx])) (by simp only[Tr,Bg]at*;omega) (λx hx=>W x (by simp[hx])) L ?_ ?_
   .intro y hy x hx;rcases O y hy x hx with h|h
    .exact .inl h
    .rcases Ay.1 h with rfl|h
     .exact .inl I
     .exact .inr h
   .intro x hx;rcases J x hx with h|h
    .exact .inl h
    .rcases Ay.1 h with rfl|h
     .exact .inl I
     .exact .inr h
  .rename_i I;have Z:=V s (by simp);have a0:=yo (U.add Z) I (op:=op);have hs:=W s (by simp);refine jT n _ _ (U.add Z) ?_ (by omega) ?_ ?_ ?_ ?_
   .intro x hx;rcases Bj.1 hx with hx|hx
    .exact V x (by simp[hx])
    .exact(BA p s).T4 x (Vs.1 hx)
   .intro x hx;rcases Bj.1 hx with hx|hx
    .exact W x (by simp[hx])
    .exact .more hs (Vs.1 hx)
   .intro x hx;rcases aD.1 hx with rfl|hx
    .exact hs
    .exact L x hx
   .intro y hy x hx;rcases aD.1 hy with rfl|hy
    .exact .inr (Bj.2 (.inr (Vs.2 hx)))
    .rcases O y hy x hx with h|h
     .exact .inl (aD.2 (.inr h))
     .rcases Ay.1 h with rfl|h
      .exact .inl (aD.2 (.inl rfl))
      .exact .inr (Bj.2 (.inl h))
   .intro x hx;rcases J x hx with h|h
    .exact .inl (aD.2 (.inr h))
    .rcases Ay.1 h with rfl|h
     .exact .inl (aD.2 (.inl rfl))
     .exact .inr (Bj.2 (.inl h))
def F6c(p:Prog)(nm:A3):∀x,x∈T6 p nm↔Way p nm x :=jT _ _ _ (C8.nil p) (λs hs=>(BA p nm).T4 s (Vs.1 hs)) (Bv _) (λx E=>.one (Vs.1 E)) (by simp) (by simp) (λx E=>.inr (Vs.2 E))
def H0i(p:Prog)(hp:p.decls.length<=100000)(nm:A3):decide (nm∈T6 p nm)=decide (nm∈N9 p nm):=by rw[decide_eq_decide,F6c,(GM p hp nm).2]
end Go.iA
