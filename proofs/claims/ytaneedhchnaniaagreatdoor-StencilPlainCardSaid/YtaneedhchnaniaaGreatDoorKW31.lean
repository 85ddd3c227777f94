/- slices.Contains of strings, ContainsFunc with closures kept as data; declare.when, first, each -/
import Derived.Test.YtaneedhchnaniaaGreatDoorKP36
namespace Go.Abs
set_option linter.all false
open Go Go.Proofs Tryz
set_option maxRecDepth 100000
set_option maxHeartbeats 4000000
theorem D3e {α:Type} (p:α→Bool)(l:List α):decide (Dy p l ≥ 0)=l.any p:=by
 unfold Dy;cases h:l.findIdx? p with
 |none =>rw [An2] at h;simp only;rw [Ci (by decide)];symm;rw [List.any_eq_false];intro x J;rw [h x J];decide
 |some i =>obtain⟨E,I,_⟩:=Ah8.1 h;simp only;rw [Bn (by omega)];symm;rw [List.any_eq_true];exact⟨_,F7 E,I⟩
abbrev Z6:List Nat:=[0,1,4,5,7,8,9,16]
theorem E7z (f:FuncId)(ys:List D)(p:Decl→Bool)(l:List Decl)(U:l.length≤sm)(hs:∀t,t∈l→W5 prog (.cl f ys) [Iy t] (.d (.bool (p t)))) :
  Ac prog 181 [.d (.slice (Bu l)),.d (.cl f ys)] (A9 (Dy p l)):=by
 refine cB func181 ?_;refine sR Z6 ?_;refine kR Z6 fun W u1=>?_;refine A0.bb (A0.ii l (X:=Unit) (fun j _=>[(0,.d (.slice (Bu l))),(1,.d (.cl f ys)),(7,A9 l.length),(8,A9 j)]) (fun _ _=>[])
  (fun j _=>∀y,y∈l.take j→p y=false) () (by simp) sS sB ?_ ?_)
 ·intro _ E;rw [Cs] at E;refine Ah B4 Z6 ?_;refine A0.stop rfl ?_;simp only [A4,Aa,Af];refine u1 _ _ ?_;refine sR Z6 ?_;rw [Th E];exact aR
 ·intro j _ x hd I V O L E;refine Ah L Z6 ?_;refine A0.E5 rfl ?_;refine sK fun R u2=>?_;refine A0.bb ?_;refine sR Z6 ?_
  (refine sV Z6 fun K z=>?_;refine ci (E2 hd) ?_;refine⟨_,Zx rfl (hs x I) rfl,?_⟩;(try refine ev ?_);apply z;clear z K)
  refine A0.cond rfl (fun J=>?_) (fun J=>?_)
  ·refine sR Z6 ?_;rw [Uj hd J E];exact aR
  ·refine A0.kk (u2 _ _ ?_);clear u2 R;refine lT Z6 ?_;refine⟨(),?_,sS,sB⟩;rw [O];intro y hy;rcases Bw.1 hy with hy| hy
   ·exact E y hy
   ·simp only [As,Dt,Du] at hy;rw [hy];exact J
theorem F2i (f:FuncId)(ys:List D)(p:Decl→Bool)(l:List Decl)(E:l.length≤sm)(hs:∀t,t∈l→W5 prog (.cl f ys) [Iy t] (.d (.bool (p t)))) :
  Ac prog 105 [.d (.slice (Bu l)),.d (.cl f ys)] (B0 (l.any p)):=by
 have I:=E7z f ys p l E hs;rw [←D3e];generalize Dy p l=k at *;refine cB func105 ?_;refine sR [0,1,4] ?_;refine sC I [0,1,4] ?_;exact aR
abbrev Y9:List Nat:=[0,1,4,5,7,8,9,16]
theorem F1z (f:FuncId)(ys:List D)(p:A5→Bool)(l:List A5)(U:l.length≤sm)(hs:∀t,t∈l→W5 prog (.cl f ys) [Cx t] (.d (.bool (p t)))) :
  Ac prog 182 [.d (.slice (B9 l)),.d (.cl f ys)] (A9 (Dy p l)):=by
 refine cB func182 ?_;refine sR Y9 ?_;refine kR Y9 fun W u1=>?_;refine A0.bb (A0.ii l (X:=Unit) (fun j _=>[(0,.d (.slice (B9 l))),(1,.d (.cl f ys)),(7,A9 l.length),(8,A9 j)]) (fun _ _=>[])
  (fun j _=>∀y,y∈l.take j→p y=false) () (by simp) sS sB ?_ ?_)
 ·intro _ E;rw [Cs] at E;refine Ah B4 Y9 ?_;refine A0.stop rfl ?_;simp only [A4,Aa,Af];refine u1 _ _ ?_;refine sR Y9 ?_;rw [Th E];exact aR
 ·intro j _ x hd I V O L E;refine Ah L Y9 ?_;refine A0.E5 rfl ?_;refine sK fun R u2=>?_;refine A0.bb ?_;refine sR Y9 ?_
  (refine sV Y9 fun K z=>?_;refine ci (E1 hd) ?_;refine⟨_,Zx rfl (hs x I) rfl,?_⟩;(try refine ev ?_);apply z;clear z K)
  refine A0.cond rfl (fun J=>?_) (fun J=>?_)
  ·refine sR Y9 ?_;rw [Uj hd J E];exact aR
  ·refine A0.kk (u2 _ _ ?_);clear u2 R;refine lT Y9 ?_;refine⟨(),?_,sS,sB⟩;rw [O];intro y hy;rcases Bw.1 hy with hy| hy
   ·exact E y hy
   ·simp only [As,Dt,Du] at hy;rw [hy];exact J
theorem F3t (f:FuncId)(ys:List D)(p:A5→Bool)(l:List A5)(E:l.length≤sm)(hs:∀t,t∈l→W5 prog (.cl f ys) [Cx t] (.d (.bool (p t)))) :
  Ac prog 107 [.d (.slice (B9 l)),.d (.cl f ys)] (B0 (l.any p)):=by
 have I:=F1z f ys p l E hs;rw [←D3e];generalize Dy p l=k at *;refine cB func107 ?_;refine sR [0,1,4] ?_;refine sC I [0,1,4] ?_;exact aR
def I4 (g:Ex→Bool)(l:List Ex):Bool:=l.all g
theorem A6y (g:Ex→Bool)(l m:List Ex):I4 g (l++m)=(I4 g l && I4 g m):=by simp [I4]
theorem D1k (e:Ex):Cr [e]=Bb e:=by rw [Cr,Cr,Ge]
def Ib (g:Ex→Bool)(j:Nat)(l:List Ex):Option Nat:=if I4 g l=true then some (j+l.length) else none
structure Q0 (g:Ex→Bool)(Y:Hj)(j:Nat)(l:List Ex):Prop where
 P:Y.P=prog
 N:j+l.length≤Y.N
 at_:∀i e,l[i]? = some e→Y.xs (j+i)=Di e∧Y.go (j+i)=g e
theorem Q0.left {g:Ex→Bool} {Y:Hj} {j:Nat} {l m:List Ex} (h:Q0 g Y j (l++m)):Q0 g Y j l where
 P:=h.P
 N:=by have:=h.N;rw [B3] at this;omega
 at_:=fun i e E=>h.at_ i e (by rw [J6 (Ay.1 E).1];exact E)
theorem Q0.right {g:Ex→Bool} {Y:Hj} {j:Nat} {l m:List Ex} (h:Q0 g Y j (l++m)):Q0 g Y (j+l.length) m where
 P:=h.P
 N:=by have:=h.N;rw [B3] at this;omega
 at_:=fun i e E=>by have:=h.at_ (l.length+i) e (by rw [Jh (by omega)];simpa using E);rw [Mh];exact this
abbrev X5:List Nat:=[0,1,4,5,7,8,9,16,1000000]
theorem E6y (g:Ex→Bool)(f:FuncId)(caps:List SV)(U:∀x:Ex,Gy [] (Di x::caps)=some (Di x::caps))(Y:Hj)(l:List Ex)(hl:l.length≤lim)(R:Nat)(I:Q0 g Y R (Cr l))
  (hc:∀e,e∈l→∀j,Q0 g Y j (Bb e)→Cd prog f (Di e::caps) [(1000000,.ghost Y (some j))] (B0 (!I4 g (Bb e))) [(1000000,.ghost Y (Ib g j (Bb e)))]) :
  Cd prog 241 [.d (.slice (Db l)),.Bf f caps] [(1000000,.ghost Y (some R))] (A9 (Dy (fun e=>!I4 g (Bb e)) l)) [(1000000,.ghost Y (Ib g R (Cr l)))]:=by
 refine bB func241 ?_;refine sR X5 ?_;refine kR X5 fun K1 u1=>?_;refine A0.bb (A0.ii l (X:=Unit) (fun j _=>[(0,.d (.slice (Db l))),(1,.Bf f caps),(7,A9 l.length),(8,A9 j)]) (fun j _=>[(1000000,.ghost Y (some (R+(Cr (l.take j)).length)))])
  (fun j _=>I4 g (Cr (l.take j))=true∧∀y,y∈l.take j→(!I4 g (Bb y))=false) () (by simp [Cr,I4]) sS (by simp [ble,A7,Cr]) ?_ ?_)
 ·intro _ L;rw [Cs] at L ⊢;refine Ah B4 X5 ?_;refine A0.stop rfl ?_;simp only [A4,Aa,Af];refine u1 _ _ ?_;refine sR X5 ?_;rw [Th L.2];unfold Ib;rw [A8 L.1];exact A0.ret ⟨_,by rw [results241];rfl,.inr rfl,by simp [ble,A7]⟩
 ·intro j _ d hd V dp tk Z L;have W:Q0 g Y (R+(Cr (l.take j)).length) (Bb d):=by
   have J:l=l.take j++(d::l.drop (j+1)):=by rw [←dp,Sw]
   rw [J,Zq,Cr] at I;exact I.right.left
  have E:=hc d V _ W;refine Ah Z X5 ?_;refine A0.E5 rfl ?_;refine sK fun K2 u2=>?_;refine A0.bb ?_;refine sR X5 ?_;cases O:I4 g (Bb d) with
  |true =>
   unfold Ib at E;rw [O,A8 rfl] at E
   (refine A0.F6 X5 [700016] (by decide +kernel) fun K z=>?_;refine ev ?_;refine ci (Ed hd) ?_;refine⟨_,_,_,U d,E,rfl,?_⟩;(try refine ev ?_);apply z;clear z K)
   refine A0.ff rfl (A0.kk (u2 _ _ ?_));clear u2 K2
   (refine lV X5 fun K z=>?_;refine⟨by first| (unfold B7;omega)| (simp only [B7,lim] at *;omega),?_⟩;(try refine ev ?_);apply z;clear z K;try simp only [A4,])
   refine⟨(),?_,sS,?_⟩
   ·rw [tk,Zq,A6y,L.1,D1k,O];refine⟨rfl,fun y hy=>?_⟩;rcases Bw.1 hy with hy| hy
    ·exact L.2 y hy
    ·rw [Qt.1 hy,O];rfl
   ·rw [tk,Zq,D1k,B3,←Mh];simp [ble,A7]
  |false =>
   unfold Ib at E;rw [O,A6 (by decide)] at E
   (refine A0.F6 X5 [700016] (by decide +kernel) fun K z=>?_;refine ev ?_;refine ci (Ed hd) ?_;refine⟨_,_,_,U d,E,rfl,?_⟩;(try refine ev ?_);apply z;clear z K)
   refine A0.tt rfl ?_;refine sR X5 ?_;rw [Uj hd (by rw [O];rfl) L.2];have J:l=l.take j++(d::l.drop (j+1)):=by rw [←dp,Sw]
   have a0:Ib g R (Cr l)=none:=by unfold Ib;rw [A6];rw [J,Zq,Cr,A6y,A6y,O];simp
   rw [a0];exact A0.ret ⟨_,by rw [results241];rfl,.inr rfl,by simp [ble,A7]⟩
theorem E8g (g:Ex→Bool)(l:List Ex):decide (Dy (fun e=>!I4 g (Bb e)) l ≥ 0) = !I4 g (Cr l):=by
 have J:∀l:List Ex,(∀x,x∈l→I4 g (Bb x)=true)→I4 g (Cr l)=true:=by
  intro l
  induction l with
  |nil=>intro _;simp [Cr,I4]
  |cons e l L =>intro h;rw [Cr,A6y,h e (by simp),L fun x I=>h x (by simp [I])];rfl
 unfold Dy;cases h:l.findIdx? (fun e=>!I4 g (Bb e)) with
 |none =>
  have O:∀x,x∈l→I4 g (Bb x)=true:=by simpa [An2] using h
  rw [J l O];rfl
 |some j =>
  obtain⟨U,E,_⟩:=Ah8.1 h;have hd:l=l.take j++(l[j]::l.drop (j+1)):=by rw [List.getElem_cons_drop,Sw]
  have R:I4 g (Bb l[j])=false:=by simpa using E
  rw [hd,Zq,Cr,A6y,A6y,R];simp
theorem G2w (g:Ex→Bool)(f:FuncId)(caps:List SV)(L:Gy [] caps=some caps)(J:∀x:Ex,Gy [] (Di x::caps)=some (Di x::caps))(Y:Hj)(l:List Ex)(O:l.length≤lim)(E:Nat)(I:Q0 g Y E (Cr l))
  (R:∀e,e∈l→∀j,Q0 g Y j (Bb e)→Cd prog f (Di e::caps) [(1000000,.ghost Y (some j))] (B0 (!I4 g (Bb e))) [(1000000,.ghost Y (Ib g j (Bb e)))]) :
  Cd prog 180 [.d (.slice (Db l)),.Bf f caps] [(1000000,.ghost Y (some E))] (B0 (!I4 g (Cr l))) [(1000000,.ghost Y (Ib g E (Cr l)))]:=by
 have h:=E6y g f caps J Y l O E I R;rw [←E8g g];generalize Dy (fun e=>!I4 g (Bb e)) l=k at *;generalize Ib g E (Cr l)=st at *;refine bB func180 ?_;refine sR [0,1,4,1000000] ?_
 (refine A0.F6 [0,1,4,1000000] [700007] (by decide +kernel) fun K z=>?_;refine ev ?_;refine⟨_,_,_,(by rw [L]),h,rfl,?_⟩;(try refine ev ?_);apply z;clear z K)
 exact A0.ret ⟨_,by rw [results180];rfl,.inr rfl,by simp [ble,A7]⟩
abbrev A4n:List Nat:=[0,1,2,3,4,5,9,1000000]
theorem E7q (g:Ex→Bool)(Y:Hj):∀(e:Ex)(j:Nat),Q0 g Y j (Bb e)→Cd prog 104 [Di e,.Fm Y.l] [(1000000,.ghost Y (some j))] (B0 (I4 g (Bb e))) [(1000000,.ghost Y (Ib g j (Bb e)))]:=by
 intro e
 induction e using Ex.induct with
 |h e ih =>
 intro j J;refine Cd.bd (Enters.of func104 rfl (by decide)) fun a0=>?_;have Z:=(B9m a0.1).kids.1;have hP:=J.P;have U:=J.at_ 0 e (by rw [Sd];rfl);have hN:j < Y.N:=by have:=J.N;rw [Sd,Bg] at this;omega
 rw [Q6] at U;have W:∀k,k∈e.kids→∀i,Q0 g Y i (Bb k)→Cd prog 179 [Di k,.Fh [.Fm Y.l] 0] [(1000000,.ghost Y (some i))] (B0 (!I4 g (Bb k))) [(1000000,.ghost Y (Ib g i (Bb k)))]:=by
  intro k R i hi;have:=ih k R i hi;generalize I4 g (Bb k)=bb at *;generalize Ib g i (Bb k)=st at *;refine bB func179 ?_;refine sR [0,1,2,3,1000000] ?_
  (refine A0.F6 [0,1,2,3,1000000] [700006] (by decide +kernel) fun K z=>?_;refine ev ?_;refine⟨_,_,_,rfl,this,rfl,?_⟩;(try refine ev ?_);apply z;clear z K)
  exact A0.ret ⟨_,by rw [results179];rfl,.inr rfl,by simp [ble,A7]⟩
 by_cases R:g e=true
 ·have a1:Q0 g Y (j+1) (Cr e.kids):=by
   have:=J;rw [Sd,show e::Cr e.kids=[e]++Cr e.kids from rfl] at this;exact this.right
  have V:=G2w g 179 [.Fh [.Fm Y.l] 0] rfl (fun _=>rfl) Y e.kids Z (j+1) a1 W;have E:I4 g (Bb e)=I4 g (Cr e.kids):=by rw [Sd];simp [I4,R]
  have L:Ib g j (Bb e)=Ib g (j+1) (Cr e.kids):=by
   unfold Ib;rw [E,Sd,Bg];split
   ·congr 1;omega
   ·rfl
  rw [E,L];have I:Y.go j=true:=by rw [U.2,R]
  have O:Y.next j=some (j+1):=by unfold Hj.next;rw [A8 I]
  generalize I4 g (Cr e.kids)=bb at *;generalize Ib g (j+1) (Cr e.kids)=st at *;refine bB func104 ?_;refine sR A4n ?_;refine sK fun K1 u1=>?_
  (refine A0.F6 A4n [700008] (by decide +kernel) fun K z=>?_;refine Gj I O ?_;refine⟨_,rfl,hP,hN,U.1,?_⟩;(try refine Gj I O ?_);apply z;clear z K)
  refine kI u1 ?_;clear u1 K1;refine A0.E5h 3 rfl rfl (wk [(0,Di e),(1,.Fm Y.l),(2,.box 2 0),(3,.Fh [.Fm Y.l] 0),(4,.d (.bool false))] [(2,.cells (exS e)),(1000000,.ghost Y (some (j+1)))] ?_);refine sR A4n ?_
  (refine A0.F6 A4n [700014] (by decide +kernel) fun K z=>?_;refine ev ?_;refine⟨_,_,_,rfl,V,rfl,?_⟩;(try simp -implicitDefEqProofs only [EV,Nat.reduceEqDiff,reduceCtorEq,Bool.not_not]);apply z;clear z K)
  exact A0.ret ⟨_,by rw [results104];rfl,.inr rfl,by simp [ble,A7]⟩
 ·have I:Y.go j=false:=by rw [U.2];simpa using R
  have O:Y.next j=none:=by unfold Hj.next;rw [A6 (by rw [I];decide)]
  have E:I4 g (Bb e)=false:=by rw [Sd];simp [I4,R]
  have L:Ib g j (Bb e)=none:=by unfold Ib;rw [E];rfl
  rw [E,L];refine bB func104 ?_;refine sR A4n ?_;refine sK fun K1 u1=>?_
  (refine A0.F6 A4n [700008] (by decide +kernel) fun K z=>?_;refine Gj I O ?_;refine⟨_,rfl,hP,hN,U.1,?_⟩;(try refine Gj I O ?_);apply z;clear z K)
  refine tI ?_;refine sR A4n ?_;exact A0.ret ⟨_,by rw [results104];rfl,.inr rfl,by simp [ble,A7]⟩
theorem E0q (e:Ex):Cd prog 48 [Di e] [] (.Bf 103 [.Ag (Ce e) 0]) []:=by refine bB func48 ?_;refine sR [0,1,2] ?_;refine A0.zz 1 rfl rfl ?_;refine sR [0,1,2] ?_;exact A0.ret ⟨_,by rw [results48];rfl,.inr rfl,by simp [ble]⟩
theorem D8z (g:Ex→Bool)(e:Ex)(Y:Hj)(E:Q0 g Y 0 (Bb e)):Cd prog 103 [.Fm Y.l,.Ag (Ce e) 0] [(1000000,.ghost Y (some 0))] (.tuple []) [(1000000,.ghost Y (Ib g 0 (Bb e)))]:=by
 have I:=E7q g Y e 0 E;refine bB func103 ?_
 (refine A0.A0q [0,1,1000000] [700005] (by decide +kernel) fun K z=>?_;refine ev ?_;refine⟨_,_,_,rfl,I,rfl,?_⟩;(try refine ev ?_);apply z;clear z K;try simp only [A4,Aa,Af])
 exact⟨_,by rw [results103];rfl,.inr rfl,by simp [ble,A7]⟩
abbrev Nx:List Nat:=[0,2,3,5,6,8,9,10,11,12,20,24,25,26,27,28]
theorem E6j (E:List (List Ty))(hl:E.length≤sm)(W:(E.map List.length).sum≤2*sm):Cd prog 97 [.d (.slice (Pm E))] [] (.acc 24) [(24,.rows 3 (Aq E.flatten))]:=by
 refine bB func97 ?_;refine sR Nx ?_;refine sR Nx ?_;refine kR Nx fun V u1=>?_;refine A0.bb (A0.ii E (X:=Unit) (fun j _=>[(0,.d (.slice (Pm E))),(3,A9 (((E.take j).map List.length).sum:Nat)),(9,.d (.slice (Pm E))),(10,A9 E.length),(11,A9 j)]) (fun _ _=>[])
  (fun j _=>True) () trivial (by simp [sle,Aw,Ae,Pm]) sB ?_ ?_)
 ·intro _ _;rw [Cs];refine Ah B4 Nx ?_;refine A0.stop rfl ?_;simp only [A4,Aa,Af];refine u1 _ _ ?_;clear u1 V
  (refine A0.F6 Nx [800024] (by decide +kernel) fun K z=>?_;refine ev ?_;refine⟨_,_,_,C3w 24 rfl rfl rfl (D8a _ (by unfold sm at W;omega)) rfl (by decide) rfl,?_⟩;simp only [SV.Eg,A8w,Af];(try refine ev ?_);apply z;clear z K)
  refine kR Nx fun V u1=>?_;refine A0.bb (A0.ii E (X:=Unit) (fun j _=>[(6,.acc 24),(25,.d (.slice (Pm E))),(26,A9 E.length),(27,A9 j)]) (fun j _=>[(24,.rows 3 (Aq (E.take j).flatten))])
   (fun j _=>True) () trivial (by simp [sle,Aw,Ae,Pm]) (by simp [ble,A7,Cc]) ?_ ?_)
  ·intro _ _;rw [Cs];refine Ah B4 Nx ?_;refine A0.stop rfl ?_;simp only [A4,Aa,Af];refine u1 _ _ ?_;clear u1 V;refine sR Nx ?_;exact A0.ret ⟨_,by rw [results97];rfl,.inl rfl,by simp [ble,A7]⟩
  ·intro j _ d hd O dp L J Z;have I:=B7x E (j+1);rw [L,Fz,Ap9] at I;simp only [Cz,Hr,Kr,List.sum_nil,Q6] at I;rw [L,List.flatten_append,Aq0,List.flatten_nil,Ge];refine Ah J Nx ?_;refine A0.E5 rfl ?_;refine sK fun U u2=>?_;refine A0.bb ?_
   (refine sV Nx fun K z=>?_;refine ci (B8d hd) ?_;apply z;clear z K)
   (refine lV Nx fun K z=>?_;refine⟨Rz _,by rw [List.length_flatten];unfold lim sm at *;omega,?_⟩;(try refine ev ?_);apply z;clear z K;try simp only [A4,Aa])
   refine u2 _ _ ?_;clear u2 U;refine lT Nx ?_;exact⟨(),trivial,sS,by simp [ble,A7,Cc]⟩
 ·intro j _ d hd O dp L J Z;have I:=B7x E (j+1);rw [L,Fz,Ap9] at I;simp only [Cz,Hr,Kr,List.sum_nil,Q6] at I;have R:¬(((((E.take j).map List.length).sum:Nat):Int)+(d.length:Int) < 0):=by omega
  rw [L,Fz,Ap9];simp only [Cz,Hr,Kr,List.sum_nil,Q6];refine Ah J Nx ?_;refine A0.E5 rfl ?_;refine sK fun U u2=>?_;refine A0.bb ?_
  (refine sV Nx fun K z=>?_;refine ci (B8d hd) ?_;apply z;clear z K)
  (refine sV Nx fun K z=>?_;refine ca ?_;apply z;clear z K)
  refine Ah R Nx ?_;refine A0.ff rfl (A0.kk (u2 _ _ ?_));clear u2 U;refine lT Nx ?_;exact⟨(),trivial,sS,sB⟩
abbrev Yo:List Nat:=[0,2,3,5,6,7,8,9]
theorem D8f (l:List Ak)(V:l.length≤2000):Ac prog 98 [.d (.slice (Az l))] (.d (.slice (Aq (Fs l)))):=by
 refine cB func98 ?_;refine sR Yo ?_;refine sR Yo ?_;refine A0.pp 3 3 3 rfl ?_;refine kR Yo fun U u1=>?_;refine A0.bb (A0.ii l (X:=Unit) (fun j _=>[(3,.acc 3),(6,.d (.slice (Az l))),(7,A9 l.length),(8,A9 j)]) (fun j _=>[(3,.rows 3 (Aq (Fs (l.take j))))])
  (fun _ _=>True) () trivial sS (by simp [ble,A7,Fs,Cc]) ?_ ?_)
 rotate_left
 ·intro j _ u I J W O E _;have L:=(Ay.1 I).1;rw [O];refine Ah E Yo ?_;refine A0.E5 rfl ?_;refine sK fun R u2=>?_;refine A0.bb ?_
  (refine sV Yo fun K z=>?_;refine ci (Ep I) ?_;apply z;clear z K)
  (refine lV Yo fun K z=>?_;refine⟨by simp,by (try simp only [Fs,B6,Cw]);unfold lim;omega,?_⟩;(try refine ev ?_);apply z;clear z K;try simp only [A4,Aa])
  refine u2 _ _ ?_;clear u2 R
  (refine lV Yo fun K z=>?_;refine cl ?_;apply z;clear z K;try simp only [A4,])
  exact⟨(),trivial,sS,by simp [ble,A7,Cc,Fs,Bh]⟩
 intro _ _;rw [Cs];refine Ah B4 Yo ?_;refine A0.stop rfl ?_;simp only [A4,Aa,Af];refine u1 _ _ ?_;clear u1 U;refine sR Yo ?_;exact aR
abbrev Zg:List Nat:=[0,2,3,5,6,7,8,9]
theorem E2s (l:List Param)(V:l.length≤2000):Ac prog 99 [.d (.slice (B5 l))] (.d (.slice (Aq (Gq l)))):=by
 refine cB func99 ?_;refine sR Zg ?_;refine sR Zg ?_;refine A0.pp 3 3 3 rfl ?_;refine kR Zg fun U u1=>?_;refine A0.bb (A0.ii l (X:=Unit) (fun j _=>[(3,.acc 3),(6,.d (.slice (B5 l))),(7,A9 l.length),(8,A9 j)]) (fun j _=>[(3,.rows 3 (Aq (Gq (l.take j))))])
  (fun _ _=>True) () trivial sS (by simp [ble,A7,Gq,Cc]) ?_ ?_)
 rotate_left
 ·intro j _ u I J W O E _;have L:=(Ay.1 I).1;rw [O];refine Ah E Zg ?_;refine A0.E5 rfl ?_;refine sK fun R u2=>?_;refine A0.bb ?_
  (refine sV Zg fun K z=>?_;refine ci (E7 I) ?_;apply z;clear z K)
  (refine lV Zg fun K z=>?_;refine⟨by simp,by (try simp only [Gq,B6,Cw]);unfold lim;omega,?_⟩;(try refine ev ?_);apply z;clear z K;try simp only [A4,Aa])
  refine u2 _ _ ?_;clear u2 R
  (refine lV Zg fun K z=>?_;refine cl ?_;apply z;clear z K;try simp only [A4,])
  exact⟨(),trivial,sS,by simp [ble,A7,Cc,Gq,Bh]⟩
 intro _ _;rw [Cs];refine Ah B4 Zg ?_;refine A0.stop rfl ?_;simp only [A4,Aa,Af];refine u1 _ _ ?_;clear u1 U;refine sR Zg ?_;exact aR
theorem D2d (s:A5)(hs:s.Le):Ac prog 100 [Cx s] (.d (.slice (Aq (M4 s)))):=by
 have O:=D8f s.A1 hs.A1;have I:=E2s s.params hs.params;have L:=hs.A1;have J:=hs.params;have E:=E6j [Fs s.A1,Gq s.params] (show 2≤sm by decide) (by simp only [Cz,Hr,Kr,List.sum_nil,Fs,Gq,B6];unfold sm;omega);simp only [Pm,Cz,Hr,Aq0,List.flatten_nil,Ge] at E;unfold M4;rw [B3m (Fs s.A1++Gq s.params),show Aq [s.result]=[Bh s.result] by simp [Cc]];refine cB func100 ?_;refine sR [0,1,2] ?_
 (refine sG [0,1,2,10] [10] 11 [⟨[],[],[],[]⟩,⟨[],[],[],[]⟩,⟨[],[],[],[]⟩,⟨[],[],[],[]⟩,⟨[],[],[],[]⟩,⟨[],[],[],[]⟩,⟨[],[],[],[]⟩,⟨[10],[10],[],[]⟩,⟨[],[],[10],[10]⟩,⟨[],[],[10],[10]⟩,⟨[],[],[10],[10]⟩] fun K z=>?_;refine ev ?_;refine cc O ?_;refine cc I ?_;refine⟨_,_,_,_,_,rfl,E,?_⟩;(try refine ev ?_);refine⟨by simp,by (try simp only [Fs,Gq,B3,B6]);unfold lim;omega,?_⟩;(try refine ev ?_);apply z;clear z K)
 exact aR
abbrev A0c:List Nat:=[0,1,2,3,4,6,7,19,900,2000003]
theorem D2g (e:Ex)(he:e.Le):Ac prog 101 [Di e] (.d (.slice (Aq (Mx e)))):=by
 have hA:=E0q e;have J:Ib (fun _=>true) 0 (Bb e)=some (Bb e).length:=by simp [Ib,I4]
 have a0:=he.Co;unfold Mx at *;have R:∀j,(Hx ((Bb e).take j)).length≤(Hx (Bb e)).length:=fun j=>by
  conv=>rhs;rw [←Sw j (Bb e),A6x,B3]
  omega
 refine cB func101 ?_;refine sR A0c ?_;refine sR A0c ?_;refine A0.No 900 3 3 0 rfl rfl (by decide) ?_;refine kC hA A0c fun K1 u1=>?_;refine A0.bb (A0.rangeFunc (caps:=[.Ag (Ce e) 0]) (caps':=[.Ag (Ce e) 0]) (f:=103) (r:=.tuple []) (N:=(Bb e).length) (xs:=fun i=>Di (((Bb e)[i]?).getD e)) (go:=fun _=>true) (jump:=.ret) (ks:=[2000003,900]) (slR:=[(3,.box 2000003 0)])
  (mb:=fun st=>match st with| some j=>[(2000003,.cells [.acc 900]),(900,.rows 3 (Aq (Hx ((Bb e).take j))))]| none=>[]) (st:=Ib (fun _=>true) 0 (Bb e)) ⟨⟨_,rfl⟩,by decide,by decide,rfl,fun st=>by cases st <;> rfl,by decide,fun _=>rfl,?_⟩ (fun st=>by cases st <;> simp) rfl rfl ?_ ⟨.inr (.inl rfl),trivial⟩ ⟨rfl,rfl,trivial⟩ ?_ ?_)
 ·intro j L a1 l;have U:=Ba L;have W:=R j;have I:=R (j+1);have E:Hx ((Bb e).take (j+1))=Hx ((Bb e).take j)++Vp (Bb e)[j]:=by rw [L5 L,A6x];simp [Hx]
  rw [E,B3] at I;obtain⟨A,O⟩:∃A,Hx ((Bb e).take j)=A:=⟨_,rfl⟩;rw [O] at W I E;generalize (Bb e)[j]=x at *;simp only [U,Dc]
  (refine lV A0c fun K z=>?_;apply z;clear z K;try simp only [A4,])
  refine⟨rfl,?_⟩;refine A0.bb ?_;unfold Vp at *;rw [B3] at I
  (refine sQ A0c fun K z=>?_;refine An O ?_;refine⟨Rz _,by (try simp only [Cc,B3,B6]);unfold lim;omega,?_⟩;(try refine An O ?_);apply z;clear z K)
  by_cases k3:x.kind=3
  ·have d3:decide (x.kind=3)=true:=Bn k3;rw [A8 (.inl k3)] at I E;refine Ah d3 A0c ?_;refine A0.tt rfl ?_
   (refine A0.D1o [0,1,2,3,4,6,7,19,900,2000003] [] 9 4 22 24 [⟨[],[],[],[]⟩,⟨[],[],[],[]⟩,⟨[],[],[],[]⟩,⟨[],[],[],[]⟩,⟨[],[],[],[]⟩,⟨[900,2000003],[900,2000003],[],[]⟩,⟨[],[],[2000003],[]⟩,⟨[900],[],[2000003],[]⟩,⟨[2000003],[],[900],[]⟩] mixed (by decide +kernel) (by decide +kernel) _ rfl rfl rfl rfl rfl (by simp only [Mr]) (by simp only [I9]) (by simp only [I9];rfl) fun K z=>?_;refine ev ?_;refine⟨by simp,by (try simp only [Cc,B3,B6,Bg,Ch] at *);unfold lim;omega,?_⟩;(try refine ev ?_);refine⟨by omega,by simp,A6o,Bh x.type,by simp,rfl,by decide,?_⟩;(try refine ev ?_);apply z;clear z K;try simp only [Aa])
   refine⟨rfl,?_⟩;simp [ble,A7,E,Cc,Bh]
  by_cases Z:x.kind=5
  ·have d5:decide (x.kind=5)=true:=Bn Z;rw [A8 (.inr Z)] at I E;refine En d5 k3 A0c ?_;refine A0.tt rfl ?_
   (refine A0.D1o [0,1,2,3,4,6,7,19,900,2000003] [] 9 4 22 24 [⟨[],[],[],[]⟩,⟨[],[],[],[]⟩,⟨[],[],[],[]⟩,⟨[],[],[],[]⟩,⟨[],[],[],[]⟩,⟨[900,2000003],[900,2000003],[],[]⟩,⟨[],[],[2000003],[]⟩,⟨[900],[],[2000003],[]⟩,⟨[2000003],[],[900],[]⟩] mixed (by decide +kernel) (by decide +kernel) _ rfl rfl rfl rfl rfl (by simp only [Mr]) (by simp only [I9]) (by simp only [I9];rfl) fun K z=>?_;refine ev ?_;refine⟨by simp,by (try simp only [Cc,B3,B6,Bg,Ch] at *);unfold lim;omega,?_⟩;(try refine ev ?_);refine⟨by omega,by simp,A6o,Bh x.type,by simp,rfl,by decide,?_⟩;(try refine ev ?_);apply z;clear z K;try simp only [Aa])
   refine⟨rfl,?_⟩;simp [ble,A7,E,Cc,Bh]
  ·rw [A6 (by rintro (h| h) <;> contradiction),Ge] at E;refine En k3 Z A0c ?_;refine A0.ff rfl (A0.kk ⟨rfl,?_⟩);simp [ble,A7,E,Cc]
 ·intro Y hP hN V hg;refine D8z (fun _=>true) e Y ⟨hP,by rw [hN];omega,fun i x U=>?_⟩;rw [V,hg];simp [U]
 ·intro j L _;rw [J] at L;obtain rfl:=As5 L;simp only [A4,Aa];refine u1 _ _ (A0.ww (sl':=[(3,.box 3 0)]) (bx':=[(3,.cells [.acc 900]),(900,.rows 3 (Aq (Hx (Bb e))))]) ⟨.inr (.inl rfl),trivial⟩ ⟨rfl,by rw [Cs];rfl,trivial⟩ ?_);refine sR A0c ?_;exact aR
 ·intro L;rw [J] at L;cases L
abbrev Zw:List Nat:=[0,1,4,5,7,8,9,10,11]
theorem F2h (l:List Ty)(W:l.length≤2900000000000)(hs:∀t,t∈l→t.Sm):Ac prog 102 [.d (.slice (Aq l)),.Bf 64 []] (.d (.slice (Aq l))):=by
 refine cB func102 ?_;refine sR Zw ?_;refine sR Zw ?_;refine A0.pp 5 3 5 rfl ?_;refine kR Zw fun V u1=>?_;refine A0.bb (A0.ii l (X:=Unit) (fun j _=>[(1,.Bf 64 []),(5,.acc 5),(8,.d (.slice (Aq l))),(9,A9 l.length),(10,A9 j)]) (fun j _=>[(5,.rows 3 (Aq (l.take j)))])
  (fun _ _=>True) () trivial sS (by simp [ble,A7,Cc]) ?_ ?_)
 rotate_left
 ·intro j _ u L E Z R J _;have O:=(Ay.1 L).1;have I:=A3v u (hs u E);rw [R];refine Ah J Zw ?_;refine A0.E5 rfl ?_;refine sK fun U u2=>?_;refine A0.bb ?_
  (refine sV Zw fun K z=>?_;refine ci (F5 L) ?_;apply z;clear z K)
  (refine lV Zw fun K z=>?_;refine cc I ?_;refine⟨by simp,by (try simp only [Cw]);unfold lim;omega,?_⟩;(try refine ev ?_);apply z;clear z K;try simp only [A4,Aa])
  refine u2 _ _ ?_;clear u2 U
  (refine lV Zw fun K z=>?_;refine cl ?_;apply z;clear z K;try simp only [A4,])
  exact⟨(),trivial,sS,by simp [ble,A7,Cc,Bh,Ty.name,Ty.args,Ty.pos]⟩
 intro _ _;rw [Cs];refine Ah B4 Zw ?_;refine A0.stop rfl ?_;simp only [A4,Aa,Af];refine u1 _ _ ?_;clear u1 V;refine sR Zw ?_;exact aR
abbrev My:List Nat:=[0,1,2,3,5,7,9,10,11,12,26,27,28,29,39]
theorem G0k (p:Prog)(J:p.Le)(a':∀t,t∈M9 p→t.Sm):Ac prog 45 [Cv p] (.d (.slice (Aq (M9 p)))):=by
 have ap:=J.Vd;have a5:=D2g p.main J.main;have aa:=J.main.Co;have a8:=E1r J.Vd J.decls;have R:=F2h (M9 p) (by have:=B6v J;omega) a';unfold M9 at R ⊢;rw [B3m] at R ⊢;refine cB func45 ?_;refine sR My ?_;refine sR My ?_;refine A0.pp 3 3 3 rfl ?_;refine kR My fun K1 u1=>?_;refine A0.bb (A0.ii p.decls (X:=Unit) (fun j _=>[(1,.box 1 0),(3,.acc 3),(9,.d (.slice (Bu p.decls))),(10,A9 p.decls.length),(11,A9 j)]) (fun j _=>[(1,.cells ((Aj p).map .d)),(3,.rows 3 (Aq (Mo (p.decls.take j))))])
  (fun _ _=>True) () trivial sS (by simp [ble,A7,Mo,Cc,Aj]) ?_ ?_)
 rotate_left
 ·intro j _ d hd V dp tk ae _;have a7:=a8 j;have E:=J.decls d V;have af:=E.A1;have a3:=E.fields;have aq:=E.X3;have ad:=E0s E.X3 E.sigs;have a6:=D8f d.A1 af;have a4:=E2s d.fields a3;have a9:=D2d d.sig E.sig;have ab:=D2g d.body E.body;have ao:=A5u E.sig;have ai:=E.body.Co;have Z:=C4i [Fs d.A1,Gq d.fields] (show 2≤sm by decide) (by simp only [Cz,Hr,Kr,List.sum_nil,Fs,Gq,B6];unfold sm;omega);have W:=C4i [M4 d.sig,Mx d.body] (show 2≤sm by decide) (by simp only [Cz,Hr,Kr,List.sum_nil];unfold sm;omega);simp only [Pm,Cz,Hr,Aq0,List.flatten_nil,Ge] at Z W;rw [tk];have a1:Mo (p.decls.take j++[d])=Mo (p.decls.take j)++(Fs d.A1++Gq d.fields)++Ko d.sigs++Sq d:=by simp [Mo,A4i]
  rw [a1];have ah:(Fs d.A1++Gq d.fields).length≤4000:=by simp only [Fs,Gq,B3,B6];omega
  generalize Mo (p.decls.take j)=A at *;generalize Fs d.A1++Gq d.fields=FP at *;refine Ah ae My ?_;refine A0.E5 rfl ?_;refine sK fun K2 u2=>?_;refine A0.bb ?_
  (refine sV My fun K z=>?_;refine ci (E2 hd) ?_;apply z;clear z K)
  (refine sG My [] 9 [] fun K z=>?_;refine ev ?_;refine cc a6 ?_;refine cc a4 ?_;refine cc Z ?_;refine⟨Rz _,by (try simp only [Cc,B6]);unfold lim;omega,?_⟩;(try refine ev ?_);apply z;clear z K)
  refine kR My fun K3 u3=>?_;refine A0.bb (A0.ii d.sigs (X:=Unit) (fun i _=>[(1,.box 1 0),(3,.acc 3),(5,.box 5 0),(9,.d (.slice (Bu p.decls))),(10,A9 p.decls.length),(11,A9 j),(26,.d (.slice (B9 d.sigs))),(27,A9 d.sigs.length),(28,A9 i)]) (fun i _=>[(1,.cells ((Aj p).map .d)),(3,.rows 3 (Aq (A++FP++Ko (d.sigs.take i)))),(5,.cells (Vk d))])
   (fun _ _=>True) () trivial sS (by simp [ble,A7,Ko,Cc,Aj]) ?_ ?_)
  rotate_left
  ·intro i _ u hu I a2 L a0 _;have am:=(Ay.1 hu).1;have ak:=A5u (E.sigs u I);have ac:=D2d u (E.sigs u I);have aj:=ad i;rw [L,show Ko (d.sigs.take i++[u])=Ko (d.sigs.take i)++M4 u by simp [Ko],←Pg];generalize Ko (d.sigs.take i)=B at *;generalize M4 u=U at *;refine Ah a0 My ?_;refine A0.E5 rfl ?_;refine sK fun K4 u4=>?_;refine A0.bb ?_
   (refine sV My fun K z=>?_;refine ci (E1 hu) ?_;apply z;clear z K)
   (refine lV My fun K z=>?_;refine cc ac ?_;refine⟨Rz _,by (try simp only [B3]);unfold lim;omega,?_⟩;(try refine ev ?_);apply z;clear z K;try simp only [A4,Aa])
   refine u4 _ _ ?_;clear u4 K4
   (refine lV My fun K z=>?_;refine cl ?_;apply z;clear z K;try simp only [A4,])
   exact⟨(),trivial,sS,by simp [ble,A7,Cc,Aj]⟩
  intro _ _;rw [Cs];refine Ah B4 My ?_;refine A0.stop rfl ?_;simp only [A4,Aa,Af];refine u3 _ _ ?_;clear u3 K3;have ag:=B6p E.X3 E.sigs;generalize Ko d.sigs=B at *;by_cases k3:d.kind=3
  ·have d3:=Bn k3;have aa:(M4 d.sig++Mx d.body).length≤6001:=by rw [B3];omega
   have O:Sq d=M4 d.sig++Mx d.body:=by unfold Sq;rw [A8 k3]
   generalize M4 d.sig++Mx d.body=M at *;refine Ah d3 My ?_;refine A0.tt rfl ?_
   (refine lG My [] 9 [] fun K z=>?_;refine ev ?_;refine cc a9 ?_;refine cc ab ?_;refine cc W ?_;refine⟨Rz _,by (try simp only [B3]);unfold lim;omega,?_⟩;(try refine ev ?_);apply z;clear z K;try simp only [A4,Aa])
   refine u2 _ _ ?_;clear u2 K2
   (refine lV My fun K z=>?_;refine cl ?_;apply z;clear z K;try simp only [A4,])
   exact⟨(),trivial,sS,by simp [ble,A7,Cc,Aj,O]⟩
  ·have O:Sq d=[]:=by unfold Sq;rw [A6 k3]
   refine Ah k3 My ?_;refine A0.ff rfl (A0.kk (u2 _ _ ?_));clear u2 K2
   (refine lV My fun K z=>?_;refine cl ?_;apply z;clear z K;try simp only [A4,])
   exact⟨(),trivial,sS,by simp [ble,A7,Cc,Aj,O]⟩
 intro _ _;rw [Cs];have a7:=B7m J.Vd J.decls;refine Ah B4 My ?_;refine A0.stop rfl ?_;simp only [A4,Aa,Af];refine u1 _ _ ?_;clear u1 K1;refine A0.F6k [1,2] [] 5 3 [(1,.box 1 0),(55,.d (.slice (Aq (Mo p.decls)++Aq (Mx p.main))))] [(1,.cells ((Aj p).map .d))] (by decide +kernel) (by decide +kernel) ?_ fun K hK=>?_
 ·refine ev ?_;refine⟨_,.inl ⟨_,rfl,a5,rfl⟩,?_⟩
  (try refine ev ?_)
  refine⟨Rz _,by (try simp only [Cc,B3,B6]);unfold lim;omega,?_⟩
  (try simp -implicitDefEqProofs only [EV,Aq7,Aq8,Nat.reduceAdd,Nat.reduceEqDiff,Nat.reduceBEq,Nat.reduceLeDiff,Nat.reduceSub,Nat.reduceMul,Int.reduceEq,Int.reduceLT,Int.reduceLE,Int.reduceSub,Int.reduceAdd,Int.reduceToNat,reduceCtorEq,Int.reduceNeg,Jw,TF4,M3,Mr,A0m,Jj,Vs,A4e,Uv,B2q,S4,X0,C3b,C0n,D3b,I9])
  exact⟨_,_,rfl,⟨.inr (.inl rfl),.inr (.inl rfl),trivial⟩,⟨rfl,trivial⟩⟩
 refine ev ?_;refine⟨_,.inl ⟨_,rfl,R,rfl⟩,?_⟩
 (try refine ev ?_)
 refine hK _ _ ?_;clear hK K;exact aR
theorem E4y (f:FuncId)(ys:List D)(x:Decl)(b:Bool)(h:W5 prog (.cl f ys) [Iy x] (B0 b)):Ac prog 106 [Iy x,.Ag [.cl f ys] 0] (B0 (!b)):=by
 refine cB func106 ?_;refine sR [0,1,2,3] ?_
 (refine sV [0,1,2,3] fun K z=>?_;refine⟨_,Zx rfl h rfl,?_⟩;(try refine ev ?_);apply z;clear z K)
 exact aR
theorem E9v (f:FuncId)(ys:List D)(x:A5)(b:Bool)(h:W5 prog (.cl f ys) [Cx x] (B0 b)):Ac prog 108 [Cx x,.Ag [.cl f ys] 0] (B0 (!b)):=by
 refine cB func108 ?_;refine sR [0,1,2,3] ?_
 (refine sV [0,1,2,3] fun K z=>?_;refine⟨_,Zx rfl h rfl,?_⟩;(try refine ev ?_);apply z;clear z K)
 exact aR
theorem G1k (f:FuncId)(ys:List D)(p:Decl→Bool)(l:List Decl)(E:l.length≤sm)(h:∀x,x∈l→W5 prog (.cl f ys) [Iy x] (B0 (p x))):Ac prog 49 [.d (.slice (Bu l)),.d (.cl f ys)] (B0 (l.all p)):=by
 have J:=F2i 106 [.ptr [.cl f ys]] (fun x=>!p x) l E fun x I=>⟨_,[.Ag [.cl f ys] 0],_,_,rfl,⟨⟨rfl,rfl⟩,trivial⟩,rfl,E4y f ys x _ (h x I)⟩;have e:l.all p = !(l.any fun x=>!p x):=by rw [List.not_any_eq_all_not];simp
 rw [e];generalize l.any (fun x=>!p x)=b at *;refine cB func49 ?_;refine sR [0,1,3,4] ?_
 (refine A0.zz 3 rfl rfl (wk [(0,.d (.slice (Bu l))),(3,.Ag [.cl f ys] 0)] [] ?_))
 (refine A0.F6 [0,1,3,4] [800006] (by decide +kernel) fun K z=>?_;refine ev ?_;refine⟨_,C4x (xs:=[.Ag [.cl f ys] 0]) (ys:=[.ptr [.cl f ys]]) ⟨⟨rfl,rfl⟩,trivial⟩ rfl,?_⟩;(try refine ev ?_);refine cc J ?_;apply z;clear z K)
 exact aR
theorem F1v (f:FuncId)(ys:List D)(p:A5→Bool)(l:List A5)(E:l.length≤sm)(h:∀x,x∈l→W5 prog (.cl f ys) [Cx x] (B0 (p x))):Ac prog 51 [.d (.slice (B9 l)),.d (.cl f ys)] (B0 (l.all p)):=by
 have J:=F3t 108 [.ptr [.cl f ys]] (fun x=>!p x) l E fun x I=>⟨_,[.Ag [.cl f ys] 0],_,_,rfl,⟨⟨rfl,rfl⟩,trivial⟩,rfl,E9v f ys x _ (h x I)⟩;have e:l.all p = !(l.any fun x=>!p x):=by rw [List.not_any_eq_all_not];simp
 rw [e];generalize l.any (fun x=>!p x)=b at *;refine cB func51 ?_;refine sR [0,1,3,4] ?_
 (refine A0.zz 3 rfl rfl (wk [(0,.d (.slice (B9 l))),(3,.Ag [.cl f ys] 0)] [] ?_))
 (refine A0.F6 [0,1,3,4] [800006] (by decide +kernel) fun K z=>?_;refine ev ?_;refine⟨_,C4x (xs:=[.Ag [.cl f ys] 0]) (ys:=[.ptr [.cl f ys]]) ⟨⟨rfl,rfl⟩,trivial⟩ rfl,?_⟩;(try refine ev ?_);refine cc J ?_;apply z;clear z K)
 exact aR
theorem F8c (s:A5):Ac prog 46 [Cx s] (B0 (decide (s.A1.length=0))):=by
 have e:decide (s.A1.length=0)=decide ((s.A1.length:Int)=0):=by simp
 rw [e];refine cB func46 ?_;refine sR [0,1,2] ?_;refine sR [0,1,2] ?_;exact aR
abbrev A4r:List Nat:=[0,1,2,3,5,6,10,2000002]
theorem F1a (e:Ex):Ac prog 47 [Di e] (B0 (Jz e)):=by
 have W:=E0q e;have O:Jz e=I4 (fun x=>decide (x.targs.length=0)) (Bb e):=rfl;rw [O];refine cB func47 ?_;refine sR A4r ?_;refine kC W A4r fun K1 u1=>?_;refine A0.bb (A0.rangeFunc (caps:=[.Ag (Ce e) 0]) (caps':=[.Ag (Ce e) 0]) (f:=103) (r:=.tuple []) (N:=(Bb e).length) (xs:=fun i=>Di (((Bb e)[i]?).getD e)) (go:=fun i=>decide ((((Bb e)[i]?).getD e).targs.length=0)) (jump:=.ret) (ks:=[2000002]) (slR:=[(2,.box 2000002 0)])
  (mb:=fun _=>[(2000002,.cells [.d (.bool false)])]) (st:=Ib (fun x=>decide (x.targs.length=0)) 0 (Bb e)) ⟨⟨_,rfl⟩,by decide,by decide,rfl,fun _=>rfl,by decide,fun _=>rfl,?_⟩ (fun _=>by simp) rfl rfl ?_ ⟨.inr (.inl rfl),trivial⟩ ⟨rfl,trivial⟩ ?_ ?_)
 ·intro j I a0 l;have J:=Ba I;generalize (Bb e)[j]=x at J;simp only [J,Dc]
  (refine lV A4r fun K z=>?_;apply z;clear z K;try simp only [A4,])
  refine⟨rfl,?_⟩;refine A0.bb ?_;by_cases U:x.targs.length=0
  ·have L:¬(x.targs.length:Int) > 0:=by omega
   refine Ah L A4r ?_;refine A0.ff rfl (A0.kk ⟨?_,⟨rfl,trivial⟩⟩);simp only [J,Dc];exact Bn U
  ·have L:(x.targs.length:Int) > 0:=by omega
   refine Ah L A4r ?_;refine A0.tt rfl ?_;refine sR A4r ?_;refine A0.ret ⟨?_,rfl,⟨rfl,trivial⟩⟩;simp only [J,Dc];exact Ci U
 ·intro Y Z V R L;refine D8z _ e Y ⟨Z,by rw [V];omega,fun i x J=>?_⟩;rw [R,L];simp [J]
 ·intro j I _;have E:I4 (fun x=>decide (x.targs.length=0)) (Bb e)=true:=by
   unfold Ib at I;cases h:I4 (fun x=>decide (x.targs.length=0)) (Bb e) with
   |true=>rfl
   |false=>rw [h] at I;simp at I
  simp only [A4,Aa];refine u1 _ _ (wk [(2,.box 2 0)] [(2,.cells [.d (.bool false)])] ?_);refine sR A4r ?_;rw [E];exact aR
 ·intro I;have E:I4 (fun x=>decide (x.targs.length=0)) (Bb e)=false:=by
   unfold Ib at I;cases h:I4 (fun x=>decide (x.targs.length=0)) (Bb e) with
   |true=>rw [h] at I;simp at I
   |false=>rfl
  rw [E];exact⟨_,by rw [results47];rfl,rfl⟩
abbrev pl1:D:=.cl 46 []
abbrev pl2:D:=.cl 47 []
theorem E1u (s:A5):W5 prog pl1 [Cx s] (B0 (decide (s.A1.length=0))):=⟨_,[],_,_,rfl,trivial,rfl,F8c s⟩
theorem C9y (e:Ex):W5 prog pl2 [Di e] (B0 (Jz e)):=⟨_,[],_,_,rfl,trivial,rfl,F1a e⟩
abbrev Wv:List Nat:=[0,1,2,3,4]
theorem E6x (d:Decl)(hd:d.sigs.length≤sm):Ac prog 50 [Iy d,.Ag [pl1] 0,.Ag [pl2] 0] (B0 (Pb d)):=by
 have L:=F1v 46 [] (fun s=>decide (s.A1.length=0)) d.sigs hd fun s _=>E1u s;have J:=E1u d.sig;have V:=C9y d.body;rw [show (d.sigs.all fun s=>decide (s.A1.length=0))=Rb d.sigs from rfl] at L;have e:Pb d=(decide (d.A1.length=0) && (decide (d.vars.length=0) && (Rb d.sigs && (decide (d.sig.A1.length=0) && Jz d.body)))):=by
  unfold Pb;rw [Aq5];simp only [B1,D8];constructor
  ·rintro⟨a,b,c⟩;exact⟨by omega,by omega,c,by omega,b⟩
  ·rintro⟨a,b,c,f,g⟩;exact⟨by omega,g,c⟩
 rw [e];generalize Rb d.sigs=bs at *;generalize Jz d.body=be at *;by_cases R:d.A1.length=0;rotate_left
 ·have I:¬(d.A1.length:Int)=0:=by omega
  rw [Ci R,Bv];refine cB func50 ?_;refine sR Wv ?_;refine Ah I Wv ?_;exact aR
 have I:(d.A1.length:Int)=0:=by omega
 have d1:decide ((d.A1.length:Int)=0)=true:=Bn I;rw [Bn R,Ca];by_cases U:d.vars.length=0;rotate_left
 ·have E:¬(d.vars.length:Int)=0:=by omega
  rw [Ci U,Bv];refine cB func50 ?_;refine sR Wv ?_;refine En d1 E Wv ?_;exact aR
 have E:(d.vars.length:Int)=0:=by omega
 have d2:decide ((d.vars.length:Int)=0)=true:=Bn E;rw [Bn U,Ca];cases bs with
 |false =>
  refine cB func50 ?_;refine sR Wv ?_
  (refine sQ Wv fun K z=>?_;refine Gj d1 d2 ?_;refine cc L ?_;apply z;clear z K)
  exact aR
 |true =>
  rw [Ca];by_cases O:d.sig.A1.length=0
  ·rw [Bn O] at J ⊢;rw [Ca];refine cB func50 ?_;refine sR Wv ?_
   (refine sQ Wv fun K z=>?_;refine Gj d1 d2 ?_;refine cc L ?_;refine⟨_,Zx rfl J rfl,?_⟩;(try refine ev ?_);refine⟨_,Zx rfl V rfl,?_⟩;(try refine ev ?_);apply z;clear z K)
   exact aR
  ·rw [Ci O] at J ⊢;rw [Bv];refine cB func50 ?_;refine sR Wv ?_
   (refine sQ Wv fun K z=>?_;refine Gj d1 d2 ?_;refine cc L ?_;refine⟨_,Zx rfl J rfl,?_⟩;(try refine ev ?_);apply z;clear z K)
   exact aR
abbrev Sa:List Nat:=[0,1,2,4,5,6,8,9,10,11,17]
theorem G3o (p:Prog)(J:p.Le)(R:∀t,t∈M9 p→t.Sm):Ac prog 17 [Cv p] (B0 (A4d p)):=by
 have h1:=G0k p J R;have h2:=C9y p.main;have h3:=G1k 50 [.ptr [pl1],.ptr [pl2]] Pb p.decls (Dk J.Vd (by decide)) fun d hd=>⟨_,[.Ag [pl1] 0,.Ag [pl2] 0],_,_,rfl,⟨⟨rfl,rfl⟩,⟨rfl,rfl⟩,trivial⟩,rfl,E6x d (Dk (J.decls d hd).X3 (by decide))⟩;have a1:=B6v J;have e:A4d p=(Px (M9 p) && (Jz p.main && p.decls.all Pb)):=by unfold A4d;rw [Bool.and_comm (p.decls.all Pb)]
 rw [e];generalize M9 p=l at *;generalize p.decls.all Pb=b2 at *;generalize Jz p.main=b1 at *;have W:Cj prog 86=some [.d .Kz]:=by kernel_rfl
 have U:Cj prog 85=some [.d .Kz]:=by kernel_rfl
 have V:Bs prog 86=some 1:=by kernel_rfl
 have O:Bs prog 85=some 1:=by kernel_rfl
 have I:D4 prog 85=some false:=by kernel_rfl
 refine cB func17 ?_;refine sR Sa ?_;refine kC h1 Sa fun K1 u1=>?_;refine A0.bb (A0.ii l (X:=Unit) (fun j _=>[(1,.box 1 0),(8,.d (.slice (Aq l))),(9,A9 l.length),(10,A9 j)]) (fun _ _=>[(1,.cells ((Aj p).map .d))])
  (fun j _=>Px l=Px (l.drop j)) () rfl sS (by simp [ble,A7,Aj]) ?_ ?_)
 rotate_left
 ·intro j _ u hu a0 dp tk Z E;rw [dp,show Px (u::l.drop (j+1))=(decide (u.args.length=0) && Px (l.drop (j+1))) from rfl] at E;refine Ah Z Sa ?_;refine A0.E5 rfl ?_;refine sK fun K2 u2=>?_;refine A0.bb ?_
  (refine sV Sa fun K z=>?_;refine ci (F5 hu) ?_;apply z;clear z K)
  by_cases hz:u.args.length=0
  ·have L:¬(u.args.length:Int) > 0:=by omega
   rw [Bn hz,Ca] at E;refine Ah L Sa ?_;refine A0.ff rfl (A0.kk (u2 _ _ ?_));clear u2 K2
   (refine lV Sa fun K z=>?_;refine cl ?_;apply z;clear z K;try simp only [A4,])
   exact⟨(),E,sS,by simp [ble,A7,Aj]⟩
  ·have L:(u.args.length:Int) > 0:=by omega
   rw [Ci hz,Bv] at E;rw [show Px l=false from E,Bv];refine Ah L Sa ?_;refine A0.tt rfl ?_;refine sR Sa ?_;exact aR
 intro _ E;rw [D6] at E;rw [show Px l=true from E,Ca] at u1 ⊢;clear E;refine Ah B4 Sa ?_;refine A0.stop rfl ?_;simp only [A4,Aa,Af];refine u1 _ _ ?_;clear u1 K1;refine En W V Sa ?_;refine En U O Sa ?_;refine A0.C7j 5 rfl rfl ?_;refine A0.C7j 6 rfl rfl ?_;refine wk [(1,.box 1 0),(5,.Ag [pl1] 0),(6,.Ag [pl2] 0)] [(1,.cells ((Aj p).map .d))] ?_;cases b1 with
 |false =>
  (refine sQ Sa fun K z=>?_;refine An I ?_;refine⟨_,Zx rfl h2 rfl,?_⟩;(try refine ev ?_);apply z;clear z K)
  exact aR
 |true =>
  rw [Ca]
  (refine A0.F6 Sa [800026] (by decide +kernel) fun K z=>?_;refine An I ?_;refine⟨_,Zx rfl h2 rfl,?_⟩;(try refine ev ?_);refine⟨_,C4x (xs:=[.Ag [pl1] 0,.Ag [pl2] 0]) (ys:=[.ptr [pl1],.ptr [pl2]]) ⟨⟨rfl,rfl⟩,⟨rfl,rfl⟩,trivial⟩ rfl,?_⟩;(try refine ev ?_);refine cc h3 ?_;apply z;clear z K)
  exact aR
abbrev L1:List Nat:=[0,1,2,3,5,6,7,8,15,24,40,46,56]
theorem F7p (p:Prog):Ac prog 4 [Cv p] (B0 true):=by
 have O:=F8d;have R:=E5o p;cases J:B7a p with
 |false =>
  rw [J,A6 (by simp)] at R;refine cB func4 ?_;refine sR L1 ?_;refine sK fun L u1=>?_
  (refine sV L1 fun K z=>?_;refine cc O ?_;refine cc R ?_;apply z;clear z K)
  refine tI ?_;refine sC O L1 ?_;exact aR
 |true =>
 rw [J,A8 rfl] at R;unfold B7a at J;simp only [B1,D8,Jo] at J;have a1:=Prog.Zp p J.1;have hs:=F4c p J.1 J.2.1;cases hb:(Hw p).2 with
 |false =>
  rw [hb] at hs;generalize (Hw p).1=s at *;refine cB func4 ?_;refine sR L1 ?_;refine sK fun L u1=>?_
  (refine sV L1 fun K z=>?_;refine cc O ?_;refine cc R ?_;apply z;clear z K)
  refine kI u1 ?_;clear u1 L;refine sC hs L1 ?_;refine kR L1 fun L u1=>?_;refine tI ?_;refine sR L1 ?_;exact aR
 |true =>
  have E:=Va.of J.1 J.2.1 J.2.2.1 hb;rw [hb] at hs;generalize (Hw p).1=s at *;have Z:=E.fd;have I:=F5a E;have h1:=F2r p J.1 J.2.1 Z (Dk I.Vd (by decide));have U:=G0e E;have h2:=D7j (P2 p s) (Dk I.Vd (by decide)) U (G3q E);rw [E8a E] at h2;have h3:=G1v (P2 p s) I fun d hd=>(U d hd).vars;rw [E3i E] at h3;have h4:=G3o (P2 p s) I (F4n E);rw [E3i E] at h4;have h5:=D7y (P2 p s) I;have h6:=F5x E;have h7:=B6v I;generalize P2 p s=q at *;generalize M9 q=l at *;refine cB func4 ?_;refine sR L1 ?_;refine sK fun L u1=>?_
  (refine sV L1 fun K z=>?_;refine cc O ?_;refine cc R ?_;apply z;clear z K)
  refine kI u1 ?_;clear u1 L;refine sC hs L1 ?_;refine kR L1 fun L u1=>?_;refine kI u1 ?_;clear u1 L;refine sC h1 L1 ?_;refine sK fun L u1=>?_
  (refine sV L1 fun K z=>?_;refine cc h2 ?_;refine cc h3 ?_;refine cc h4 ?_;apply z;clear z K)
  refine kI u1 ?_;clear u1 L;refine sC h5 L1 ?_;refine kR L1 fun L u1=>?_;refine A0.bb (A0.ii l (X:=Unit) (fun j _=>[(6,.box 6 0),(7,.d (.slice (Aq l))),(8,A9 j)]) (fun _ _=>[(6,.cells ((Aj q).map .d))])
   (fun _ _=>True) () trivial sS (by simp [ble,A7,Aj]) ?_ ?_)
  rotate_left
  ·intro j _ t ht V dp tk a0 _;have hk:=A4y q t.name;have hz:=h6 t V;generalize kindOf q t.name=k at *;refine Ai a0 L1 fun W u2=>?_;refine gI u2 ?_;clear u2 W;refine sK fun W u2=>?_;refine A0.bb ?_
   (refine sG L1 [] 6 [] fun K z=>?_;refine ev ?_;refine ci (F5 ht) ?_;refine⟨_,.inl ⟨_,rfl,hk,rfl⟩,?_⟩;(try refine An hz ?_);apply z;clear z K)
   refine A0.ff rfl (A0.kk (u2 _ _ ?_));clear u2 W
   (refine lV L1 fun K z=>?_;refine cl ?_;apply z;clear z K;try simp only [A4,])
   exact⟨(),trivial,sS,by simp [ble,A7,Aj]⟩
  intro _ _;refine Ai B4 L1 fun W u2=>?_;refine A0.ss rfl ?_;simp only [A4,Aa,Af];refine u1 _ _ ?_;clear u2 W u1 L;refine sR L1 ?_;exact aR
end Go.Abs
