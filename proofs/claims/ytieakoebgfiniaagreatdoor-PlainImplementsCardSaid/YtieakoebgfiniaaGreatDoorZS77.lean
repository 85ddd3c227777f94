/- slices.Contains of strings, ContainsFunc with closures kept as data; declare.when, first, each -/
import Derived.Test.YtieakoebgfiniaaGreatDoorZS58
import Derived.Test.YtieakoebgfiniaaGreatDoorZG14
import Derived.Test.YtieakoebgfiniaaGreatDoorZS28
set_option linter.all false
set_option maxHeartbeats 1000000
set_option maxRecDepth 100000
namespace Go.Abs
open Go Go.Proofs Tryz
def C9f{α:Type}(p:α->Bool)(l:List α):decide (Dr p l >= 0)=l.any p:=by
 unfold Dr;cases h:l.findIdx? p with
 |none =>rw[Ao1]at h;simp only;rw[C9 (by decide)];symm;rw[List.any_eq_false];intro x I;rw[h x I];decide
 |some i =>obtain⟨E,J,_⟩:=Ah1.1 h;simp only;rw[Bj (by omega)];symm;rw[List.any_eq_true];exact⟨_,Fq E,J⟩
abbrev Z7:List Nat:=[0,1,4,5,7,8,9,16]
def G5m(f:FuncId)(ys:List D)(p:Decl->Bool)(l:List Decl)(V:l.length<=sm)(hs:∀t,t∈l->I9 prog (.cl f ys) [Ia t] (.d (.bool (p t)))) :
  Aa prog 204 [.d (.slice (C1 l)),.d (.cl f ys)] (A5 (Dr p l)):=by
 refine cB func204 ?_;refine sR Z7 ?_;refine kR Z7 λW u1=>?_;refine A0.bb (A0.ii l (X:=Unit) (λj _=>[(0,.d (.slice (C1 l))),(1,.d (.cl f ys)),(7,A5 l.length),(8,A5 j)]) (λ_ _=>[])
  (λj _=>∀y,y∈l.take j->p y=false) () (by simp) sS sB ?_ ?_)
 .intro _ E;rw[Ci]at E;refine Ak B3 Z7 ?_;refine A0.stop rfl ?_;simp only[A4,Ac,Af];refine u1 _ _<|sR Z7 ?_;rw[Tg E];exact aR
 .intro j _ x hd I U tk J E;refine Ak J Z7 ?_;refine A0.Er rfl<|sK λO u2=>A0.bb<|sR Z7 ?_
  (refine sV Z7 λK z=>?_;refine ci (Dx hd) ?_;refine⟨_,Nd rfl (hs x I) rfl,?_⟩;(try refine ev ?_);apply z;clear z K)
  refine A0.cond rfl (λL=>?_) (λL=>?_)
  .refine sR Z7 ?_;rw[Tt hd L E];exact aR
  .refine A0.kk (u2 _ _ ?_);clear u2 O;refine lT Z7 ?_;refine⟨(),?_,sS,sB⟩;rw[tk];intro y hy;rcases Bz.1 hy with hy|hy
   .exact E y hy
   .simp only[B1,E5,Ea]at hy;rw[hy];exact L
def E1j(f:FuncId)(ys:List D)(p:Decl->Bool)(l:List Decl)(I:l.length<=sm)(hs:∀t,t∈l->I9 prog (.cl f ys) [Ia t] (.d (.bool (p t)))) :
  Aa prog 146 [.d (.slice (C1 l)),.d (.cl f ys)] (Aw (l.any p)):=by
 have E:=G5m f ys p l I hs;rw[<-C9f];generalize Dr p l=k at*;refine cB func146 ?_;refine sR [0,1,4] ?_;refine sC E [0,1,4] ?_;exact aR
abbrev Zm:List Nat:=[0,1,4,5,7,8,9,16]
def H2p(f:FuncId)(ys:List D)(p:Param->Bool)(l:List Param)(V:l.length<=sm)(hs:∀t,t∈l->I9 prog (.cl f ys) [Q4 t] (.d (.bool (p t)))) :
  Aa prog 288 [.d (.slice (Av l)),.d (.cl f ys)] (A5 (Dr p l)):=by
 refine cB func288 ?_;refine sR Zm ?_;refine kR Zm λW u1=>?_;refine A0.bb (A0.ii l (X:=Unit) (λj _=>[(0,.d (.slice (Av l))),(1,.d (.cl f ys)),(7,A5 l.length),(8,A5 j)]) (λ_ _=>[])
  (λj _=>∀y,y∈l.take j->p y=false) () (by simp) sS sB ?_ ?_)
 .intro _ E;rw[Ci]at E;refine Ak B3 Zm ?_;refine A0.stop rfl ?_;simp only[A4,Ac,Af];refine u1 _ _<|sR Zm ?_;rw[Tg E];exact aR
 .intro j _ x hd I U tk J E;refine Ak J Zm ?_;refine A0.Er rfl<|sK λO u2=>A0.bb<|sR Zm ?_
  (refine sV Zm λK z=>?_;refine ci (Du hd) ?_;refine⟨_,Nd rfl (hs x I) rfl,?_⟩;(try refine ev ?_);apply z;clear z K)
  refine A0.cond rfl (λL=>?_) (λL=>?_)
  .refine sR Zm ?_;rw[Tt hd L E];exact aR
  .refine A0.kk (u2 _ _ ?_);clear u2 O;refine lT Zm ?_;refine⟨(),?_,sS,sB⟩;rw[tk];intro y hy;rcases Bz.1 hy with hy|hy
   .exact E y hy
   .simp only[B1,E5,Ea]at hy;rw[hy];exact L
def H2d(f:FuncId)(ys:List D)(p:Param->Bool)(l:List Param)(I:l.length<=sm)(hs:∀t,t∈l->I9 prog (.cl f ys) [Q4 t] (.d (.bool (p t)))) :
  Aa prog 315 [.d (.slice (Av l)),.d (.cl f ys)] (Aw (l.any p)):=by
 have E:=H2p f ys p l I hs;rw[<-C9f];generalize Dr p l=k at*;refine cB func315 ?_;refine sR [0,1,4] ?_;refine sC E [0,1,4] ?_;exact aR
abbrev A0b:List Nat:=[0,1,4,5,7,8,9,16]
def F1u(f:FuncId)(ys:List D)(p:A3->Bool)(l:List A3)(V:l.length<=sm)(hs:∀t,t∈l->I9 prog (.cl f ys) [Cy t] (.d (.bool (p t)))) :
  Aa prog 205 [.d (.slice (B0 l)),.d (.cl f ys)] (A5 (Dr p l)):=by
 refine cB func205 ?_;refine sR A0b ?_;refine kR A0b λW u1=>?_;refine A0.bb (A0.ii l (X:=Unit) (λj _=>[(0,.d (.slice (B0 l))),(1,.d (.cl f ys)),(7,A5 l.length),(8,A5 j)]) (λ_ _=>[])
  (λj _=>∀y,y∈l.take j->p y=false) () (by simp) sS sB ?_ ?_)
 .intro _ E;rw[Ci]at E;refine Ak B3 A0b ?_;refine A0.stop rfl ?_;simp only[A4,Ac,Af];refine u1 _ _<|sR A0b ?_;rw[Tg E];exact aR
 .intro j _ x hd I U tk J E;refine Ak J A0b ?_;refine A0.Er rfl<|sK λO u2=>A0.bb<|sR A0b ?_
  (refine sV A0b λK z=>?_;refine ci (D1 hd) ?_;refine⟨_,Nd rfl (hs x I) rfl,?_⟩;(try refine ev ?_);apply z;clear z K)
  refine A0.cond rfl (λL=>?_) (λL=>?_)
  .refine sR A0b ?_;rw[Tt hd L E];exact aR
  .refine A0.kk (u2 _ _ ?_);clear u2 O;refine lT A0b ?_;refine⟨(),?_,sS,sB⟩;rw[tk];intro y hy;rcases Bz.1 hy with hy|hy
   .exact E y hy
   .simp only[B1,E5,Ea]at hy;rw[hy];exact L
def D3f(f:FuncId)(ys:List D)(p:A3->Bool)(l:List A3)(I:l.length<=sm)(hs:∀t,t∈l->I9 prog (.cl f ys) [Cy t] (.d (.bool (p t)))) :
  Aa prog 148 [.d (.slice (B0 l)),.d (.cl f ys)] (Aw (l.any p)):=by
 have E:=F1u f ys p l I hs;rw[<-C9f];generalize Dr p l=k at*;refine cB func148 ?_;refine sR [0,1,4] ?_;refine sC E [0,1,4] ?_;exact aR
abbrev Dg(o:Option Int):SV:=.d (Jk 4 o)
def A8z(b:Bool)(n:Int):Option Int:=if b=true then some n else none
def C7c(b:Bool)(n:Int):Aa prog 152 [Aw b,A5 n] (Dg (A8z b n)):=by
 have E:=D3t 4 n;unfold A8z;cases b with
 |false =>simp only[I0,Fx,Dg,Jk];refine cB func152 ?_;refine sR [0,1,4,6] ?_;refine kR [0,1,4,6] λI u1=>?_;refine tI ?_;refine sR [0,1,4,6] ?_;exact aR
 |true =>simp only[Af,Dg];simp only[Jk]at E |-;refine cB func152 ?_;refine sR [0,1,4,6] ?_;refine kR [0,1,4,6] λI u1=>?_;refine kI u1 ?_;clear u1 I;refine sC E [0,1,4,6] ?_;exact aR
def Ti:List (Option Int)->Option Int
 |[]=>none
 |some q::_=>some q
 |none::r=>Ti r
def B5g:∀{l:List (Option Int)},(∀y,y∈l->y=none)->Ti l=none
 |[],_=>rfl
 |x::l,h=>by rw[h x (by simp),Ti];exact B5g λy E=>h y (by simp[E])
def C8a:∀{l:List (Option Int)} {j:Nat} {q:Int},l[j]?=some (some q)->(∀y,y∈l.take j->y=none)->Ti l=some q
 |x::l,0,q,h,_=>by simp only[Xg,B5]at h;rw[h,Ti]
 |x::l,j+1,q,h,ht=>by rw[ht x (by simp),Ti];exact C8a (by simpa using h) λy E=>ht y (by simp[E])
abbrev fnR(l:List (D × Option Int)):List (List D):=l.map λx=>[x.1]
def G7n{l:List (D × Option Int)}{j:Nat}{x:D × Option Int}(h:l[j]?=some x):(fnR l)[(Int.toNat j)]?=some [x.1]:=by simp[h]
abbrev Ur:List Nat:=[0,2,4,5,6,7,8,9,15]
def C0f(l:List (D × Option Int))(W:l.length<=sm)(hs:∀x,x∈l->I9 prog x.1 [] (Dg x.2)):Aa prog 212 [.d (.slice (fnR l))] (Dg (Ti (l.map (·.2)))):=by
 refine cB func212 ?_;refine sR Ur ?_;refine kR Ur λZ u1=>?_;refine A0.bb (A0.ii l (X:=Unit) (λj _=>[(6,.d (.slice (fnR l))),(7,A5 l.length),(8,A5 j)]) (λ_ _=>[])
  (λj _=>∀y,y∈l.take j->y.2=none) () (by simp) sS sB ?_ ?_)
 .intro _ I;rw[Ci]at I;refine Ak B3 Ur ?_;refine A0.stop rfl ?_;simp only[A4,Ac,Af];refine u1 _ _<|sR Ur ?_;rw[B5g (by intro y hy;obtain⟨z,O,rfl⟩:=Au.1 hy;exact I z O)];exact aR
 .intro j _ x hd J V tk L I;obtain⟨d,o⟩:=x;have E:=hs _ J;simp only at E;refine Ak L Ur ?_;refine A0.Er rfl<|sK λU u2=>A0.bb ?_
  (refine sV Ur λK z=>?_;refine ci (G7n hd) ?_;apply z;clear z K)
  cases o with
  |none =>
   simp only[Dg,Jk]at E
   (refine sV Ur λK z=>?_;refine⟨_,Nd rfl E rfl,?_⟩;(try refine ev ?_);apply z;clear z K)
   refine sR Ur ?_;refine A0.ff rfl (A0.kk (u2 _ _ ?_));clear u2 U;refine lT Ur ?_;refine⟨(),?_,sS,sB⟩;rw[tk];intro y hy;rcases Bz.1 hy with hy|hy
   .exact I y hy
   .simp only[B1,E5,Ea]at hy;rw[hy]
  |some q =>
   simp only[Dg,Jk]at E
   (refine sV Ur λK z=>?_;refine⟨_,Nd rfl E rfl,?_⟩;(try refine ev ?_);apply z;clear z K)
   refine sR Ur ?_;refine A0.tt rfl<|sR Ur ?_;rw[C8a (j:=j) (q:=q) (by rw[Df,hd];rfl) (by intro y hy;rw[<-List.map_take]at hy;obtain⟨z,O,rfl⟩:=Au.1 hy;exact I z O)];exact aR
abbrev B0z(n:Int)(d:D):D:=.cl 275 [.ptr [.int .i64 n],.ptr [d]]
def B7s(n:Int)(f:FuncId)(ys:List D):Aa prog 208 [A5 n,.d (.cl f ys)] (.d (B0z n (.cl f ys))):=by
 refine cB func208 ?_;refine sR [0,1,2,3,4] ?_
 (refine A0.zz 2 rfl rfl ?_;refine A0.zz 3 rfl rfl (wk [(2,.A9 [.int .i64 n] 0),(3,.A9 [.cl f ys] 0)] [] ?_))
 (refine A0.D7 [0,1,2,3,4] [800005] (by decide +kernel) λK z=>?_;refine ev ?_;refine⟨_,Lz (xs:=[.A9 [.int .i64 n] 0,.A9 [.cl f ys] 0]) (ys:=[.ptr [.int .i64 n],.ptr [.cl f ys]]) ⟨⟨rfl,rfl⟩,⟨rfl,rfl⟩,trivial⟩ rfl,?_⟩;(try refine ev ?_);apply z;clear z K)
 exact aR
abbrev Uh:List Nat:=[0,1,2,3,4,5,6,7,13]
def H3h(f:FuncId)(ys:List D)(l:List (Option Int))(V:l.length<=sm)(hs:∀(j:Nat)(x:Option Int),l[j]?=some x->I9 prog (.cl f ys) [A5 j] (Dg x)) :
  Aa prog 275 [.A9 [.int .i64 l.length] 0,.A9 [.cl f ys] 0] (Dg (Ti l)):=by
 refine cB func275 ?_;refine sR Uh ?_;refine kR Uh λW u1=>?_;refine A0.bb (A0.ii l (X:=Unit) (λj _=>[(1,.A9 [.cl f ys] 0),(5,A5 l.length),(6,A5 j)]) (λ_ _=>[])
  (λj _=>∀y,y∈l.take j->y=none) () (by simp) sS sB ?_ ?_)
 .intro _ E;rw[Ci]at E;refine Ak B3 Uh ?_;refine A0.stop rfl ?_;simp only[A4,Ac,Af];refine u1 _ _<|sR Uh ?_;rw[B5g E];exact aR
 .intro j _ x hd L U tk J E;have I:=hs j x hd;refine Ak J Uh ?_;refine A0.Er rfl<|sK λO u2=>A0.bb<|sR Uh ?_;cases x with
  |none =>
   simp only[Dg,Jk]at I
   (refine sV Uh λK z=>?_;refine⟨_,Nd rfl I rfl,?_⟩;(try refine ev ?_);apply z;clear z K)
   refine sR Uh ?_;refine A0.ff rfl (A0.kk (u2 _ _ ?_));clear u2 O;refine lT Uh ?_;refine⟨(),?_,sS,sB⟩;rw[tk];intro y hy;rcases Bz.1 hy with hy|hy
   .exact E y hy
   .simp only[B1,E5,Ea]at hy;rw[hy]
  |some q =>
   simp only[Dg,Jk]at I
   (refine sV Uh λK z=>?_;refine⟨_,Nd rfl I rfl,?_⟩;(try refine ev ?_);apply z;clear z K)
   refine sR Uh ?_;refine A0.tt rfl<|sR Uh ?_;rw[C8a hd E];exact aR
def B8v(f:FuncId)(ys:List D)(l:List (Option Int))(n:Int)(I:n=l.length)(E:l.length<=sm)(hs:∀(j:Nat)(x:Option Int),l[j]?=some x->I9 prog (.cl f ys) [A5 j] (Dg x)) :
  I9 prog (B0z n (.cl f ys)) [] (Dg (Ti l)):=by
 subst I;exact⟨_,[.A9 [.int .i64 l.length] 0,.A9 [.cl f ys] 0],_,_,rfl,⟨⟨rfl,rfl⟩,⟨rfl,rfl⟩,trivial⟩,rfl,H3h f ys l E hs⟩
def Rz(bx:Ab)(o:Option Int):coerce bx (Wq [Dg o])=some (Dg o):=by cases o <;> rfl
abbrev Di(p:Prog):D:=.ptr (Dh p)
def E4i(x:Param):Aa prog 285 [Q4 x] (Bm x.name):=by refine cB func285 ?_;refine sR [0,1,2] ?_;refine sR [0,1,2] ?_;exact aR
def F8k(l:List Param)(j:Nat)(d:Param)(hd:l[j]?=some d)(x:Param) :
  Aa prog 316 [Q4 x,.A9 [.cl 285 []] 0,.A9 [.slice (Av l)] 0,.A9 [.int .i64 j] 0] (Aw (decide (x.name=d.name))):=by
 have E:I9 prog (.cl 285 []) [Q4 x] (Bm x.name):=⟨_,[],[],_,rfl,trivial,rfl,E4i x⟩;have I:I9 prog (.cl 285 []) [Q4 d] (Bm d.name):=⟨_,[],[],_,rfl,trivial,rfl,E4i d⟩;refine cB func316 ?_;refine sR [0,1,2,3,4,5] ?_
 (refine sG [0,1,2,3,4,5] [] 8 [] λK z=>?_;refine ev ?_;refine⟨_,Nd rfl E rfl,?_⟩;(try refine ev ?_);refine ci (Du hd) ?_;refine⟨_,Nd rfl I rfl,?_⟩;(try refine ev ?_);apply z;clear z K)
 exact aR
def G1f(l:List Param)(L:l.length<=sm)(j:Nat)(d:Param)(hd:l[j]?=some d) :
  Aa prog 284 [.d (.slice (Av l)),A5 j,.Bf 285 []] (Aw (decide (d.name∈(l.take j).map (·.name)))):=by
 have J:=(Az.1 hd).1;have E:Aa prog 315 [.d (.slice ((Av l).take j)),.d (.cl 316 [.ptr [.cl 285 []],.ptr [.slice (Av l)],.ptr [.int .i64 j]])] (Aw ((l.take j).any λx=>decide (x.name=d.name))):=by rw[show(Av l).take j=Av (l.take j) by simp[Av,List.map_take]];exact H2d _ _ _ _ (by rw[D4];omega) λx I=>⟨_,[.A9 [.cl 285 []] 0,.A9 [.slice (Av l)] 0,.A9 [.int .i64 j] 0],_,_,rfl,⟨⟨rfl,rfl⟩,⟨rfl,rfl⟩,⟨rfl,rfl⟩,trivial⟩,rfl,F8k l j d hd x⟩
 have e:(l.take j).any (λx=>decide (x.name=d.name))=decide (d.name∈(l.take j).map (·.name)):=by rw[Xm,List.any_eq_true];simp only[Dp,Au]
 rw[e]at E;refine cB func284 ?_;refine sR [0,1,2,3,4,5,6] ?_;refine A0.A0v 5 rfl rfl ?_
 (refine A0.zz 3 rfl rfl ?_;refine A0.zz 4 rfl rfl (wk [(3,.A9 [.slice (Av l)] 0),(4,.A9 [.int .i64 j] 0),(5,.A9 [.cl 285 []] 0)] [] ?_))
 (refine A0.D7 [0,1,2,3,4,5,6] [800010] (by decide +kernel) λK z=>?_;refine ev ?_;refine⟨D8y _,by omega,by omega,?_⟩;(try refine ev ?_);refine⟨_,Lz (xs:=[.A9 [.cl 285 []] 0,.A9 [.slice (Av l)] 0,.A9 [.int .i64 j] 0]) (ys:=[.ptr [.cl 285 []],.ptr [.slice (Av l)],.ptr [.int .i64 j]]) ⟨⟨rfl,rfl⟩,⟨rfl,rfl⟩,⟨rfl,rfl⟩,trivial⟩ rfl,?_⟩;(try refine ev ?_);refine cc E ?_;apply z;clear z K)
 exact aR
def D7c(x:A3):Aa prog 229 [Cy x] (Bm x.name):=by refine cB func229 ?_;refine sR [0,1,2] ?_;refine sR [0,1,2] ?_;exact aR
def H1e(l:List A3)(j:Nat)(d:A3)(hd:l[j]?=some d)(x:A3) :
  Aa prog 286 [Cy x,.A9 [.cl 229 []] 0,.A9 [.slice (B0 l)] 0,.A9 [.int .i64 j] 0] (Aw (decide (x.name=d.name))):=by
 have E:I9 prog (.cl 229 []) [Cy x] (Bm x.name):=⟨_,[],[],_,rfl,trivial,rfl,D7c x⟩;have I:I9 prog (.cl 229 []) [Cy d] (Bm d.name):=⟨_,[],[],_,rfl,trivial,rfl,D7c d⟩;refine cB func286 ?_;refine sR [0,1,2,3,4,5] ?_
 (refine sG [0,1,2,3,4,5] [] 8 [] λK z=>?_;refine ev ?_;refine⟨_,Nd rfl E rfl,?_⟩;(try refine ev ?_);refine ci (D1 hd) ?_;refine⟨_,Nd rfl I rfl,?_⟩;(try refine ev ?_);apply z;clear z K)
 exact aR
def H1x(l:List A3)(L:l.length<=sm)(j:Nat)(d:A3)(hd:l[j]?=some d) :
  Aa prog 228 [.d (.slice (B0 l)),A5 j,.Bf 229 []] (Aw (decide (d.name∈(l.take j).map (·.name)))):=by
 have J:=(Az.1 hd).1;have E:Aa prog 148 [.d (.slice ((B0 l).take j)),.d (.cl 286 [.ptr [.cl 229 []],.ptr [.slice (B0 l)],.ptr [.int .i64 j]])] (Aw ((l.take j).any λx=>decide (x.name=d.name))):=by rw[show(B0 l).take j=B0 (l.take j) by simp[B0,List.map_take]];exact D3f _ _ _ _ (by rw[D4];omega) λx I=>⟨_,[.A9 [.cl 229 []] 0,.A9 [.slice (B0 l)] 0,.A9 [.int .i64 j] 0],_,_,rfl,⟨⟨rfl,rfl⟩,⟨rfl,rfl⟩,⟨rfl,rfl⟩,trivial⟩,rfl,H1e l j d hd x⟩
 have e:(l.take j).any (λx=>decide (x.name=d.name))=decide (d.name∈(l.take j).map (·.name)):=by rw[Xm,List.any_eq_true];simp only[Dp,Au]
 rw[e]at E;refine cB func228 ?_;refine sR [0,1,2,3,4,5,6] ?_;refine A0.A0v 5 rfl rfl ?_
 (refine A0.zz 3 rfl rfl ?_;refine A0.zz 4 rfl rfl (wk [(3,.A9 [.slice (B0 l)] 0),(4,.A9 [.int .i64 j] 0),(5,.A9 [.cl 229 []] 0)] [] ?_))
 (refine A0.D7 [0,1,2,3,4,5,6] [800010] (by decide +kernel) λK z=>?_;refine ev ?_;refine⟨F9y _,by omega,by omega,?_⟩;(try refine ev ?_);refine⟨_,Lz (xs:=[.A9 [.cl 229 []] 0,.A9 [.slice (B0 l)] 0,.A9 [.int .i64 j] 0]) (ys:=[.ptr [.cl 229 []],.ptr [.slice (B0 l)],.ptr [.int .i64 j]]) ⟨⟨rfl,rfl⟩,⟨rfl,rfl⟩,⟨rfl,rfl⟩,trivial⟩ rfl,?_⟩;(try refine ev ?_);refine cc E ?_;apply z;clear z K)
 exact aR
def D7g(p:Prog)(env:List Ah)(l:List Param)(j:Nat)(d:Param):Option Int:=if d.name∈(l.take j).map (·.name)then some d.pos else Bk p env d.type
abbrev C0n(p:Prog)(env:List Ah)(l:List Param):D:=B0z l.length (.cl 283 [.ptr [.slice (Av l)],.ptr [Di p],.ptr [.slice (Ag env)]])
def E4h(p:Prog)(env:List Ah)(l:List Param)(I:l.length<=sm):Aa prog 226 [.A9 (Dh p) 0,.d (.slice (Ag env)),.d (.slice (Av l))] (.d (C0n p env l)):=by
 have E:=B7s l.length 283 [.ptr [.slice (Av l)],.ptr [Di p],.ptr [.slice (Ag env)]];refine cB func226 ?_;refine sR [0,1,2,3,4,5,6] ?_;refine A0.A0v 3 rfl rfl ?_
 (refine A0.zz 4 rfl rfl ?_;refine A0.zz 5 rfl rfl (wk [(3,.A9 [Di p] 0),(4,.A9 [.slice (Ag env)] 0),(5,.A9 [.slice (Av l)] 0)] [] ?_))
 (refine A0.D7 [0,1,2,3,4,5,6] [800009] (by decide +kernel) λK z=>?_;refine ev ?_;refine⟨_,Lz (xs:=[.A9 [.slice (Av l)] 0,.A9 [Di p] 0,.A9 [.slice (Ag env)] 0]) (ys:=[.ptr [.slice (Av l)],.ptr [Di p],.ptr [.slice (Ag env)]]) ⟨⟨rfl,rfl⟩,⟨rfl,rfl⟩,⟨rfl,rfl⟩,trivial⟩ rfl,?_⟩;(try refine ev ?_);refine cc E ?_;apply z;clear z K)
 exact aR
def E5j(p:Prog)(env:List Ah):∀(l:List Param)(pre:List A2),Ti (l.mapIdx λj d=>if d.name∈pre++(l.take j).map (·.name)then some d.pos else Bk p env d.type)=Np p env pre l
 |[],_=>rfl
 |x::l,pre=>by
  rw[List.mapIdx_cons,Np];simp only[At7,G3,Fj,Am1,Ck];have I:=E5j p env l (pre++[x.name]);simp only[Ga,List.singleton_append]at I;by_cases E:x.name∈pre
  .rw[A8 E,A8 E,Ti]
  .rw[A6 E,A6 E];cases J:Bk p env x.type with
   |some q=>rw[Ti]
   |none=>rw[Ti];exact I
def G8r(p:Prog)(env:List Ah)(s:A3)(E:Aa prog 223 [.A9 (Dh p) 0,.d (.slice (Ag env)),.d (.slice (Ag s.A1))] (Dg (Sj p env s.A1))) :
  Aa prog 276 [.A9 [Di p] 0,.A9 [.slice (Ag env)] 0,.A9 (Dd s) 0] (Dg (Sj p env s.A1)):=by
 generalize Sj p env s.A1=R at*;refine cB func276 ?_;refine sR [0,1,2,3] ?_;refine sC E.ptr [0,1,2,3] ?_;exact A0.ret ⟨_,by rw[results276];rfl,Rz _ _⟩
def A7j(d:Decl):Bool:=decide (1<=d.kind/\d.kind<=3)
def E5c(d:Decl):Aa prog 151 [Ia d] (Aw (A7j d)):=by
 unfold A7j;by_cases E:1<=d.kind
 .have L:=E;by_cases I:d.kind<=3
  .rw[Bj ⟨E,I⟩];refine cB func151 ?_;refine sR [0,1,2] ?_;refine Ei E I [0,1,2] ?_;exact aR
  .rw[C9 (λJ=>I J.2)];refine cB func151 ?_;refine sR [0,1,2] ?_;refine Ei E I [0,1,2] ?_;exact aR
 .rw[C9 (λJ=>E J.1)];refine cB func151 ?_;refine sR [0,1,2] ?_;refine Ak E [0,1,2] ?_;exact aR
def G0a(d x:Decl):x.Fv d.name=(decide (¬x.kind=3) && (decide (x.name=d.name) && A7j x)):=by
 unfold Decl.Fv A7j;by_cases E:x.name=d.name
 .rw[Bj E,Aq1,Cj,Xm];simp only[Vp,Bb,Dp];omega
 .rw[C9 E];simp
def E9g(d x:Decl):Aa prog 220 [Ia x,.A9 (Ar d) 0] (Aw (x.Fv d.name)):=by
 have I:=E5c x;rw[G0a];rcases Eu (decide (x.kind=3))with m|m
 .have E:=of_decide_eq_true m;rw[C9 (λh=>h E),C3];refine cB func220 ?_;refine sR [0,1,2,3] ?_
  (refine sQ [0,1,2,3] λK z=>?_;simp -implicitDefEqProofs only[EV,Nat.reduceEqDiff,reduceCtorEq,Ih,R8,m,M5];apply z;clear z K)
  exact aR
 .have E:=of_decide_eq_false m;rw[Bj E,Cj];rcases Eu (decide (x.name=d.name))with n|n
  .rw[n,Cj];generalize A7j x=b at*;refine cB func220 ?_;refine sR [0,1,2,3] ?_
   (refine sQ [0,1,2,3] λK z=>?_;simp -implicitDefEqProofs only[EV,Nat.reduceAdd,Nat.reduceEqDiff,reduceCtorEq,Ih,Ka,R8,m,n,M5];refine cc I ?_;apply z;clear z K)
   exact aR
  .rw[n,C3];refine cB func220 ?_;refine sR [0,1,2,3] ?_
   (refine sQ [0,1,2,3] λK z=>?_;simp -implicitDefEqProofs only[EV,Nat.reduceEqDiff,reduceCtorEq,Ih,Ka,R8,m,n,M5];apply z;clear z K)
   exact aR
def F4f(front:List Decl)(E:front.length<=sm)(d:Decl) :
  Aa prog 221 [.A9 [.slice (C1 front)] 0,.A9 [.cl 220 [.ptr (Ar d)]] 0,.A9 (Ar d) 0] (Dg (A8z (front.any λx=>x.Fv d.name) d.pos)):=by
 have I:=E1j 220 [.ptr (Ar d)] (λx=>x.Fv d.name) front E λx _=>⟨_,[.A9 (Ar d) 0],_,_,rfl,⟨⟨rfl,rfl⟩,trivial⟩,rfl,E9g d x⟩;generalize(front.any λx=>x.Fv d.name)=b at*;have J:=C7c b d.pos;generalize A8z b d.pos=o at*;refine cB func221 ?_;refine sR [0,1,2,3] ?_
 (refine sG [0,1,2,3] [] 5 [] λK z=>?_;refine ev ?_;refine cc I ?_;refine cc J ?_;apply z;clear z K)
 exact A0.ret ⟨_,by rw[results221];rfl,Rz _ _⟩
def F1f(p:Prog)(d:Decl)(o:Option Int)(E:Aa prog 223 [.A9 (Dh p) 0,.d (.slice (Ag [])),.d (.slice (Ag d.A1))] (Dg o)) :
  Aa prog 222 [.A9 [Di p] 0,.A9 (Ar d) 0] (Dg o):=by
 refine cB func222 ?_;refine sR [0,1,2] ?_;refine sC E.ptr [0,1,2] ?_;exact A0.ret ⟨_,by rw[results222];rfl,Rz _ _⟩
end Go.Abs
