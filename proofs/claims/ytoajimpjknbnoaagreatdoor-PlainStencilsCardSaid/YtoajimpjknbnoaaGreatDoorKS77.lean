import Derived.Test.YtoajimpjknbnoaaGreatDoorKS58
import Derived.Test.YtoajimpjknbnoaaGreatDoorKG14
set_option linter.all false
set_option maxHeartbeats 1000000
set_option maxRecDepth 100000
namespace Go.iA
open Go Go.Proofs Tryz
def NR{α:Type}(p:α->Bool)(l:List α):decide (E3 p l >= 0)=l.any p:=by
 unfold E3;cases h:l.findIdx? p with
 |none =>rw[vR]at h;simp only;rw[Cb (by decide)];symm;rw[List.any_eq_false];intro x I;rw[h x I];decide
 |some i =>obtain⟨E,hp,_⟩:=MG.1 h;simp only;rw[Bn (by omega)];symm;rw[List.any_eq_true];exact⟨_,Gc E,hp⟩
abbrev eD:=[0,1,4,5,7,8,9,16]
def ju(f:FuncId)(ys:List D)(p:Decl->Bool)(l:List Decl)(U:l.length<=sm)(hs:∀t,t∈l->I5 prog (.cl f ys) [Hw t] (.d (.bool (p t)))) :Ab prog 203 [.d (.slice (Bx l)),.d (.cl f ys)] (A6 (E3 p l)):=by
 refine cB func203 ?_;refine sR eD ?_;refine kR eD λV u1=>?_;refine bA (A0.ii l (X:=Unit) (λj _=>[(0,.d (.slice (Bx l))),(1,.d (.cl f ys)),(7,A6 l.length),(8,A6 j)]) (λ_ _=>[]) (λj _=>∀y,y∈l.take j->p y=false) () (by simp) sS sB ?_ ?_);intro _ E;rw[Ca]at E;refine Ak B1 eD ?_;refine A0.stop rfl ?_;simp only[Aa,Af,Av];refine u1 _ _<|sR eD ?_;rw[T5 E];exact aR
 .intro j _ x hd I W tk L E;refine Ak L eD ?_;refine kA rfl<|sK λO u2=>bA<|sR eD ?_
  refine sV eD λK z=>?_;refine ci (E6 hd) ?_;refine⟨_,Ly rfl (hs x I) rfl,?_⟩;(try refine ev ?_);apply z;refine A0.cond rfl (λJ=>?_) (λJ=>?_);refine sR eD ?_;rw[Rv hd J E];exact aR;refine cA (u2 _ _ ?_);refine lT eD ?_;refine⟨(),?_,sS,sB⟩;rw[tk];intro y hy;rcases Bj.1 hy with hy|hy;exact E y hy;simp only[Ay,Eh,Eo]at hy;rw[hy];exact J
def ZT(f:FuncId)(ys:List D)(p:Decl->Bool)(l:List Decl)(I:l.length<=sm)(hs:∀t,t∈l->I5 prog (.cl f ys) [Hw t] (.d (.bool (p t)))) :Ab prog 142 [.d (.slice (Bx l)),.d (.cl f ys)] (Ar (l.any p)):=by have E:=ju f ys p l I hs;rw[<-NR];generalize E3 p l=k at*;refine cB func142 ?_;refine sR [0,1,4] ?_;refine sC E [0,1,4] ?_;exact aR
abbrev GD:=[0,1,4,5,7,8,9,16]
def cy(f:FuncId)(ys:List D)(p:Param->Bool)(l:List Param)(U:l.length<=sm)(hs:∀t,t∈l->I5 prog (.cl f ys) [Ma t] (.d (.bool (p t)))) :Ab prog 287 [.d (.slice (Aw l)),.d (.cl f ys)] (A6 (E3 p l)):=by
 refine cB func287 ?_;refine sR GD ?_;refine kR GD λV u1=>?_;refine bA (A0.ii l (X:=Unit) (λj _=>[(0,.d (.slice (Aw l))),(1,.d (.cl f ys)),(7,A6 l.length),(8,A6 j)]) (λ_ _=>[]) (λj _=>∀y,y∈l.take j->p y=false) () (by simp) sS sB ?_ ?_);intro _ E;rw[Ca]at E;refine Ak B1 GD ?_;refine A0.stop rfl ?_;simp only[Aa,Af,Av];refine u1 _ _<|sR GD ?_;rw[T5 E];exact aR
 .intro j _ x hd I W tk L E;refine Ak L GD ?_;refine kA rfl<|sK λO u2=>bA<|sR GD ?_
  refine sV GD λK z=>?_;refine ci (Dt hd) ?_;refine⟨_,Ly rfl (hs x I) rfl,?_⟩;(try refine ev ?_);apply z;refine A0.cond rfl (λJ=>?_) (λJ=>?_);refine sR GD ?_;rw[Rv hd J E];exact aR;refine cA (u2 _ _ ?_);refine lT GD ?_;refine⟨(),?_,sS,sB⟩;rw[tk];intro y hy;rcases Bj.1 hy with hy|hy;exact E y hy;simp only[Ay,Eh,Eo]at hy;rw[hy];exact J
def jv(f:FuncId)(ys:List D)(p:Param->Bool)(l:List Param)(I:l.length<=sm)(hs:∀t,t∈l->I5 prog (.cl f ys) [Ma t] (.d (.bool (p t)))) :Ab prog 314 [.d (.slice (Aw l)),.d (.cl f ys)] (Ar (l.any p)):=by have E:=cy f ys p l I hs;rw[<-NR];generalize E3 p l=k at*;refine cB func314 ?_;refine sR [0,1,4] ?_;refine sC E [0,1,4] ?_;exact aR
abbrev HD:=[0,1,4,5,7,8,9,16]
def H7z(f:FuncId)(ys:List D)(p:A4->Bool)(l:List A4)(U:l.length<=sm)(hs:∀t,t∈l->I5 prog (.cl f ys) [Db t] (.d (.bool (p t)))) :Ab prog 204 [.d (.slice (B4 l)),.d (.cl f ys)] (A6 (E3 p l)):=by
 refine cB func204 ?_;refine sR HD ?_;refine kR HD λV u1=>?_;refine bA (A0.ii l (X:=Unit) (λj _=>[(0,.d (.slice (B4 l))),(1,.d (.cl f ys)),(7,A6 l.length),(8,A6 j)]) (λ_ _=>[]) (λj _=>∀y,y∈l.take j->p y=false) () (by simp) sS sB ?_ ?_);intro _ E;rw[Ca]at E;refine Ak B1 HD ?_;refine A0.stop rfl ?_;simp only[Aa,Af,Av];refine u1 _ _<|sR HD ?_;rw[T5 E];exact aR
 .intro j _ x hd I W tk L E;refine Ak L HD ?_;refine kA rfl<|sK λO u2=>bA<|sR HD ?_
  refine sV HD λK z=>?_;refine ci (Dg hd) ?_;refine⟨_,Ly rfl (hs x I) rfl,?_⟩;(try refine ev ?_);apply z;refine A0.cond rfl (λJ=>?_) (λJ=>?_);refine sR HD ?_;rw[Rv hd J E];exact aR;refine cA (u2 _ _ ?_);refine lT HD ?_;refine⟨(),?_,sS,sB⟩;rw[tk];intro y hy;rcases Bj.1 hy with hy|hy;exact E y hy;simp only[Ay,Eh,Eo]at hy;rw[hy];exact J
def sZ(f:FuncId)(ys:List D)(p:A4->Bool)(l:List A4)(I:l.length<=sm)(hs:∀t,t∈l->I5 prog (.cl f ys) [Db t] (.d (.bool (p t)))) :Ab prog 144 [.d (.slice (B4 l)),.d (.cl f ys)] (Ar (l.any p)):=by have E:=H7z f ys p l I hs;rw[<-NR];generalize E3 p l=k at*;refine cB func144 ?_;refine sR [0,1,4] ?_;refine sC E [0,1,4] ?_;exact aR
abbrev Cw(o:Option Int):SV:=.d (Hu 4 o)
def Kh(b:Bool)(n:Int):Option Int:=if b=true then some n else none
def tK(b:Bool)(n:Int):Ab prog 148 [Ar b,A6 n] (Cw (Kh b n)):=by
 have I:=oo 4 n;unfold Kh;cases b with
 |false =>simp only[Iu,Gi,Cw,Hu];refine cB func148 ?_;refine sR [0,1,4,6] ?_;refine kR [0,1,4,6] λE u1=>?_;refine tI ?_;refine sR [0,1,4,6] ?_;exact aR
 |true =>simp only[Av,Cw];simp only[Hu]at I |-;refine cB func148 ?_;refine sR [0,1,4,6] ?_;refine kR [0,1,4,6] λE u1=>?_;refine kI u1 ?_;refine sC I [0,1,4,6] ?_;exact aR
def L8:List (Option Int)->Option Int
 |[]=>none
 |some q::_=>some q
 |none::r=>L8 r
def oL:∀{l:List (Option Int)},(∀y,y∈l->y=none)->L8 l=none
 |[],_=>rfl
 |x::l,h=>by rw[h x (by simp),L8];exact oL λy E=>h y (by simp[E])
def QS:∀{l:List (Option Int)} {j:Nat} {q:Int},l[j]?=some (some q)->(∀y,y∈l.take j->y=none)->L8 l=some q
 |x::l,0,q,h,_=>by simp only[Rh,B8]at h;rw[h,L8]
 |x::l,j+1,q,h,ht=>by rw[ht x (by simp),L8];exact QS (by simpa using h) λy E=>ht y (by simp[E])
abbrev fnR(l:List (D × Option Int)):List (List D):=l.map λx=>[x.1]
def jw{l:List (D × Option Int)}{j:Nat}{x:D × Option Int}(h:l[j]?=some x):(fnR l)[(Int.toNat j)]?=some [x.1]:=by simp[h]
abbrev Xv:=[0,2,4,5,6,7,8,9,15]
def yL(l:List (D × Option Int))(V:l.length<=sm)(hs:∀x,x∈l->I5 prog x.1 [] (Cw x.2)):Ab prog 211 [.d (.slice (fnR l))] (Cw (L8 (l.map (·.2)))):=by
 refine cB func211 ?_;refine sR Xv ?_;refine kR Xv λW u1=>?_;refine bA (A0.ii l (X:=Unit) (λj _=>[(6,.d (.slice (fnR l))),(7,A6 l.length),(8,A6 j)]) (λ_ _=>[]) (λj _=>∀y,y∈l.take j->y.2=none) () (by simp) sS sB ?_ ?_);intro _ E;rw[Ca]at E;refine Ak B1 Xv ?_;refine A0.stop rfl ?_;simp only[Aa,Af,Av];refine u1 _ _<|sR Xv ?_;rw[oL (by intro y hy;obtain⟨z,L,rfl⟩:=Ap.1 hy;exact E z L)];exact aR
 .intro j _ x hd J Z tk O E;obtain⟨d,o⟩:=x;have I:=hs _ J;simp only at I;refine Ak O Xv ?_;refine kA rfl<|sK λU u2=>bA<|sI (jw hd) [0,2,4,5,6,7,8,9,15] ?_;cases o with
  |none =>simp only[Cw,Hu]at I;refine sV Xv λK z=>?_;refine⟨_,Ly rfl I rfl,?_⟩;(try refine ev ?_);apply z;refine sR Xv ?_;refine dA rfl (cA (u2 _ _ ?_));refine lT Xv ?_;refine⟨(),?_,sS,sB⟩;rw[tk];intro y hy;rcases Bj.1 hy with hy|hy;exact E y hy;simp only[Ay,Eh,Eo]at hy;rw[hy]
  |some q =>simp only[Cw,Hu]at I;refine sV Xv λK z=>?_;refine⟨_,Ly rfl I rfl,?_⟩;(try refine ev ?_);apply z;refine sR Xv ?_;refine eA rfl<|sR Xv ?_;rw[QS (j:=j) (q:=q) (by rw[Df,hd];rfl) (by intro y hy;rw[<-List.map_take]at hy;obtain⟨z,L,rfl⟩:=Ap.1 hy;exact E z L)];exact aR
abbrev HE(n:Int)(d:D):D:=.cl 274 [.ptr [.int .i64 n],.ptr [d]]
def bK(n:Int)(f:FuncId)(ys:List D):Ab prog 207 [A6 n,.d (.cl f ys)] (.d (HE n (.cl f ys))):=by refine cB func207 ?_;refine sR [0,1,2,3,4] ?_;refine gA 2 rfl rfl ?_;refine gA 3 rfl rfl (wk [(2,.A8 [.int .i64 n] 0),(3,.A8 [.cl f ys] 0)] [] ?_);refine jA [0,1,2,3,4] [800005] (by decide +kernel) λK z=>?_;refine ev ?_;refine⟨_,Jp (xs:=[.A8 [.int .i64 n] 0,.A8 [.cl f ys] 0]) (ys:=[.ptr [.int .i64 n],.ptr [.cl f ys]]) ⟨⟨rfl,rfl⟩,⟨rfl,rfl⟩,trivial⟩ rfl,?_⟩;(try refine ev ?_);apply z;exact aR
abbrev X5:=[0,1,2,3,4,5,6,7,13]
def xu(f:FuncId)(ys:List D)(l:List (Option Int))(U:l.length<=sm)(hs:∀(j:Nat)(x:Option Int),l[j]?=some x->I5 prog (.cl f ys) [A6 j] (Cw x)) :Ab prog 274 [.A8 [.int .i64 l.length] 0,.A8 [.cl f ys] 0] (Cw (L8 l)):=by
 refine cB func274 ?_;refine sR X5 ?_;refine kR X5 λV u1=>?_;refine bA (A0.ii l (X:=Unit) (λj _=>[(1,.A8 [.cl f ys] 0),(5,A6 l.length),(6,A6 j)]) (λ_ _=>[]) (λj _=>∀y,y∈l.take j->y=none) () (by simp) sS sB ?_ ?_);intro _ E;rw[Ca]at E;refine Ak B1 X5 ?_;refine A0.stop rfl ?_;simp only[Aa,Af,Av];refine u1 _ _<|sR X5 ?_;rw[oL E];exact aR
 .intro j _ x hd L W tk J E;have I:=hs j x hd;refine Ak J X5 ?_;refine kA rfl<|sK λO u2=>bA<|sR X5 ?_;cases x with
  |none =>simp only[Cw,Hu]at I;refine sV X5 λK z=>?_;refine⟨_,Ly rfl I rfl,?_⟩;(try refine ev ?_);apply z;refine sR X5 ?_;refine dA rfl (cA (u2 _ _ ?_));refine lT X5 ?_;refine⟨(),?_,sS,sB⟩;rw[tk];intro y hy;rcases Bj.1 hy with hy|hy;exact E y hy;simp only[Ay,Eh,Eo]at hy;rw[hy]
  |some q =>simp only[Cw,Hu]at I;refine sV X5 λK z=>?_;refine⟨_,Ly rfl I rfl,?_⟩;(try refine ev ?_);apply z;refine sR X5 ?_;refine eA rfl<|sR X5 ?_;rw[QS hd E];exact aR
def iJ(f:FuncId)(ys:List D)(l:List (Option Int))(n:Int)(E:n=l.length)(I:l.length<=sm)(hs:∀(j:Nat)(x:Option Int),l[j]?=some x->I5 prog (.cl f ys) [A6 j] (Cw x)) :I5 prog (HE n (.cl f ys)) [] (Cw (L8 l)):=by subst E;exact⟨_,[.A8 [.int .i64 l.length] 0,.A8 [.cl f ys] 0],_,_,rfl,⟨⟨rfl,rfl⟩,⟨rfl,rfl⟩,trivial⟩,rfl,xu f ys l I hs⟩
def N2(bx:Ac)(o:Option Int):coerce bx (Xu [Cw o])=some (Cw o):=by cases o <;> rfl
abbrev Cz(p:Prog):D:=.ptr (D4 p)
def r4(x:Param):Ab prog 284 [Ma x] (Bo x.name):=by refine cB func284 ?_;refine sR [0,1,2] ?_;refine sR [0,1,2] ?_;exact aR
def H2c(l:List Param)(j:Nat)(d:Param)(hd:l[j]?=some d)(x:Param) :Ab prog 315 [Ma x,.A8 [.cl 284 []] 0,.A8 [.slice (Aw l)] 0,.A8 [.int .i64 j] 0] (Ar (decide (x.name=d.name))):=by have I:I5 prog (.cl 284 []) [Ma x] (Bo x.name):=⟨_,[],[],_,rfl,trivial,rfl,r4 x⟩;have E:I5 prog (.cl 284 []) [Ma d] (Bo d.name):=⟨_,[],[],_,rfl,trivial,rfl,r4 d⟩;refine cB func315 ?_;refine sR [0,1,2,3,4,5] ?_;refine sG [0,1,2,3,4,5] [] 8 [] λK z=>?_;refine ev ?_;refine⟨_,Ly rfl I rfl,?_⟩;(try refine ev ?_);refine ci (Dt hd) ?_;refine⟨_,Ly rfl E rfl,?_⟩;(try refine ev ?_);apply z;exact aR
def G7u(l:List Param)(L:l.length<=sm)(j:Nat)(d:Param)(hd:l[j]?=some d) :Ab prog 283 [.d (.slice (Aw l)),A6 j,.Bi 284 []] (Ar (decide (d.name∈(l.take j).map (·.name)))):=by
 have I:=(Az.1 hd).1;have E:Ab prog 314 [.d (.slice ((Aw l).take j)),.d (.cl 315 [.ptr [.cl 284 []],.ptr [.slice (Aw l)],.ptr [.int .i64 j]])] (Ar ((l.take j).any λx=>decide (x.name=d.name))):=by rw[show(Aw l).take j=Aw (l.take j) by simp[Aw,List.map_take]];exact jv _ _ _ _ (by rw[Dh];omega) λx J=>⟨_,[.A8 [.cl 284 []] 0,.A8 [.slice (Aw l)] 0,.A8 [.int .i64 j] 0],_,_,rfl,⟨⟨rfl,rfl⟩,⟨rfl,rfl⟩,⟨rfl,rfl⟩,trivial⟩,rfl,H2c l j d hd x⟩
 have e:(l.take j).any (λx=>decide (x.name=d.name))=decide (d.name∈(l.take j).map (·.name)):=by rw[iC,List.any_eq_true];simp only[Di,Ap]
 rw[e]at E;refine cB func283 ?_;refine sR [0,1,2,3,4,5,6] ?_;refine PA 5 rfl rfl ?_;refine gA 3 rfl rfl ?_;refine gA 4 rfl rfl (wk [(3,.A8 [.slice (Aw l)] 0),(4,.A8 [.int .i64 j] 0),(5,.A8 [.cl 284 []] 0)] [] ?_);refine jA [0,1,2,3,4,5,6] [800010] (by decide +kernel) λK z=>?_;refine ev ?_;refine⟨uV _,by omega,by omega,?_⟩;(try refine ev ?_);refine⟨_,Jp (xs:=[.A8 [.cl 284 []] 0,.A8 [.slice (Aw l)] 0,.A8 [.int .i64 j] 0]) (ys:=[.ptr [.cl 284 []],.ptr [.slice (Aw l)],.ptr [.int .i64 j]]) ⟨⟨rfl,rfl⟩,⟨rfl,rfl⟩,⟨rfl,rfl⟩,trivial⟩ rfl,?_⟩;(try refine ev ?_);refine cc E ?_;apply z;exact aR
def fk(x:A4):Ab prog 228 [Db x] (Bo x.name):=by refine cB func228 ?_;refine sR [0,1,2] ?_;refine sR [0,1,2] ?_;exact aR
def G8a(l:List A4)(j:Nat)(d:A4)(hd:l[j]?=some d)(x:A4) :Ab prog 285 [Db x,.A8 [.cl 228 []] 0,.A8 [.slice (B4 l)] 0,.A8 [.int .i64 j] 0] (Ar (decide (x.name=d.name))):=by have I:I5 prog (.cl 228 []) [Db x] (Bo x.name):=⟨_,[],[],_,rfl,trivial,rfl,fk x⟩;have E:I5 prog (.cl 228 []) [Db d] (Bo d.name):=⟨_,[],[],_,rfl,trivial,rfl,fk d⟩;refine cB func285 ?_;refine sR [0,1,2,3,4,5] ?_;refine sG [0,1,2,3,4,5] [] 8 [] λK z=>?_;refine ev ?_;refine⟨_,Ly rfl I rfl,?_⟩;(try refine ev ?_);refine ci (Dg hd) ?_;refine⟨_,Ly rfl E rfl,?_⟩;(try refine ev ?_);apply z;exact aR
def G4o(l:List A4)(L:l.length<=sm)(j:Nat)(d:A4)(hd:l[j]?=some d) :Ab prog 227 [.d (.slice (B4 l)),A6 j,.Bi 228 []] (Ar (decide (d.name∈(l.take j).map (·.name)))):=by
 have I:=(Az.1 hd).1;have E:Ab prog 144 [.d (.slice ((B4 l).take j)),.d (.cl 285 [.ptr [.cl 228 []],.ptr [.slice (B4 l)],.ptr [.int .i64 j]])] (Ar ((l.take j).any λx=>decide (x.name=d.name))):=by rw[show(B4 l).take j=B4 (l.take j) by simp[B4,List.map_take]];exact sZ _ _ _ _ (by rw[Dh];omega) λx J=>⟨_,[.A8 [.cl 228 []] 0,.A8 [.slice (B4 l)] 0,.A8 [.int .i64 j] 0],_,_,rfl,⟨⟨rfl,rfl⟩,⟨rfl,rfl⟩,⟨rfl,rfl⟩,trivial⟩,rfl,G8a l j d hd x⟩
 have e:(l.take j).any (λx=>decide (x.name=d.name))=decide (d.name∈(l.take j).map (·.name)):=by rw[iC,List.any_eq_true];simp only[Di,Ap]
 rw[e]at E;refine cB func227 ?_;refine sR [0,1,2,3,4,5,6] ?_;refine PA 5 rfl rfl ?_;refine gA 3 rfl rfl ?_;refine gA 4 rfl rfl (wk [(3,.A8 [.slice (B4 l)] 0),(4,.A8 [.int .i64 j] 0),(5,.A8 [.cl 228 []] 0)] [] ?_);refine jA [0,1,2,3,4,5,6] [800010] (by decide +kernel) λK z=>?_;refine ev ?_;refine⟨H7a _,by omega,by omega,?_⟩;(try refine ev ?_);refine⟨_,Jp (xs:=[.A8 [.cl 228 []] 0,.A8 [.slice (B4 l)] 0,.A8 [.int .i64 j] 0]) (ys:=[.ptr [.cl 228 []],.ptr [.slice (B4 l)],.ptr [.int .i64 j]]) ⟨⟨rfl,rfl⟩,⟨rfl,rfl⟩,⟨rfl,rfl⟩,trivial⟩ rfl,?_⟩;(try refine ev ?_);refine cc E ?_;apply z;exact aR
def ve(p:Prog)(env:List Aj)(l:List Param)(j:Nat)(d:Param):Option Int:=if d.name∈(l.take j).map (·.name)then some d.pos else Br p env d.type
abbrev pQ(p:Prog)(env:List Aj)(l:List Param):D:=HE l.length (.cl 282 [.ptr [.slice (Aw l)],.ptr [Cz p],.ptr [.slice (Ai env)]])
def x6(p:Prog)(env:List Aj)(l:List Param)(I:l.length<=sm):Ab prog 225 [.A8 (D4 p) 0,.d (.slice (Ai env)),.d (.slice (Aw l))] (.d (pQ p env l)):=by have E:=bK l.length 282 [.ptr [.slice (Aw l)],.ptr [Cz p],.ptr [.slice (Ai env)]];refine cB func225 ?_;refine sR [0,1,2,3,4,5,6] ?_;refine PA 3 rfl rfl ?_;refine gA 4 rfl rfl ?_;refine gA 5 rfl rfl (wk [(3,.A8 [Cz p] 0),(4,.A8 [.slice (Ai env)] 0),(5,.A8 [.slice (Aw l)] 0)] [] ?_);refine jA [0,1,2,3,4,5,6] [800009] (by decide +kernel) λK z=>?_;refine ev ?_;refine⟨_,Jp (xs:=[.A8 [.slice (Aw l)] 0,.A8 [Cz p] 0,.A8 [.slice (Ai env)] 0]) (ys:=[.ptr [.slice (Aw l)],.ptr [Cz p],.ptr [.slice (Ai env)]]) ⟨⟨rfl,rfl⟩,⟨rfl,rfl⟩,⟨rfl,rfl⟩,trivial⟩ rfl,?_⟩;(try refine ev ?_);refine cc E ?_;apply z;exact aR
def qm(p:Prog)(env:List Aj):∀(l:List Param)(pre:List A3),L8 (l.mapIdx λj d=>if d.name∈pre++(l.take j).map (·.name)then some d.pos else Br p env d.type)=Kc p env pre l
 |[],_=>rfl
 |x::l,pre=>by
  rw[List.mapIdx_cons,Kc];simp only[lR,G5,Fv,RC,Cj];have I:=qm p env l (pre++[x.name]);simp only[H3,List.singleton_append]at I;by_cases E:x.name∈pre;rw[A7 E,A7 E,L8]
  .rw[A5 E,A5 E];cases J:Br p env x.type with
   |some q=>rw[L8]
   |none=>rw[L8];exact I
def xt(p:Prog)(env:List Aj)(s:A4)(E:Ab prog 222 [.A8 (D4 p) 0,.d (.slice (Ai env)),.d (.slice (Ai s.A1))] (Cw (Pn p env s.A1))) :Ab prog 275 [.A8 [Cz p] 0,.A8 [.slice (Ai env)] 0,.A8 (Dp s) 0] (Cw (Pn p env s.A1)):=by generalize Pn p env s.A1=R at*;refine cB func275 ?_;refine sR [0,1,2,3] ?_;refine sC E.ptr [0,1,2,3] ?_;exact A0.ret ⟨_,by rw[results275];rfl,N2 _ _⟩
def Vf(d:Decl):Bool:=decide (1<=d.kind/\d.kind<=3)
def yj(d:Decl):Ab prog 147 [Hw d] (Ar (Vf d)):=by unfold Vf;by_cases E:1<=d.kind;have L:=E;by_cases I:d.kind<=3;rw[Bn ⟨E,I⟩];refine cB func147 ?_;refine sR [0,1,2] ?_;refine Ee E I [0,1,2] ?_;exact aR;rw[Cb (λJ=>I J.2)];refine cB func147 ?_;refine sR [0,1,2] ?_;refine Ee E I [0,1,2] ?_;exact aR;rw[Cb (λJ=>E J.1)];refine cB func147 ?_;refine sR [0,1,2] ?_;refine Ak E [0,1,2] ?_;exact aR
def jx(d x:Decl):x.E5 d.name=(decide (¬x.kind=3) && (decide (x.name=d.name) && Vf x)):=by unfold Decl.E5 Vf;by_cases E:x.name=d.name;rw[Bn E,EG,Ch,iC];simp only[U7,Bh,Di];omega;rw[Cb E];simp
def F7d(d x:Decl):Ab prog 219 [Hw x,.A8 (Am d) 0] (Ar (x.E5 d.name)):=by have I:=yj x;rw[jx];rcases Fc (decide (x.kind=3))with m|m;have E:=of_decide_eq_true m;rw[Cb (λh=>h E),C6];refine cB func219 ?_;refine sR [0,1,2,3] ?_;refine sQ [0,1,2,3] λK z=>?_;simp -implicitDefEqProofs only[EV,D8,Nat.reduceEqDiff,reduceCtorEq,m,M9];apply z;exact aR;have E:=of_decide_eq_false m;rw[Bn E,Ch];rcases Fc (decide (x.name=d.name))with n|n;rw[n,Ch];generalize Vf x=b at*;refine cB func219 ?_;refine sR [0,1,2,3] ?_;refine sQ [0,1,2,3] λK z=>?_;simp -implicitDefEqProofs only[EV,D8,Nat.reduceAdd,Nat.reduceEqDiff,reduceCtorEq,m,n,M9];refine cc I ?_;apply z;exact aR;rw[n,C6];refine cB func219 ?_;refine sR [0,1,2,3] ?_;refine sQ [0,1,2,3] λK z=>?_;simp -implicitDefEqProofs only[EV,D8,Nat.reduceEqDiff,reduceCtorEq,m,n,M9];apply z;exact aR
def gw(front:List Decl)(J:front.length<=sm)(d:Decl) :Ab prog 220 [.A8 [.slice (Bx front)] 0,.A8 [.cl 219 [.ptr (Am d)]] 0,.A8 (Am d) 0] (Cw (Kh (front.any λx=>x.E5 d.name) d.pos)):=by have E:=ZT 219 [.ptr (Am d)] (λx=>x.E5 d.name) front J λx _=>⟨_,[.A8 (Am d) 0],_,_,rfl,⟨⟨rfl,rfl⟩,trivial⟩,rfl,F7d d x⟩;generalize(front.any λx=>x.E5 d.name)=b at*;have I:=tK b d.pos;generalize Kh b d.pos=o at*;refine cB func220 ?_;refine sR [0,1,2,3] ?_;refine sG [0,1,2,3] [] 5 [] λK z=>?_;refine ev ?_;refine cc E ?_;refine cc I ?_;apply z;exact A0.ret ⟨_,by rw[results220];rfl,N2 _ _⟩
def F7v(p:Prog)(d:Decl)(o:Option Int)(E:Ab prog 222 [.A8 (D4 p) 0,.d (.slice (Ai [])),.d (.slice (Ai d.A1))] (Cw o)) :Ab prog 221 [.A8 [Cz p] 0,.A8 (Am d) 0] (Cw o):=by refine cB func221 ?_;refine sR [0,1,2] ?_;refine sC E.ptr [0,1,2] ?_;exact A0.ret ⟨_,by rw[results221];rfl,N2 _ _⟩
def F4k(hs:OJ)(p:Prog)(h:p.Sm)(d:Decl) :Ab prog 223 [.A8 [Cz p] 0,.A8 (Am d) 0] (Cw (Kh (decide (d.name∈T6 p d.name)) d.pos)):=by have hp:=fR p h;have hr:=G6n hs p h d.name;generalize decide (d.name∈T6 p d.name)=b at*;have E:=tK b d.pos;generalize Kh b d.pos=o at*;refine cB func223 ?_;refine sR [0,1,2] ?_;refine sG [0,1,2] [] 7 [] λK z=>?_;refine ev ?_;refine cc hp.ptr ?_;refine cc hr ?_;refine cc E ?_;apply z;exact A0.ret ⟨_,by rw[results223];rfl,N2 _ _⟩
def mQ(p:Prog)(front:List Decl)(d:Decl):Option Int :=L8 (Kh (front.any λx=>x.E5 d.name) d.pos::Pn p [] d.A1 :: (if d.kind=1 then[Kc p d.A1 [] d.fields,Kh (decide (d.name∈T6 p d.name)) d.pos]else[Pu p d.A1 [] d.sigs]))
abbrev P0(d:Decl):D:=.cl 205 [.ptr (Am d)]
def H2d(d:Decl)(b:Bool):Ab prog 205 [Ar b,.A8 (Am d) 0] (Cw (Kh b d.pos)):=by have E:=tK b d.pos;generalize Kh b d.pos=o at*;refine cB func205 ?_;refine sR [0,1,3] ?_;refine sC E [0,1,3] ?_;exact A0.ret ⟨_,by rw[results205];rfl,N2 _ _⟩
def YS(d:Decl)(b:Bool):I5 prog (P0 d) [Ar b] (Cw (Kh b d.pos)):=⟨_,[.A8 (Am d) 0],_,_,rfl,⟨⟨rfl,rfl⟩,trivial⟩,rfl,H2d d b⟩
def G7h(d x:Decl):E2 d.name d.sig.name x=(decide (x.kind=3) && (decide (x.name=d.name) && decide (x.sig.name=d.sig.name))):=by unfold E2;rw[Bool.and_assoc]
def H2f(d x:Decl):Ab prog 206 [Hw x,.A8 (Am d) 0] (Ar (E2 d.name d.sig.name x)):=by rw[G7h];rcases Fc (decide (x.kind=3))with m|m;rw[m,Ch];rcases Fc (decide (x.name=d.name))with n|n;rw[n,Ch];refine cB func206 ?_;refine sR [0,1,2,3] ?_;refine Ee m n [0,1,2,3] ?_;exact aR;rw[n,C6];refine cB func206 ?_;refine sR [0,1,2,3] ?_;refine Ee m n [0,1,2,3] ?_;exact aR;rw[m,C6];refine cB func206 ?_;refine sR [0,1,2,3] ?_;refine Ak m [0,1,2,3] ?_;exact aR
def xH(p:Prog)(d:Decl):Option Int:=if kindOf p d.name≠1\/d.vars.length≠(Dm p d.name).length then some d.pos else none
def G5p(p:Prog)(h:p.Sm)(d:Decl):Ab prog 212 [.A8 [P0 d] 0,.A8 [Cz p] 0,.A8 (Am d) 0] (Cw (xH p d)):=by
 have O:=MN p h d.name;have I:=GU p h d.name;have ht:=YS d true;have U:=YS d false;simp only[Kh,Iu,Av,Gi,Cw,Hu]at ht U;unfold xH;generalize Dm p d.name=L at*;by_cases J:kindOf p d.name=1;rotate_left;rw[A7 (.inl J)];simp only[Cw,Hu];refine cB func212 ?_;refine sR [0,1,2,3] ?_;refine sG [0,1,2,3] [] 17 [] λK z=>?_;refine ev ?_;refine E0 J O.ptr ?_;refine⟨_,Ly rfl ht rfl,?_⟩;(try refine ev ?_);apply z;exact aR;by_cases V:d.vars.length=L.length;rotate_left
 .rw[A7 (.inr V)];have E:¬(d.vars.length:Int)=(L.length:Int):=by omega
  simp only[Cw,Hu];refine cB func212 ?_;refine sR [0,1,2,3] ?_;refine sG [0,1,2,3] [] 17 [] λK z=>?_;refine ev ?_;refine E0 J O.ptr ?_;refine E0 E I.ptr ?_;refine⟨_,Ly rfl ht rfl,?_⟩;(try refine ev ?_);apply z;exact aR
 .rw[A5 (by rintro(hh|hh);exact hh J;exact hh V)];have E:(d.vars.length:Int)=(L.length:Int):=by omega
  simp only[Cw,Hu];refine cB func212 ?_;refine sR [0,1,2,3] ?_;refine sG [0,1,2,3] [] 17 [] λK z=>?_;refine ev ?_;refine cc2 J E O.ptr ?_;refine cc I.ptr ?_;refine⟨_,Ly rfl U rfl,?_⟩;(try refine ev ?_);apply z;exact aR
def G0y(front:List Decl)(I:front.length<=sm)(d:Decl) :Ab prog 214 [.A8 [P0 d] 0,.A8 [.slice (Bx front)] 0,.A8 [.cl 206 [.ptr (Am d)]] 0] (Cw (Kh (front.any (E2 d.name d.sig.name)) d.pos)):=by have E:=ZT 206 [.ptr (Am d)] (E2 d.name d.sig.name) front I λx _=>⟨_,[.A8 (Am d) 0],_,_,rfl,⟨⟨rfl,rfl⟩,trivial⟩,rfl,H2f d x⟩;have ht:=YS d (front.any (E2 d.name d.sig.name));generalize front.any (E2 d.name d.sig.name)=b at*;generalize Kh b d.pos=o at*;refine cB func214 ?_;refine sR [0,1,2,3] ?_;refine sG [0,1,2,3] [] 4 [] λK z=>?_;refine ev ?_;refine cc E ?_;refine⟨_,Ly rfl ht rfl,?_⟩;(try refine ev ?_);apply z;exact A0.ret ⟨_,by rw[results214];rfl,N2 _ _⟩
def G5m(d:Decl)(j:Nat)(f:Param)(E:d.sig.params[j]?=some f) :Ab prog 218 [A6 j,.A8 (Am d) 0] (Cw (Kh (decide (f.name=d.recv)) f.pos)):=by have I:=tK (decide (f.name=d.recv)) f.pos;generalize Kh (decide (f.name=d.recv)) f.pos=o at*;refine cB func218 ?_;refine sR [0,1,3] ?_;refine sG [0,1,3] [] 17 [] λK z=>?_;refine ev ?_;refine ci (Dt E) ?_;refine ci (Dt E) ?_;refine cc I ?_;apply z;exact A0.ret ⟨_,by rw[results218];rfl,N2 _ _⟩
def PQ(p:Prog)(front:List Decl)(d:Decl):Option Int :=L8 [xH p d,(if W9 p [] d.vars=true then some d.pos else none),Kh (front.any (E2 d.name d.sig.name)) d.pos,Iw p (Fq p d) d.sig,(d.sig.params.find? λf=>decide (f.name=d.recv)).map (·.pos)]
def cK(p:Prog)(front:List Decl)(d:Decl):Option Int:=if Vf d=false then some d.pos else if d.kind=3 then PQ p front d else mQ p front d
def JR(p:Prog)(i:Int):Option Int:=if i<0 then none else match p.decls[i.toNat]? with
 |none=>none
 |some d=>cK p (p.decls.take i.toNat) d
def TU(nm:A3):∀(l:List Decl)(i k:Nat)(d:Decl),l[i]?=some d->d.E5 nm=true->(findD nm l k≠((k+i:Nat):Int)↔((l.take i).any λx=>x.E5 nm)=true)
 |[],i,k,d,h,_=>by simp at h
 |x::l,0,k,d,h,hd=>by simp only[Rh,B8]at h;rw[h,findD,A7 hd];simp
 |x::l,i+1,k,d,h,hd=>by rw[WC]at h;have I:=TU nm l i (k+1) d h hd;rw[findD,RC,List.any_cons];by_cases E:x.E5 nm=true;rw[A7 E,E,Uz];simp;omega;rw[A5 E,show x.E5 nm=false by simpa using E,Wd,<-I,show k+1+i=k+(i+1) by omega]
def l7{α:Type}(q:α->Bool)(l:List α)(i:Nat)(d:α)(h:l[i]?=some d)(hd:q d=true):E3 q l≠(i:Int)↔(l.take i).any q=true:=by
 constructor;intro L;by_cases I:(l.take i).any q=true;exact I;exfalso;refine L (Rv h hd λy U=>?_);rw[List.any_eq_true]at I;rcases Fc (q y)with hq|hq;exact absurd ⟨y,U,hq⟩ I;exact hq
 .intro I E;obtain⟨y,U,hq⟩:=List.any_eq_true.1 I;have O:=My q l;rcases O with⟨V,_⟩|⟨j,x,V,h2,h3⟩;rw[V]at E;omega
  .obtain⟨k,hk,rfl⟩:=List.mem_take_iff_getElem.1 U;unfold E3 at E;cases J:l.findIdx? q with
   |none=>rw[J]at E;simp only at E;omega
   |some m =>
    rw[J]at E;simp only at E;obtain⟨h4,h5,W⟩:=MG.1 J;have Z:m=i:=by omega
    subst Z;have:=W k (by omega);rw[hq]at this;exact this rfl
def H7p(p:Prog)(hp:p.decls.length<=100000)(i:Nat)(d:Decl)(hd:p.decls[i]?=some d)(L:d.kind=1\/d.kind=2):mQ p (p.decls.take i) d=Z5 p i d:=by
 have hT:d.E5 d.name=true:=by unfold Decl.E5;rcases L with k|k <;> simp[k]
 have I:=TU d.name p.decls i 0 d hd hT;rw[Kf]at I;unfold mQ Z5 Kh;by_cases E:((p.decls.take i).any λx=>x.E5 d.name)=true;rw[A7 (I.2 E),E];rfl
 .rw[A5 (λJ=>E (I.1 J)),show((p.decls.take i).any λx=>x.E5 d.name)=false by simpa using E];simp only[Iu,Gi,L8];cases Pn p [] d.A1 with
  |some q=>rfl
  |none =>
   simp only[L8];by_cases k1:d.kind=1
   .rw[A7 k1,A7 k1,H0i p hp];cases Kc p d.A1 [] d.fields with
    |some q=>rfl
    |none =>simp only[L8,Di];split <;> rfl
   rw[A5 k1,A5 k1];cases Pu p d.A1 [] d.sigs <;> rfl
def H4m(p:Prog)(i:Nat)(d:Decl)(hd:p.decls[i]?=some d)(U:d.kind=3):PQ p (p.decls.take i) d=xD p i d:=by
 have hT:E2 d.name d.sig.name d=true:=by unfold E2;simp[U]
 have L:=l7 (E2 d.name d.sig.name) p.decls i d hd hT;unfold PQ xD xH Kh HL;by_cases J:kindOf p d.name≠1\/d.vars.length≠(Dm p d.name).length
 .rw[A7 J,A7 J];rfl
 rw[A5 J,A5 J];by_cases E:W9 p [] d.vars=true
 .rw[A7 E,A7 E];rfl
 rw[A5 E,A5 E];by_cases I:N4 p d.name d.sig.name≠(i:Int)
 .rw[A7 I,A7 (L.1 I)];rfl
 rw[A5 I,A5 (λO=>I (L.2 O))];simp only[L8];cases Iw p (Fq p d) d.sig with
 |some q=>rfl
 |none =>simp only[L8];cases (d.sig.params.find? λf=>decide (f.name=d.recv)).map (·.pos) <;> rfl
def H8f(p:Prog)(hp:p.decls.length<=100000)(i:Nat)(d:Decl)(hd:p.decls[i]?=some d):JR p i=Pm p i d:=by unfold JR Pm cK;rw[A5 (by omega),Ic,hd];simp only;by_cases E:d.kind=1\/d.kind=2;rw[A7 E,A5 (by unfold Vf;rcases E with k|k <;> simp[k]),A5 (by omega),H7p p hp i d hd E];rw[A5 E];by_cases k3:d.kind=3;rw[A7 k3,A5 (by unfold Vf;simp[k3]),A7 k3,H4m p i d hd k3];rw[A5 k3,A7 (by unfold Vf;rw[lC];omega),A5 k3]
end Go.iA
