/- castingsref18: edges between type parameters, plain functions and how many there can be -/
import Derived.Test.YtieakoebgfiniaaGreatDoorZS95
import Derived.Laws.StructEq
set_option linter.all false
set_option maxHeartbeats 4000000
set_option maxRecDepth 100000
namespace Go.Abs
open Go
structure E3 where
 J6:Bool
 name:A2
 idx:Int
 deriving DecidableEq
structure Bn where
 src:E3
 dst:E3
 ins:Bool
 deriving DecidableEq
structure H4 where
 name:A2
 node:E3
def noC(n:E3):List D:=[.bool n.J6,.str n.name,.int .i64 n.idx]
def Ev(e:Bn):List D:=[.bool e.src.J6,.str e.src.name,.int .i64 e.src.idx,.bool e.dst.J6,.str e.dst.name,.int .i64 e.dst.idx,.bool e.ins]
def vaC(v:H4):List D:=[.str v.name,.bool v.node.J6,.str v.node.name,.int .i64 v.node.idx]
def U3(l:List E3):List (List D):=l.map noC
def L0(l:List Bn):List (List D):=l.map Ev
def T7(l:List H4):List (List D):=l.map vaC
def A5s(a b:E3):Int:=if a.J6≠b.J6 then(if b.J6=true then -1 else 1)else if a.name≠b.name then Bt a.name b.name else if a.idx<b.idx then -1 else if a.idx > b.idx then 1 else 0
def B7u(a b:Bn):Bool:=let c:=if A5s a.src b.src=0 then A5s a.dst b.dst else A5s a.src b.src
 decide (c<0) ||(decide (c=0) && (!a.ins && b.ins))
def Tj(e:Bn):List Bn->Nat->List Bn->Option (List Bn)
 |[],_,out=>some out
 |x::r,i,out=>if x=e then none else Tj e r (i+1) ((if out.length=i/\B7u e x=true then out++[e]else out)++[x])
def Yw(l:List Bn)(e:Bn):List Bn:=match Tj e l 0 []with
 |none=>l
 |some out=>if out.length=l.length then out++[e]else out
def D5n{e:Bn} :∀{l:List Bn} {i:Nat} {out R:List Bn},i<=out.length->out.length<=i+1->Tj e l i out=some R->i+l.length<=R.length/\R.length<=i+l.length+1
 |[],i,out,R,I,E,h=>by simp only[Tj,B5]at h;subst h;simp;omega
 |x::l,i,out,R,I,E,h=>by
  rw[Tj]at h;split at h
  .cases h
  .have L:=D5n (i:=i+1) (by
    rw[B6];simp only[Bg,Ca];split
    .rw[B6];simp only[Bg,Ca];omega
    .omega) (by
    rw[B6];simp only[Bg,Ca];split
    .rename_i J;rw[B6];simp only[Bg,Ca];omega
    .omega) h
   simp only[Bg];omega
def A7n(l:List Bn)(e:Bn):Option (List Bn)->List Bn
 |none=>l
 |some out=>if out.length=l.length then out++[e]else out
def G5i(l:List Bn)(e:Bn):Yw l e=A7n l e (Tj e l 0 []):=by unfold Yw A7n;cases Tj e l 0 [] <;> rfl
def G4g(l:List Bn)(e:Bn):(Yw l e).length<=l.length+1:=by
 unfold Yw;cases h:Tj e l 0 []with
 |none=>simp
 |some R =>
  have:=D5n (i:=0) (by simp) (by simp) h;simp only;split
  .rw[B6];simp only[Bg,Ca];omega
  .omega
def L2(s:List H4)(m:Bool)(own:A2)(l:List A2):List H4:=s++(List.range l.length).map λi=>⟨(l[i]?).getD [],m,own,i⟩
def A5k(s:List H4)(n:A2):Option H4:=s.find? λv=>decide (v.name=n)
mutual
def V5(s:List H4)(E:E3):Bool->List Bn->Ty->List Bn
 |b,l,.mk n a _=>match(if a.isEmpty=true then A5k s n else none)with
  |some v=>Yw l ⟨v.node,E,b⟩
  |none=>Xx s E l a
def Xx(s:List H4)(E:E3):List Bn->List Ty->List Bn
 |l,[]=>l
 |l,t::I=>Xx s E (V5 s E true l t) I
end
mutual
theorem B8p(s:List H4)(E:E3):∀(t:Ty)(b:Bool)(l:List Bn),(V5 s E b l t).length<=l.length+t.Dv
 |.mk n a p,b,l=>by
  rw[V5,Ty.Dv];have h:=D4x s E a l;split
  .rename_i v O;have:=G4g l ⟨v.node,E,b⟩;omega
  .omega
theorem D4x(s:List H4)(E:E3):∀(a:List Ty)(l:List Bn),(Xx s E l a).length<=l.length+Ty.C0 a
 |[],l=>by simp[Xx]
 |t::I,l=>by have J:=B8p s E t true l;have L:=D4x s E I (V5 s E true l t);rw[Xx,Ty.C0];omega
end
mutual
def B0y(s:List H4)(m:Bool)(own:A2)(i:Nat):List Bn->Ty->List Bn
 |l,.mk n a p=>Gg s false n 0 (V5 s ⟨m,own,i⟩ false l (.mk n a p)) a
def Gg(s:List H4)(m:Bool)(own:A2):Nat->List Bn->List Ty->List Bn
 |_,l,[]=>l
 |i,l,t::E=>Gg s m own (i+1) (B0y s m own i l t) E
end
def Tm(x y:Nat):x*x+y*y<=(x+y)*(x+y):=by rw[Hw,Nat.mul_add,Nat.mul_add];omega
mutual
theorem D7q(s:List H4):∀(t:Ty)(m:Bool)(own:A2)(i:Nat)(l:List Bn),(B0y s m own i l t).length<=l.length+t.Dv*t.Dv
 |.mk n a p,m,own,i,l=>by
  have I:=B8p s ⟨m,own,i⟩ (.mk n a p) false l;have J:=Ye s a false n 0 (V5 s ⟨m,own,i⟩ false l (.mk n a p));rw[B0y];have L:(Ty.mk n a p).Dv=n.length+4+Ty.C0 a:=rfl;generalize Ty.C0 a=y at*;generalize(Ty.mk n a p).Dv=x at*;have U:x+y*y<=x*x:=by have Z:x*(y+4)<=x*x:=Ak9 _ (by omega);have O:x*(y+4)=x*y+x*4:=Nat.mul_add _ _ _;have W:y*y<=x*y:=Hp _ (by omega);omega
  omega
theorem Ye(s:List H4):∀(a:List Ty)(m:Bool)(own:A2)(i:Nat)(l:List Bn),(Gg s m own i l a).length<=l.length+Ty.C0 a*Ty.C0 a
 |[],m,own,i,l=>by simp[Gg]
 |t::E,m,own,i,l=>by have I:=D7q s t m own i l;have J:=Ye s E m own (i+1) (B0y s m own i l t);have V:=Tm t.Dv (Ty.C0 E);rw[Gg,Ty.C0];omega
end
def Ta(s:List H4)(l:List Bn)(x:A3):List Bn :=
 Gg s false x.result.name 0 (x.params.foldl (λl p=>Gg s false p.type.name 0 l p.type.args) (x.A1.foldl (λl f=>Gg s false f.bound.name 0 l f.bound.args) l)) x.result.args
def A4z(l:List Bn)(d:Decl):List Bn :=
 if d.kind=3 then
  let s:=L2 (L2 [] false d.name d.vars) true d.sig.name (Ad d.sig.A1)
  (B8 d.body).foldl (λl e=>Gg s true e.name 0 (Gg s false e.type.name 0 l e.type.args) e.targs) (Ta s l d.sig)
 else
  let s:=L2 [] false d.name (Ad d.A1)
  d.sigs.foldl (λl x=>Ta (L2 s true x.name (Ad x.A1)) l x) (Ta s l ⟨[],d.A1,d.fields,.mk [] [] 0,0⟩)
def A6j(p:Prog):List Bn:=p.decls.foldl A4z []
def Pj(n:E3)(out:List E3)(e:Bn):List E3:=if(e.src=n\/e.src∈out)/\e.dst∉out then out++[e.dst]else out
def A2s(l:List Bn)(n:E3):Nat->Int->List E3->List E3
 |0,_,out=>out
 |k+1,c,out=>if c=out.length then out else A2s l n k out.length (l.foldl (Pj n) out)
def A2v(l:List Bn)(n:E3):List E3:=A2s l n (l.length+3) (-1) []
def B4k(l:List Bn)(a b:E3):Bool:=decide (b∈A2v l a)
def B9y(l:List Bn):List Bn:=l.filter λe=>e.ins && (decide (e.dst=e.src) ||B4k l e.dst e.src)
def B6i(p:Prog):Bool:=decide ((B9y (A6j p)).length=0)
def A9m{α:Type}{f:List Bn->α->List Bn}{g:α->Nat}(h:∀l a,(f l a).length<=l.length+g a*g a):∀(as_:List α)(l:List Bn),(as_.foldl f l).length<=l.length+(as_.map g).sum*(as_.map g).sum
 |[],l=>by simp
 |a::r,l=>by have J:=h l a;have E:=A9m h r (f l a);have I:=Tm (g a) (r.map g).sum;rw[Lo,Ck,J5];omega
def B2g(a b c x y:Nat)(I:b<=a+x*x)(E:c<=b+y*y):c<=a+(x+y)*(x+y):=by have:=Tm x y;omega
def A6k{z E:Nat}{x y:Nat}(h:z+(x+y)*(x+y)<=1000000000000)(I:E<=z+x*x):E+y*y<=1000000000000:=by have:=Tm x y;omega
open Go Go.Proofs Tryz
abbrev noS(n:E3):List SV:=[.d (.bool n.J6),.d (.str n.name),.d (.int .i64 n.idx)]
abbrev U9(n:E3):SV:=.agg (noS n)
abbrev Ho:List Nat:=[0,1,2,3,4,9,11,16,26,31]
def D1v(a b:E3):Aa Tryz.prog 333 [U9 a,U9 b] (A5 (A5s a b)):=by
 have hc:=B2w a.name b.name;obtain⟨m1,W,J⟩:=a;obtain⟨m2,U,O⟩:=b;unfold A5s;simp only at hc |-;generalize Bt W U=z at*;have main:∀m:Bool,Aa Tryz.prog 333 [U9 ⟨m,W,J⟩,U9 ⟨m,U,O⟩] (A5 (if W≠U then z else if J<O then -1 else if J > O then 1 else 0)):=by
  intro m;have V:(m ==m)=true:=by simp
  by_cases I:W=U
  .rw[A6 (λh=>h I)];by_cases L:J<O
   .rw[A8 L];refine cB func333 ?_;refine sR Ho ?_;refine Ai V Ho λE u1=>?_;refine kI u1 ?_;clear u1 E;refine Ai I Ho λE u1=>?_;refine kI u1 ?_;clear u1 E;refine Ai L Ho λE u1=>?_;refine tI ?_;refine sR Ho ?_;exact aR
   rw[A6 L];by_cases Z:J > O
   .rw[A8 Z];refine cB func333 ?_;refine sR Ho ?_;refine Ai V Ho λE u1=>?_;refine kI u1 ?_;clear u1 E;refine Ai I Ho λE u1=>?_;refine kI u1 ?_;clear u1 E;refine Ai L Ho λE u1=>?_;refine kI u1 ?_;clear u1 E;refine Ai Z Ho λE u1=>?_;refine tI ?_;refine sR Ho ?_;exact aR
   .rw[A6 Z];refine cB func333 ?_;refine sR Ho ?_;refine Ai V Ho λE u1=>?_;refine kI u1 ?_;clear u1 E;refine Ai I Ho λE u1=>?_;refine kI u1 ?_;clear u1 E;refine Ai L Ho λE u1=>?_;refine kI u1 ?_;clear u1 E;refine Ai Z Ho λE u1=>?_;refine kI u1 ?_;clear u1 E;refine sR Ho ?_;exact aR
  .rw[A8 I];refine cB func333 ?_;refine sR Ho ?_;refine Ai V Ho λE u1=>?_;refine kI u1 ?_;clear u1 E;refine Ai I Ho λE u1=>?_;refine tI ?_;refine sC hc Ho ?_;exact aR
 cases m1 <;> cases m2
 .exact main false
 .rw[A8 (by decide),A8 rfl];refine cB func333 ?_;refine sR Ho ?_;refine kR Ho λE u1=>?_;refine tI ?_;refine kR Ho λK2 u2=>?_;refine tI ?_;refine sR Ho ?_;exact aR
 .rw[A8 (by decide),A6 (by decide)];refine cB func333 ?_;refine sR Ho ?_;refine kR Ho λE u1=>?_;refine tI ?_;refine kR Ho λK2 u2=>?_;refine kI u2 ?_;clear u2 K2;refine sR Ho ?_;exact aR
 .exact main true
open Go
def T4(l:List Ah):Nat:=(l.map λf=>Ty.C0 f.bound.args).sum
def No(l:List Param):Nat:=(l.map λf=>Ty.C0 f.type.args).sum
def A3.al(s:A3):Nat:=T4 s.A1+No s.params+Ty.C0 s.result.args
def A0k(e:Ex):Nat:=Ty.C0 e.type.args+Ty.C0 e.targs
def T9(l:List Ex):Nat:=(l.map A0k).sum
def Z4(l:List A3):Nat:=(l.map A3.al).sum
def Decl.al(d:Decl):Nat:=if d.kind=3 then d.sig.al+T9 (B8 d.body)else T4 d.A1+No d.fields+Z4 d.sigs
def P2(l:List Decl):Nat:=(l.map Decl.al).sum
def A2t(d:Decl):A3:=⟨[],d.A1,d.fields,.mk [] [] 0,0⟩
def D3q(d:Decl):(A2t d).al=T4 d.A1+No d.fields:=by simp[A3.al,A2t,Ty.args,Ty.C0]
def A8f(s:List H4)(l:List Bn)(x:A3):(Ta s l x).length<=l.length+x.al*x.al:=by have J:=A9m (f:=λl (f:Ah)=>Gg s false f.bound.name 0 l f.bound.args) (g:=λf=>Ty.C0 f.bound.args) (λl f=>Ye s f.bound.args false f.bound.name 0 l) x.A1 l;have E:=A9m (f:=λl (f:Param)=>Gg s false f.type.name 0 l f.type.args) (g:=λf=>Ty.C0 f.type.args) (λl f=>Ye s f.type.args false f.type.name 0 l) x.params (x.A1.foldl (λl f=>Gg s false f.bound.name 0 l f.bound.args) l);have I:=Ye s x.result.args false x.result.name 0 (x.params.foldl (λl p=>Gg s false p.type.name 0 l p.type.args) (x.A1.foldl (λl f=>Gg s false f.bound.name 0 l f.bound.args) l));exact B2g _ _ _ _ _ (B2g _ _ _ _ _ J E) I
def exE(s:List H4)(l:List Bn)(e:Ex):List Bn:=Gg s true e.name 0 (Gg s false e.type.name 0 l e.type.args) e.targs
def D3h(s:List H4)(l:List Bn)(e:Ex):(exE s l e).length<=l.length+A0k e*A0k e :=
 B2g _ _ _ _ _ (Ye s e.type.args false e.type.name 0 l) (Ye s e.targs true e.name 0 _)
def sgE(s:List H4)(l:List Bn)(x:A3):List Bn:=Ta (L2 s true x.name (Ad x.A1)) l x
def D1z(l:List Bn)(d:Decl):A4z l d=if d.kind=3 then
   (B8 d.body).foldl (exE (L2 (L2 [] false d.name d.vars) true d.sig.name (Ad d.sig.A1))) (Ta (L2 (L2 [] false d.name d.vars) true d.sig.name (Ad d.sig.A1)) l d.sig)
  else d.sigs.foldl (sgE (L2 [] false d.name (Ad d.A1))) (Ta (L2 [] false d.name (Ad d.A1)) l (A2t d)):=rfl
def D9h(l:List Bn)(d:Decl):(A4z l d).length<=l.length+d.al*d.al:=by
 rw[D1z];unfold Decl.al;split
 .exact B2g _ _ _ _ _ (A8f _ l d.sig) (A9m (g:=A0k) (λl e=>D3h _ l e) (B8 d.body) _)
 .have E:=A8f (L2 [] false d.name (Ad d.A1)) l (A2t d);rw[D3q]at E;exact B2g _ _ _ _ _ E (A9m (g:=A3.al) (λl e=>A8f _ l e) d.sigs _)
def B4g{α:Type}(F:List α->Int->Int)(g:α->Int->Int)(h:α->Nat)(U:∀k,F [] k=k)(L:∀x xs k,F (x::xs) k=if k<=2000 then F xs (g x k)else k)(J:∀l k,k<=F l k)
  (E:∀x k,g x k<=2000->(h x:Int)<=120*(g x k - k)):∀(l:List α) (k:Int),F l k<=2000->((l.map h).sum:Int)<=120*(F l k - k)
 |[],k,_=>by rw[U];simp
 |x::xs,k,I=>by
  rw[L]at I |-;split at I
  .rename_i O;rw[A8 O];have W:=J xs (g x k);have Z:=E x k (by omega);have V:=B4g F g h U L J E xs (g x k) I;simp only[Ck,J5];omega
  .rename_i O;omega
def B8i(t:Ty):Ty.C0 t.args<=t.Dv:=by rw[Ty.Ug];omega
def D4b:∀(l:List Ah)(k:Int),C5 l k<=2000->(T4 l:Int)<=120*(C5 l k - k) :=
 B4g C5 (λf n=>f.bound.count (n+1+((f.name.length / 50:Nat):Int))) (λf=>Ty.C0 f.bound.args) (λ_=>rfl) (λ_ _ _=>rfl) (λl k=>(B4h l k).1) λx k h=>by have I:=Ty.A0z x.bound _ h;have E:=B8i x.bound;omega
def D1p:∀(l:List Param)(k:Int),D2 l k<=2000->(No l:Int)<=120*(D2 l k - k) :=
 B4g D2 (λf n=>f.type.count (n+1+((f.name.length / 50:Nat):Int))) (λf=>Ty.C0 f.type.args) (λ_=>rfl) (λ_ _ _=>rfl) (λl k=>(B2s l k).1) λx k h=>by have I:=Ty.A0z x.type _ h;have E:=B8i x.type;omega
def A3.A6z(s:A3)(n:Int)(h:s.count n<=2000):(s.al:Int)<=120*(s.count n - n):=by unfold A3.count at h |-;have L:=(B4h s.A1 (n+((s.name.length / 50:Nat):Int))).1;have U:=(B2s s.params (C5 s.A1 (n+((s.name.length / 50:Nat):Int)))).1;have J:=Ty.F6 s.result (D2 s.params (C5 s.A1 (n+((s.name.length / 50:Nat):Int))));have V:=D4b s.A1 (n+((s.name.length / 50:Nat):Int)) (by omega);have I:=D1p s.params _ (show D2 s.params (C5 s.A1 (n+((s.name.length / 50:Nat):Int)))<=2000 by omega);have O:=Ty.A0z s.result _ h;have E:=B8i s.result;unfold A3.al;omega
def F7g:∀(l:List A3)(k:Int),En l k<=2000->(Z4 l:Int)<=120*(En l k - k) :=
 B4g En A3.count A3.al (λ_=>rfl) (λ_ _ _=>rfl) (λl k=>(C3f l k).1) λx k h=>A3.A6z x k h
mutual
theorem D4d:∀e:Ex,T9 (B8 e)<=e.Sp
 |.mk k n t a ks p=>by have E:=E6x ks;have I:=B8i t;rw[B8,Ex.C3p];simp only[T9,Ck,J5,A0k,Ex.type,Ex.targs,Ex.kids,Ex.name]at E |-;omega
theorem E6x:∀l:List Ex,T9 (Co l)<=Ex.Wa l
 |[]=>by simp[T9,Co,Ex.Wa]
 |e::l=>by have E:=D4d e;have I:=E6x l;rw[Co,Ex.Wa];simp only[T9,G0,Y7]at E I |-;omega
end
def Decl.A6z(d:Decl)(n:Int)(h:d.count n<=2000):(d.al:Int)<=120*(d.count n - n):=by
 unfold Decl.count at h |-;generalize U:n+1+((d.name.length / 50:Nat):Int)+((d.recv.length / 50:Nat):Int)=m at h |-;have Z:=(B4h d.A1 m).1;have b1:=(B2s d.fields (C5 d.A1 m)).1;have V:=(C3f d.sigs (D2 d.fields (C5 d.A1 m))).1;have e1:=(A2z d.vars (En d.sigs (D2 d.fields (C5 d.A1 m)))).1;have L:=D4b d.A1 m;have E:=D1p d.fields (C5 d.A1 m);have J:=F7g d.sigs (D2 d.fields (C5 d.A1 m));generalize hz:Ix d.vars (En d.sigs (D2 d.fields (C5 d.A1 m)))=z at*;unfold Decl.S6 at h |-;have f1:=(A3.Gt d.sig z).1;have f2:=A3.A6z d.sig z;have W:=Ex.F6 d.body (d.sig.count z);have I:=Ex.B5f d.body (d.sig.count z);have g3:=D4d d.body;split at h
 .rename_i O;rw[A8 O];have L:=L (by omega);have E:=E (by omega);have J:=J (by omega);have f2:=f2 (by omega);have I:=I (by omega);unfold Decl.al;split <;> omega
 .omega
def Prog.A6z(p:Prog)(h:p.count<=600):P2 p.decls<=72000:=by unfold Prog.count at h;have I:=Ex.F6 p.main 0;have E:=(C9h p.decls (p.main.count 0)).1;have:=B4g J3 Decl.count Decl.al (λ_=>rfl) (λ_ _ _=>rfl) (λl k=>(C9h l k).1) (λx k h=>Decl.A6z x k h) p.decls (p.main.count 0) (by omega);unfold P2;omega
open Go Go.Proofs Tryz
abbrev edS(e:Bn):List SV:=[.d (.bool e.src.J6),.d (.str e.src.name),.d (.int .i64 e.src.idx),.d (.bool e.dst.J6),.d (.str e.dst.name),.d (.int .i64 e.dst.idx),.d (.bool e.ins)]
abbrev edV(e:Bn):SV:=.agg (edS e)
abbrev Gv(l:List Bn):SV:=.d (.slice (L0 l))
abbrev Qq(l:List H4):SV:=.d (.slice (T7 l))
def Gn{l:List Bn}{i:Nat}{c:Bn}(h:l[i]?=some c):(L0 l)[i]?=some (Ev c):=Zi h
def E6a{l:List E3}{i:Nat}{c:E3}(h:l[i]?=some c):(U3 l)[i]?=some (noC c):=Zi h
def C5d{l:List H4}{i:Nat}{c:H4}(h:l[i]?=some c):(T7 l)[i]?=some (vaC c):=Zi h
def P8(l:List Bn):(L0 l).length=l.length:=by simp[L0]
def Yq(l:List E3):(U3 l).length=l.length:=by simp[U3]
def B2c(l:List H4):(T7 l).length=l.length:=by simp[T7]
variable {S:Nat->Prop} {w:World} {β:Names}
def D9i{xs:List SV}{v:Value}(h:Am S w β (.agg xs) v):∃vs:List Value,v=.agg ⟨vs⟩/\vs.length=xs.length/\∀(j:Nat)(c:SV)(u:Value),xs[j]?=some c->vs[j]?=some u->Am S w β c u:=by cases h with|agg _ vs I _ E=>exact⟨vs,rfl,I,E⟩
def E0k{a:E3}{v:Value}(h:Am S w β (U9 a) v):v=.agg #[.bool a.J6,.string (mkStr a.name),.int .i64 a.idx]:=by
 obtain⟨vs,rfl,O,hr⟩:=D9i h
 match vs,O with
 |[J,E,V],_ =>have U:=(hr 0 _ J rfl rfl).Vn;have I:=(hr 1 _ E rfl rfl).U1.1;have L:=(hr 2 _ V rfl rfl).J2;subst U I L;rfl
def E1k{a:Bn}{v:Value}(h:Am S w β (edV a) v) :
  v=.agg #[.bool a.src.J6,.string (mkStr a.src.name),.int .i64 a.src.idx,.bool a.dst.J6,.string (mkStr a.dst.name),.int .i64 a.dst.idx,.bool a.ins]:=by
 obtain⟨vs,rfl,hl,hr⟩:=D9i h
 match vs,hl with
 |[U,I,v2,E,W,v5,v6],_ =>have h0:=(hr 0 _ U rfl rfl).Vn;have O:=(hr 1 _ I rfl rfl).U1.1;have V:=(hr 2 _ v2 rfl rfl).J2;have Z:=(hr 3 _ E rfl rfl).Vn;have J:=(hr 4 _ W rfl rfl).U1.1;have L:=(hr 5 _ v5 rfl rfl).J2;have h6:=(hr 6 _ v6 rfl rfl).Vn;subst h0 O V Z J L h6;rfl
def C6i(d:Nat)(a b:E3)(w:World):(Op.equalIn (d+2) 192 (.agg #[.bool a.J6,.string (mkStr a.name),.int .i64 a.idx]) (.agg #[.bool b.J6,.string (mkStr b.name),.int .i64 b.idx])).run Tryz.prog w=.ok (decide (a=b)) w:=by
 have U:Tryz.prog.underlying 192=some (.struct (Tryz.prog.fieldsOf 192)):=by kernel_rfl
 have I:Tryz.prog.stoodInHeld 192=false:=by kernel_rfl
 rw[run_equalIn_agg w (d+1) 192 _ _ U I];simp only[Program.fieldsOf,underlying192]
 go_simp
 have J:(a=b)↔a.J6=b.J6/\a.name=b.name/\a.idx=b.idx:=by obtain⟨a1,a2,V⟩:=a;obtain⟨b1,Z,W⟩:=b;simp
 simp only[E4o];by_cases E:a.J6=b.J6 <;> by_cases L:a.name=b.name <;> by_cases O:a.idx=b.idx <;> simp[E,L,O,J]
def Y8{sl:SL}{bx:Ab}{x y:Operand}{u:TypeId}(a b:E3)(O:Ao sl x=U9 a)(U:Ao sl y=U9 b):Z9 Tryz.prog sl bx (.binOp .eql 192 x y u) (Aw (decide (a=b))):=by intro o J;refine .E4 λ_ S w β V _ L=>?_;have E:=L x (mC J);rw[O]at E;have I:=L y (mC J);rw[U]at I;have E:=E0k E;have I:=E0k I;refine⟨.bool (decide (a=b)),?_,.bool _⟩;simp only[execOp,J,Hm,E,I,run_eqGuard_agg w .eql 192 x y _ _ Tryz.eqGuardType192,H0,run_eql_struct];rw[show(10000:Nat)=9998+2 from rfl,C6i];rfl
def D2b{sl:SL}{bx:Ab}{x y:Operand}{u:TypeId}(a b:Bn)(O:Ao sl x=edV a)(Z:Ao sl y=edV b):Z9 Tryz.prog sl bx (.binOp .eql 194 x y u) (Aw (decide (a=b))):=by
 intro o J;refine .E4 λ_ S w β ac _ L=>?_;have I:=L x (mC J);rw[O]at I;have E:=L y (mC J);rw[Z]at E;have I:=E1k I;have E:=E1k E;refine⟨.bool (decide (a=b)),?_,.bool _⟩;have U:Tryz.prog.underlying 194=some (.struct (Tryz.prog.fieldsOf 194)):=by kernel_rfl
 have V:Tryz.prog.stoodInHeld 194=false:=by kernel_rfl
 have e1:=C6i 9997 a.src b.src;have e2:=C6i 9997 a.dst b.dst;simp only[execOp,J,Hm,I,E,run_eqGuard_agg w .eql 194 x y _ _ Tryz.eqGuardType194,H0,run_eql_struct];rw[show(10000:Nat)=9999+1 from rfl,run_equalIn_agg w 9999 194 _ _ U V];simp only[Program.fieldsOf,underlying194];rw[show(9999:Nat)=9997+2 from rfl];have he:(a=b)↔a.src=b.src/\a.dst=b.dst/\a.ins=b.ins:=by obtain⟨a1,a2,a3⟩:=a;obtain⟨b1,b2,b3⟩:=b;simp
 simp only[Op.eqFields]
 go_simp
 by_cases I:a.src=b.src <;> by_cases E:a.dst=b.dst <;> by_cases W:a.ins=b.ins <;> simp[I,E,W,]
abbrev A1s:List Nat:=[0,1,2,3,4,5,12]
def F7o(a b:Bn):Aa Tryz.prog 327 [edV a,edV b] (Aw (B7u a b)):=by
 have h1:=D1v a.src b.src;have Z:=D1v a.dst b.dst;unfold B7u;obtain⟨⟨m1,n1,i1⟩,⟨m2,U,i2⟩,q1⟩:=a;obtain⟨⟨m3,n3,i3⟩,⟨m4,W,i4⟩,V⟩:=b;simp only at h1 Z |-;generalize A5s ⟨m1,n1,i1⟩ ⟨m3,n3,i3⟩=x at*;generalize A5s ⟨m2,U,i2⟩ ⟨m4,W,i4⟩=y at*;refine cB func327 ?_;refine sR A1s ?_;refine sC h1 A1s<|sK λK1 u1=>?_;have E:∀c:Int,(if x=0 then y else x)=c->∀sl bx,sle sl [(2,.box 2 0),(3,.box 3 0),(5,A5 c)]->ble bx [(2,.cells (edS ⟨⟨m1,n1,i1⟩,⟨m2,U,i2⟩,q1⟩)),(3,.cells (edS ⟨⟨m3,n3,i3⟩,⟨m4,W,i4⟩,V⟩))]->K1 sl bx:=by
  intro c L sl bx s1 s2;refine u1 _ _ (A0.ww s1 s2 ?_);clear u1 K1;rw[L];by_cases I:c<0
  .rw[Bj I,Uk];refine Ak I A1s ?_;exact aR
  rw[C9 I,V8];by_cases O:c=0
  .subst O;cases q1 <;> cases V <;> (
    refine sR A1s ?_;exact aR)
  .rw[C9 O,C3];refine Ei I O A1s ?_;exact aR
 by_cases J:x=0
 .subst J;refine sR A1s ?_;refine A0.tt rfl ?_
  (refine lV A1s λK z=>?_;refine cc Z ?_;apply z;clear z K;try simp only[A4,])
  exact E y (by rw[A8 rfl]) _ _ sS sB
 .refine Ak J A1s ?_;refine A0.ff rfl (A0.kk ?_);exact E x (by rw[A6 J]) _ _ sS sB
abbrev Md:List Nat:=[0,1,3,4,5,6,10,18,31,47]
def F9w(l:List Bn)(e:Bn)(hl:l.length<=1000000000000):Aa Tryz.prog 309 [Gv l,edV e] (Gv (Yw l e)):=by
 have hR:∃R,Tj e l 0 []=R:=⟨_,rfl⟩;obtain⟨R,hR⟩:=hR;have V:Yw l e=A7n l e R:=by rw[G5i,hR]
 rw[V];clear V;refine cB func309 ?_;refine sR Md ?_;refine sR Md ?_;refine A0.pp 5 7 5 rfl<|kR Md λK1 u1=>?_;refine A0.bb (A0.ii l (X:=List Bn) (λj out=>[(0,Gv l),(3,.box 3 0),(5,.acc 5),(6,A5 j)]) (λj out=>[(3,.cells (edS e)),(5,.rows 7 (L0 out))])
  (λj out=>Tj e (l.drop j) j out=R/\j<=out.length/\out.length<=j+1) [] ⟨hR,by simp,by simp⟩ sS (by simp[ble,A7,L0]) ?_ ?_)
 rotate_left
 .intro j out x hx a3 dp tk a1 J;obtain⟨J,a2,a0⟩:=J;have a4:=(Az.1 hx).1;rw[dp,Tj]at J;refine sK λK2 u2=>?_
  (refine sQ Md λK z=>?_;simp -implicitDefEqProofs only[EV,Nat.reduceEqDiff,reduceCtorEq,I4,a1,P8];apply z;clear z K)
  refine gI u2 ?_;clear u2 K2;refine sK λK2 u2=>A0.bb<|sK λK3 u3=>?_;by_cases W:x=e
  .subst W;rw[A8 rfl]at J;subst J
   (refine sG Md [] 5 [] λK z=>?_;refine ev ?_;refine⟨by omega,_,Gn hx,rfl,?_⟩;(try simp -implicitDefEqProofs only[EV,Nat.reduceAdd,Nat.reduceEqDiff,reduceCtorEq,M3,Ev]);refine⟨_,D2b x x rfl rfl,?_⟩;(try refine ev ?_);apply z;clear z K)
   refine A0.tt rfl ?_;rw[show A7n l x none=l from rfl];refine sR Md ?_;exact aR
  rw[A6 W]at J
  (refine sG Md [] 5 [] λK z=>?_;refine ev ?_;refine⟨by omega,_,Gn hx,rfl,?_⟩;(try simp -implicitDefEqProofs only[EV,Nat.reduceAdd,Nat.reduceEqDiff,reduceCtorEq,M3,Ev]);refine⟨_,D2b x e rfl rfl,?_⟩;(try refine Ap W ?_);apply z;clear z K)
  refine A0.ff rfl (A0.kk (u3 _ _ ?_));clear u3 K3;have O:=F7o e x;refine sK λK3 u3=>?_;have Z:∀I:List Bn,Tj e (l.drop (j+1)) (j+1) (I++[x])=R->(I++[x]).length<=j+2->j+1<=(I++[x]).length->∀sl bx,sle sl [(0,Gv l),(3,.box 3 0),(5,.acc 5),(6,A5 j)]->ble bx [(3,.cells (edS e)),(5,.rows 7 (L0 I))]->K3 sl bx:=by
   intro I h1 h2 h3 sl bx s1 s2;refine u3 _ _ (A0.ww s1 s2 ?_);clear u3 K3;rw[B6,Bg,Ca]at h2 h3
   (refine lV Md λK z=>?_;refine⟨by omega,_,Gn hx,rfl,?_⟩;(try simp -implicitDefEqProofs only[EV,Nat.reduceAdd,Nat.reduceEqDiff,Nat.reduceBEq,Nat.reduceLeDiff,Nat.reduceMul,reduceCtorEq,I4,M3,Ev,P8,]);refine⟨by simp,by unfold lim;omega,?_⟩;apply z;clear z K;try simp only[A4,Ac])
   refine u2 _ _ ?_;clear u2 K2
   (refine lV Md λK z=>?_;refine cl ?_;apply z;clear z K;try simp only[A4,])
   exact⟨I++[x],⟨h1,by rw[B6,Bg,Ca];omega,by rw[B6,Bg,Ca];omega⟩,sS,by simp[ble,A7,L0,Ev]⟩
  by_cases L:out.length=j
  .have E:((out.length:Nat):Int)=(j:Int):=by omega
   cases U:B7u e x with
   |true =>
    rw[A8 ⟨L,U⟩]at J;rw[U]at O
    (refine sG Md [] 10 [] λK z=>?_;simp -implicitDefEqProofs only[EV,Nat.reduceAdd,Nat.reduceEqDiff,reduceCtorEq,I4,M3,P8,E];refine⟨by omega,_,Gn hx,rfl,?_⟩;(try simp -implicitDefEqProofs only[EV,Nat.reduceAdd,Nat.reduceEqDiff,reduceCtorEq,Ev,]);refine cc O ?_;apply z;clear z K)
    refine A0.tt rfl ?_
    (refine lQ Md λK z=>?_;simp -implicitDefEqProofs only[EV,Nat.reduceAdd,Nat.reduceEqDiff,Nat.reduceBEq,Nat.reduceLeDiff,Nat.reduceMul,reduceCtorEq,I4,M3,P8];refine⟨by simp,by unfold lim;omega,?_⟩;apply z;clear z K;try simp only[A4,])
    exact Z (out++[e]) J (by rw[B6,B6];simp only[Bg,Ca];omega) (by rw[B6,B6];simp only[Bg,Ca];omega) _ _ sS (by simp[ble,A7,L0,Ev])
   |false =>
    rw[A6 (by rw[U];simp)]at J;rw[U]at O
    (refine sG Md [] 10 [] λK z=>?_;simp -implicitDefEqProofs only[EV,Nat.reduceAdd,Nat.reduceEqDiff,reduceCtorEq,I4,M3,P8,E];refine⟨by omega,_,Gn hx,rfl,?_⟩;(try simp -implicitDefEqProofs only[EV,Nat.reduceAdd,Nat.reduceEqDiff,reduceCtorEq,Ev,]);refine cc O ?_;apply z;clear z K)
    refine A0.ff rfl (A0.kk ?_);exact Z out J (by rw[B6];simp only[Bg,Ca];omega) (by rw[B6];simp only[Bg,Ca];omega) _ _ sS (by simp[ble,A7,L0])
  .have E:¬((out.length:Nat):Int)=(j:Int):=by omega
   rw[A6 (λh=>L h.1)]at J
   (refine sG Md [] 10 [] λK z=>?_;simp -implicitDefEqProofs only[EV,Nat.reduceEqDiff,reduceCtorEq,I4,P8,E];apply z;clear z K)
   refine A0.ff rfl (A0.kk ?_);exact Z out J (by rw[B6];simp only[Bg,Ca];omega) (by rw[B6];simp only[Bg,Ca];omega) _ _ sS (by simp[ble,A7,L0])
 intro out J;obtain⟨J,a2,a0⟩:=J;rw[Db,Tj]at J;subst J;refine sK λK2 u2=>?_
 (refine sQ Md λK z=>?_;simp -implicitDefEqProofs only[EV,Nat.reduceEqDiff,reduceCtorEq,I4,B3,P8];apply z;clear z K)
 refine A0.ss rfl ?_;simp only[A4,Ac,Af];refine u1 _ _ ?_;clear u2 K2 u1 K1;refine sK λK1 u1=>?_;by_cases L:out.length=l.length
 .have E:((out.length:Nat):Int)=(l.length:Int):=by omega
  rw[show A7n l e (some out)=out++[e] from A8 L]at u1
  (refine sQ Md λK z=>?_;simp -implicitDefEqProofs only[EV,Nat.reduceEqDiff,reduceCtorEq,I4,P8,E];apply z;clear z K)
  refine A0.tt rfl ?_
  (refine lQ Md λK z=>?_;simp -implicitDefEqProofs only[EV,Nat.reduceAdd,Nat.reduceEqDiff,Nat.reduceBEq,Nat.reduceLeDiff,Nat.reduceMul,reduceCtorEq,I4,M3,P8];refine⟨by simp,by unfold lim;omega,?_⟩;apply z;clear z K;try simp only[A4,])
  refine u1 _ _<|sR Md ?_;have e1:Gv (out++[e])=.d (.slice (L0 out++[Ev e])):=by simp[L0]
  rw[e1];exact aR
 .have E:¬((out.length:Nat):Int)=(l.length:Int):=by omega
  rw[show A7n l e (some out)=out from A6 L]at u1
  (refine sQ Md λK z=>?_;simp -implicitDefEqProofs only[EV,Nat.reduceEqDiff,reduceCtorEq,I4,P8,E];apply z;clear z K)
  refine A0.ff rfl (A0.kk (u1 _ _ ?_));refine sR Md ?_;exact aR
def F9a(l:List H4):∀row,row∈T7 l->row.length=4:=by intro row h;obtain⟨t,_,rfl⟩:=Au.1 h;rfl
def B7i(s:List H4)(m:Bool)(own:A2)(l:List A2):(L2 s m own l).length=s.length+l.length:=by simp[L2]
abbrev A1n:List Nat:=[0,1,2,3,8,9,10,11,17]
def C0a(s:List H4)(m:Bool)(own:A2)(l:List A2)(hs:s.length<=10*sm)(Z:l.length<=sm):Aa Tryz.prog 199 [Qq s,Aw m,Bm own,Cc l] (Qq (L2 s m own l)):=by
 refine cB func199 ?_;refine sR A1n ?_
 (refine A0.D7 A1n [11] (by decide +kernel) λK z=>?_;refine ev ?_;refine⟨F9a _,by(try simp only[B2c]);unfold lim sm at*;omega,?_⟩;(try refine ev ?_);apply z;clear z K)
 refine kR A1n λU u1=>?_;refine A0.bb (A0.ii l (X:=Unit) (λj _=>[(1,Aw m),(2,Bm own),(3,Cc l),(9,.acc 11),(10,A5 j)]) (λj _=>[(11,.rows 4 (T7 (s++(List.range j).map λi=>⟨(l[i]?).getD [],m,own,i⟩)))])
  (λ_ _=>True) () trivial sS (by simp[ble,A7,T7]) ?_ ?_)
 rotate_left
 .intro j _ d hd L V tk I _;have W:=(Az.1 hd).1;have O:T7 (s++(List.range (j+1)).map λi=>⟨(l[i]?).getD [],m,own,i⟩)=T7 (s++(List.range j).map λi=>⟨(l[i]?).getD [],m,own,i⟩)++[[.str d,.bool m,.str own,.int .i64 j]]:=by
   rw[List.range_succ,G0,<-Ga];simp[T7,hd,vaC]
  have J:(T7 (s++(List.range j).map λi=>⟨(l[i]?).getD [],m,own,i⟩)).length=s.length+j:=by simp[T7]
  rw[O];generalize T7 (s++(List.range j).map λi=>⟨(l[i]?).getD [],m,own,i⟩)=PR at*;refine Ai I A1n λE u2=>?_;refine gI u2 ?_;clear u2 E;refine sK λE u2=>A0.bb ?_
  (refine lV A1n λK z=>?_;refine⟨by omega,_,Ko hd,rfl,?_⟩;(try refine Ap J ?_);refine⟨by simp,by(try simp only[J]);unfold lim sm at*;omega,?_⟩;(try refine Ap J ?_);apply z;clear z K;try simp only[A4,Ac])
  refine u2 _ _ ?_;clear u2 E;refine lT A1n ?_;exact⟨(),trivial,sS,by simp[ble,A7]⟩
 intro _ _;refine Ai B3 A1n λE u2=>?_;refine A0.ss rfl ?_;simp only[A4,Ac,Af];refine u1 _ _ ?_;clear u2 E u1 U;refine sR A1n ?_;exact aR
def F2d(s:List H4)(E:E3)(b:Bool)(l:List Bn)(t:Ty):V5 s E b l t=match(if t.args.isEmpty=true then A5k s t.name else none)with
  |some v=>Yw l ⟨v.node,E,b⟩
  |none=>Xx s E l t.args:=by cases t;rw[V5];rfl
abbrev Q3:List Nat:=[0,1,2,3,4,7,8,10,11,12,22,32,47]
def F3u(s:List H4)(hs:s.length<=10*sm)(I:E3):∀(t:Ty)(b:Bool)(l:List Bn),l.length+t.Dv<=1000000000000->Aa Tryz.prog 273 [Gv l,Qq s,U9 I,B7 t,Aw b] (Gv (V5 s I b l t)):=by
 intro t
 induction t using Ty.induct with
 |h t ih =>
 intro b l hl;have a3:=Ty.Ug t;have a4:=C5m t.args;rw[F2d];have Z:∃R,Xx s I l t.args=R:=⟨_,rfl⟩;obtain⟨R,Z⟩:=Z;rw[Z];refine cB func273 ?_;refine sR Q3 ?_;refine kR Q3 λK1 u1=>?_;have U:(if t.args.isEmpty=true then A5k s t.name else none)=none->∀sl bx,sle sl [(0,Gv l),(1,Qq s),(7,.box 7 0),(8,.box 8 0)]->ble bx [(7,.cells (noS I)),(8,.cells [.d (.str t.name),.d (.slice (Ax t.args)),.d (.int .i64 t.pos)])]->K1 sl bx:=by
  intro a1 sl bx s1 s2;refine u1 _ _ (A0.ww s1 s2 ?_);clear u1 K1;rw[a1];refine kR Q3 λK1 u1=>?_;refine A0.bb (A0.ii t.args (X:=List Bn) (λj z=>[(0,Gv z),(1,Qq s),(7,.box 7 0),(8,.box 8 0),(12,A5 j)])
   (λj z=>[(7,.cells (noS I)),(8,.cells [.d (.str t.name),.d (.slice (Ax t.args)),.d (.int .i64 t.pos)])])
   (λj z=>Xx s I z (t.args.drop j)=R/\z.length+Ty.C0 (t.args.drop j)<=1000000000000) l ⟨Z,by simp only[Aq4];omega⟩ sS sB ?_ ?_)
  rotate_left
  .intro j z d hd L dp tk O E;obtain⟨E,W⟩:=E;have hj:=(Az.1 hd).1;rw[dp,Xx]at E;rw[dp,Ty.C0]at W;have hc:=ih d L true z (by omega);have a2:=B8p s I d true z;generalize V5 s I true z d=z2 at*;refine Ai O Q3 λJ u2=>?_;refine gI u2 ?_;clear u2 J;refine sK λJ u2=>A0.bb ?_
   (refine lG Q3 [] 8 [] λK z=>?_;refine ev ?_;refine ci (Et hd) ?_;refine cc hc ?_;apply z;clear z K;try simp only[A4,Ac])
   refine u2 _ _ ?_;clear u2 J
   (refine lV Q3 λK z=>?_;refine cl ?_;apply z;clear z K;try simp only[A4,])
   exact⟨z2,⟨E,by omega⟩,sS,by simp[ble,A7]⟩
  intro z E;obtain⟨E,_⟩:=E;rw[Db,Xx]at E;subst E;refine Ai B3 Q3 λJ u2=>?_;refine A0.ss rfl ?_;simp only[A4,Ac,Af];refine u1 _ _ ?_;clear u2 J u1 K1;refine sR Q3 ?_;exact aR
 by_cases V:t.args=[]
 .have W:((t.args.length:Nat):Int)=0:=by rw[V];rfl
  refine A0.bb (A0.ii s (X:=Unit) (λj _=>[(0,Gv l),(1,Qq s),(4,Aw b),(7,.box 7 0),(8,.box 8 0),(11,A5 j)])
   (λj _=>[(7,.cells (noS I)),(8,.cells [.d (.str t.name),.d (.slice (Ax t.args)),.d (.int .i64 t.pos)])])
   (λj _=>A5k s t.name=A5k (s.drop j) t.name) () rfl sS sB ?_ ?_)
  rotate_left
  .intro j _ v hv L dp tk O E;have hj:=(Az.1 hv).1;rw[dp]at E;unfold A5k at E;rw[An2]at E;refine sK λJ u2=>?_
   (refine sQ Q3 λK z=>?_;simp -implicitDefEqProofs only[EV,Nat.reduceEqDiff,reduceCtorEq,M1,Iw,B1x,O,W,B2c];apply z;clear z K)
   refine gI u2 ?_;clear u2 J;refine sK λJ u2=>A0.bb ?_;by_cases hn:v.name=t.name
   .rw[Bj hn]at E;have a0:A5k s t.name=some v:=E;have hp:=F9w l ⟨v.node,I,b⟩ (by omega);rw[V,List.isEmpty_nil,A8 rfl,a0];simp only;generalize Yw l ⟨v.node,I,b⟩=z at*
    (refine sG Q3 [] 7 [] λK z=>?_;refine ev ?_;refine⟨by omega,_,C5d hv,rfl,?_⟩;(try simp -implicitDefEqProofs only[EV,Nat.reduceEqDiff,reduceCtorEq,Ka,Iw,hn,vaC]);apply z;clear z K)
    refine A0.tt rfl ?_
    (refine sG Q3 [] 9 [] λK z=>?_;refine ev ?_;refine⟨by omega,_,C5d hv,rfl,?_⟩;(try simp -implicitDefEqProofs only[EV,Nat.reduceAdd,Nat.reduceEqDiff,Nat.reduceLeDiff,reduceCtorEq,Mf,M3,vaC]);refine⟨_,.inl ⟨_,rfl,hp,rfl⟩,?_⟩;apply z;clear z K)
    exact aR
   .rw[C9 hn]at E
    (refine sG Q3 [] 7 [] λK z=>?_;refine ev ?_;refine⟨by omega,_,C5d hv,rfl,?_⟩;(try simp -implicitDefEqProofs only[EV,Nat.reduceEqDiff,reduceCtorEq,Ka,Iw,hn,vaC]);apply z;clear z K)
    refine A0.ff rfl (A0.kk (u2 _ _ ?_));clear u2 J;refine lT Q3 ?_;exact⟨(),E,sS,by simp[ble,A7]⟩
  intro _ E;rw[Db]at E;refine sK λJ u2=>?_
  (refine sQ Q3 λK z=>?_;simp -implicitDefEqProofs only[EV,Nat.reduceEqDiff,reduceCtorEq,B1x,B3,B2c];apply z;clear z K)
  refine A0.ss rfl ?_;simp only[A4,Ac,Af];exact U (by rw[V,List.isEmpty_nil,A8 rfl,E];rfl) _ _ sS sB
 .have W:¬((t.args.length:Nat):Int)=0:=by
   intro h;exact V (Ap0.1 (by omega))
  refine A0.bb (A0.loop (X:=Unit) (λ_=>[(0,Gv l),(1,Qq s),(4,Aw b),(7,.box 7 0),(8,.box 8 0),(11,A5 0)])
   (λ_=>[(7,.cells (noS I)),(8,.cells [.d (.str t.name),.d (.slice (Ax t.args)),.d (.int .i64 t.pos)])])
   (λ_=>True) (λ_=>0) () trivial sS sB ?_)
  intro _ _;refine sK λJ u2=>?_;by_cases h0:(0:Int)<(s.length:Int)
  ·(refine sQ Q3 λK z=>?_;simp -implicitDefEqProofs only[EV,Nat.reduceEqDiff,reduceCtorEq,M1,Iw,B1x,h0,W,B2c];apply z;clear z K)
   refine A0.ss rfl ?_;simp only[A4,Ac,Af];exact U (by rw[A6 (by rw[Au6];exact V)]) _ _ sS sB
  ·(refine sQ Q3 λK z=>?_;simp -implicitDefEqProofs only[EV,Nat.reduceEqDiff,reduceCtorEq,B1x,h0,B2c];apply z;clear z K)
   refine A0.ss rfl ?_;simp only[A4,Ac,Af];exact U (by rw[A6 (by rw[Au6];exact V)]) _ _ sS sB
def D9p(s:List H4)(m:Bool)(own:A2)(i:Nat)(l:List Bn)(t:Ty):B0y s m own i l t=Gg s false t.name 0 (V5 s ⟨m,own,i⟩ false l t) t.args:=by cases t;rw[B0y];rfl
def D8u(x:Nat):x<=x*x:=by
 cases x with
 |zero=>simp
 |succ n=>exact Nat.le_mul_of_pos_left _ (by omega)
abbrev A2i:List Nat:=[0,1,2,3,4,10,11,15]
def G4z(s:List H4)(hs:s.length<=10*sm):∀(t:Ty)(m:Bool)(own:A2)(l:List Bn),l.length+Ty.C0 t.args*Ty.C0 t.args<=1000000000000->Aa Tryz.prog 201 [Gv l,Qq s,Aw m,Bm own,Cm t.args] (Gv (Gg s m own 0 l t.args)):=by
 intro t
 induction t using Ty.induct with
 |h t ih =>
 intro m own l hl;have Z:=C5m t.args;have a0:=D8u (Ty.C0 t.args);generalize t.args=a at*;have L:∃R,Gg s m own 0 l a=R:=⟨_,rfl⟩;obtain⟨R,L⟩:=L;rw[L];refine cB func201 ?_;refine sR A2i ?_;refine kR A2i λK1 u1=>?_;refine A0.bb (A0.ii a (X:=List Bn) (λj z=>[(0,Gv z),(1,Qq s),(2,Aw m),(3,Bm own),(4,Cm a),(11,A5 j)]) (λj z=>[])
  (λj z=>Gg s m own j z (a.drop j)=R/\z.length+Ty.C0 (a.drop j)*Ty.C0 (a.drop j)<=1000000000000) l ⟨L,by simpa using hl⟩ sS (by simp[ble]) ?_ ?_)
 rotate_left
 .intro j z d hd J W tk U E;obtain⟨E,hz⟩:=E;have hj:=(Az.1 hd).1;rw[W,Gg,D9p]at E;rw[W,Ty.C0]at hz;have h1:=Tm d.Dv (Ty.C0 (a.drop (j+1)));have h2:=D8u d.Dv;have h3:=B8p s ⟨m,own,j⟩ d false z;have O:=F3u s hs ⟨m,own,j⟩ d false z (by omega);have h4:=D7q s d m own j z;rw[D9p]at h4;generalize a1:V5 s ⟨m,own,j⟩ false z d=z1 at*;have h5:d.Dv=d.name.length+4+Ty.C0 d.args:=Ty.Ug d;have h6:d.Dv+Ty.C0 d.args*Ty.C0 d.args<=d.Dv*d.Dv:=by
   generalize Ty.C0 d.args=y at*;generalize d.Dv=x at*;have g6:x*(y+4)<=x*x:=Ak9 _ (by omega);have g7:x*(y+4)=x*y+x*4:=Nat.mul_add _ _ _;have g8:y*y<=x*y:=Hp _ (by omega);omega
  have V:=ih d J false d.name z1 (by omega);generalize Gg s false d.name 0 z1 d.args=z2 at*;refine Ai U A2i λI u2=>?_;refine gI u2 ?_;clear u2 I;refine sK λI u2=>A0.bb ?_
  (refine sV A2i λK z=>?_;refine ci (Et hd) ?_;refine cc O ?_;apply z;clear z K)
  (refine lG A2i [] 12 [] λK z=>?_;refine ev ?_;refine ci (Et hd) ?_;refine ci (Et hd) ?_;refine cc V ?_;apply z;clear z K;try simp only[A4,Ac])
  refine u2 _ _ ?_;clear u2 I
  (refine lV A2i λK z=>?_;refine cl ?_;apply z;clear z K;try simp only[A4,])
  exact⟨z2,⟨E,by omega⟩,sS,by simp[ble]⟩
 intro z E;obtain⟨E,_⟩:=E;rw[Db,Gg]at E;subst E;refine Ai B3 A2i λI u2=>?_;refine A0.ss rfl ?_;simp only[A4,Ac,Af];refine u1 _ _ ?_;clear u2 I u1 K1;refine sR A2i ?_;exact aR
def B4y(s:List H4)(hs:s.length<=10*sm)(m:Bool)(own:A2)(a:List Ty)(l:List Bn)(h:l.length+Ty.C0 a*Ty.C0 a<=1000000000000):Aa Tryz.prog 201 [Gv l,Qq s,Aw m,Bm own,Cm a] (Gv (Gg s m own 0 l a)) :=
 G4z s hs (.mk [] a 0) m own l h
end Go.Abs
