/- castingsref18: edges between type parameters, plain functions and how many there can be -/
import Derived.Test.YtcmlfpcaeflleaaGreatDoorGS95
import Derived.Laws.StructEq
set_option linter.all false
set_option maxHeartbeats 4000000
set_option maxRecDepth 100000
namespace Go.Abs
open Go
structure Ed where
 Mu:Bool
 name:A3
 idx:Int
 deriving DecidableEq
structure Bq where
 src:Ed
 dst:Ed
 ins:Bool
 deriving DecidableEq
structure Hg where
 name:A3
 node:Ed
def noC(n:Ed):List D:=[.bool n.Mu,.str n.name,.int .i64 n.idx]
def Ff(e:Bq):List D:=[.bool e.src.Mu,.str e.src.name,.int .i64 e.src.idx,.bool e.dst.Mu,.str e.dst.name,.int .i64 e.dst.idx,.bool e.ins]
def vaC(v:Hg):List D:=[.str v.name,.bool v.node.Mu,.str v.node.name,.int .i64 v.node.idx]
def Vb(l:List Ed):List (List D):=l.map noC
def M4(l:List Bq):List (List D):=l.map Ff
def Uq(l:List Hg):List (List D):=l.map vaC
def A6w(a b:Ed):Int:=if a.Mu≠b.Mu then(if b.Mu=true then -1 else 1)else if a.name≠b.name then Bs a.name b.name else if a.idx<b.idx then -1 else if a.idx > b.idx then 1 else 0
def C2j(a b:Bq):Bool:=let c:=if A6w a.src b.src=0 then A6w a.dst b.dst else A6w a.src b.src
 decide (c<0) ||(decide (c=0) && (!a.ins && b.ins))
def To(e:Bq):List Bq->Nat->List Bq->Option (List Bq)
 |[],_,out=>some out
 |x::r,i,out=>if x=e then none else To e r (i+1) ((if out.length=i/\C2j e x=true then out++[e]else out)++[x])
def A1h(l:List Bq)(e:Bq):List Bq:=match To e l 0 []with
 |none=>l
 |some out=>if out.length=l.length then out++[e]else out
def D7k{e:Bq} :∀{l:List Bq} {i:Nat} {out R:List Bq},i<=out.length->out.length<=i+1->To e l i out=some R->i+l.length<=R.length/\R.length<=i+l.length+1
 |[],i,out,R,I,E,h=>by simp only[To,B4]at h;subst h;simp;omega
 |x::l,i,out,R,I,E,h=>by
  rw[To]at h;split at h
  .cases h
  .have L:=D7k (i:=i+1) (by
    rw[Bz];simp only[C6,Dy];split
    .rw[Bz];simp only[C6,Dy];omega
    .omega) (by
    rw[Bz];simp only[C6,Dy];split
    .rename_i J;rw[Bz];simp only[C6,Dy];omega
    .omega) h
   simp only[C6];omega
def B0g(l:List Bq)(e:Bq):Option (List Bq)->List Bq
 |none=>l
 |some out=>if out.length=l.length then out++[e]else out
def F0o(l:List Bq)(e:Bq):A1h l e=B0g l e (To e l 0 []):=by unfold A1h B0g;cases To e l 0 [] <;> rfl
def F7q(l:List Bq)(e:Bq):(A1h l e).length<=l.length+1:=by
 unfold A1h;cases h:To e l 0 []with
 |none=>simp
 |some R =>
  have:=D7k (i:=0) (by simp) (by simp) h;simp only;split
  .rw[Bz];simp only[C6,Dy];omega
  .omega
def Lz(s:List Hg)(m:Bool)(own:A3)(l:List A3):List Hg:=s++(List.range l.length).map λi=>⟨(l[i]?).getD [],m,own,i⟩
def A5r(s:List Hg)(n:A3):Option Hg:=s.find? λv=>decide (v.name=n)
mutual
def Vk(s:List Hg)(E:Ed):Bool->List Bq->Ty->List Bq
 |b,l,.mk n a _=>match(if a.isEmpty=true then A5r s n else none)with
  |some v=>A1h l ⟨v.node,E,b⟩
  |none=>Xq s E l a
def Xq(s:List Hg)(E:Ed):List Bq->List Ty->List Bq
 |l,[]=>l
 |l,t::ts=>Xq s E (Vk s E true l t) ts
end
mutual
theorem B8i(s:List Hg)(E:Ed):∀(t:Ty)(b:Bool)(l:List Bq),(Vk s E b l t).length<=l.length+t.Cb
 |.mk n a p,b,l=>by
  rw[Vk,Ty.Cb];have h:=E1q s E a l;split
  .rename_i v L;have:=F7q l ⟨v.node,E,b⟩;omega
  .omega
theorem E1q(s:List Hg)(E:Ed):∀(a:List Ty)(l:List Bq),(Xq s E l a).length<=l.length+Ty.C4 a
 |[],l=>by simp[Xq]
 |t::ts,l=>by have J:=B8i s E t true l;have I:=E1q s E ts (Vk s E true l t);rw[Xq,Ty.C4];omega
end
mutual
def B1q(s:List Hg)(m:Bool)(own:A3)(i:Nat):List Bq->Ty->List Bq
 |l,.mk n a p=>Gq s false n 0 (Vk s ⟨m,own,i⟩ false l (.mk n a p)) a
def Gq(s:List Hg)(m:Bool)(own:A3):Nat->List Bq->List Ty->List Bq
 |_,l,[]=>l
 |i,l,t::ts=>Gq s m own (i+1) (B1q s m own i l t) ts
end
def Uf(x y:Nat):x*x+y*y<=(x+y)*(x+y):=by rw[Gy,Nat.mul_add,Nat.mul_add];omega
mutual
theorem D5f(s:List Hg):∀(t:Ty)(m:Bool)(own:A3)(i:Nat)(l:List Bq),(B1q s m own i l t).length<=l.length+t.Cb*t.Cb
 |.mk n a p,m,own,i,l=>by
  have E:=B8i s ⟨m,own,i⟩ (.mk n a p) false l;have I:=Z2 s a false n 0 (Vk s ⟨m,own,i⟩ false l (.mk n a p));rw[B1q];have J:(Ty.mk n a p).Cb=n.length+4+Ty.C4 a:=rfl;generalize Ty.C4 a=y at*;generalize(Ty.mk n a p).Cb=x at*;have O:x+y*y<=x*x:=by have V:x*(y+4)<=x*x:=An6 _ (by omega);have L:x*(y+4)=x*y+x*4:=Nat.mul_add _ _ _;have U:y*y<=x*y:=I9 _ (by omega);omega
  omega
theorem Z2(s:List Hg):∀(a:List Ty)(m:Bool)(own:A3)(i:Nat)(l:List Bq),(Gq s m own i l a).length<=l.length+Ty.C4 a*Ty.C4 a
 |[],m,own,i,l=>by simp[Gq]
 |t::ts,m,own,i,l=>by have E:=D5f s t m own i l;have I:=Z2 s ts m own (i+1) (B1q s m own i l t);have M:=Uf t.Cb (Ty.C4 ts);rw[Gq,Ty.C4];omega
end
def Tv(s:List Hg)(l:List Bq)(x:A5):List Bq :=
 Gq s false x.result.name 0 (x.params.foldl (λl p=>Gq s false p.type.name 0 l p.type.args) (x.A1.foldl (λl f=>Gq s false f.bound.name 0 l f.bound.args) l)) x.result.args
def A7d(l:List Bq)(d:Decl):List Bq :=
 if d.kind=3 then
  let s:=Lz (Lz [] false d.name d.vars) true d.sig.name (Af d.sig.A1)
  (Bg d.body).foldl (λl e=>Gq s true e.name 0 (Gq s false e.type.name 0 l e.type.args) e.targs) (Tv s l d.sig)
 else
  let s:=Lz [] false d.name (Af d.A1)
  d.sigs.foldl (λl x=>Tv (Lz s true x.name (Af x.A1)) l x) (Tv s l ⟨[],d.A1,d.fields,.mk [] [] 0,0⟩)
def A7f(p:Prog):List Bq:=p.decls.foldl A7d []
def Qv(n:Ed)(out:List Ed)(e:Bq):List Ed:=if(e.src=n\/e.src∈out)/\e.dst∉out then out++[e.dst]else out
def A3v(l:List Bq)(n:Ed):Nat->Int->List Ed->List Ed
 |0,_,out=>out
 |k+1,c,out=>if c=out.length then out else A3v l n k out.length (l.foldl (Qv n) out)
def A2t(l:List Bq)(n:Ed):List Ed:=A3v l n (l.length+3) (-1) []
def B3z(l:List Bq)(a b:Ed):Bool:=decide (b∈A2t l a)
def C2g(l:List Bq):List Bq:=l.filter λe=>e.ins && (decide (e.dst=e.src) ||B3z l e.dst e.src)
def B8a(p:Prog):Bool:=decide ((C2g (A7f p)).length=0)
def A9h{α:Type}{f:List Bq->α->List Bq}{g:α->Nat}(h:∀l a,(f l a).length<=l.length+g a*g a):∀(as_:List α)(l:List Bq),(as_.foldl f l).length<=l.length+(as_.map g).sum*(as_.map g).sum
 |[],l=>by simp
 |a::r,l=>by have I:=h l a;have E:=A9h h r (f l a);have J:=Uf (g a) (r.map g).sum;rw[Jp,Ck,Mi];omega
def B4n(a b c x y:Nat)(I:b<=a+x*x)(E:c<=b+y*y):c<=a+(x+y)*(x+y):=by have:=Uf x y;omega
def A6a{z E:Nat}{x y:Nat}(h:z+(x+y)*(x+y)<=1000000000000)(I:E<=z+x*x):E+y*y<=1000000000000:=by have:=Uf x y;omega
open Go Go.Proofs Tryz
abbrev noS(n:Ed):List SV:=[.d (.bool n.Mu),.d (.str n.name),.d (.int .i64 n.idx)]
abbrev V9(n:Ed):SV:=.agg (noS n)
abbrev Ie:List Nat:=[0,1,2,3,4,9,11,16,26,31]
def E2z(a b:Ed):Ac Tryz.prog 304 [V9 a,V9 b] (A8 (A6w a b)):=by
 have hc:=B4i a.name b.name;obtain⟨m1,O,M⟩:=a;obtain⟨m2,W,J⟩:=b;unfold A6w;simp only at hc |-;generalize Bs O W=z at*;have main:∀m:Bool,Ac Tryz.prog 304 [V9 ⟨m,O,M⟩,V9 ⟨m,W,J⟩] (A8 (if O≠W then z else if M<J then -1 else if M > J then 1 else 0)):=by
  intro m;have U:(m ==m)=true:=by simp
  by_cases I:O=W
  .rw[A6 (λh=>h I)];by_cases L:M<J
   .rw[A9 L];refine cB func304 ?_;refine sR Ie ?_;refine Ai U Ie λE u1=>?_;refine kI u1 ?_;clear u1 E;refine Ai I Ie λE u1=>?_;refine kI u1 ?_;clear u1 E;refine Ai L Ie λE u1=>?_;refine tI ?_;refine sR Ie ?_;exact aR
   rw[A6 L];by_cases V:M > J
   .rw[A9 V];refine cB func304 ?_;refine sR Ie ?_;refine Ai U Ie λE u1=>?_;refine kI u1 ?_;clear u1 E;refine Ai I Ie λE u1=>?_;refine kI u1 ?_;clear u1 E;refine Ai L Ie λE u1=>?_;refine kI u1 ?_;clear u1 E;refine Ai V Ie λE u1=>?_;refine tI ?_;refine sR Ie ?_;exact aR
   .rw[A6 V];refine cB func304 ?_;refine sR Ie ?_;refine Ai U Ie λE u1=>?_;refine kI u1 ?_;clear u1 E;refine Ai I Ie λE u1=>?_;refine kI u1 ?_;clear u1 E;refine Ai L Ie λE u1=>?_;refine kI u1 ?_;clear u1 E;refine Ai V Ie λE u1=>?_;refine kI u1 ?_;clear u1 E;refine sR Ie ?_;exact aR
  .rw[A9 I];refine cB func304 ?_;refine sR Ie ?_;refine Ai U Ie λE u1=>?_;refine kI u1 ?_;clear u1 E;refine Ai I Ie λE u1=>?_;refine tI ?_;refine sC hc Ie ?_;exact aR
 cases m1 <;> cases m2
 .exact main false
 .rw[A9 (by decide),A9 rfl];refine cB func304 ?_;refine sR Ie ?_;refine kR Ie λE u1=>?_;refine tI ?_;refine kR Ie λZ u2=>?_;refine tI ?_;refine sR Ie ?_;exact aR
 .rw[A9 (by decide),A6 (by decide)];refine cB func304 ?_;refine sR Ie ?_;refine kR Ie λE u1=>?_;refine tI ?_;refine kR Ie λZ u2=>?_;refine kI u2 ?_;clear u2 Z;refine sR Ie ?_;exact aR
 .exact main true
open Go
def Tp(l:List Am):Nat:=(l.map λf=>Ty.C4 f.bound.args).sum
def Pw(l:List Param):Nat:=(l.map λf=>Ty.C4 f.type.args).sum
def A5.al(s:A5):Nat:=Tp s.A1+Pw s.params+Ty.C4 s.result.args
def A0w(e:Ex):Nat:=Ty.C4 e.type.args+Ty.C4 e.targs
def U5(l:List Ex):Nat:=(l.map A0w).sum
def A1u(l:List A5):Nat:=(l.map A5.al).sum
def Decl.al(d:Decl):Nat:=if d.kind=3 then d.sig.al+U5 (Bg d.body)else Tp d.A1+Pw d.fields+A1u d.sigs
def Qb(l:List Decl):Nat:=(l.map Decl.al).sum
def A2n(d:Decl):A5:=⟨[],d.A1,d.fields,.mk [] [] 0,0⟩
def D5v(d:Decl):(A2n d).al=Tp d.A1+Pw d.fields:=by simp[A5.al,A2n,Ty.args,Ty.C4]
def B0q(s:List Hg)(l:List Bq)(x:A5):(Tv s l x).length<=l.length+x.al*x.al:=by have I:=A9h (f:=λl (f:Am)=>Gq s false f.bound.name 0 l f.bound.args) (g:=λf=>Ty.C4 f.bound.args) (λl f=>Z2 s f.bound.args false f.bound.name 0 l) x.A1 l;have E:=A9h (f:=λl (f:Param)=>Gq s false f.type.name 0 l f.type.args) (g:=λf=>Ty.C4 f.type.args) (λl f=>Z2 s f.type.args false f.type.name 0 l) x.params (x.A1.foldl (λl f=>Gq s false f.bound.name 0 l f.bound.args) l);have J:=Z2 s x.result.args false x.result.name 0 (x.params.foldl (λl p=>Gq s false p.type.name 0 l p.type.args) (x.A1.foldl (λl f=>Gq s false f.bound.name 0 l f.bound.args) l));exact B4n _ _ _ _ _ (B4n _ _ _ _ _ I E) J
def exE(s:List Hg)(l:List Bq)(e:Ex):List Bq:=Gq s true e.name 0 (Gq s false e.type.name 0 l e.type.args) e.targs
def D8e(s:List Hg)(l:List Bq)(e:Ex):(exE s l e).length<=l.length+A0w e*A0w e :=
 B4n _ _ _ _ _ (Z2 s e.type.args false e.type.name 0 l) (Z2 s e.targs true e.name 0 _)
def sgE(s:List Hg)(l:List Bq)(x:A5):List Bq:=Tv (Lz s true x.name (Af x.A1)) l x
def E3w(l:List Bq)(d:Decl):A7d l d=if d.kind=3 then
   (Bg d.body).foldl (exE (Lz (Lz [] false d.name d.vars) true d.sig.name (Af d.sig.A1))) (Tv (Lz (Lz [] false d.name d.vars) true d.sig.name (Af d.sig.A1)) l d.sig)
  else d.sigs.foldl (sgE (Lz [] false d.name (Af d.A1))) (Tv (Lz [] false d.name (Af d.A1)) l (A2n d)):=rfl
def E0i(l:List Bq)(d:Decl):(A7d l d).length<=l.length+d.al*d.al:=by
 rw[E3w];unfold Decl.al;split
 .exact B4n _ _ _ _ _ (B0q _ l d.sig) (A9h (g:=A0w) (λl e=>D8e _ l e) (Bg d.body) _)
 .have E:=B0q (Lz [] false d.name (Af d.A1)) l (A2n d);rw[D5v]at E;exact B4n _ _ _ _ _ E (A9h (g:=A5.al) (λl e=>B0q _ l e) d.sigs _)
def B6u{α:Type}(F:List α->Int->Int)(g:α->Int->Int)(h:α->Nat)(J:∀k,F [] k=k)(L:∀x xs k,F (x::xs) k=if k<=2000 then F xs (g x k)else k)(M:∀l k,k<=F l k)
  (E:∀x k,g x k<=2000->(h x:Int)<=120*(g x k - k)):∀(l:List α) (k:Int),F l k<=2000->((l.map h).sum:Int)<=120*(F l k - k)
 |[],k,_=>by rw[J];simp
 |x::xs,k,I=>by
  rw[L]at I |-;split at I
  .rename_i O;rw[A9 O];have W:=M xs (g x k);have V:=E x k (by omega);have U:=B6u F g h J L M E xs (g x k) I;simp only[Ck,Mi];omega
  .rename_i O;omega
def B7n(t:Ty):Ty.C4 t.args<=t.Cb:=by rw[Ty.Mw];omega
def D9a:∀(l:List Am)(k:Int),C8 l k<=2000->(Tp l:Int)<=120*(C8 l k - k) :=
 B6u C8 (λf n=>f.bound.count (n+1+((f.name.length / 50:Nat):Int))) (λf=>Ty.C4 f.bound.args) (λ_=>rfl) (λ_ _ _=>rfl) (λl k=>(B6r l k).1) λx k h=>by have I:=Ty.A2x x.bound _ h;have E:=B7n x.bound;omega
def D2s:∀(l:List Param)(k:Int),D6 l k<=2000->(Pw l:Int)<=120*(D6 l k - k) :=
 B6u D6 (λf n=>f.type.count (n+1+((f.name.length / 50:Nat):Int))) (λf=>Ty.C4 f.type.args) (λ_=>rfl) (λ_ _ _=>rfl) (λl k=>(B2w l k).1) λx k h=>by have I:=Ty.A2x x.type _ h;have E:=B7n x.type;omega
def A5.B0u(s:A5)(n:Int)(h:s.count n<=2000):(s.al:Int)<=120*(s.count n - n):=by unfold A5.count at h |-;have U:=(B6r s.A1 (n+((s.name.length / 50:Nat):Int))).1;have O:=(B2w s.params (C8 s.A1 (n+((s.name.length / 50:Nat):Int)))).1;have E:=Ty.F9 s.result (D6 s.params (C8 s.A1 (n+((s.name.length / 50:Nat):Int))));have J:=D9a s.A1 (n+((s.name.length / 50:Nat):Int)) (by omega);have M:=D2s s.params _ (show D6 s.params (C8 s.A1 (n+((s.name.length / 50:Nat):Int)))<=2000 by omega);have I:=Ty.A2x s.result _ h;have L:=B7n s.result;unfold A5.al;omega
def F2n:∀(l:List A5)(k:Int),Ec l k<=2000->(A1u l:Int)<=120*(Ec l k - k) :=
 B6u Ec A5.count A5.al (λ_=>rfl) (λ_ _ _=>rfl) (λl k=>(C7s l k).1) λx k h=>A5.B0u x k h
mutual
theorem E0r:∀e:Ex,U5 (Bg e)<=e.A0c
 |.mk k n t a ks p=>by have E:=D3o ks;have I:=B7n t;rw[Bg,Ex.E5h];simp only[U5,Ck,Mi,A0w,Ex.type,Ex.targs,Ex.kids,Ex.name]at E |-;omega
theorem D3o:∀l:List Ex,U5 (D4 l)<=Ex.Te l
 |[]=>by simp[U5,D4,Ex.Te]
 |e::l=>by have E:=E0r e;have I:=D3o l;rw[D4,Ex.Te];simp only[U5,Gg,Ap1]at E I |-;omega
end
def Decl.B0u(d:Decl)(n:Int)(h:d.count n<=2000):(d.al:Int)<=120*(d.count n - n):=by
 unfold Decl.count at h |-;generalize O:n+1+((d.name.length / 50:Nat):Int)+((d.recv.length / 50:Nat):Int)=m at h |-;have a1:=(B6r d.A1 m).1;have Z:=(B2w d.fields (C8 d.A1 m)).1;have V:=(C7s d.sigs (D6 d.fields (C8 d.A1 m))).1;have e1:=(A2e d.vars (Ec d.sigs (D6 d.fields (C8 d.A1 m)))).1;have J:=D9a d.A1 m;have L:=D2s d.fields (C8 d.A1 m);have I:=F2n d.sigs (D6 d.fields (C8 d.A1 m));generalize hz:Jc d.vars (Ec d.sigs (D6 d.fields (C8 d.A1 m)))=z at*;unfold Decl.Ta at h |-;have f1:=(A5.Gi d.sig z).1;have f2:=A5.B0u d.sig z;have U:=Ex.F9 d.body (d.sig.count z);have E:=Ex.D4j d.body (d.sig.count z);have W:=E0r d.body;split at h
 .rename_i M;rw[A9 M];have J:=J (by omega);have L:=L (by omega);have I:=I (by omega);have f2:=f2 (by omega);have E:=E (by omega);unfold Decl.al;split <;> omega
 .omega
def Prog.B0u(p:Prog)(h:p.count<=600):Qb p.decls<=72000:=by unfold Prog.count at h;have E:=Ex.F9 p.main 0;have I:=(C7x p.decls (p.main.count 0)).1;have:=B6u Im Decl.count Decl.al (λ_=>rfl) (λ_ _ _=>rfl) (λl k=>(C7x l k).1) (λx k h=>Decl.B0u x k h) p.decls (p.main.count 0) (by omega);unfold Qb;omega
open Go Go.Proofs Tryz
abbrev edS(e:Bq):List SV:=[.d (.bool e.src.Mu),.d (.str e.src.name),.d (.int .i64 e.src.idx),.d (.bool e.dst.Mu),.d (.str e.dst.name),.d (.int .i64 e.dst.idx),.d (.bool e.ins)]
abbrev edV(e:Bq):SV:=.agg (edS e)
abbrev Gx(l:List Bq):SV:=.d (.slice (M4 l))
abbrev R7(l:List Hg):SV:=.d (.slice (Uq l))
def Gs{l:List Bq}{i:Nat}{c:Bq}(h:l[i]?=some c):(M4 l)[i]?=some (Ff c):=A0z h
def E2f{l:List Ed}{i:Nat}{c:Ed}(h:l[i]?=some c):(Vb l)[i]?=some (noC c):=A0z h
def D0b{l:List Hg}{i:Nat}{c:Hg}(h:l[i]?=some c):(Uq l)[i]?=some (vaC c):=A0z h
def Q1(l:List Bq):(M4 l).length=l.length:=by simp[M4]
def A1b(l:List Ed):(Vb l).length=l.length:=by simp[Vb]
def B5f(l:List Hg):(Uq l).length=l.length:=by simp[Uq]
variable {S:Nat->Prop} {w:World} {β:Names}
def E7m{xs:List SV}{v:Value}(h:Ak S w β (.agg xs) v):∃vs:List Value,v=.agg ⟨vs⟩/\vs.length=xs.length/\∀(j:Nat)(c:SV)(u:Value),xs[j]?=some c->vs[j]?=some u->Ak S w β c u:=by cases h with|agg _ vs E _ I=>exact⟨vs,rfl,E,I⟩
def D4h{a:Ed}{v:Value}(h:Ak S w β (V9 a) v):v=.agg #[.bool a.Mu,.string (mkStr a.name),.int .i64 a.idx]:=by
 obtain⟨vs,rfl,O,hr⟩:=E7m h
 match vs,O with
 |[L,U,M],_ =>have E:=(hr 0 _ L rfl rfl).Wc;have I:=(hr 1 _ U rfl rfl).Vw.1;have J:=(hr 2 _ M rfl rfl).J4;subst E I J;rfl
def D8j{a:Bq}{v:Value}(h:Ak S w β (edV a) v) :
  v=.agg #[.bool a.src.Mu,.string (mkStr a.src.name),.int .i64 a.src.idx,.bool a.dst.Mu,.string (mkStr a.dst.name),.int .i64 a.dst.idx,.bool a.ins]:=by
 obtain⟨vs,rfl,Z,hr⟩:=E7m h
 match vs,Z with
 |[V,v1,W,E,v4,v5,J],_ =>have I:=(hr 0 _ V rfl rfl).Wc;have M:=(hr 1 _ v1 rfl rfl).Vw.1;have U:=(hr 2 _ W rfl rfl).J4;have O:=(hr 3 _ E rfl rfl).Wc;have L:=(hr 4 _ v4 rfl rfl).Vw.1;have h5:=(hr 5 _ v5 rfl rfl).J4;have h6:=(hr 6 _ J rfl rfl).Wc;subst I M U O L h5 h6;rfl
def C3h(d:Nat)(a b:Ed)(w:World):(Op.equalIn (d+2) 190 (.agg #[.bool a.Mu,.string (mkStr a.name),.int .i64 a.idx]) (.agg #[.bool b.Mu,.string (mkStr b.name),.int .i64 b.idx])).run Tryz.prog w=.ok (decide (a=b)) w:=by
 have M:Tryz.prog.underlying 190=some (.struct (Tryz.prog.fieldsOf 190)):=by kernel_rfl
 have hp:Tryz.prog.stoodInHeld 190=false:=by kernel_rfl
 rw[run_equalIn_agg w (d+1) 190 _ _ M hp];simp only[Program.fieldsOf,underlying190]
 go_simp
 have L:(a=b)↔a.Mu=b.Mu/\a.name=b.name/\a.idx=b.idx:=by obtain⟨a1,V,O⟩:=a;obtain⟨Z,W,U⟩:=b;simp
 simp only[D7u];by_cases E:a.Mu=b.Mu <;> by_cases J:a.name=b.name <;> by_cases I:a.idx=b.idx <;> simp[E,J,I,L]
def Xs{sl:SL}{bx:Aa}{x y:Operand}{u:TypeId}(a b:Ed)(O:Ao sl x=V9 a)(M:Ao sl y=V9 b):OpQ Tryz.prog sl bx (.binOp .eql 190 x y u) (Ay (decide (a=b))):=by intro o J;refine .Eb λ_ S w β U _ L=>?_;have E:=L x (mC J);rw[O]at E;have I:=L y (mC J);rw[M]at I;have E:=D4h E;have I:=D4h I;refine⟨.bool (decide (a=b)),?_,.bool _⟩;simp only[execOp,J,H5,E,I,run_eqGuard_agg w .eql 190 x y _ _ Tryz.eqGuardType190,Gz,run_eql_struct];rw[show(10000:Nat)=9998+2 from rfl,C3h];rfl
def E6s{sl:SL}{bx:Aa}{x y:Operand}{u:TypeId}(a b:Bq)(U:Ao sl x=edV a)(O:Ao sl y=edV b):OpQ Tryz.prog sl bx (.binOp .eql 192 x y u) (Ay (decide (a=b))):=by
 intro o J;refine .Eb λ_ S w β ac _ L=>?_;have E:=L x (mC J);rw[U]at E;have I:=L y (mC J);rw[O]at I;have E:=D8j E;have I:=D8j I;refine⟨.bool (decide (a=b)),?_,.bool _⟩;have V:Tryz.prog.underlying 192=some (.struct (Tryz.prog.fieldsOf 192)):=by kernel_rfl
 have hp:Tryz.prog.stoodInHeld 192=false:=by kernel_rfl
 have e1:=C3h 9997 a.src b.src;have e2:=C3h 9997 a.dst b.dst;simp only[execOp,J,H5,E,I,run_eqGuard_agg w .eql 192 x y _ _ Tryz.eqGuardType192,Gz,run_eql_struct];rw[show(10000:Nat)=9999+1 from rfl,run_equalIn_agg w 9999 192 _ _ V hp];simp only[Program.fieldsOf,underlying192];rw[show(9999:Nat)=9997+2 from rfl];have he:(a=b)↔a.src=b.src/\a.dst=b.dst/\a.ins=b.ins:=by obtain⟨a1,a2,W⟩:=a;obtain⟨b1,b2,Z⟩:=b;simp
 simp only[Op.eqFields]
 go_simp
 by_cases E:a.src=b.src <;> by_cases I:a.dst=b.dst <;> by_cases M:a.ins=b.ins <;> simp[E,I,M,]
abbrev A3c:List Nat:=[0,1,2,3,4,5,12]
def G8w(a b:Bq):Ac Tryz.prog 298 [edV a,edV b] (Ay (C2j a b)):=by
 have h1:=E2z a.src b.src;have h2:=E2z a.dst b.dst;unfold C2j;obtain⟨⟨W,n1,i1⟩,⟨Z,V,i2⟩,O⟩:=a;obtain⟨⟨m3,n3,i3⟩,⟨m4,n4,i4⟩,q2⟩:=b;simp only at h1 h2 |-;generalize A6w ⟨W,n1,i1⟩ ⟨m3,n3,i3⟩=x at*;generalize A6w ⟨Z,V,i2⟩ ⟨m4,n4,i4⟩=y at*;refine cB func298 ?_;refine sR A3c ?_;refine sC h1 A3c<|sK λU u1=>?_;have E:∀c:Int,(if x=0 then y else x)=c->∀sl bx,sle sl [(2,.box 2 0),(3,.box 3 0),(5,A8 c)]->ble bx [(2,.cells (edS ⟨⟨W,n1,i1⟩,⟨Z,V,i2⟩,O⟩)),(3,.cells (edS ⟨⟨m3,n3,i3⟩,⟨m4,n4,i4⟩,q2⟩))]->U sl bx:=by
  intro c J sl bx s1 s2;refine u1 _ _ (A0.ww s1 s2 ?_);clear u1 U;rw[J];by_cases I:c<0
  .rw[Bo I,Up];refine Aq I A3c ?_;exact aR
  rw[Ce I,Ws];by_cases M:c=0
  .subst M;cases O <;> cases q2 <;> (
    refine sR A3c ?_;exact aR)
  .rw[Ce M,C9];refine Fi I M A3c ?_;exact aR
 by_cases L:x=0
 .subst L;refine sR A3c ?_;refine A0.tt rfl ?_
  (refine lV A3c λK z=>?_;refine cc h2 ?_;apply z;clear z K;try simp only[A4,])
  exact E y (by rw[A9 rfl]) _ _ sS sB
 .refine Aq L A3c ?_;refine A0.ff rfl (A0.kk ?_);exact E x (by rw[A6 L]) _ _ sS sB
abbrev Ng:List Nat:=[0,1,3,4,5,6,10,18,31,47]
def G4p(l:List Bq)(e:Bq)(hl:l.length<=1000000000000):Ac Tryz.prog 277 [Gx l,edV e] (Gx (A1h l e)):=by
 have hR:∃R,To e l 0 []=R:=⟨_,rfl⟩;obtain⟨R,hR⟩:=hR;have U:A1h l e=B0g l e R:=by rw[F0o,hR]
 rw[U];clear U;refine cB func277 ?_;refine sR Ng ?_;refine sR Ng ?_;refine A0.pp 5 7 5 rfl<|kR Ng λK1 u1=>?_;refine A0.bb (A0.ii l (X:=List Bq) (λj out=>[(0,Gx l),(3,.box 3 0),(5,.acc 5),(6,A8 j)]) (λj out=>[(3,.cells (edS e)),(5,.rows 7 (M4 out))])
  (λj out=>To e (l.drop j) j out=R/\j<=out.length/\out.length<=j+1) [] ⟨hR,by simp,by simp⟩ sS (by simp[ble,A7,M4]) ?_ ?_)
 rotate_left
 .intro j out x Z a3 dp tk a2 J;obtain⟨J,a0,a1⟩:=J;have a4:=(B5.1 Z).1;rw[dp,To]at J;refine sK λK2 u2=>?_
  (refine sQ Ng λK z=>?_;simp -implicitDefEqProofs only[EV,Nat.reduceEqDiff,reduceCtorEq,J5,a2,Q1];apply z;clear z K)
  refine gI u2 ?_;clear u2 K2;refine sK λK2 u2=>A0.bb<|sK λK3 u3=>?_;by_cases V:x=e
  .subst V;rw[A9 rfl]at J;subst J
   (refine sG Ng [] 5 [] λK z=>?_;refine ev ?_;refine⟨by omega,_,Gs Z,rfl,?_⟩;(try simp -implicitDefEqProofs only[EV,Nat.reduceAdd,Nat.reduceEqDiff,reduceCtorEq,Nc,Ff]);refine⟨_,E6s x x rfl rfl,?_⟩;(try refine ev ?_);apply z;clear z K)
   refine A0.tt rfl ?_;rw[show B0g l x none=l from rfl];refine sR Ng ?_;exact aR
  rw[A6 V]at J
  (refine sG Ng [] 5 [] λK z=>?_;refine ev ?_;refine⟨by omega,_,Gs Z,rfl,?_⟩;(try simp -implicitDefEqProofs only[EV,Nat.reduceAdd,Nat.reduceEqDiff,reduceCtorEq,Nc,Ff]);refine⟨_,E6s x e rfl rfl,?_⟩;(try refine As V ?_);apply z;clear z K)
  refine A0.ff rfl (A0.kk (u3 _ _ ?_));clear u3 K3;have M:=G8w e x;refine sK λK3 u3=>?_;have W:∀I:List Bq,To e (l.drop (j+1)) (j+1) (I++[x])=R->(I++[x]).length<=j+2->j+1<=(I++[x]).length->∀sl bx,sle sl [(0,Gx l),(3,.box 3 0),(5,.acc 5),(6,A8 j)]->ble bx [(3,.cells (edS e)),(5,.rows 7 (M4 I))]->K3 sl bx:=by
   intro I h1 h2 h3 sl bx s1 s2;refine u3 _ _ (A0.ww s1 s2 ?_);clear u3 K3;rw[Bz,C6,Dy]at h2 h3
   (refine lV Ng λK z=>?_;refine⟨by omega,_,Gs Z,rfl,?_⟩;(try simp -implicitDefEqProofs only[EV,Nat.reduceAdd,Nat.reduceEqDiff,Nat.reduceBEq,Nat.reduceLeDiff,Nat.reduceMul,reduceCtorEq,J5,Nc,Ff,Q1,]);refine⟨by simp,by unfold lim;omega,?_⟩;apply z;clear z K;try simp only[A4,Ab])
   refine u2 _ _ ?_;clear u2 K2
   (refine lV Ng λK z=>?_;refine cl ?_;apply z;clear z K;try simp only[A4,])
   exact⟨I++[x],⟨h1,by rw[Bz,C6,Dy];omega,by rw[Bz,C6,Dy];omega⟩,sS,by simp[ble,A7,M4,Ff]⟩
  by_cases L:out.length=j
  .have E:((out.length:Nat):Int)=(j:Int):=by omega
   cases O:C2j e x with
   |true =>
    rw[A9 ⟨L,O⟩]at J;rw[O]at M
    (refine sG Ng [] 10 [] λK z=>?_;simp -implicitDefEqProofs only[EV,Nat.reduceAdd,Nat.reduceEqDiff,reduceCtorEq,J5,Nc,Q1,E];refine⟨by omega,_,Gs Z,rfl,?_⟩;(try simp -implicitDefEqProofs only[EV,Nat.reduceAdd,Nat.reduceEqDiff,reduceCtorEq,Ff,]);refine cc M ?_;apply z;clear z K)
    refine A0.tt rfl ?_
    (refine lQ Ng λK z=>?_;simp -implicitDefEqProofs only[EV,Nat.reduceAdd,Nat.reduceEqDiff,Nat.reduceBEq,Nat.reduceLeDiff,Nat.reduceMul,reduceCtorEq,J5,Nc,Q1];refine⟨by simp,by unfold lim;omega,?_⟩;apply z;clear z K;try simp only[A4,])
    exact W (out++[e]) J (by rw[Bz,Bz];simp only[C6,Dy];omega) (by rw[Bz,Bz];simp only[C6,Dy];omega) _ _ sS (by simp[ble,A7,M4,Ff])
   |false =>
    rw[A6 (by rw[O];simp)]at J;rw[O]at M
    (refine sG Ng [] 10 [] λK z=>?_;simp -implicitDefEqProofs only[EV,Nat.reduceAdd,Nat.reduceEqDiff,reduceCtorEq,J5,Nc,Q1,E];refine⟨by omega,_,Gs Z,rfl,?_⟩;(try simp -implicitDefEqProofs only[EV,Nat.reduceAdd,Nat.reduceEqDiff,reduceCtorEq,Ff,]);refine cc M ?_;apply z;clear z K)
    refine A0.ff rfl (A0.kk ?_);exact W out J (by rw[Bz];simp only[C6,Dy];omega) (by rw[Bz];simp only[C6,Dy];omega) _ _ sS (by simp[ble,A7,M4])
  .have E:¬((out.length:Nat):Int)=(j:Int):=by omega
   rw[A6 (λh=>L h.1)]at J
   (refine sG Ng [] 10 [] λK z=>?_;simp -implicitDefEqProofs only[EV,Nat.reduceEqDiff,reduceCtorEq,J5,Q1,E];apply z;clear z K)
   refine A0.ff rfl (A0.kk ?_);exact W out J (by rw[Bz];simp only[C6,Dy];omega) (by rw[Bz];simp only[C6,Dy];omega) _ _ sS (by simp[ble,A7,M4])
 intro out J;obtain⟨J,a0,a1⟩:=J;rw[De,To]at J;subst J;refine sK λK2 u2=>?_
 (refine sQ Ng λK z=>?_;simp -implicitDefEqProofs only[EV,Nat.reduceEqDiff,reduceCtorEq,J5,B3,Q1];apply z;clear z K)
 refine A0.ss rfl ?_;simp only[A4,Ab,Ae];refine u1 _ _ ?_;clear u2 K2 u1 K1;refine sK λK1 u1=>?_;by_cases L:out.length=l.length
 .have E:((out.length:Nat):Int)=(l.length:Int):=by omega
  rw[show B0g l e (some out)=out++[e] from A9 L]at u1
  (refine sQ Ng λK z=>?_;simp -implicitDefEqProofs only[EV,Nat.reduceEqDiff,reduceCtorEq,J5,Q1,E];apply z;clear z K)
  refine A0.tt rfl ?_
  (refine lQ Ng λK z=>?_;simp -implicitDefEqProofs only[EV,Nat.reduceAdd,Nat.reduceEqDiff,Nat.reduceBEq,Nat.reduceLeDiff,Nat.reduceMul,reduceCtorEq,J5,Nc,Q1];refine⟨by simp,by unfold lim;omega,?_⟩;apply z;clear z K;try simp only[A4,])
  refine u1 _ _<|sR Ng ?_;have e1:Gx (out++[e])=.d (.slice (M4 out++[Ff e])):=by simp[M4]
  rw[e1];exact aR
 .have E:¬((out.length:Nat):Int)=(l.length:Int):=by omega
  rw[show B0g l e (some out)=out from A6 L]at u1
  (refine sQ Ng λK z=>?_;simp -implicitDefEqProofs only[EV,Nat.reduceEqDiff,reduceCtorEq,J5,Q1,E];apply z;clear z K)
  refine A0.ff rfl (A0.kk (u1 _ _ ?_));refine sR Ng ?_;exact aR
def G7j(l:List Hg):∀row,row∈Uq l->row.length=4:=by intro row h;obtain⟨t,_,rfl⟩:=B1.1 h;rfl
def B9b(s:List Hg)(m:Bool)(own:A3)(l:List A3):(Lz s m own l).length=s.length+l.length:=by simp[Lz]
abbrev A5j:List Nat:=[0,1,2,3,8,9,10,11,17]
def B8x(s:List Hg)(m:Bool)(own:A3)(l:List A3)(hs:s.length<=10*sm)(Z:l.length<=sm):Ac Tryz.prog 188 [R7 s,Ay m,D9 own,Cy l] (R7 (Lz s m own l)):=by
 refine cB func188 ?_;refine sR A5j ?_
 (refine A0.Ef A5j [11] (by decide +kernel) λK z=>?_;refine ev ?_;refine⟨G7j _,by(try simp only[B5f]);unfold lim sm at*;omega,?_⟩;(try refine ev ?_);apply z;clear z K)
 refine kR A5j λO u1=>?_;refine A0.bb (A0.ii l (X:=Unit) (λj _=>[(1,Ay m),(2,D9 own),(3,Cy l),(9,.acc 11),(10,A8 j)]) (λj _=>[(11,.rows 4 (Uq (s++(List.range j).map λi=>⟨(l[i]?).getD [],m,own,i⟩)))])
  (λ_ _=>True) () trivial sS (by simp[ble,A7,Uq]) ?_ ?_)
 rotate_left
 .intro j _ d I M dp W L _;have V:=(B5.1 I).1;have U:Uq (s++(List.range (j+1)).map λi=>⟨(l[i]?).getD [],m,own,i⟩)=Uq (s++(List.range j).map λi=>⟨(l[i]?).getD [],m,own,i⟩)++[[.str d,.bool m,.str own,.int .i64 j]]:=by
   rw[List.range_succ,Gg,<-N6];simp[Uq,I,vaC]
  have J:(Uq (s++(List.range j).map λi=>⟨(l[i]?).getD [],m,own,i⟩)).length=s.length+j:=by simp[Uq]
  rw[U];generalize Uq (s++(List.range j).map λi=>⟨(l[i]?).getD [],m,own,i⟩)=PR at*;refine Ai L A5j λE u2=>?_;refine gI u2 ?_;clear u2 E;refine sK λE u2=>A0.bb ?_
  (refine lV A5j λK z=>?_;refine⟨by omega,_,Ku I,rfl,?_⟩;(try refine As J ?_);refine⟨by simp,by(try simp only[J]);unfold lim sm at*;omega,?_⟩;(try refine As J ?_);apply z;clear z K;try simp only[A4,Ab])
  refine u2 _ _ ?_;clear u2 E;refine lT A5j ?_;exact⟨(),trivial,sS,by simp[ble,A7]⟩
 intro _ _;refine Ai B3 A5j λE u2=>?_;refine A0.ss rfl ?_;simp only[A4,Ab,Ae];refine u1 _ _ ?_;clear u2 E u1 O;refine sR A5j ?_;exact aR
def G7y(s:List Hg)(E:Ed)(b:Bool)(l:List Bq)(t:Ty):Vk s E b l t=match(if t.args.isEmpty=true then A5r s t.name else none)with
  |some v=>A1h l ⟨v.node,E,b⟩
  |none=>Xq s E l t.args:=by cases t;rw[Vk];rfl
abbrev Qy:List Nat:=[0,1,2,3,4,7,8,10,11,12,22,32,47]
def G6j(s:List Hg)(hs:s.length<=10*sm)(I:Ed):∀(t:Ty)(b:Bool)(l:List Bq),l.length+t.Cb<=1000000000000->Ac Tryz.prog 237 [Gx l,R7 s,V9 I,B6 t,Ay b] (Gx (Vk s I b l t)):=by
 intro t
 induction t using Ty.induct with
 |h t ih =>
 intro b l hl;have a3:=Ty.Mw t;have a4:=B7f t.args;rw[G7y];have hR:∃R,Xq s I l t.args=R:=⟨_,rfl⟩;obtain⟨R,hR⟩:=hR;rw[hR];refine cB func237 ?_;refine sR Qy ?_;refine kR Qy λV u1=>?_;have M:(if t.args.isEmpty=true then A5r s t.name else none)=none->∀sl bx,sle sl [(0,Gx l),(1,R7 s),(7,.box 7 0),(8,.box 8 0)]->ble bx [(7,.cells (noS I)),(8,.cells [.d (.str t.name),.d (.slice (Au t.args)),.d (.int .i64 t.pos)])]->V sl bx:=by
  intro a1 sl bx s1 s2;refine u1 _ _ (A0.ww s1 s2 ?_);clear u1 V;rw[a1];refine kR Qy λV u1=>?_;refine A0.bb (A0.ii t.args (X:=List Bq) (λj z=>[(0,Gx z),(1,R7 s),(7,.box 7 0),(8,.box 8 0),(12,A8 j)])
   (λj z=>[(7,.cells (noS I)),(8,.cells [.d (.str t.name),.d (.slice (Au t.args)),.d (.int .i64 t.pos)])])
   (λj z=>Xq s I z (t.args.drop j)=R/\z.length+Ty.C4 (t.args.drop j)<=1000000000000) l ⟨hR,by simp only[Ao7];omega⟩ sS sB ?_ ?_)
  rotate_left
  .intro j z d hd L W tk O E;obtain⟨E,hz⟩:=E;have hj:=(B5.1 hd).1;rw[W,Xq]at E;rw[W,Ty.C4]at hz;have hc:=ih d L true z (by omega);have a2:=B8i s I d true z;generalize Vk s I true z d=z2 at*;refine Ai O Qy λJ u2=>?_;refine gI u2 ?_;clear u2 J;refine sK λJ u2=>A0.bb ?_
   (refine lG Qy [] 8 [] λK z=>?_;refine ev ?_;refine ci (Dv hd) ?_;refine cc hc ?_;apply z;clear z K;try simp only[A4,Ab])
   refine u2 _ _ ?_;clear u2 J
   (refine lV Qy λK z=>?_;refine cl ?_;apply z;clear z K;try simp only[A4,])
   exact⟨z2,⟨E,by omega⟩,sS,by simp[ble,A7]⟩
  intro z E;obtain⟨E,_⟩:=E;rw[De,Xq]at E;subst E;refine Ai B3 Qy λJ u2=>?_;refine A0.ss rfl ?_;simp only[A4,Ab,Ae];refine u1 _ _ ?_;clear u2 J u1 V;refine sR Qy ?_;exact aR
 by_cases U:t.args=[]
 .have hz:((t.args.length:Nat):Int)=0:=by rw[U];rfl
  refine A0.bb (A0.ii s (X:=Unit) (λj _=>[(0,Gx l),(1,R7 s),(4,Ay b),(7,.box 7 0),(8,.box 8 0),(11,A8 j)])
   (λj _=>[(7,.cells (noS I)),(8,.cells [.d (.str t.name),.d (.slice (Au t.args)),.d (.int .i64 t.pos)])])
   (λj _=>A5r s t.name=A5r (s.drop j) t.name) () rfl sS sB ?_ ?_)
  rotate_left
  .intro j _ v Z L W tk O E;have hj:=(B5.1 Z).1;rw[W]at E;unfold A5r at E;rw[At8]at E;refine sK λJ u2=>?_
   (refine sQ Qy λK z=>?_;simp -implicitDefEqProofs only[EV,Nat.reduceEqDiff,reduceCtorEq,Lq,I3,B2s,O,hz,B5f];apply z;clear z K)
   refine gI u2 ?_;clear u2 J;refine sK λJ u2=>A0.bb ?_;by_cases hn:v.name=t.name
   .rw[Bo hn]at E;have a0:A5r s t.name=some v:=E;have hp:=G4p l ⟨v.node,I,b⟩ (by omega);rw[U,List.isEmpty_nil,A9 rfl,a0];simp only;generalize A1h l ⟨v.node,I,b⟩=z at*
    (refine sG Qy [] 7 [] λK z=>?_;refine ev ?_;refine⟨by omega,_,D0b Z,rfl,?_⟩;(try simp -implicitDefEqProofs only[EV,Nat.reduceEqDiff,reduceCtorEq,Mx,I3,hn,vaC]);apply z;clear z K)
    refine A0.tt rfl ?_
    (refine sG Qy [] 9 [] λK z=>?_;refine ev ?_;refine⟨by omega,_,D0b Z,rfl,?_⟩;(try simp -implicitDefEqProofs only[EV,Nat.reduceAdd,Nat.reduceEqDiff,Nat.reduceLeDiff,reduceCtorEq,Mv,Nc,vaC]);refine⟨_,.inl ⟨_,rfl,hp,rfl⟩,?_⟩;apply z;clear z K)
    exact aR
   .rw[Ce hn]at E
    (refine sG Qy [] 7 [] λK z=>?_;refine ev ?_;refine⟨by omega,_,D0b Z,rfl,?_⟩;(try simp -implicitDefEqProofs only[EV,Nat.reduceEqDiff,reduceCtorEq,Mx,I3,hn,vaC]);apply z;clear z K)
    refine A0.ff rfl (A0.kk (u2 _ _ ?_));clear u2 J;refine lT Qy ?_;exact⟨(),E,sS,by simp[ble,A7]⟩
  intro _ E;rw[De]at E;refine sK λJ u2=>?_
  (refine sQ Qy λK z=>?_;simp -implicitDefEqProofs only[EV,Nat.reduceEqDiff,reduceCtorEq,B2s,B3,B5f];apply z;clear z K)
  refine A0.ss rfl ?_;simp only[A4,Ab,Ae];exact M (by rw[U,List.isEmpty_nil,A9 rfl,E];rfl) _ _ sS sB
 .have hz:¬((t.args.length:Nat):Int)=0:=by
   intro h;exact U (Aq4.1 (by omega))
  refine A0.bb (A0.loop (X:=Unit) (λ_=>[(0,Gx l),(1,R7 s),(4,Ay b),(7,.box 7 0),(8,.box 8 0),(11,A8 0)])
   (λ_=>[(7,.cells (noS I)),(8,.cells [.d (.str t.name),.d (.slice (Au t.args)),.d (.int .i64 t.pos)])])
   (λ_=>True) (λ_=>0) () trivial sS sB ?_)
  intro _ _;refine sK λJ u2=>?_;by_cases h0:(0:Int)<(s.length:Int)
  ·(refine sQ Qy λK z=>?_;simp -implicitDefEqProofs only[EV,Nat.reduceEqDiff,reduceCtorEq,Lq,I3,B2s,h0,hz,B5f];apply z;clear z K)
   refine A0.ss rfl ?_;simp only[A4,Ab,Ae];exact M (by rw[A6 (by rw[Av1];exact U)]) _ _ sS sB
  ·(refine sQ Qy λK z=>?_;simp -implicitDefEqProofs only[EV,Nat.reduceEqDiff,reduceCtorEq,B2s,h0,B5f];apply z;clear z K)
   refine A0.ss rfl ?_;simp only[A4,Ab,Ae];exact M (by rw[A6 (by rw[Av1];exact U)]) _ _ sS sB
def E7h(s:List Hg)(m:Bool)(own:A3)(i:Nat)(l:List Bq)(t:Ty):B1q s m own i l t=Gq s false t.name 0 (Vk s ⟨m,own,i⟩ false l t) t.args:=by cases t;rw[B1q];rfl
def E7b(x:Nat):x<=x*x:=by
 cases x with
 |zero=>simp
 |succ n=>exact Nat.le_mul_of_pos_left _ (by omega)
abbrev A2o:List Nat:=[0,1,2,3,4,10,11,15]
def G6z(s:List Hg)(hs:s.length<=10*sm):∀(t:Ty)(m:Bool)(own:A3)(l:List Bq),l.length+Ty.C4 t.args*Ty.C4 t.args<=1000000000000->Ac Tryz.prog 190 [Gx l,R7 s,Ay m,D9 own,Cd t.args] (Gx (Gq s m own 0 l t.args)):=by
 intro t
 induction t using Ty.induct with
 |h t ih =>
 intro m own l hl;have a1:=B7f t.args;have a0:=E7b (Ty.C4 t.args);generalize t.args=a at*;have M:∃R,Gq s m own 0 l a=R:=⟨_,rfl⟩;obtain⟨R,M⟩:=M;rw[M];refine cB func190 ?_;refine sR A2o ?_;refine kR A2o λK1 u1=>?_;refine A0.bb (A0.ii a (X:=List Bq) (λj z=>[(0,Gx z),(1,R7 s),(2,Ay m),(3,D9 own),(4,Cd a),(11,A8 j)]) (λj z=>[])
  (λj z=>Gq s m own j z (a.drop j)=R/\z.length+Ty.C4 (a.drop j)*Ty.C4 (a.drop j)<=1000000000000) l ⟨M,by simpa using hl⟩ sS (by simp[ble]) ?_ ?_)
 rotate_left
 .intro j z d L J W tk V E;obtain⟨E,hz⟩:=E;have hj:=(B5.1 L).1;rw[W,Gq,E7h]at E;rw[W,Ty.C4]at hz;have h1:=Uf d.Cb (Ty.C4 (a.drop (j+1)));have h2:=E7b d.Cb;have h3:=B8i s ⟨m,own,j⟩ d false z;have O:=G6j s hs ⟨m,own,j⟩ d false z (by omega);have h4:=D5f s d m own j z;rw[E7h]at h4;generalize Z:Vk s ⟨m,own,j⟩ false z d=z1 at*;have h5:d.Cb=d.name.length+4+Ty.C4 d.args:=Ty.Mw d;have h6:d.Cb+Ty.C4 d.args*Ty.C4 d.args<=d.Cb*d.Cb:=by
   generalize Ty.C4 d.args=y at*;generalize d.Cb=x at*;have g6:x*(y+4)<=x*x:=An6 _ (by omega);have g7:x*(y+4)=x*y+x*4:=Nat.mul_add _ _ _;have g8:y*y<=x*y:=I9 _ (by omega);omega
  have U:=ih d J false d.name z1 (by omega);generalize Gq s false d.name 0 z1 d.args=z2 at*;refine Ai V A2o λI u2=>?_;refine gI u2 ?_;clear u2 I;refine sK λI u2=>A0.bb ?_
  (refine sV A2o λK z=>?_;refine ci (Dv L) ?_;refine cc O ?_;apply z;clear z K)
  (refine lG A2o [] 12 [] λK z=>?_;refine ev ?_;refine ci (Dv L) ?_;refine ci (Dv L) ?_;refine cc U ?_;apply z;clear z K;try simp only[A4,Ab])
  refine u2 _ _ ?_;clear u2 I
  (refine lV A2o λK z=>?_;refine cl ?_;apply z;clear z K;try simp only[A4,])
  exact⟨z2,⟨E,by omega⟩,sS,by simp[ble]⟩
 intro z E;obtain⟨E,_⟩:=E;rw[De,Gq]at E;subst E;refine Ai B3 A2o λI u2=>?_;refine A0.ss rfl ?_;simp only[A4,Ab,Ae];refine u1 _ _ ?_;clear u2 I u1 K1;refine sR A2o ?_;exact aR
def B2q(s:List Hg)(hs:s.length<=10*sm)(m:Bool)(own:A3)(a:List Ty)(l:List Bq)(h:l.length+Ty.C4 a*Ty.C4 a<=1000000000000):Ac Tryz.prog 190 [Gx l,R7 s,Ay m,D9 own,Cd a] (Gx (Gq s m own 0 l a)) :=
 G6z s hs (.mk [] a 0) m own l h
end Go.Abs
