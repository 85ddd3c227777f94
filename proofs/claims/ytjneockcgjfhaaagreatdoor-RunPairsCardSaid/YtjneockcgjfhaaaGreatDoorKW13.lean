/- castingsref18: edges between type parameters, plain functions and how many there can be -/
import Derived.Test.YtjneockcgjfhaaaGreatDoorKS95
import Derived.Laws.StructEq
set_option linter.all false
set_option maxHeartbeats 4000000
set_option maxRecDepth 100000
namespace Go.Abs
open Go
structure E5 where
 Iw:Bool
 name:A2
 idx:Int
 deriving DecidableEq
structure Bt where
 src:E5
 dst:E5
 ins:Bool
 deriving DecidableEq
structure He where
 name:A2
 node:E5
def noC(n:E5):List D:=[.bool n.Iw,.str n.name,.int .i64 n.idx]
def Et(e:Bt):List D:=[.bool e.src.Iw,.str e.src.name,.int .i64 e.src.idx,.bool e.dst.Iw,.str e.dst.name,.int .i64 e.dst.idx,.bool e.ins]
def vaC(v:He):List D:=[.str v.name,.bool v.node.Iw,.str v.node.name,.int .i64 v.node.idx]
def Us(l:List E5):List (List D):=l.map noC
def Lj(l:List Bt):List (List D):=l.map Et
def Uh(l:List He):List (List D):=l.map vaC
def A4i(a b:E5):Int:=if a.Iw≠b.Iw then(if b.Iw=true then -1 else 1)else if a.name≠b.name then Bw a.name b.name else if a.idx<b.idx then -1 else if a.idx > b.idx then 1 else 0
def B8y(a b:Bt):Bool:=let c:=if A4i a.src b.src=0 then A4i a.dst b.dst else A4i a.src b.src
 decide (c<0) ||(decide (c=0) && (!a.ins && b.ins))
def Tr(e:Bt):List Bt->Nat->List Bt->Option (List Bt)
 |[],_,out=>some out
 |x::r,i,out=>if x=e then none else Tr e r (i+1) ((if out.length=i/\B8y e x=true then out++[e]else out)++[x])
def A0w(l:List Bt)(e:Bt):List Bt:=match Tr e l 0 []with
 |none=>l
 |some out=>if out.length=l.length then out++[e]else out
def E0z{e:Bt} :∀{l:List Bt} {i:Nat} {out R:List Bt},i<=out.length->out.length<=i+1->Tr e l i out=some R->i+l.length<=R.length/\R.length<=i+l.length+1
 |[],i,out,R,E,I,h=>by simp only[Tr,B0]at h;subst h;simp;omega
 |x::l,i,out,R,E,I,h=>by
  rw[Tr]at h;split at h;cases h
  .have L:=E0z (i:=i+1) (by
    rw[As];simp only[Ar,Az];split;rw[As];simp only[Ar,Az];omega;omega) (by
    rw[As];simp only[Ar,Az];split;rename_i J;rw[As];simp only[Ar,Az];omega;omega) h
   simp only[Ar];omega
def A8c(l:List Bt)(e:Bt):Option (List Bt)->List Bt
 |none=>l
 |some out=>if out.length=l.length then out++[e]else out
def F6p(l:List Bt)(e:Bt):A0w l e=A8c l e (Tr e l 0 []):=by unfold A0w A8c;cases Tr e l 0 [] <;> rfl
def F2r(l:List Bt)(e:Bt):(A0w l e).length<=l.length+1:=by
 unfold A0w;cases h:Tr e l 0 []with
 |none=>simp
 |some R =>have:=E0z (i:=0) (by simp) (by simp) h;simp only;split;rw[As];simp only[Ar,Az];omega;omega
def Lt(s:List He)(m:Bool)(own:A2)(l:List A2):List He:=s++(List.range l.length).map λi=>⟨(l[i]?).getD [],m,own,i⟩
def A6q(s:List He)(n:A2):Option He:=s.find? λv=>decide (v.name=n)
mutual
def Vs(s:List He)(E:E5):Bool->List Bt->Ty->List Bt
 |b,l,.mk n a _=>match(if a.isEmpty=true then A6q s n else none)with
  |some v=>A0w l ⟨v.node,E,b⟩
  |none=>X7 s E l a
def X7(s:List He)(E:E5):List Bt->List Ty->List Bt
 |l,[]=>l
 |l,t::I=>X7 s E (Vs s E true l t) I
end
mutual
theorem B8v(s:List He)(E:E5):∀(t:Ty)(b:Bool)(l:List Bt),(Vs s E b l t).length<=l.length+t.Da
 |.mk n a p,b,l=>by rw[Vs,Ty.Da];have h:=D1z s E a l;split;rename_i v J;have:=F2r l ⟨v.node,E,b⟩;omega;omega
theorem D1z(s:List He)(E:E5):∀(a:List Ty)(l:List Bt),(X7 s E l a).length<=l.length+Ty.Bu a
 |[],l=>by simp[X7]
 |t::I,l=>by have L:=B8v s E t true l;have O:=D1z s E I (Vs s E true l t);rw[X7,Ty.Bu];omega
end
mutual
def B3g(s:List He)(m:Bool)(own:A2)(i:Nat):List Bt->Ty->List Bt
 |l,.mk n a p=>Gu s false n 0 (Vs s ⟨m,own,i⟩ false l (.mk n a p)) a
def Gu(s:List He)(m:Bool)(own:A2):Nat->List Bt->List Ty->List Bt
 |_,l,[]=>l
 |i,l,t::E=>Gu s m own (i+1) (B3g s m own i l t) E
end
def Ta(x y:Nat):x*x+y*y<=(x+y)*(x+y):=by rw[Io,Nat.mul_add,Nat.mul_add];omega
mutual
theorem E4r(s:List He):∀(t:Ty)(m:Bool)(own:A2)(i:Nat)(l:List Bt),(B3g s m own i l t).length<=l.length+t.Da*t.Da
 |.mk n a p,m,own,i,l=>by
  have I:=B8v s ⟨m,own,i⟩ (.mk n a p) false l;have J:=X4 s a false n 0 (Vs s ⟨m,own,i⟩ false l (.mk n a p));rw[B3g];have Z:(Ty.mk n a p).Da=n.length+4+Ty.Bu a:=rfl;generalize Ty.Bu a=y at*;generalize(Ty.mk n a p).Da=x at*;have V:x+y*y<=x*x:=by have L:x*(y+4)<=x*x:=Ak9 _ (by omega);have W:x*(y+4)=x*y+x*4:=Nat.mul_add _ _ _;have O:y*y<=x*y:=Iv _ (by omega);omega
  omega
theorem X4(s:List He):∀(a:List Ty)(m:Bool)(own:A2)(i:Nat)(l:List Bt),(Gu s m own i l a).length<=l.length+Ty.Bu a*Ty.Bu a
 |[],m,own,i,l=>by simp[Gu]
 |t::E,m,own,i,l=>by have I:=E4r s t m own i l;have J:=X4 s E m own (i+1) (B3g s m own i l t);have U:=Ta t.Da (Ty.Bu E);rw[Gu,Ty.Bu];omega
end
def Ue(s:List He)(l:List Bt)(x:A4):List Bt :=Gu s false x.result.name 0 (x.params.foldl (λl p=>Gu s false p.type.name 0 l p.type.args) (x.A1.foldl (λl f=>Gu s false f.bound.name 0 l f.bound.args) l)) x.result.args
def A4t(l:List Bt)(d:Decl):List Bt :=if d.kind=3 then
  let s:=Lt (Lt [] false d.name d.vars) true d.sig.name (Ad d.sig.A1)
  (Cj d.body).foldl (λl e=>Gu s true e.name 0 (Gu s false e.type.name 0 l e.type.args) e.targs) (Ue s l d.sig)
 else
  let s:=Lt [] false d.name (Ad d.A1)
  d.sigs.foldl (λl x=>Ue (Lt s true x.name (Ad x.A1)) l x) (Ue s l ⟨[],d.A1,d.fields,.mk [] [] 0,0⟩)
def A5b(p:Prog):List Bt:=p.decls.foldl A4t []
def R0(n:E5)(out:List E5)(e:Bt):List E5:=if(e.src=n\/e.src∈out)/\e.dst∉out then out++[e.dst]else out
def A2z(l:List Bt)(n:E5):Nat->Int->List E5->List E5
 |0,_,out=>out
 |k+1,c,out=>if c=out.length then out else A2z l n k out.length (l.foldl (R0 n) out)
def A3m(l:List Bt)(n:E5):List E5:=A2z l n (l.length+3) (-1) []
def B4o(l:List Bt)(a b:E5):Bool:=decide (b∈A3m l a)
def B9k(l:List Bt):List Bt:=l.filter λe=>e.ins && (decide (e.dst=e.src) ||B4o l e.dst e.src)
def B8c(p:Prog):Bool:=decide ((B9k (A5b p)).length=0)
def B0i{α:Type}{f:List Bt->α->List Bt}{g:α->Nat}(h:∀l a,(f l a).length<=l.length+g a*g a):∀(as_:List α)(l:List Bt),(as_.foldl f l).length<=l.length+(as_.map g).sum*(as_.map g).sum
 |[],l=>by simp
 |a::r,l=>by have E:=h l a;have I:=B0i h r (f l a);have J:=Ta (g a) (r.map g).sum;rw[Mr,Cp,Nf];omega
def B4e(a b c x y:Nat)(E:b<=a+x*x)(I:c<=b+y*y):c<=a+(x+y)*(x+y):=by have:=Ta x y;omega
def A6x{z E:Nat}{x y:Nat}(h:z+(x+y)*(x+y)<=1000000000000)(I:E<=z+x*x):E+y*y<=1000000000000:=by have:=Ta x y;omega
open Go Go.Proofs Tryz
abbrev noS(n:E5):List SV:=[.d (.bool n.Iw),.d (.str n.name),.d (.int .i64 n.idx)]
abbrev Uu(n:E5):SV:=.agg (noS n)
abbrev Ib:List Nat:=[0,1,2,3,4,9,11,16,26,31]
def D3e(a b:E5):Ab Tryz.prog 259 [Uu a,Uu b] (A7 (A4i a b)):=by
 have hc:=B4z a.name b.name;obtain⟨m1,V,L⟩:=a;obtain⟨m2,W,J⟩:=b;unfold A4i;simp only at hc |-;generalize Bw V W=z at*;have main:∀m:Bool,Ab Tryz.prog 259 [Uu ⟨m,V,L⟩,Uu ⟨m,W,J⟩] (A7 (if V≠W then z else if L<J then -1 else if L > J then 1 else 0)):=by
  intro m;have Z:(m ==m)=true:=by simp
  by_cases I:V=W;rw[A3 (λh=>h I)];by_cases O:L<J;rw[A6 O];refine cB func259 ?_;refine sR Ib ?_;refine Ae Z Ib λE u1=>?_;refine kI u1 ?_;clear u1 E;refine Ae I Ib λE u1=>?_;refine kI u1 ?_;clear u1 E;refine Ae O Ib λE u1=>?_;refine tI ?_;refine sR Ib ?_;exact aR;rw[A3 O];by_cases U:L > J;rw[A6 U];refine cB func259 ?_;refine sR Ib ?_;refine Ae Z Ib λE u1=>?_;refine kI u1 ?_;clear u1 E;refine Ae I Ib λE u1=>?_;refine kI u1 ?_;clear u1 E;refine Ae O Ib λE u1=>?_;refine kI u1 ?_;clear u1 E;refine Ae U Ib λE u1=>?_;refine tI ?_;refine sR Ib ?_;exact aR;rw[A3 U];refine cB func259 ?_;refine sR Ib ?_;refine Ae Z Ib λE u1=>?_;refine kI u1 ?_;clear u1 E;refine Ae I Ib λE u1=>?_;refine kI u1 ?_;clear u1 E;refine Ae O Ib λE u1=>?_;refine kI u1 ?_;clear u1 E;refine Ae U Ib λE u1=>?_;refine kI u1 ?_;clear u1 E;refine sR Ib ?_;exact aR;rw[A6 I];refine cB func259 ?_;refine sR Ib ?_;refine Ae Z Ib λE u1=>?_;refine kI u1 ?_;clear u1 E;refine Ae I Ib λE u1=>?_;refine tI ?_;refine sC hc Ib ?_;exact aR
 cases m1 <;> cases m2;exact main false;rw[A6 (by decide),A6 rfl];refine cB func259 ?_;refine sR Ib ?_;refine kR Ib λE u1=>?_;refine tI ?_;refine kR Ib λK2 u2=>?_;refine tI ?_;refine sR Ib ?_;exact aR;rw[A6 (by decide),A3 (by decide)];refine cB func259 ?_;refine sR Ib ?_;refine kR Ib λE u1=>?_;refine tI ?_;refine kR Ib λK2 u2=>?_;refine kI u2 ?_;clear u2 K2;refine sR Ib ?_;exact aR;exact main true
open Go
def Tq(l:List Ak):Nat:=(l.map λf=>Ty.Bu f.bound.args).sum
def Pe(l:List Param):Nat:=(l.map λf=>Ty.Bu f.type.args).sum
def A4.al(s:A4):Nat:=Tq s.A1+Pe s.params+Ty.Bu s.result.args
def A0r(e:Ex):Nat:=Ty.Bu e.type.args+Ty.Bu e.targs
def U0(l:List Ex):Nat:=(l.map A0r).sum
def A0h(l:List A4):Nat:=(l.map A4.al).sum
def Decl.al(d:Decl):Nat:=if d.kind=3 then d.sig.al+U0 (Cj d.body)else Tq d.A1+Pe d.fields+A0h d.sigs
def Pj(l:List Decl):Nat:=(l.map Decl.al).sum
def A2g(d:Decl):A4:=⟨[],d.A1,d.fields,.mk [] [] 0,0⟩
def D5j(d:Decl):(A2g d).al=Tq d.A1+Pe d.fields:=by simp[A4.al,A2g,Ty.args,Ty.Bu]
def A8p(s:List He)(l:List Bt)(x:A4):(Ue s l x).length<=l.length+x.al*x.al:=by have E:=B0i (f:=λl (f:Ak)=>Gu s false f.bound.name 0 l f.bound.args) (g:=λf=>Ty.Bu f.bound.args) (λl f=>X4 s f.bound.args false f.bound.name 0 l) x.A1 l;have I:=B0i (f:=λl (f:Param)=>Gu s false f.type.name 0 l f.type.args) (g:=λf=>Ty.Bu f.type.args) (λl f=>X4 s f.type.args false f.type.name 0 l) x.params (x.A1.foldl (λl f=>Gu s false f.bound.name 0 l f.bound.args) l);have J:=X4 s x.result.args false x.result.name 0 (x.params.foldl (λl p=>Gu s false p.type.name 0 l p.type.args) (x.A1.foldl (λl f=>Gu s false f.bound.name 0 l f.bound.args) l));exact B4e _ _ _ _ _ (B4e _ _ _ _ _ E I) J
def exE(s:List He)(l:List Bt)(e:Ex):List Bt:=Gu s true e.name 0 (Gu s false e.type.name 0 l e.type.args) e.targs
def D2z(s:List He)(l:List Bt)(e:Ex):(exE s l e).length<=l.length+A0r e*A0r e :=B4e _ _ _ _ _ (X4 s e.type.args false e.type.name 0 l) (X4 s e.targs true e.name 0 _)
def sgE(s:List He)(l:List Bt)(x:A4):List Bt:=Ue (Lt s true x.name (Ad x.A1)) l x
def E6b(l:List Bt)(d:Decl):A4t l d=if d.kind=3 then
   (Cj d.body).foldl (exE (Lt (Lt [] false d.name d.vars) true d.sig.name (Ad d.sig.A1))) (Ue (Lt (Lt [] false d.name d.vars) true d.sig.name (Ad d.sig.A1)) l d.sig)
  else d.sigs.foldl (sgE (Lt [] false d.name (Ad d.A1))) (Ue (Lt [] false d.name (Ad d.A1)) l (A2g d)):=rfl
def D6t(l:List Bt)(d:Decl):(A4t l d).length<=l.length+d.al*d.al:=by rw[E6b];unfold Decl.al;split;exact B4e _ _ _ _ _ (A8p _ l d.sig) (B0i (g:=A0r) (λl e=>D2z _ l e) (Cj d.body) _);have E:=A8p (Lt [] false d.name (Ad d.A1)) l (A2g d);rw[D5j]at E;exact B4e _ _ _ _ _ E (B0i (g:=A4.al) (λl e=>A8p _ l e) d.sigs _)
def B1c{α:Type}(F:List α->Int->Int)(g:α->Int->Int)(h:α->Nat)(U:∀k,F [] k=k)(J:∀x xs k,F (x::xs) k=if k<=2000 then F xs (g x k)else k)(O:∀l k,k<=F l k)
  (E:∀x k,g x k<=2000->(h x:Int)<=120*(g x k - k)):∀(l:List α) (k:Int),F l k<=2000->((l.map h).sum:Int)<=120*(F l k - k)
 |[],k,_=>by rw[U];simp
 |x::xs,k,I=>by
  rw[J]at I |-;split at I
  .rename_i L;rw[A6 L];have W:=O xs (g x k);have V:=E x k (by omega);have Z:=B1c F g h U J O E xs (g x k) I;simp only[Cp,Nf];omega
  .rename_i L;omega
def B6u(t:Ty):Ty.Bu t.args<=t.Da:=by rw[Ty.Tu];omega
def C9a:∀(l:List Ak)(k:Int),Ca l k<=2000->(Tq l:Int)<=120*(Ca l k - k) :=B1c Ca (λf n=>f.bound.count (n+1+((f.name.length / 50:Nat):Int))) (λf=>Ty.Bu f.bound.args) (λ_=>rfl) (λ_ _ _=>rfl) (λl k=>(B0s l k).1) λx k h=>by have E:=Ty.A1f x.bound _ h;have I:=B6u x.bound;omega
def D8e:∀(l:List Param)(k:Int),D4 l k<=2000->(Pe l:Int)<=120*(D4 l k - k) :=B1c D4 (λf n=>f.type.count (n+1+((f.name.length / 50:Nat):Int))) (λf=>Ty.Bu f.type.args) (λ_=>rfl) (λ_ _ _=>rfl) (λl k=>(B3i l k).1) λx k h=>by have E:=Ty.A1f x.type _ h;have I:=B6u x.type;omega
def A4.A9f(s:A4)(n:Int)(h:s.count n<=2000):(s.al:Int)<=120*(s.count n - n):=by unfold A4.count at h |-;have V:=(B0s s.A1 (n+((s.name.length / 50:Nat):Int))).1;have J:=(B3i s.params (Ca s.A1 (n+((s.name.length / 50:Nat):Int)))).1;have O:=Ty.F7 s.result (D4 s.params (Ca s.A1 (n+((s.name.length / 50:Nat):Int))));have I:=C9a s.A1 (n+((s.name.length / 50:Nat):Int)) (by omega);have U:=D8e s.params _ (show D4 s.params (Ca s.A1 (n+((s.name.length / 50:Nat):Int)))<=2000 by omega);have L:=Ty.A1f s.result _ h;have E:=B6u s.result;unfold A4.al;omega
def H1e:∀(l:List A4)(k:Int),Eh l k<=2000->(A0h l:Int)<=120*(Eh l k - k) :=B1c Eh A4.count A4.al (λ_=>rfl) (λ_ _ _=>rfl) (λl k=>(C6x l k).1) λx k h=>A4.A9f x k h
mutual
theorem D7n:∀e:Ex,U0 (Cj e)<=e.M7
 |.mk k n t a ks p=>by have E:=E1k ks;have I:=B6u t;rw[Cj,Ex.B0v];simp only[U0,Cp,Nf,A0r,Ex.type,Ex.targs,Ex.kids,Ex.name]at E |-;omega
theorem E1k:∀l:List Ex,U0 (Em l)<=Ex.N3 l
 |[]=>by simp[U0,Em,Ex.N3]
 |e::l=>by have E:=D7n e;have I:=E1k l;rw[Em,Ex.N3];simp only[U0,Hc,At9]at E I |-;omega
end
def Decl.A9f(d:Decl)(n:Int)(h:d.count n<=2000):(d.al:Int)<=120*(d.count n - n):=by
 unfold Decl.count at h |-;generalize hm:n+1+((d.name.length / 50:Nat):Int)+((d.recv.length / 50:Nat):Int)=m at h |-;have a1:=(B0s d.A1 m).1;have U:=(B3i d.fields (Ca d.A1 m)).1;have c1:=(C6x d.sigs (D4 d.fields (Ca d.A1 m))).1;have e1:=(A2x d.vars (Eh d.sigs (D4 d.fields (Ca d.A1 m)))).1;have I:=C9a d.A1 m;have L:=D8e d.fields (Ca d.A1 m);have J:=H1e d.sigs (D4 d.fields (Ca d.A1 m));generalize W:Ja d.vars (Eh d.sigs (D4 d.fields (Ca d.A1 m)))=z at*;unfold Decl.Si at h |-;have f1:=(A4.G3 d.sig z).1;have f2:=A4.A9f d.sig z;have Z:=Ex.F7 d.body (d.sig.count z);have E:=Ex.B3u d.body (d.sig.count z);have V:=D7n d.body;split at h
 rename_i O;rw[A6 O];have I:=I (by omega);have L:=L (by omega);have J:=J (by omega);have f2:=f2 (by omega);have E:=E (by omega);unfold Decl.al;split <;> omega;omega
def Prog.A9f(p:Prog)(h:p.count<=600):Pj p.decls<=72000:=by unfold Prog.count at h;have E:=Ex.F7 p.main 0;have I:=(C5o p.decls (p.main.count 0)).1;have:=B1c Jt Decl.count Decl.al (λ_=>rfl) (λ_ _ _=>rfl) (λl k=>(C5o l k).1) (λx k h=>Decl.A9f x k h) p.decls (p.main.count 0) (by omega);unfold Pj;omega
open Go Go.Proofs Tryz
abbrev edS(e:Bt):List SV:=[.d (.bool e.src.Iw),.d (.str e.src.name),.d (.int .i64 e.src.idx),.d (.bool e.dst.Iw),.d (.str e.dst.name),.d (.int .i64 e.dst.idx),.d (.bool e.ins)]
abbrev edV(e:Bt):SV:=.agg (edS e)
abbrev H0(l:List Bt):SV:=.d (.slice (Lj l))
abbrev Rh(l:List He):SV:=.d (.slice (Uh l))
def Gx{l:List Bt}{i:Nat}{c:Bt}(h:l[i]?=some c):(Lj l)[i]?=some (Et c):=A0o h
def E2c{l:List E5}{i:Nat}{c:E5}(h:l[i]?=some c):(Us l)[i]?=some (noC c):=A0o h
def C2j{l:List He}{i:Nat}{c:He}(h:l[i]?=some c):(Uh l)[i]?=some (vaC c):=A0o h
def Pw(l:List Bt):(Lj l).length=l.length:=by simp[Lj]
def Zh(l:List E5):(Us l).length=l.length:=by simp[Us]
def B3w(l:List He):(Uh l).length=l.length:=by simp[Uh]
variable {S:Nat->Prop} {w:World} {β:Names}
def D3k{xs:List SV}{v:Value}(h:An S w β (.agg xs) v):∃vs:List Value,v=.agg ⟨vs⟩/\vs.length=xs.length/\∀(j:Nat)(c:SV)(u:Value),xs[j]?=some c->vs[j]?=some u->An S w β c u:=by cases h<;> grind
def D8x{a:E5}{v:Value}(h:An S w β (Uu a) v):v=.agg #[.bool a.Iw,.string (mkStr a.name),.int .i64 a.idx]:=by
 obtain⟨vs,rfl,L,hr⟩:=D3k h
 match vs,L with
 |[E,J,I],_ =>have U:=(hr 0 _ E rfl rfl).Wk;have O:=(hr 1 _ J rfl rfl).Vb.1;have V:=(hr 2 _ I rfl rfl).Ih;grind
def D9m{a:Bt}{v:Value}(h:An S w β (edV a) v) :v=.agg #[.bool a.src.Iw,.string (mkStr a.src.name),.int .i64 a.src.idx,.bool a.dst.Iw,.string (mkStr a.dst.name),.int .i64 a.dst.idx,.bool a.ins]:=by
 obtain⟨vs,rfl,V,hr⟩:=D3k h
 match vs,V with
 |[E,U,J,W,I,O,L],_ =>have h0:=(hr 0 _ E rfl rfl).Wk;have Z:=(hr 1 _ U rfl rfl).Vb.1;have h2:=(hr 2 _ J rfl rfl).Ih;have h3:=(hr 3 _ W rfl rfl).Wk;have h4:=(hr 4 _ I rfl rfl).Vb.1;have h5:=(hr 5 _ O rfl rfl).Ih;have h6:=(hr 6 _ L rfl rfl).Wk;grind
def C5y(d:Nat)(a b:E5)(w:World):(Op.equalIn (d+2) 158 (.agg #[.bool a.Iw,.string (mkStr a.name),.int .i64 a.idx]) (.agg #[.bool b.Iw,.string (mkStr b.name),.int .i64 b.idx])).run Tryz.prog w=.ok (decide (a=b)) w:=by
 have L:Tryz.prog.underlying 158=some (.struct (Tryz.prog.fieldsOf 158)):=by kernel_rfl
 have J:Tryz.prog.stoodInHeld 158=false:=by kernel_rfl
 rw[run_equalIn_agg w (d+1) 158 _ _ L J];simp only[Program.fieldsOf,underlying158]
 go_simp
 have O:(a=b)↔a.Iw=b.Iw/\a.name=b.name/\a.idx=b.idx:=by obtain⟨a1,V,a3⟩:=a;obtain⟨W,Z,b3⟩:=b;simp
 simp only[E7c];by_cases E:a.Iw=b.Iw <;> by_cases U:a.name=b.name <;> by_cases I:a.idx=b.idx <;> simp[E,U,I,O]
def Yg{sl:SL}{bx:Aa}{x y:Operand}{u:TypeId}(a b:E5)(O:Ao sl x=Uu a)(U:Ao sl y=Uu b):OpQ Tryz.prog sl bx (.binOp .eql 158 x y u) (B1 (decide (a=b))):=by intro o J;refine .E3 λ_ S w β V _ L=>?_;have E:=L x (mC J);rw[O]at E;have I:=L y (mC J);rw[U]at I;have E:=D8x E;have I:=D8x I;refine⟨.bool (decide (a=b)),?_,.bool _⟩;simp only[execOp,J,Ii,E,I,run_eqGuard_agg w .eql 158 x y _ _ Tryz.eqGuardType158,Hm,run_eql_struct];rw[show(10000:Nat)=9998+2 from rfl,C5y];rfl
def D4q{sl:SL}{bx:Aa}{x y:Operand}{u:TypeId}(a b:Bt)(O:Ao sl x=edV a)(U:Ao sl y=edV b):OpQ Tryz.prog sl bx (.binOp .eql 160 x y u) (B1 (decide (a=b))):=by
 intro o J;refine .E3 λ_ S w β ac _ L=>?_;have E:=L x (mC J);rw[O]at E;have I:=L y (mC J);rw[U]at I;have E:=D9m E;have I:=D9m I;refine⟨.bool (decide (a=b)),?_,.bool _⟩;have Z:Tryz.prog.underlying 160=some (.struct (Tryz.prog.fieldsOf 160)):=by kernel_rfl
 have W:Tryz.prog.stoodInHeld 160=false:=by kernel_rfl
 have e1:=C5y 9997 a.src b.src;have e2:=C5y 9997 a.dst b.dst;simp only[execOp,J,Ii,E,I,run_eqGuard_agg w .eql 160 x y _ _ Tryz.eqGuardType160,Hm,run_eql_struct];rw[show(10000:Nat)=9999+1 from rfl,run_equalIn_agg w 9999 160 _ _ Z W];simp only[Program.fieldsOf,underlying160];rw[show(9999:Nat)=9997+2 from rfl];have he:(a=b)↔a.src=b.src/\a.dst=b.dst/\a.ins=b.ins:=by obtain⟨a1,a2,a3⟩:=a;obtain⟨b1,b2,b3⟩:=b;simp
 simp only[Op.eqFields]
 go_simp
 by_cases E:a.src=b.src <;> by_cases I:a.dst=b.dst <;> by_cases V:a.ins=b.ins <;> simp[E,I,V,]
abbrev A3u:List Nat:=[0,1,2,3,4,5,12]
def F0m(a b:Bt):Ab Tryz.prog 238 [edV a,edV b] (B1 (B8y a b)):=by
 have h1:=D3e a.src b.src;have h2:=D3e a.dst b.dst;unfold B8y;obtain⟨⟨V,n1,i1⟩,⟨m2,n2,W⟩,q1⟩:=a;obtain⟨⟨m3,n3,i3⟩,⟨U,Z,i4⟩,q2⟩:=b;simp only at h1 h2 |-;generalize A4i ⟨V,n1,i1⟩ ⟨m3,n3,i3⟩=x at*;generalize A4i ⟨m2,n2,W⟩ ⟨U,Z,i4⟩=y at*;refine cB func238 ?_;refine sR A3u ?_;refine sC h1 A3u<|sK λK1 u1=>?_;have E:∀c:Int,(if x=0 then y else x)=c->∀sl bx,sle sl [(2,.box 2 0),(3,.box 3 0),(5,A7 c)]->ble bx [(2,.cells (edS ⟨⟨V,n1,i1⟩,⟨m2,n2,W⟩,q1⟩)),(3,.cells (edS ⟨⟨m3,n3,i3⟩,⟨U,Z,i4⟩,q2⟩))]->K1 sl bx:=by
  intro c O sl bx s1 s2;refine u1 _ _ (A0.ww s1 s2 ?_);clear u1 K1;rw[O];by_cases I:c<0;rw[Cc I,Vn];refine Ap I A3u ?_;exact aR;rw[Cu I,W7];by_cases L:c=0
  .subst L;cases q1 <;> cases q2 <;> (
    refine sR A3u ?_;exact aR)
  rw[Cu L,C8];refine Er I L A3u ?_;exact aR
 by_cases J:x=0;subst J;refine sR A3u ?_;refine A0.tt rfl ?_;(refine lV A3u λK z=>?_;refine cc h2 ?_;apply z;clear z K;try simp only[A5,]);exact E y (by rw[A6 rfl]) _ _ sS sB;refine Ap J A3u ?_;refine A0.ff rfl (A0.kk ?_);exact E x (by rw[A3 J]) _ _ sS sB
abbrev Mv:List Nat:=[0,1,3,4,5,6,10,18,31,47]
def E9o(l:List Bt)(e:Bt)(hl:l.length<=1000000000000):Ab Tryz.prog 219 [H0 l,edV e] (H0 (A0w l e)):=by
 have hR:∃R,Tr e l 0 []=R:=⟨_,rfl⟩;obtain⟨R,hR⟩:=hR;have V:A0w l e=A8c l e R:=by rw[F6p,hR]
 rw[V];clear V;refine cB func219 ?_;refine sR Mv ?_;refine sR Mv ?_;refine A0.pp 5 7 5 rfl<|kR Mv λK1 u1=>?_;refine A0.bb (A0.ii l (X:=List Bt) (λj out=>[(0,H0 l),(3,.box 3 0),(5,.acc 5),(6,A7 j)]) (λj out=>[(3,.cells (edS e)),(5,.rows 7 (Lj out))]) (λj out=>Tr e (l.drop j) j out=R/\j<=out.length/\out.length<=j+1) [] ⟨hR,by simp,by simp⟩ sS (by simp[ble,A8,Lj]) ?_ ?_)
 rotate_left
 .intro j out x hx a3 dp tk a2 J;obtain⟨J,a0,a1⟩:=J;have a4:=(Aw.1 hx).1;rw[dp,Tr]at J;refine sK λK2 u2=>?_;refine sQ Mv λK z=>?_;simp -implicitDefEqProofs only[EV,Nat.reduceEqDiff,reduceCtorEq,Ix,a2,Pw];apply z;clear z K;refine gI u2 ?_;clear u2 K2;refine sK λK2 u2=>A0.bb<|sK λK3 u3=>?_;by_cases Z:x=e
  subst Z;rw[A6 rfl]at J;subst J;refine sG Mv [] 5 [] λK z=>?_;refine ev ?_;refine⟨by omega,_,Gx hx,rfl,?_⟩;(try simp -implicitDefEqProofs only[EV,Nat.reduceAdd,Nat.reduceEqDiff,reduceCtorEq,N1,Et]);refine⟨_,D4q x x rfl rfl,?_⟩;(try refine ev ?_);apply z;clear z K;refine A0.tt rfl ?_;rw[show A8c l x none=l from rfl];refine sR Mv ?_;exact aR;rw[A3 Z]at J;refine sG Mv [] 5 [] λK z=>?_;refine ev ?_;refine⟨by omega,_,Gx hx,rfl,?_⟩;(try simp -implicitDefEqProofs only[EV,Nat.reduceAdd,Nat.reduceEqDiff,reduceCtorEq,N1,Et]);refine⟨_,D4q x e rfl rfl,?_⟩;(try refine Ah Z ?_);apply z;clear z K;refine A0.ff rfl (A0.kk (u3 _ _ ?_));clear u3 K3;have O:=F0m e x;refine sK λK3 u3=>?_;have W:∀I:List Bt,Tr e (l.drop (j+1)) (j+1) (I++[x])=R->(I++[x]).length<=j+2->j+1<=(I++[x]).length->∀sl bx,sle sl [(0,H0 l),(3,.box 3 0),(5,.acc 5),(6,A7 j)]->ble bx [(3,.cells (edS e)),(5,.rows 7 (Lj I))]->K3 sl bx:=by intro I h1 h2 h3 sl bx s1 s2;refine u3 _ _ (A0.ww s1 s2 ?_);clear u3 K3;rw[As,Ar,Az]at h2 h3;(refine lV Mv λK z=>?_;refine⟨by omega,_,Gx hx,rfl,?_⟩;(try simp -implicitDefEqProofs only[EV,Nat.reduceAdd,Nat.reduceEqDiff,Nat.reduceBEq,Nat.reduceLeDiff,Nat.reduceMul,reduceCtorEq,Ix,N1,Et,Pw,]);refine⟨by simp,by unfold lim;omega,?_⟩;apply z;clear z K;try simp only[A5,A9]);refine u2 _ _ ?_;clear u2 K2;(refine lV Mv λK z=>?_;refine cl ?_;apply z;clear z K;try simp only[A5,]);exact⟨I++[x],⟨h1,by rw[As,Ar,Az];omega,by rw[As,Ar,Az];omega⟩,sS,by simp[ble,A8,Lj,Et]⟩
  by_cases L:out.length=j
  .have E:((out.length:Nat):Int)=(j:Int):=by omega
   cases U:B8y e x with
   |true =>
    rw[A6 ⟨L,U⟩]at J;rw[U]at O;refine sG Mv [] 10 [] λK z=>?_;simp -implicitDefEqProofs only[EV,Nat.reduceAdd,Nat.reduceEqDiff,reduceCtorEq,Ix,N1,Pw,E];refine⟨by omega,_,Gx hx,rfl,?_⟩;(try simp -implicitDefEqProofs only[EV,Nat.reduceAdd,Nat.reduceEqDiff,reduceCtorEq,Et,]);refine cc O ?_;apply z;clear z K;refine A0.tt rfl ?_;(refine lQ Mv λK z=>?_;simp -implicitDefEqProofs only[EV,Nat.reduceAdd,Nat.reduceEqDiff,Nat.reduceBEq,Nat.reduceLeDiff,Nat.reduceMul,reduceCtorEq,Ix,N1,Pw];refine⟨by simp,by unfold lim;omega,?_⟩;apply z;clear z K;try simp only[A5,]);exact W (out++[e]) J (by rw[As,As];simp only[Ar,Az];omega) (by rw[As,As];simp only[Ar,Az];omega) _ _ sS (by simp[ble,A8,Lj,Et])
   |false =>
    rw[A3 (by rw[U];simp)]at J;rw[U]at O;refine sG Mv [] 10 [] λK z=>?_;simp -implicitDefEqProofs only[EV,Nat.reduceAdd,Nat.reduceEqDiff,reduceCtorEq,Ix,N1,Pw,E];refine⟨by omega,_,Gx hx,rfl,?_⟩;(try simp -implicitDefEqProofs only[EV,Nat.reduceAdd,Nat.reduceEqDiff,reduceCtorEq,Et,]);refine cc O ?_;apply z;clear z K;refine A0.ff rfl (A0.kk ?_);exact W out J (by rw[As];simp only[Ar,Az];omega) (by rw[As];simp only[Ar,Az];omega) _ _ sS (by simp[ble,A8,Lj])
  .have E:¬((out.length:Nat):Int)=(j:Int):=by omega
   rw[A3 (λh=>L h.1)]at J;refine sG Mv [] 10 [] λK z=>?_;simp -implicitDefEqProofs only[EV,Nat.reduceEqDiff,reduceCtorEq,Ix,Pw,E];apply z;clear z K;refine A0.ff rfl (A0.kk ?_);exact W out J (by rw[As];simp only[Ar,Az];omega) (by rw[As];simp only[Ar,Az];omega) _ _ sS (by simp[ble,A8,Lj])
 intro out J;obtain⟨J,a0,a1⟩:=J;rw[D3,Tr]at J;subst J;refine sK λK2 u2=>?_;refine sQ Mv λK z=>?_;simp -implicitDefEqProofs only[EV,Nat.reduceEqDiff,reduceCtorEq,Ix,B6,Pw];apply z;clear z K;refine A0.ss rfl ?_;simp only[A5,A9,Ac];refine u1 _ _ ?_;clear u2 K2 u1 K1;refine sK λK1 u1=>?_;by_cases L:out.length=l.length
 .have E:((out.length:Nat):Int)=(l.length:Int):=by omega
  rw[show A8c l e (some out)=out++[e] from A6 L]at u1;refine sQ Mv λK z=>?_;simp -implicitDefEqProofs only[EV,Nat.reduceEqDiff,reduceCtorEq,Ix,Pw,E];apply z;clear z K;refine A0.tt rfl ?_;(refine lQ Mv λK z=>?_;simp -implicitDefEqProofs only[EV,Nat.reduceAdd,Nat.reduceEqDiff,Nat.reduceBEq,Nat.reduceLeDiff,Nat.reduceMul,reduceCtorEq,Ix,N1,Pw];refine⟨by simp,by unfold lim;omega,?_⟩;apply z;clear z K;try simp only[A5,]);refine u1 _ _<|sR Mv ?_;have e1:H0 (out++[e])=.d (.slice (Lj out++[Et e])):=by simp[Lj]
  rw[e1];exact aR
 .have E:¬((out.length:Nat):Int)=(l.length:Int):=by omega
  rw[show A8c l e (some out)=out from A3 L]at u1;refine sQ Mv λK z=>?_;simp -implicitDefEqProofs only[EV,Nat.reduceEqDiff,reduceCtorEq,Ix,Pw,E];apply z;clear z K;refine A0.ff rfl (A0.kk (u1 _ _ ?_));refine sR Mv ?_;exact aR
def G5q(l:List He):∀row,row∈Uh l->row.length=4:=by intro row h;obtain⟨t,_,rfl⟩:=Au.1 h;rfl
def B5p(s:List He)(m:Bool)(own:A2)(l:List A2):(Lt s m own l).length=s.length+l.length:=by simp[Lt]
abbrev A3h:List Nat:=[0,1,2,3,8,9,10,11,17]
def B8k(s:List He)(m:Bool)(own:A2)(l:List A2)(hs:s.length<=10*sm)(W:l.length<=sm):Ab Tryz.prog 151 [Rh s,B1 m,B4 own,Ce l] (Rh (Lt s m own l)):=by
 refine cB func151 ?_;refine sR A3h ?_;refine A0.F9 A3h [11] (by decide +kernel) λK z=>?_;refine ev ?_;refine⟨G5q _,by(try simp only[B3w]);unfold lim sm at*;omega,?_⟩;(try refine ev ?_);apply z;clear z K;refine kR A3h λU u1=>?_;refine A0.bb (A0.ii l (X:=Unit) (λj _=>[(1,B1 m),(2,B4 own),(3,Ce l),(9,.acc 11),(10,A7 j)]) (λj _=>[(11,.rows 4 (Uh (s++(List.range j).map λi=>⟨(l[i]?).getD [],m,own,i⟩)))]) (λ_ _=>True) () trivial sS (by simp[ble,A8,Uh]) ?_ ?_);rotate_left
 .intro j _ d hd L V tk I _;have Z:=(Aw.1 hd).1;have O:Uh (s++(List.range (j+1)).map λi=>⟨(l[i]?).getD [],m,own,i⟩)=Uh (s++(List.range j).map λi=>⟨(l[i]?).getD [],m,own,i⟩)++[[.str d,.bool m,.str own,.int .i64 j]]:=by rw[List.range_succ,Hc,<-H8];simp[Uh,hd,vaC]
  have J:(Uh (s++(List.range j).map λi=>⟨(l[i]?).getD [],m,own,i⟩)).length=s.length+j:=by simp[Uh]
  rw[O];generalize Uh (s++(List.range j).map λi=>⟨(l[i]?).getD [],m,own,i⟩)=PR at*;refine Ae I A3h λE u2=>?_;refine gI u2 ?_;clear u2 E;refine sK λE u2=>A0.bb ?_;(refine lV A3h λK z=>?_;refine⟨by omega,_,J7 hd,rfl,?_⟩;(try refine Ah J ?_);refine⟨by simp,by(try simp only[J]);unfold lim sm at*;omega,?_⟩;(try refine Ah J ?_);apply z;clear z K;try simp only[A5,A9]);refine u2 _ _ ?_;clear u2 E;refine lT A3h ?_;exact⟨(),trivial,sS,by simp[ble,A8]⟩
 intro _ _;refine Ae B6 A3h λE u2=>?_;refine A0.ss rfl ?_;simp only[A5,A9,Ac];refine u1 _ _ ?_;clear u2 E u1 U;refine sR A3h ?_;exact aR
def E9a(s:List He)(E:E5)(b:Bool)(l:List Bt)(t:Ty):Vs s E b l t=match(if t.args.isEmpty=true then A6q s t.name else none)with
  |some v=>A0w l ⟨v.node,E,b⟩
  |none=>X7 s E l t.args:=by cases t;rfl
abbrev Qj:List Nat:=[0,1,2,3,4,7,8,10,11,12,22,32,47]
def H0a(s:List He)(hs:s.length<=10*sm)(I:E5):∀(t:Ty)(b:Bool)(l:List Bt),l.length+t.Da<=1000000000000->Ab Tryz.prog 190 [H0 l,Rh s,Uu I,Be t,B1 b] (H0 (Vs s I b l t)):=by
 intro t
 induction t using Ty.induct with
 |h t ih =>
 intro b l hl;have a3:=Ty.Tu t;have a4:=B3a t.args;rw[E9a];have hR:∃R,X7 s I l t.args=R:=⟨_,rfl⟩;obtain⟨R,hR⟩:=hR;rw[hR];refine cB func190 ?_;refine sR Qj ?_;refine kR Qj λK1 u1=>?_;have U:(if t.args.isEmpty=true then A6q s t.name else none)=none->∀sl bx,sle sl [(0,H0 l),(1,Rh s),(7,.box 7 0),(8,.box 8 0)]->ble bx [(7,.cells (noS I)),(8,.cells [.d (.str t.name),.d (.slice (Ag t.args)),.d (.int .i64 t.pos)])]->K1 sl bx:=by intro a0 sl bx s1 s2;refine u1 _ _ (A0.ww s1 s2 ?_);clear u1 K1;rw[a0];refine kR Qj λK1 u1=>?_;refine A0.bb (A0.ii t.args (X:=List Bt) (λj z=>[(0,H0 z),(1,Rh s),(7,.box 7 0),(8,.box 8 0),(12,A7 j)]) (λj z=>[(7,.cells (noS I)),(8,.cells [.d (.str t.name),.d (.slice (Ag t.args)),.d (.int .i64 t.pos)])]) (λj z=>X7 s I z (t.args.drop j)=R/\z.length+Ty.Bu (t.args.drop j)<=1000000000000) l ⟨hR,by simp only[Zu];omega⟩ sS sB ?_ ?_);rotate_left;intro j z d hd L dp tk O E;obtain⟨E,W⟩:=E;have hj:=(Aw.1 hd).1;rw[dp,X7]at E;rw[dp,Ty.Bu]at W;have hc:=ih d L true z (by omega);have a2:=B8v s I d true z;generalize Vs s I true z d=z2 at*;refine Ae O Qj λJ u2=>?_;refine gI u2 ?_;clear u2 J;refine sK λJ u2=>A0.bb ?_;(refine lG Qj [] 8 [] λK z=>?_;refine ev ?_;refine ci (Ev hd) ?_;refine cc hc ?_;apply z;clear z K;try simp only[A5,A9]);refine u2 _ _ ?_;clear u2 J;(refine lV Qj λK z=>?_;refine cl ?_;apply z;clear z K;try simp only[A5,]);exact⟨z2,⟨E,by omega⟩,sS,by simp[ble,A8]⟩;intro z E;obtain⟨E,_⟩:=E;rw[D3,X7]at E;subst E;refine Ae B6 Qj λJ u2=>?_;refine A0.ss rfl ?_;simp only[A5,A9,Ac];refine u1 _ _ ?_;clear u2 J u1 K1;refine sR Qj ?_;exact aR
 by_cases V:t.args=[]
 .have W:((t.args.length:Nat):Int)=0:=by rw[V];rfl
  refine A0.bb (A0.ii s (X:=Unit) (λj _=>[(0,H0 l),(1,Rh s),(4,B1 b),(7,.box 7 0),(8,.box 8 0),(11,A7 j)]) (λj _=>[(7,.cells (noS I)),(8,.cells [.d (.str t.name),.d (.slice (Ag t.args)),.d (.int .i64 t.pos)])]) (λj _=>A6q s t.name=A6q (s.drop j) t.name) () rfl sS sB ?_ ?_)
  rotate_left
  .intro j _ v Z L dp tk O E;have hj:=(Aw.1 Z).1;rw[dp]at E;unfold A6q at E;rw[Xc]at E;refine sK λJ u2=>?_
   (refine sQ Qj λK z=>?_;simp -implicitDefEqProofs only[EV,Nat.reduceEqDiff,reduceCtorEq,Ji,Hy,B1y,O,W,B3w];apply z;clear z K)
   refine gI u2 ?_;clear u2 J;refine sK λJ u2=>A0.bb ?_;by_cases hn:v.name=t.name
   .rw[Cc hn]at E;have a1:A6q s t.name=some v:=E;have hp:=E9o l ⟨v.node,I,b⟩ (by omega);rw[V,List.isEmpty_nil,A6 rfl,a1];simp only;generalize A0w l ⟨v.node,I,b⟩=z at*
    (refine sG Qj [] 7 [] λK z=>?_;refine ev ?_;refine⟨by omega,_,C2j Z,rfl,?_⟩;(try simp -implicitDefEqProofs only[EV,Nat.reduceEqDiff,reduceCtorEq,E1,Hy,hn,vaC]);apply z;clear z K)
    refine A0.tt rfl ?_
    (refine sG Qj [] 9 [] λK z=>?_;refine ev ?_;refine⟨by omega,_,C2j Z,rfl,?_⟩;(try simp -implicitDefEqProofs only[EV,Nat.reduceAdd,Nat.reduceEqDiff,Nat.reduceLeDiff,reduceCtorEq,Ng,N1,vaC]);refine⟨_,.inl ⟨_,rfl,hp,rfl⟩,?_⟩;apply z;clear z K)
    exact aR
   .rw[Cu hn]at E
    (refine sG Qj [] 7 [] λK z=>?_;refine ev ?_;refine⟨by omega,_,C2j Z,rfl,?_⟩;(try simp -implicitDefEqProofs only[EV,Nat.reduceEqDiff,reduceCtorEq,E1,Hy,hn,vaC]);apply z;clear z K)
    refine A0.ff rfl (A0.kk (u2 _ _ ?_));clear u2 J;refine lT Qj ?_;exact⟨(),E,sS,by simp[ble,A8]⟩
  intro _ E;rw[D3]at E;refine sK λJ u2=>?_
  (refine sQ Qj λK z=>?_;simp -implicitDefEqProofs only[EV,Nat.reduceEqDiff,reduceCtorEq,B1y,B6,B3w];apply z;clear z K)
  refine A0.ss rfl ?_;simp only[A5,A9,Ac];exact U (by rw[V,List.isEmpty_nil,A6 rfl,E];rfl) _ _ sS sB
 .have W:¬((t.args.length:Nat):Int)=0:=by
   intro h;exact V (Ar8.1 (by omega))
  refine A0.bb (A0.loop (X:=Unit) (λ_=>[(0,H0 l),(1,Rh s),(4,B1 b),(7,.box 7 0),(8,.box 8 0),(11,A7 0)]) (λ_=>[(7,.cells (noS I)),(8,.cells [.d (.str t.name),.d (.slice (Ag t.args)),.d (.int .i64 t.pos)])]) (λ_=>True) (λ_=>0) () trivial sS sB ?_)
  intro _ _;refine sK λJ u2=>?_;by_cases h0:(0:Int)<(s.length:Int)
  ·(refine sQ Qj λK z=>?_;simp -implicitDefEqProofs only[EV,Nat.reduceEqDiff,reduceCtorEq,Ji,Hy,B1y,h0,W,B3w];apply z;clear z K)
   refine A0.ss rfl ?_;simp only[A5,A9,Ac];exact U (by rw[A3 (by rw[At1];exact V)]) _ _ sS sB
  ·(refine sQ Qj λK z=>?_;simp -implicitDefEqProofs only[EV,Nat.reduceEqDiff,reduceCtorEq,B1y,h0,B3w];apply z;clear z K)
   refine A0.ss rfl ?_;simp only[A5,A9,Ac];exact U (by rw[A3 (by rw[At1];exact V)]) _ _ sS sB
def D8o(s:List He)(m:Bool)(own:A2)(i:Nat)(l:List Bt)(t:Ty):B3g s m own i l t=Gu s false t.name 0 (Vs s ⟨m,own,i⟩ false l t) t.args:=by cases t;rfl
def E2n(x:Nat):x<=x*x:=by cases x<;> grind
abbrev A1d:List Nat:=[0,1,2,3,4,10,11,15]
def G3s(s:List He)(hs:s.length<=10*sm):∀(t:Ty)(m:Bool)(own:A2)(l:List Bt),l.length+Ty.Bu t.args*Ty.Bu t.args<=1000000000000->Ab Tryz.prog 153 [H0 l,Rh s,B1 m,B4 own,Co t.args] (H0 (Gu s m own 0 l t.args)):=by
 intro t
 induction t using Ty.induct with
 |h t ih =>
 intro m own l hl;have a0:=B3a t.args;have Z:=E2n (Ty.Bu t.args);generalize t.args=a at*;have L:∃R,Gu s m own 0 l a=R:=⟨_,rfl⟩;obtain⟨R,L⟩:=L;rw[L];refine cB func153 ?_;refine sR A1d ?_;refine kR A1d λK1 u1=>?_;refine A0.bb (A0.ii a (X:=List Bt) (λj z=>[(0,H0 z),(1,Rh s),(2,B1 m),(3,B4 own),(4,Co a),(11,A7 j)]) (λj z=>[]) (λj z=>Gu s m own j z (a.drop j)=R/\z.length+Ty.Bu (a.drop j)*Ty.Bu (a.drop j)<=1000000000000) l ⟨L,by simpa using hl⟩ sS (by simp[ble]) ?_ ?_)
 rotate_left
 .intro j z d hd J W tk V E;obtain⟨E,hz⟩:=E;have hj:=(Aw.1 hd).1;rw[W,Gu,D8o]at E;rw[W,Ty.Bu]at hz;have h1:=Ta d.Da (Ty.Bu (a.drop (j+1)));have h2:=E2n d.Da;have h3:=B8v s ⟨m,own,j⟩ d false z;have U:=H0a s hs ⟨m,own,j⟩ d false z (by omega);have h4:=E4r s d m own j z;rw[D8o]at h4;generalize a1:Vs s ⟨m,own,j⟩ false z d=z1 at*;have h5:d.Da=d.name.length+4+Ty.Bu d.args:=Ty.Tu d;have h6:d.Da+Ty.Bu d.args*Ty.Bu d.args<=d.Da*d.Da:=by
   generalize Ty.Bu d.args=y at*;generalize d.Da=x at*;have g6:x*(y+4)<=x*x:=Ak9 _ (by omega);have g7:x*(y+4)=x*y+x*4:=Nat.mul_add _ _ _;have g8:y*y<=x*y:=Iv _ (by omega);omega
  have O:=ih d J false d.name z1 (by omega);generalize Gu s false d.name 0 z1 d.args=z2 at*;refine Ae V A1d λI u2=>?_;refine gI u2 ?_;clear u2 I;refine sK λI u2=>A0.bb ?_
  (refine sV A1d λK z=>?_;refine ci (Ev hd) ?_;refine cc U ?_;apply z;clear z K)
  (refine lG A1d [] 12 [] λK z=>?_;refine ev ?_;refine ci (Ev hd) ?_;refine ci (Ev hd) ?_;refine cc O ?_;apply z;clear z K;try simp only[A5,A9])
  refine u2 _ _ ?_;clear u2 I
  (refine lV A1d λK z=>?_;refine cl ?_;apply z;clear z K;try simp only[A5,])
  exact⟨z2,⟨E,by omega⟩,sS,by simp[ble]⟩
 intro z E;obtain⟨E,_⟩:=E;rw[D3,Gu]at E;subst E;refine Ae B6 A1d λI u2=>?_;refine A0.ss rfl ?_;simp only[A5,A9,Ac];refine u1 _ _ ?_;clear u2 I u1 K1;refine sR A1d ?_;exact aR
def B2p(s:List He)(hs:s.length<=10*sm)(m:Bool)(own:A2)(a:List Ty)(l:List Bt)(h:l.length+Ty.Bu a*Ty.Bu a<=1000000000000):Ab Tryz.prog 153 [H0 l,Rh s,B1 m,B4 own,Co a] (H0 (Gu s m own 0 l a)) :=G3s s hs (.mk [] a 0) m own l h
end Go.Abs
