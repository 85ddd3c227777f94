import Derived.Test.YtoajimpjknbnoaaGreatDoorKW08
import Derived.Laws.StructEq
set_option linter.all false
set_option maxHeartbeats 4000000
set_option maxRecDepth 100000
namespace Go.iA
open Go
structure Ep where
 Jd:Bool
 name:A3
 idx:Int
 deriving DecidableEq
structure Bz where
 src:Ep
 dst:Ep
 ins:Bool
 deriving DecidableEq
structure I0 where
 name:A3
 node:Ep
def noC(n:Ep):List D:=[.bool n.Jd,.str n.name,.int .i64 n.idx]
def F5(e:Bz):List D:=[.bool e.src.Jd,.str e.src.name,.int .i64 e.src.idx,.bool e.dst.Jd,.str e.dst.name,.int .i64 e.dst.idx,.bool e.ins]
def vaC(v:I0):List D:=[.str v.name,.bool v.node.Jd,.str v.node.name,.int .i64 v.node.idx]
def X8(l:List Ep):List (List D):=l.map noC
def Mr(l:List Bz):List (List D):=l.map F5
def Ur(l:List I0):List (List D):=l.map vaC
def EH(a b:Ep):Int:=if a.Jd≠b.Jd then(if b.Jd=true then -1 else 1)else if a.name≠b.name then Bw a.name b.name else if a.idx<b.idx then -1 else if a.idx > b.idx then 1 else 0
def tQ(a b:Bz):Bool:=let c:=if EH a.src b.src=0 then EH a.dst b.dst else EH a.src b.src
 decide (c<0) ||(decide (c=0) && (!a.ins && b.ins))
def U9(e:Bz):List Bz->Nat->List Bz->Option (List Bz)
 |[],_,out=>some out
 |x::r,i,out=>if x=e then none else U9 e r (i+1) ((if out.length=i/\tQ e x=true then out++[e]else out)++[x])
def gD(l:List Bz)(e:Bz):List Bz:=match U9 e l 0 []with
 |none=>l
 |some out=>if out.length=l.length then out++[e]else out
def yf{e:Bz} :∀{l:List Bz} {i:Nat} {out R:List Bz},i<=out.length->out.length<=i+1->U9 e l i out=some R->i+l.length<=R.length/\R.length<=i+l.length+1
 |[],i,out,R,I,E,h=>by simp only[U9,B8]at h;subst h;simp;omega
 |x::l,i,out,R,I,E,h=>by
  rw[U9]at h;split at h;cases h
  .have L:=yf (i:=i+1) (by
    rw[B5];simp only[Bg,Ck];split;rw[B5];simp only[Bg,Ck];omega;omega) (by
    rw[B5];simp only[Bg,Ck];split;rename_i J;rw[B5];simp only[Bg,Ck];omega;omega) h
   simp only[Bg];omega
def iK(l:List Bz)(e:Bz):Option (List Bz)->List Bz
 |none=>l
 |some out=>if out.length=l.length then out++[e]else out
def pv(l:List Bz)(e:Bz):gD l e=iK l e (U9 e l 0 []):=by unfold gD iK;cases U9 e l 0 [] <;> rfl
def G8x(l:List Bz)(e:Bz):(gD l e).length<=l.length+1:=by
 unfold gD;cases h:U9 e l 0 []with
 |none=>simp
 |some R =>have:=yf (i:=0) (by simp) (by simp) h;simp only;split;rw[B5];simp only[Bg,Ck];omega;omega
def Mn(s:List I0)(m:Bool)(own:A3)(l:List A3):List I0:=s++(List.range l.length).map λi=>⟨(l[i]?).getD [],m,own,i⟩
def lH(s:List I0)(n:A3):Option I0:=s.find? λv=>decide (v.name=n)
mutual
def Ye(s:List I0)(E:Ep):Bool->List Bz->Ty->List Bz
 |b,l,.mk n a _=>match(if a.isEmpty=true then lH s n else none)with
  |some v=>gD l ⟨v.node,E,b⟩
  |none=>Z8 s E l a
def Z8(s:List I0)(E:Ep):List Bz->List Ty->List Bz
 |l,[]=>l
 |l,t::I=>Z8 s E (Ye s E true l t) I
end
mutual
theorem RN(s:List I0)(E:Ep):∀(t:Ty)(b:Bool)(l:List Bz),(Ye s E b l t).length<=l.length+t.Ea
 |.mk n a p,b,l=>by rw[Ye,Ty.Ea];have h:=tp s E a l;split;rename_i v J;have:=G8x l ⟨v.node,E,b⟩;omega;omega
theorem tp(s:List I0)(E:Ep):∀(a:List Ty)(l:List Bz),(Z8 s E l a).length<=l.length+fA a
 |[],l=>by simp[Z8]
 |t::I,l=>by have O:=RN s E t true l;have L:=tp s E I (Ye s E true l t);rw[Z8,fA];omega
end
mutual
def rM(s:List I0)(m:Bool)(own:A3)(i:Nat):List Bz->Ty->List Bz
 |l,.mk n a p=>Hg s false n 0 (Ye s ⟨m,own,i⟩ false l (.mk n a p)) a
def Hg(s:List I0)(m:Bool)(own:A3):Nat->List Bz->List Ty->List Bz
 |_,l,[]=>l
 |i,l,t::E=>Hg s m own (i+1) (rM s m own i l t) E
end
def Ui(x y:Nat):x*x+y*y<=(x+y)*(x+y):=by rw[Ii,Nat.mul_add,Nat.mul_add];omega
mutual
theorem cq(s:List I0):∀(t:Ty)(m:Bool)(own:A3)(i:Nat)(l:List Bz),(rM s m own i l t).length<=l.length+t.Ea*t.Ea
 |.mk n a p,m,own,i,l=>by
  have J:=RN s ⟨m,own,i⟩ (.mk n a p) false l;have I:=vC s a false n 0 (Ye s ⟨m,own,i⟩ false l (.mk n a p));rw[rM];have O:(Ty.mk n a p).Ea=n.length+4+fA a:=rfl;generalize fA a=y at*;generalize(Ty.mk n a p).Ea=x at*;have L:x+y*y<=x*x:=by have U:x*(y+4)<=x*x:=IG _ (by omega);have Z:x*(y+4)=x*y+x*4:=Nat.mul_add _ _ _;have W:y*y<=x*y:=Ih _ (by omega);omega
  omega
theorem vC(s:List I0):∀(a:List Ty)(m:Bool)(own:A3)(i:Nat)(l:List Bz),(Hg s m own i l a).length<=l.length+fA a*fA a
 |[],m,own,i,l=>by simp[Hg]
 |t::E,m,own,i,l=>by have J:=cq s t m own i l;have I:=vC s E m own (i+1) (rM s m own i l t);have V:=Ui t.Ea (fA E);rw[Hg,fA];omega
end
def Vk(s:List I0)(l:List Bz)(x:A4):List Bz :=Hg s false x.result.name 0 (x.params.foldl (λl p=>Hg s false p.type.name 0 l p.type.args) (x.A1.foldl (λl f=>Hg s false f.bound.name 0 l f.bound.args) l)) x.result.args
def pH(l:List Bz)(d:Decl):List Bz :=if d.kind=3 then
  let s:=Mn (Mn [] false d.name d.vars) true d.sig.name (Ad d.sig.A1)
  (B3 d.body).foldl (λl e=>Hg s true e.name 0 (Hg s false e.type.name 0 l e.type.args) e.targs) (Vk s l d.sig)
 else
  let s:=Mn [] false d.name (Ad d.A1)
  d.sigs.foldl (λl x=>Vk (Mn s true x.name (Ad x.A1)) l x) (Vk s l ⟨[],d.A1,d.fields,.mk [] [] 0,0⟩)
def uH(p:Prog):List Bz:=p.decls.foldl pH []
def R4(n:Ep)(out:List Ep)(e:Bz):List Ep:=if(e.src=n\/e.src∈out)/\e.dst∉out then out++[e.dst]else out
def XE(l:List Bz)(n:Ep):Nat->Int->List Ep->List Ep
 |0,_,out=>out
 |k+1,c,out=>if c=out.length then out else XE l n k out.length (l.foldl (R4 n) out)
def gF(l:List Bz)(n:Ep):List Ep:=XE l n (l.length+3) (-1) []
def EL(l:List Bz)(a b:Ep):Bool:=decide (b∈gF l a)
def IN(l:List Bz):List Bz:=l.filter λe=>e.ins && (decide (e.dst=e.src) ||EL l e.dst e.src)
def JQ(p:Prog):Bool:=decide ((IN (uH p)).length=0)
def ZJ{α:Type}{f:List Bz->α->List Bz}{g:α->Nat}(h:∀l a,(f l a).length<=l.length+g a*g a):∀(as_:List α)(l:List Bz),(as_.foldl f l).length<=l.length+(as_.map g).sum*(as_.map g).sum
 |[],l=>by simp
 |a::r,l=>by have I:=h l a;have J:=ZJ h r (f l a);have E:=Ui (g a) (r.map g).sum;rw[Mt,Cj,Jy];omega
def eL(a b c x y:Nat)(I:b<=a+x*x)(E:c<=b+y*y):c<=a+(x+y)*(x+y):=by have:=Ui x y;omega
def dH{z E:Nat}{x y:Nat}(h:z+(x+y)*(x+y)<=1000000000000)(I:E<=z+x*x):E+y*y<=1000000000000:=by have:=Ui x y;omega
open Go Go.Proofs Tryz
abbrev noS(n:Ep):List SV:=[.d (.bool n.Jd),.d (.str n.name),.d (.int .i64 n.idx)]
abbrev W5(n:Ep):SV:=.agg (noS n)
abbrev Ij:=[0,1,2,3,4,9,11,16,26,31]
def KZ(a b:Ep):Ab Tryz.prog 332 [W5 a,W5 b] (A6 (EH a b)):=by
 have hc:=eN a.name b.name;obtain⟨m1,U,O⟩:=a;obtain⟨m2,W,L⟩:=b;unfold EH;simp only at hc |-;generalize Bw U W=z at*;have main:∀m:Bool,Ab Tryz.prog 332 [W5 ⟨m,U,O⟩,W5 ⟨m,W,L⟩] (A6 (if U≠W then z else if O<L then -1 else if O > L then 1 else 0)):=by
  intro m;have Z:(m ==m)=true:=by simp
  by_cases I:U=W;rw[A5 (λh=>h I)];by_cases J:O<L;rw[A7 J];refine cB func332 ?_;refine sR Ij ?_;refine Ag Z Ij λE u1=>?_;refine kI u1 ?_;refine Ag I Ij λE u1=>?_;refine kI u1 ?_;refine Ag J Ij λE u1=>?_;refine tI ?_;refine sR Ij ?_;exact aR;rw[A5 J];by_cases V:O > L;rw[A7 V];refine cB func332 ?_;refine sR Ij ?_;refine Ag Z Ij λE u1=>?_;refine kI u1 ?_;refine Ag I Ij λE u1=>?_;refine kI u1 ?_;refine Ag J Ij λE u1=>?_;refine kI u1 ?_;refine Ag V Ij λE u1=>?_;refine tI ?_;refine sR Ij ?_;exact aR;rw[A5 V];refine cB func332 ?_;refine sR Ij ?_;refine Ag Z Ij λE u1=>?_;refine kI u1 ?_;refine Ag I Ij λE u1=>?_;refine kI u1 ?_;refine Ag J Ij λE u1=>?_;refine kI u1 ?_;refine Ag V Ij λE u1=>?_;refine kI u1 ?_;refine sR Ij ?_;exact aR;rw[A7 I];refine cB func332 ?_;refine sR Ij ?_;refine Ag Z Ij λE u1=>?_;refine kI u1 ?_;refine Ag I Ij λE u1=>?_;refine tI ?_;refine sC hc Ij ?_;exact aR
 cases m1 <;> cases m2;exact main false;rw[A7 (by decide),A7 rfl];refine cB func332 ?_;refine sR Ij ?_;refine kR Ij λE u1=>?_;refine tI ?_;refine kR Ij λK2 u2=>?_;refine tI ?_;refine sR Ij ?_;exact aR;rw[A7 (by decide),A5 (by decide)];refine cB func332 ?_;refine sR Ij ?_;refine kR Ij λE u1=>?_;refine tI ?_;refine kR Ij λK2 u2=>?_;refine kI u2 ?_;refine sR Ij ?_;exact aR;exact main true
open Go
def V5(l:List Aj):Nat:=(l.map λf=>fA f.bound.args).sum
def Q8(l:List Param):Nat:=(l.map λf=>fA f.type.args).sum
def A4.al(s:A4):Nat:=V5 s.A1+Q8 s.params+fA s.result.args
def VD(e:Ex):Nat:=fA e.type.args+fA e.targs
def Vn(l:List Ex):Nat:=(l.map VD).sum
def oD(l:List A4):Nat:=(l.map A4.al).sum
def Decl.al(d:Decl):Nat:=if d.kind=3 then d.sig.al+Vn (B3 d.body)else V5 d.A1+Q8 d.fields+oD d.sigs
def Q2(l:List Decl):Nat:=(l.map Decl.al).sum
def AF(d:Decl):A4:=⟨[],d.A1,d.fields,.mk [] [] 0,0⟩
def gY(d:Decl):(AF d).al=V5 d.A1+Q8 d.fields:=by simp[A4.al,AF,Ty.args,fA]
def KI(s:List I0)(l:List Bz)(x:A4):(Vk s l x).length<=l.length+x.al*x.al:=by have J:=ZJ (f:=λl (f:Aj)=>Hg s false f.bound.name 0 l f.bound.args) (g:=λf=>fA f.bound.args) (λl f=>vC s f.bound.args false f.bound.name 0 l) x.A1 l;have I:=ZJ (f:=λl (f:Param)=>Hg s false f.type.name 0 l f.type.args) (g:=λf=>fA f.type.args) (λl f=>vC s f.type.args false f.type.name 0 l) x.params (x.A1.foldl (λl f=>Hg s false f.bound.name 0 l f.bound.args) l);have E:=vC s x.result.args false x.result.name 0 (x.params.foldl (λl p=>Hg s false p.type.name 0 l p.type.args) (x.A1.foldl (λl f=>Hg s false f.bound.name 0 l f.bound.args) l));exact eL _ _ _ _ _ (eL _ _ _ _ _ J I) E
def exE(s:List I0)(l:List Bz)(e:Ex):List Bz:=Hg s true e.name 0 (Hg s false e.type.name 0 l e.type.args) e.targs
def sd(s:List I0)(l:List Bz)(e:Ex):(exE s l e).length<=l.length+VD e*VD e :=eL _ _ _ _ _ (vC s e.type.args false e.type.name 0 l) (vC s e.targs true e.name 0 _)
def sgE(s:List I0)(l:List Bz)(x:A4):List Bz:=Vk (Mn s true x.name (Ad x.A1)) l x
def lZ(l:List Bz)(d:Decl):pH l d=if d.kind=3 then
   (B3 d.body).foldl (exE (Mn (Mn [] false d.name d.vars) true d.sig.name (Ad d.sig.A1))) (Vk (Mn (Mn [] false d.name d.vars) true d.sig.name (Ad d.sig.A1)) l d.sig)
  else d.sigs.foldl (sgE (Mn [] false d.name (Ad d.A1))) (Vk (Mn [] false d.name (Ad d.A1)) l (AF d)):=rfl
def kp(l:List Bz)(d:Decl):(pH l d).length<=l.length+d.al*d.al:=by rw[lZ];unfold Decl.al;split;exact eL _ _ _ _ _ (KI _ l d.sig) (ZJ (g:=VD) (λl e=>sd _ l e) (B3 d.body) _);have E:=KI (Mn [] false d.name (Ad d.A1)) l (AF d);rw[gY]at E;exact eL _ _ _ _ _ E (ZJ (g:=A4.al) (λl e=>KI _ l e) d.sigs _)
def LM{α:Type}(F:List α->Int->Int)(g:α->Int->Int)(h:α->Nat)(L:∀k,F [] k=k)(O:∀x xs k,F (x::xs) k=if k<=2000 then F xs (g x k)else k)(U:∀l k,k<=F l k)
  (E:∀x k,g x k<=2000->(h x:Int)<=120*(g x k - k)):∀(l:List α) (k:Int),F l k<=2000->((l.map h).sum:Int)<=120*(F l k - k)
 |[],k,_=>by rw[L];simp
 |x::xs,k,I=>by
  rw[O]at I |-;split at I
  .rename_i J;rw[A7 J];have Z:=U xs (g x k);have W:=E x k (by omega);have V:=LM F g h L O U E xs (g x k) I;simp only[Cj,Jy];omega
  .rename_i J;omega
def VN(t:Ty):fA t.args<=t.Ea:=by rw[yA];omega
def j6:∀(l:List Aj)(k:Int),Cf l k<=2000->(V5 l:Int)<=120*(Cf l k - k) :=LM Cf (λf n=>f.bound.count (n+1+((f.name.length / 50:Nat):Int))) (λf=>fA f.bound.args) (λ_=>rfl) (λ_ _ _=>rfl) (λl k=>(kL l k).1) λx k h=>by have I:=DA x.bound _ h;have E:=VN x.bound;omega
def da:∀(l:List Param)(k:Int),Dj l k<=2000->(Q8 l:Int)<=120*(Dj l k - k) :=LM Dj (λf n=>f.type.count (n+1+((f.name.length / 50:Nat):Int))) (λf=>fA f.type.args) (λ_=>rfl) (λ_ _ _=>rfl) (λl k=>(xM l k).1) λx k h=>by have I:=DA x.type _ h;have E:=VN x.type;omega
def A4.fJ(s:A4)(n:Int)(h:s.count n<=2000):(s.al:Int)<=120*(s.count n - n):=by unfold A4.count at h |-;have V:=(kL s.A1 (n+((s.name.length / 50:Nat):Int))).1;have I:=(xM s.params (Cf s.A1 (n+((s.name.length / 50:Nat):Int)))).1;have J:=Ty.Fu s.result (Dj s.params (Cf s.A1 (n+((s.name.length / 50:Nat):Int))));have U:=j6 s.A1 (n+((s.name.length / 50:Nat):Int)) (by omega);have L:=da s.params _ (show Dj s.params (Cf s.A1 (n+((s.name.length / 50:Nat):Int)))<=2000 by omega);have O:=DA s.result _ h;have E:=VN s.result;unfold A4.al;omega
def F9b:∀(l:List A4)(k:Int),Ez l k<=2000->(oD l:Int)<=120*(Ez l k - k) :=LM Ez A4.count A4.al (λ_=>rfl) (λ_ _ _=>rfl) (λl k=>(VT l k).1) λx k h=>A4.fJ x k h
mutual
theorem cf:∀e:Ex,Vn (B3 e)<=e.Uo
 |.mk k n t a ks p=>by have E:=je ks;have I:=VN t;rw[B3,uB];simp only[Vn,Cj,Jy,VD,Ex.type,Ex.targs,Ex.kids,Ex.name]at E |-;omega
theorem je:∀l:List Ex,Vn (Cx l)<=IA l
 |[]=>by simp[Vn,Cx,IA]
 |e::l=>by have E:=cf e;have I:=je l;rw[Cx,IA];simp only[Vn,Gy,Z3]at E I |-;omega
end
def Decl.fJ(d:Decl)(n:Int)(h:d.count n<=2000):(d.al:Int)<=120*(d.count n - n):=by
 unfold Decl.count at h |-;generalize hm:n+1+((d.name.length / 50:Nat):Int)+((d.recv.length / 50:Nat):Int)=m at h |-;have a1:=(kL d.A1 m).1;have b1:=(xM d.fields (Cf d.A1 m)).1;have c1:=(VT d.sigs (Dj d.fields (Cf d.A1 m))).1;have U:=(QD d.vars (Ez d.sigs (Dj d.fields (Cf d.A1 m)))).1;have L:=j6 d.A1 m;have I:=da d.fields (Cf d.A1 m);have J:=F9b d.sigs (Dj d.fields (Cf d.A1 m));generalize W:Jb d.vars (Ez d.sigs (Dj d.fields (Cf d.A1 m)))=z at*;unfold Decl.S8 at h |-;have f1:=(A4.H9 d.sig z).1;have f2:=A4.fJ d.sig z;have Z:=Ex.Fu d.body (d.sig.count z);have E:=pB d.body (d.sig.count z);have V:=cf d.body;split at h
 rename_i O;rw[A7 O];have L:=L (by omega);have I:=I (by omega);have J:=J (by omega);have f2:=f2 (by omega);have E:=E (by omega);unfold Decl.al;split <;> omega;omega
def Prog.fJ(p:Prog)(h:p.count<=600):Q2 p.decls<=72000:=by unfold Prog.count at h;have E:=Ex.Fu p.main 0;have I:=(KU p.decls (p.main.count 0)).1;have:=LM J8 Decl.count Decl.al (λ_=>rfl) (λ_ _ _=>rfl) (λl k=>(KU l k).1) (λx k h=>Decl.fJ x k h) p.decls (p.main.count 0) (by omega);unfold Q2;omega
open Go Go.Proofs Tryz
abbrev edS(e:Bz):List SV:=[.d (.bool e.src.Jd),.d (.str e.src.name),.d (.int .i64 e.src.idx),.d (.bool e.dst.Jd),.d (.str e.dst.name),.d (.int .i64 e.dst.idx),.d (.bool e.ins)]
abbrev edV(e:Bz):SV:=.agg (edS e)
abbrev Hm(l:List Bz):SV:=.d (.slice (Mr l))
abbrev S4(l:List I0):SV:=.d (.slice (Ur l))
def He{l:List Bz}{i:Nat}{c:Bz}(h:l[i]?=some c):(Mr l)[i]?=some (F5 c):=cD h
def iY{l:List Ep}{i:Nat}{c:Ep}(h:l[i]?=some c):(X8 l)[i]?=some (noC c):=cD h
def CS{l:List I0}{i:Nat}{c:I0}(h:l[i]?=some c):(Ur l)[i]?=some (vaC c):=cD h
def Mw(l:List Bz):(Mr l).length=l.length:=by simp[Mr]
def Xz(l:List Ep):(X8 l).length=l.length:=by simp[X8]
def zL(l:List I0):(Ur l).length=l.length:=by simp[Ur]
variable {S:Nat->Prop} {w:World} {β:Names}
def nc{xs:List SV}{v:Value}(h:An S w β (.agg xs) v):∃vs:List Value,v=.agg ⟨vs⟩/\vs.length=xs.length/\∀(j:Nat)(c:SV)(u:Value),xs[j]?=some c->vs[j]?=some u->An S w β c u:=by cases h<;> grind
def nb{a:Ep}{v:Value}(h:An S w β (W5 a) v):v=.agg #[.bool a.Jd,.string (mkStr a.name),.int .i64 a.idx]:=by
 obtain⟨vs,rfl,I,hr⟩:=nc h
 match vs,I with
 |[E,J,L],_ =>have U:=(hr 0 _ E rfl rfl).Yg;have V:=(hr 1 _ J rfl rfl).Vw.1;have O:=(hr 2 _ L rfl rfl).J6;grind
def QW{a:Bz}{v:Value}(h:An S w β (edV a) v) :v=.agg #[.bool a.src.Jd,.string (mkStr a.src.name),.int .i64 a.src.idx,.bool a.dst.Jd,.string (mkStr a.dst.name),.int .i64 a.dst.idx,.bool a.ins]:=by
 obtain⟨vs,rfl,J,hr⟩:=nc h
 match vs,J with
 |[E,L,O,U,W,I,V],_ =>have h0:=(hr 0 _ E rfl rfl).Yg;have h1:=(hr 1 _ L rfl rfl).Vw.1;have h2:=(hr 2 _ O rfl rfl).J6;have h3:=(hr 3 _ U rfl rfl).Yg;have h4:=(hr 4 _ W rfl rfl).Vw.1;have Z:=(hr 5 _ I rfl rfl).J6;have h6:=(hr 6 _ V rfl rfl).Yg;grind
def vS(d:Nat)(a b:Ep)(w:World):(Op.equalIn (d+2) 180 (.agg #[.bool a.Jd,.string (mkStr a.name),.int .i64 a.idx]) (.agg #[.bool b.Jd,.string (mkStr b.name),.int .i64 b.idx])).run Tryz.prog w=.ok (decide (a=b)) w:=by
 have L:Tryz.prog.underlying 180=some (.struct (Tryz.prog.fieldsOf 180)):=by kernel_rfl
 have hp:Tryz.prog.stoodInHeld 180=false:=by kernel_rfl
 rw[run_equalIn_agg w (d+1) 180 _ _ L hp];simp only[Program.fieldsOf,underlying180]
 go_simp
 have I:(a=b)↔a.Jd=b.Jd/\a.name=b.name/\a.idx=b.idx:=by obtain⟨W,a2,U⟩:=a;obtain⟨V,Z,b3⟩:=b;simp
 simp only[uf];by_cases O:a.Jd=b.Jd <;> by_cases E:a.name=b.name <;> by_cases J:a.idx=b.idx <;> simp[O,E,J,I]
def Z7{sl:SL}{bx:Ac}{x y:Operand}{u:TypeId}(a b:Ep)(U:Aq sl x=W5 a)(O:Aq sl y=W5 b):cC Tryz.prog sl bx (.binOp .eql 180 x y u) (Ar (decide (a=b))):=by intro o J;refine .Ei λ_ S w β V _ L=>?_;have I:=L x (mC J);rw[U]at I;have E:=L y (mC J);rw[O]at E;have I:=nb I;have E:=nb E;refine⟨.bool (decide (a=b)),?_,.bool _⟩;simp only[execOp,J,Ha,I,E,run_eqGuard_agg w .eql 180 x y _ _ Tryz.eqGuardType180,Hp,run_eql_struct];rw[show(10000:Nat)=9998+2 from rfl,vS];rfl
def uj{sl:SL}{bx:Ac}{x y:Operand}{u:TypeId}(a b:Bz)(W:Aq sl x=edV a)(V:Aq sl y=edV b):cC Tryz.prog sl bx (.binOp .eql 182 x y u) (Ar (decide (a=b))):=by
 intro o J;refine .Ei λ_ S w β ac _ L=>?_;have I:=L x (mC J);rw[W]at I;have E:=L y (mC J);rw[V]at E;have I:=QW I;have E:=QW E;refine⟨.bool (decide (a=b)),?_,.bool _⟩;have U:Tryz.prog.underlying 182=some (.struct (Tryz.prog.fieldsOf 182)):=by kernel_rfl
 have hp:Tryz.prog.stoodInHeld 182=false:=by kernel_rfl
 have Z:=vS 9997 a.src b.src;have e2:=vS 9997 a.dst b.dst;simp only[execOp,J,Ha,I,E,run_eqGuard_agg w .eql 182 x y _ _ Tryz.eqGuardType182,Hp,run_eql_struct];rw[show(10000:Nat)=9999+1 from rfl,run_equalIn_agg w 9999 182 _ _ U hp];simp only[Program.fieldsOf,underlying182];rw[show(9999:Nat)=9997+2 from rfl];have he:(a=b)↔a.src=b.src/\a.dst=b.dst/\a.ins=b.ins:=by obtain⟨a1,a2,a3⟩:=a;obtain⟨b1,b2,b3⟩:=b;simp
 simp only[Op.eqFields]
 go_simp
 by_cases I:a.src=b.src <;> by_cases E:a.dst=b.dst <;> by_cases O:a.ins=b.ins <;> simp[I,E,O,]
abbrev fF:=[0,1,2,3,4,5,12]
def H5j(a b:Bz):Ab Tryz.prog 326 [edV a,edV b] (Ar (tQ a b)):=by
 have h1:=KZ a.src b.src;have U:=KZ a.dst b.dst;unfold tQ;obtain⟨⟨m1,V,i1⟩,⟨m2,W,i2⟩,Z⟩:=a;obtain⟨⟨m3,n3,i3⟩,⟨m4,n4,i4⟩,q2⟩:=b;simp only at h1 U |-;generalize EH ⟨m1,V,i1⟩ ⟨m3,n3,i3⟩=x at*;generalize EH ⟨m2,W,i2⟩ ⟨m4,n4,i4⟩=y at*;refine cB func326 ?_;refine sR fF ?_;refine sC h1 fF<|sK λK1 u1=>?_;have E:∀c:Int,(if x=0 then y else x)=c->∀sl bx,sle sl [(2,.box 2 0),(3,.box 3 0),(5,A6 c)]->ble bx [(2,.cells (edS ⟨⟨m1,V,i1⟩,⟨m2,W,i2⟩,Z⟩)),(3,.cells (edS ⟨⟨m3,n3,i3⟩,⟨m4,n4,i4⟩,q2⟩))]->K1 sl bx:=by
  intro c L sl bx s1 s2;refine u1 _ _ (A0.ww s1 s2 ?_);rw[L];by_cases I:c<0;rw[Bn I,Uz];refine Ak I fF ?_;exact aR;rw[Cb I,Wd];by_cases J:c=0
  .subst J;cases Z <;> cases q2 <;> (
    refine sR fF ?_;exact aR)
  rw[Cb J,C6];refine Ee I J fF ?_;exact aR
 by_cases O:x=0;subst O;refine sR fF ?_;refine eA rfl ?_;(refine lV fF λK z=>?_;refine cc U ?_;apply z;try simp only[Aa,]);exact E y (by rw[A7 rfl]) _ _ sS sB;refine Ak O fF ?_;refine dA rfl (cA ?_);exact E x (by rw[A5 O]) _ _ sS sB
abbrev Nj:=[0,1,3,4,5,6,10,18,31,47]
def G2j(l:List Bz)(e:Bz)(hl:l.length<=1000000000000):Ab Tryz.prog 308 [Hm l,edV e] (Hm (gD l e)):=by
 have hR:∃R,U9 e l 0 []=R:=⟨_,rfl⟩;obtain⟨R,hR⟩:=hR;have V:gD l e=iK l e R:=by rw[pv,hR]
 rw[V];refine cB func308 ?_;refine sR Nj ?_;refine sR Nj ?_;refine A0.pp 5 7 5 rfl<|kR Nj λK1 u1=>?_;refine bA (A0.ii l (X:=List Bz) (λj out=>[(0,Hm l),(3,.box 3 0),(5,.acc 5),(6,A6 j)]) (λj out=>[(3,.cells (edS e)),(5,.rows 7 (Mr out))]) (λj out=>U9 e (l.drop j) j out=R/\j<=out.length/\out.length<=j+1) [] ⟨hR,by simp,by simp⟩ sS (by simp[ble,A9,Mr]) ?_ ?_)
 rotate_left
 .intro j out x hx a3 dp tk a0 J;obtain⟨J,a2,a1⟩:=J;have a4:=(Az.1 hx).1;rw[dp,U9]at J;refine Dq a0 @Mw Nj λK2 u2=>?_;refine gI u2 ?_;refine sK λK2 u2=>bA<|sK λK3 u3=>?_;by_cases W:x=e
  subst W;rw[A7 rfl]at J;subst J;refine sG Nj [] 5 [] λK z=>?_;refine ev ?_;refine C0 @F5.eq_1 (He hx) ?_;refine⟨_,uj x x rfl rfl,?_⟩;(try refine ev ?_);apply z;refine eA rfl ?_;rw[show iK l x none=l from rfl];refine sR Nj ?_;exact aR;rw[A5 W]at J;refine sG Nj [] 5 [] λK z=>?_;refine ev ?_;refine C0 @F5.eq_1 (He hx) ?_;refine⟨_,uj x e rfl rfl,?_⟩;(try refine Bb W ?_);apply z;refine dA rfl (cA (u3 _ _ ?_));have U:=H5j e x;refine sK λK3 u3=>?_;have Z:∀I:List Bz,U9 e (l.drop (j+1)) (j+1) (I++[x])=R->(I++[x]).length<=j+2->j+1<=(I++[x]).length->∀sl bx,sle sl [(0,Hm l),(3,.box 3 0),(5,.acc 5),(6,A6 j)]->ble bx [(3,.cells (edS e)),(5,.rows 7 (Mr I))]->K3 sl bx:=by intro I h1 h2 h3 sl bx s1 s2;refine u3 _ _ (A0.ww s1 s2 ?_);rw[B5,Bg,Ck]at h2 h3;(refine lV Nj λK z=>?_;refine L4 @F5.eq_1 @Mw (He hx) ?_;refine⟨by simp,by unfold lim;omega,?_⟩;(try refine Nw @F5.eq_1 @Mw Jz ?_);apply z;try simp only[Aa,Af]);apply u2;(refine lV Nj λK z=>?_;refine cl ?_;apply z;try simp only[Aa,]);exact⟨I++[x],⟨h1,by rw[B5,Bg,Ck];omega,by rw[B5,Bg,Ck];omega⟩,sS,by simp[ble,A9,Mr,F5]⟩
  by_cases L:out.length=j
  .have E:((out.length:Nat):Int)=(j:Int):=by omega
   cases O:tQ e x with
   |true =>
    rw[A7 ⟨L,O⟩]at J;rw[O]at U;refine sG Nj [] 10 [] λK z=>?_;refine G1 @Mw E ?_;refine C0 @F5.eq_1 (He hx) ?_;refine cc U ?_;apply z;refine eA rfl ?_;(refine lQ Nj λK z=>?_;refine Bb @Mw ?_;refine⟨by simp,by unfold lim;omega,?_⟩;(try refine Bb @Mw ?_);apply z;try simp only[Aa,]);exact Z (out++[e]) J (by rw[B5,B5];simp only[Bg,Ck];omega) (by rw[B5,B5];simp only[Bg,Ck];omega) _ _ sS (by simp[ble,A9,Mr,F5])
   |false =>
    rw[A5 (by rw[O];simp)]at J;rw[O]at U;refine sG Nj [] 10 [] λK z=>?_;refine G1 @Mw E ?_;refine C0 @F5.eq_1 (He hx) ?_;refine cc U ?_;apply z;refine dA rfl (cA ?_);exact Z out J (by rw[B5];simp only[Bg,Ck];omega) (by rw[B5];simp only[Bg,Ck];omega) _ _ sS (by simp[ble,A9,Mr])
  .have E:¬((out.length:Nat):Int)=(j:Int):=by omega
   rw[A5 (λh=>L h.1)]at J;refine sG Nj [] 10 [] λK z=>?_;refine G1 @Mw E ?_;apply z;refine dA rfl (cA ?_);exact Z out J (by rw[B5];simp only[Bg,Ck];omega) (by rw[B5];simp only[Bg,Ck];omega) _ _ sS (by simp[ble,A9,Mr])
 intro out J;obtain⟨J,a2,a1⟩:=J;rw[Dk,U9]at J;subst J;refine Dq B1 @Mw Nj λK2 u2=>?_;refine sE ?_;apply u1;refine sK λK1 u1=>?_;by_cases L:out.length=l.length
 .have E:((out.length:Nat):Int)=(l.length:Int):=by omega
  rw[show iK l e (some out)=out++[e] from A7 L]at u1;refine Ee @Mw E Nj ?_;refine eA rfl ?_;(refine lQ Nj λK z=>?_;refine Bb @Mw ?_;refine⟨by simp,by unfold lim;omega,?_⟩;(try refine Bb @Mw ?_);apply z;try simp only[Aa,]);refine u1 _ _<|sR Nj ?_;have e1:Hm (out++[e])=.d (.slice (Mr out++[F5 e])):=by simp[Mr]
  rw[e1];exact aR
 .have E:¬((out.length:Nat):Int)=(l.length:Int):=by omega
  rw[show iK l e (some out)=out from A5 L]at u1;refine Ee @Mw E Nj ?_;refine dA rfl (cA (u1 _ _ ?_));refine sR Nj ?_;exact aR
def F9r(l:List I0):∀row,row∈Ur l->row.length=4:=by intro row h;obtain⟨t,_,rfl⟩:=Ap.1 h;rfl
def JO(s:List I0)(m:Bool)(own:A3)(l:List A3):(Mn s m own l).length=s.length+l.length:=by simp[Mn]
abbrev BF:=[0,1,2,3,8,9,10,11,17]
def NQ(s:List I0)(m:Bool)(own:A3)(l:List A3)(hs:s.length<=10*sm)(V:l.length<=sm):Ab Tryz.prog 194 [S4 s,Ar m,Bo own,Cm l] (S4 (Mn s m own l)):=by
 refine cB func194 ?_;refine sR BF ?_;refine jA BF [11] (by decide +kernel) λK z=>?_;refine ev ?_;refine⟨F9r _,by(try simp only[zL]);unfold lim sm at*;omega,?_⟩;(try refine ev ?_);apply z;refine kR BF λO u1=>?_;refine bA (A0.ii l (X:=Unit) (λj _=>[(1,Ar m),(2,Bo own),(3,Cm l),(9,.acc 11),(10,A6 j)]) (λj _=>[(11,.rows 4 (Ur (s++(List.range j).map λi=>⟨(l[i]?).getD [],m,own,i⟩)))]) (λ_ _=>True) () trivial sS (by simp[ble,A9,Ur]) ?_ ?_);rotate_left
 .intro j _ d hd L Z tk J _;have W:=(Az.1 hd).1;have U:Ur (s++(List.range (j+1)).map λi=>⟨(l[i]?).getD [],m,own,i⟩)=Ur (s++(List.range j).map λi=>⟨(l[i]?).getD [],m,own,i⟩)++[[.str d,.bool m,.str own,.int .i64 j]]:=by rw[List.range_succ,Gy,<-H3];simp[Ur,hd,vaC]
  have I:(Ur (s++(List.range j).map λi=>⟨(l[i]?).getD [],m,own,i⟩)).length=s.length+j:=by simp[Ur]
  rw[U];generalize Ur (s++(List.range j).map λi=>⟨(l[i]?).getD [],m,own,i⟩)=PR at*;refine Ag J BF λE u2=>?_;refine gI u2 ?_;refine sK λE u2=>bA ?_;(refine lV BF λK z=>?_;refine C0 I (Jj hd) ?_;refine⟨by simp,by(try simp only[I]);unfold lim sm at*;omega,?_⟩;(try refine Bb I ?_);apply z;try simp only[Aa,Af]);apply u2;refine lT BF ?_;exact⟨(),trivial,sS,by simp[ble,A9]⟩
 intro _ _;refine Ag B1 BF λE u2=>?_;refine sE ?_;apply u1;refine sR BF ?_;exact aR
def G5x(s:List I0)(E:Ep)(b:Bool)(l:List Bz)(t:Ty):Ye s E b l t=match(if t.args.isEmpty=true then lH s t.name else none)with
  |some v=>gD l ⟨v.node,E,b⟩
  |none=>Z8 s E l t.args:=by cases t;rfl
abbrev Qs:=[0,1,2,3,4,7,8,10,11,12,22,32,47]
def G1e(s:List I0)(hs:s.length<=10*sm)(I:Ep):∀(t:Ty)(b:Bool)(l:List Bz),l.length+t.Ea<=1000000000000->Ab Tryz.prog 272 [Hm l,S4 s,W5 I,Ba t,Ar b] (Hm (Ye s I b l t)):=by
 intro t
 induction t using Ty.induct with
 |h t ih =>
 intro b l hl;have a4:=yA t;have a3:=yS t.args;rw[G5x];have hR:∃R,Z8 s I l t.args=R:=⟨_,rfl⟩;obtain⟨R,hR⟩:=hR;rw[hR];refine cB func272 ?_;refine sR Qs ?_;refine kR Qs λK1 u1=>?_;have U:(if t.args.isEmpty=true then lH s t.name else none)=none->∀sl bx,sle sl [(0,Hm l),(1,S4 s),(7,.box 7 0),(8,.box 8 0)]->ble bx [(7,.cells (noS I)),(8,.cells [.d (.str t.name),.d (.slice (Au t.args)),.d (.int .i64 t.pos)])]->K1 sl bx:=by intro a1 sl bx s1 s2;refine u1 _ _ (A0.ww s1 s2 ?_);rw[a1];refine kR Qs λK1 u1=>?_;refine bA (A0.ii t.args (X:=List Bz) (λj z=>[(0,Hm z),(1,S4 s),(7,.box 7 0),(8,.box 8 0),(12,A6 j)]) (λj z=>[(7,.cells (noS I)),(8,.cells [.d (.str t.name),.d (.slice (Au t.args)),.d (.int .i64 t.pos)])]) (λj z=>Z8 s I z (t.args.drop j)=R/\z.length+fA (t.args.drop j)<=1000000000000) l ⟨hR,by simp only[vJ];omega⟩ sS sB ?_ ?_);rotate_left;intro j z d hd L dp tk O E;obtain⟨E,W⟩:=E;have hj:=(Az.1 hd).1;rw[dp,Z8]at E;rw[dp,fA]at W;have hc:=ih d L true z (by omega);have a2:=RN s I d true z;generalize Ye s I true z d=z2 at*;refine Ag O Qs λJ u2=>?_;refine gI u2 ?_;refine sK λJ u2=>bA ?_;(refine lG Qs [] 8 [] λK z=>?_;refine ev ?_;refine ci (Fs hd) ?_;refine cc hc ?_;apply z;try simp only[Aa,Af]);apply u2;(refine lV Qs λK z=>?_;refine cl ?_;apply z;try simp only[Aa,]);exact⟨z2,⟨E,by omega⟩,sS,by simp[ble,A9]⟩;intro z E;obtain⟨E,_⟩:=E;rw[Dk,Z8]at E;subst E;refine Ag B1 Qs λJ u2=>?_;refine sE ?_;apply u1;refine sR Qs ?_;exact aR
 by_cases V:t.args=[]
 .have W:((t.args.length:Nat):Int)=0:=by rw[V];rfl
  refine bA (A0.ii s (X:=Unit) (λj _=>[(0,Hm l),(1,S4 s),(4,Ar b),(7,.box 7 0),(8,.box 8 0),(11,A6 j)]) (λj _=>[(7,.cells (noS I)),(8,.cells [.d (.str t.name),.d (.slice (Au t.args)),.d (.int .i64 t.pos)])]) (λj _=>lH s t.name=lH (s.drop j) t.name) () rfl sS sB ?_ ?_)
  rotate_left
  .intro j _ v Z L dp tk O E;have hj:=(Az.1 Z).1;rw[dp]at E;unfold lH at E;rw[Y6]at E;refine kR3 O W @zL Qs λJ u2=>?_;refine gI u2 ?_;refine sK λJ u2=>bA ?_;by_cases hn:v.name=t.name
   .rw[Bn hn]at E;have a0:lH s t.name=some v:=E;have hp:=G2j l ⟨v.node,I,b⟩ (by omega);rw[V,List.isEmpty_nil,A7 rfl,a0];simp only;generalize gD l ⟨v.node,I,b⟩=z at*
    (refine sG Qs [] 7 [] λK z=>?_;refine ev ?_;refine L4 hn @vaC.eq_1 (CS Z) ?_;apply z)
    refine eA rfl ?_
    (refine sG Qs [] 9 [] λK z=>?_;refine ev ?_;refine C0 @vaC.eq_1 (CS Z) ?_;refine E0 @vaC.eq_1 hp ?_;apply z)
    exact aR
   .rw[Cb hn]at E
    (refine sG Qs [] 7 [] λK z=>?_;refine ev ?_;refine L4 hn @vaC.eq_1 (CS Z) ?_;apply z)
    refine dA rfl (cA (u2 _ _ ?_));refine lT Qs ?_;exact⟨(),E,sS,by simp[ble,A9]⟩
  intro _ E;rw[Dk]at E;refine Dq B1 @zL Qs λJ u2=>?_;refine sE ?_;exact U (by rw[V,List.isEmpty_nil,A7 rfl,E];rfl) _ _ sS sB
 .have W:¬((t.args.length:Nat):Int)=0:=by
   intro h;exact V (Wu.1 (by omega))
  refine bA (A0.loop (X:=Unit) (λ_=>[(0,Hm l),(1,S4 s),(4,Ar b),(7,.box 7 0),(8,.box 8 0),(11,A6 0)]) (λ_=>[(7,.cells (noS I)),(8,.cells [.d (.str t.name),.d (.slice (Au t.args)),.d (.int .i64 t.pos)])]) (λ_=>True) (λ_=>0) () trivial sS sB ?_)
  intro _ _;refine sK λJ u2=>?_;by_cases h0:(0:Int)<(s.length:Int)
  .refine sR3 h0 W @zL Qs ?_;refine sE ?_;exact U (by rw[A5 (by rw[vW];exact V)]) _ _ sS sB
  .refine Ee h0 @zL Qs ?_;refine sE ?_;exact U (by rw[A5 (by rw[vW];exact V)]) _ _ sS sB
def z6(s:List I0)(m:Bool)(own:A3)(i:Nat)(l:List Bz)(t:Ty):rM s m own i l t=Hg s false t.name 0 (Ye s ⟨m,own,i⟩ false l t) t.args:=by cases t;rfl
def El(x:Nat):x<=x*x:=by cases x<;> grind
abbrev SE:=[0,1,2,3,4,10,11,15]
def ru(s:List I0)(hs:s.length<=10*sm):∀(t:Ty)(m:Bool)(own:A3)(l:List Bz),l.length+fA t.args*fA t.args<=1000000000000->Ab Tryz.prog 196 [Hm l,S4 s,Ar m,Bo own,Cv t.args] (Hm (Hg s m own 0 l t.args)):=by
 intro t
 induction t using Ty.induct with
 |h t Z =>
 intro m own l hl;have a0:=yS t.args;have a2:=El (fA t.args);generalize t.args=a at*;have L:∃R,Hg s m own 0 l a=R:=⟨_,rfl⟩;obtain⟨R,L⟩:=L;rw[L];refine cB func196 ?_;refine sR SE ?_;refine kR SE λK1 u1=>?_;refine bA (A0.ii a (X:=List Bz) (λj z=>[(0,Hm z),(1,S4 s),(2,Ar m),(3,Bo own),(4,Cv a),(11,A6 j)]) (λj z=>[]) (λj z=>Hg s m own j z (a.drop j)=R/\z.length+fA (a.drop j)*fA (a.drop j)<=1000000000000) l ⟨L,by simpa using hl⟩ sS (by simp[ble]) ?_ ?_)
 rotate_left
 .intro j z d hd J W tk U E;obtain⟨E,hz⟩:=E;have hj:=(Az.1 hd).1;rw[W,Hg,z6]at E;rw[W,fA]at hz;have h1:=Ui d.Ea (fA (a.drop (j+1)));have h2:=El d.Ea;have h3:=RN s ⟨m,own,j⟩ d false z;have V:=G1e s hs ⟨m,own,j⟩ d false z (by omega);have h4:=cq s d m own j z;rw[z6]at h4;generalize a1:Ye s ⟨m,own,j⟩ false z d=z1 at*;have h5:d.Ea=d.name.length+4+fA d.args:=yA d;have h6:d.Ea+fA d.args*fA d.args<=d.Ea*d.Ea:=by
   generalize fA d.args=y at*;generalize d.Ea=x at*;have g6:x*(y+4)<=x*x:=IG _ (by omega);have g7:x*(y+4)=x*y+x*4:=Nat.mul_add _ _ _;have g8:y*y<=x*y:=Ih _ (by omega);omega
  have O:=Z d J false d.name z1 (by omega);generalize Hg s false d.name 0 z1 d.args=z2 at*;refine Ag U SE λI u2=>?_;refine gI u2 ?_;refine sK λI u2=>bA ?_
  (refine sV SE λK z=>?_;refine ci (Fs hd) ?_;refine cc V ?_;apply z)
  (refine lG SE [] 12 [] λK z=>?_;refine ev ?_;refine ci (Fs hd) ?_;refine ci (Fs hd) ?_;refine cc O ?_;apply z;try simp only[Aa,Af])
  apply u2
  (refine lV SE λK z=>?_;refine cl ?_;apply z;try simp only[Aa,])
  exact⟨z2,⟨E,by omega⟩,sS,by simp[ble]⟩
 intro z E;obtain⟨E,_⟩:=E;rw[Dk,Hg]at E;subst E;refine Ag B1 SE λI u2=>?_;refine sE ?_;apply u1;refine sR SE ?_;exact aR
def uL(s:List I0)(hs:s.length<=10*sm)(m:Bool)(own:A3)(a:List Ty)(l:List Bz)(h:l.length+fA a*fA a<=1000000000000):Ab Tryz.prog 196 [Hm l,S4 s,Ar m,Bo own,Cv a] (Hm (Hg s m own 0 l a)) :=ru s hs (.mk [] a 0) m own l h
end Go.iA
