/- castingsref18: edges between type parameters, plain functions and how many there can be -/
import Derived.Test.YtaneedhchnaniaaGreatDoorKS95
import Derived.Test.YtaneedhchnaniaaGreatDoorKU01
import Derived.Laws.StructEq
namespace Go.Abs
set_option linter.all false
open Go
set_option maxRecDepth 100000
set_option maxHeartbeats 4000000
structure E0 where
 Ia:Bool
 name:A3
 idx:Int
 deriving DecidableEq
structure Bk where
 src:E0
 dst:E0
 ins:Bool
 deriving DecidableEq
structure Gx where
 name:A3
 node:E0
def noC (n:E0):List D:=[.bool n.Ia,.str n.name,.int .i64 n.idx]
def Er (e:Bk):List D:=[.bool e.src.Ia,.str e.src.name,.int .i64 e.src.idx,.bool e.dst.Ia,.str e.dst.name,.int .i64 e.dst.idx,.bool e.ins]
def vaC (v:Gx):List D:=[.str v.name,.bool v.node.Ia,.str v.node.name,.int .i64 v.node.idx]
def Uh (l:List E0):List (List D):=l.map noC
def Kw (l:List Bk):List (List D):=l.map Er
def Sj (l:List Gx):List (List D):=l.map vaC
def A3t (a b:E0):Int:=if a.Ia≠b.Ia then (if b.Ia=true then -1 else 1) else if a.name≠b.name then Bp a.name b.name else if a.idx < b.idx then -1 else if a.idx > b.idx then 1 else 0
def B8b (a b:Bk):Bool:=let c:=if A3t a.src b.src=0 then A3t a.dst b.dst else A3t a.src b.src
 decide (c < 0) ||(decide (c=0) && (!a.ins && b.ins))
def T2 (e:Bk):List Bk→Nat→List Bk→Option (List Bk)
 |[],_,out=>some out
 |x::r,i,out=>if x=e then none else T2 e r (i+1) ((if out.length=i∧B8b e x=true then out++[e] else out)++[x])
def Z2 (l:List Bk)(e:Bk):List Bk:=match T2 e l 0 [] with
 |none=>l
 |some out=>if out.length=l.length then out++[e] else out
theorem C8c {e:Bk} :∀{l:List Bk} {i:Nat} {out R:List Bk},i≤out.length→out.length≤i+1→T2 e l i out=some R→i+l.length≤R.length∧R.length≤i+l.length+1
 |[],i,out,R,I,E,h=>by simp only [T2,Av] at h;subst h;simp;omega
 |x::l,i,out,R,I,E,h=>by
  rw [T2] at h;split at h
  ·cases h
  ·have L:=C8c (i:=i+1) (by
    rw [B3];simp only [Bg,Ch];split
    ·rw [B3];simp only [Bg,Ch];omega
    ·omega) (by
    rw [B3];simp only [Bg,Ch];split
    ·rename_i J;rw [B3];simp only [Bg,Ch];omega
    ·omega) h
   simp only [Bg];omega
def A7a (l:List Bk)(e:Bk):Option (List Bk)→List Bk
 |none=>l
 |some out=>if out.length=l.length then out++[e] else out
theorem F9x (l:List Bk)(e:Bk):Z2 l e=A7a l e (T2 e l 0 []):=by unfold Z2 A7a;cases T2 e l 0 [] <;> rfl
theorem E4e (l:List Bk)(e:Bk):(Z2 l e).length≤l.length+1:=by
 unfold Z2;cases h:T2 e l 0 [] with
 |none=>simp
 |some R =>
  have:=C8c (i:=0) (by simp) (by simp) h;simp only;split
  ·rw [B3];simp only [Bg,Ch];omega
  ·omega
def Kj (s:List Gx)(m:Bool)(own:A3)(l:List A3):List Gx:=s++(List.range l.length).map fun i=>⟨(l[i]?).getD [],m,own,i⟩
def A4m (s:List Gx)(n:A3):Option Gx:=s.find? fun v=>decide (v.name=n)
mutual
def U4 (s:List Gx)(E:E0):Bool→List Bk→Ty→List Bk
 |b,l,.mk n a _=>match (if a.isEmpty=true then A4m s n else none) with
  |some v=>Z2 l ⟨v.node,E,b⟩
  |none=>Wz s E l a
def Wz (s:List Gx)(E:E0):List Bk→List Ty→List Bk
 |l,[]=>l
 |l,t::I=>Wz s E (U4 s E true l t) I
end
mutual
theorem B8f (s:List Gx)(E:E0):∀(t:Ty)(b:Bool)(l:List Bk),(U4 s E b l t).length≤l.length+t.Dr
 |.mk n a p,b,l=>by
  rw [U4,Ty.Dr];have h:=E3m s E a l;split
  ·rename_i v L;have:=E4e l ⟨v.node,E,b⟩;omega
  ·omega
theorem E3m (s:List Gx)(E:E0):∀(a:List Ty)(l:List Bk),(Wz s E l a).length≤l.length+Ty.C9 a
 |[],l=>by simp [Wz]
 |t::I,l=>by have O:=B8f s E t true l;have J:=E3m s E I (U4 s E true l t);rw [Wz,Ty.C9];omega
end
mutual
def A8b (s:List Gx)(m:Bool)(own:A3)(i:Nat):List Bk→Ty→List Bk
 |l,.mk n a p=>Ga s false n 0 (U4 s ⟨m,own,i⟩ false l (.mk n a p)) a
def Ga (s:List Gx)(m:Bool)(own:A3):Nat→List Bk→List Ty→List Bk
 |_,l,[]=>l
 |i,l,t::E=>Ga s m own (i+1) (A8b s m own i l t) E
end
theorem Sn (x y:Nat):x*x+y*y≤(x+y)*(x+y):=by rw [Ei,Nat.mul_add,Nat.mul_add];omega
mutual
theorem C5y (s:List Gx):∀(t:Ty)(m:Bool)(own:A3)(i:Nat)(l:List Bk),(A8b s m own i l t).length≤l.length+t.Dr*t.Dr
 |.mk n a p,m,own,i,l=>by
  have J:=B8f s ⟨m,own,i⟩ (.mk n a p) false l;have I:=Wh s a false n 0 (U4 s ⟨m,own,i⟩ false l (.mk n a p));rw [A8b];have V:(Ty.mk n a p).Dr=n.length+4+Ty.C9 a:=rfl;generalize Ty.C9 a=y at *;generalize (Ty.mk n a p).Dr=x at *;have L:x+y*y≤x*x:=by have O:x*(y+4)≤x*x:=Am5 _ (by omega);have W:x*(y+4)=x*y+x*4:=Nat.mul_add _ _ _;have U:y*y≤x*y:=H4 _ (by omega);omega
  omega
theorem Wh (s:List Gx):∀(a:List Ty)(m:Bool)(own:A3)(i:Nat)(l:List Bk),(Ga s m own i l a).length≤l.length+Ty.C9 a*Ty.C9 a
 |[],m,own,i,l=>by simp [Ga]
 |t::E,m,own,i,l=>by have J:=C5y s t m own i l;have I:=Wh s E m own (i+1) (A8b s m own i l t);have R:=Sn t.Dr (Ty.C9 E);rw [Ga,Ty.C9];omega
end
def S6 (s:List Gx)(l:List Bk)(x:A5):List Bk :=
 Ga s false x.result.name 0 (x.params.foldl (fun l p=>Ga s false p.type.name 0 l p.type.args) (x.A1.foldl (fun l f=>Ga s false f.bound.name 0 l f.bound.args) l)) x.result.args
def A3o (l:List Bk)(d:Decl):List Bk :=
 if d.kind=3 then
  let s:=Kj (Kj [] false d.name d.vars) true d.sig.name (Ad d.sig.A1)
  (Bb d.body).foldl (fun l e=>Ga s true e.name 0 (Ga s false e.type.name 0 l e.type.args) e.targs) (S6 s l d.sig)
 else
  let s:=Kj [] false d.name (Ad d.A1)
  d.sigs.foldl (fun l x=>S6 (Kj s true x.name (Ad x.A1)) l x) (S6 s l ⟨[],d.A1,d.fields,.mk [] [] 0,0⟩)
def A5b (p:Prog):List Bk:=p.decls.foldl A3o []
def P9 (n:E0)(out:List E0)(e:Bk):List E0:=if (e.src=n∨e.src∈out)∧e.dst ∉ out then out++[e.dst] else out
def A1p (l:List Bk)(n:E0):Nat→Int→List E0→List E0
 | 0,_,out=>out
 |k+1,c,out=>if c=out.length then out else A1p l n k out.length (l.foldl (P9 n) out)
def A1e (l:List Bk)(n:E0):List E0:=A1p l n (l.length+3) (-1) []
def A9m (l:List Bk)(a b:E0):Bool:=decide (b∈A1e l a)
def B4u (l:List Bk):List Bk:=l.filter fun e=>e.ins && (decide (e.dst=e.src) ||A9m l e.dst e.src)
def B3v (p:Prog):Bool:=decide ((B4u (A5b p)).length=0)
theorem A7b {α:Type} {f:List Bk→α→List Bk} {g:α→Nat} (h:∀l a,(f l a).length≤l.length+g a*g a):∀(as_:List α)(l:List Bk),(as_.foldl f l).length≤l.length+(as_.map g).sum*(as_.map g).sum
 |[],l=>by simp
 |a::r,l=>by have J:=h l a;have E:=A7b h r (f l a);have I:=Sn (g a) (r.map g).sum;rw [Li,Cz,Kr];omega
theorem B0s (a b c x y:Nat)(I:b≤a+x*x)(E:c≤b+y*y):c≤a+(x+y)*(x+y):=by have:=Sn x y;omega
theorem A3s {z E:Nat} {x y:Nat} (h:z+(x+y)*(x+y)≤1000000000000)(I:E≤z+x*x):E+y*y≤1000000000000:=by have:=Sn x y;omega
open Go Go.Proofs Tryz
abbrev Z8 (n:E0):List SV:=[.d (.bool n.Ia),.d (.str n.name),.d (.int .i64 n.idx)]
abbrev Ux (n:E0):SV:=.agg (Z8 n)
abbrev Hm:List Nat:=[0,1,2,3,4,9,11,16,26,31]
theorem C8g (a b:E0):Ac Tryz.prog 375 [Ux a,Ux b] (A9 (A3t a b)):=by
 have Z:=A9n a.name b.name;obtain⟨m1,R,L⟩:=a;obtain⟨m2,W,O⟩:=b;unfold A3t;simp only at Z ⊢;generalize Bp R W=z at *;have main:∀m:Bool,Ac Tryz.prog 375 [Ux ⟨m,R,L⟩,Ux ⟨m,W,O⟩] (A9 (if R≠W then z else if L < O then -1 else if L > O then 1 else 0)):=by
  intro m;have U:(m == m)=true:=by simp
  by_cases I:R=W
  ·rw [A6 (fun h=>h I)];by_cases J:L < O
   ·rw [A8 J];refine cB func375 ?_;refine sR Hm ?_;refine Ai U Hm fun E u1=>?_;refine kI u1 ?_;clear u1 E;refine Ai I Hm fun E u1=>?_;refine kI u1 ?_;clear u1 E;refine Ai J Hm fun E u1=>?_;refine tI ?_;refine sR Hm ?_;exact aR
   rw [A6 J];by_cases V:L > O
   ·rw [A8 V];refine cB func375 ?_;refine sR Hm ?_;refine Ai U Hm fun E u1=>?_;refine kI u1 ?_;clear u1 E;refine Ai I Hm fun E u1=>?_;refine kI u1 ?_;clear u1 E;refine Ai J Hm fun E u1=>?_;refine kI u1 ?_;clear u1 E;refine Ai V Hm fun E u1=>?_;refine tI ?_;refine sR Hm ?_;exact aR
   ·rw [A6 V];refine cB func375 ?_;refine sR Hm ?_;refine Ai U Hm fun E u1=>?_;refine kI u1 ?_;clear u1 E;refine Ai I Hm fun E u1=>?_;refine kI u1 ?_;clear u1 E;refine Ai J Hm fun E u1=>?_;refine kI u1 ?_;clear u1 E;refine Ai V Hm fun E u1=>?_;refine kI u1 ?_;clear u1 E;refine sR Hm ?_;exact aR
  ·rw [A8 I];refine cB func375 ?_;refine sR Hm ?_;refine Ai U Hm fun E u1=>?_;refine kI u1 ?_;clear u1 E;refine Ai I Hm fun E u1=>?_;refine tI ?_;refine sC Z Hm ?_;exact aR
 cases m1 <;> cases m2
 ·exact main false
 ·rw [A8 (by decide),A8 rfl];refine cB func375 ?_;refine sR Hm ?_;refine kR Hm fun E u1=>?_;refine tI ?_;refine kR Hm fun K2 u2=>?_;refine tI ?_;refine sR Hm ?_;exact aR
 ·rw [A8 (by decide),A6 (by decide)];refine cB func375 ?_;refine sR Hm ?_;refine kR Hm fun E u1=>?_;refine tI ?_;refine kR Hm fun K2 u2=>?_;refine kI u2 ?_;clear u2 K2;refine sR Hm ?_;exact aR
 ·exact main true
open Go
def Sk (l:List Ak):Nat:=(l.map fun f=>Ty.C9 f.bound.args).sum
def Nr (l:List Param):Nat:=(l.map fun f=>Ty.C9 f.type.args).sum
def A5.al (s:A5):Nat:=Sk s.A1+Nr s.params+Ty.C9 s.result.args
def Yz (e:Ex):Nat:=Ty.C9 e.type.args+Ty.C9 e.targs
def T1 (l:List Ex):Nat:=(l.map Yz).sum
def Zh (l:List A5):Nat:=(l.map A5.al).sum
def Decl.al (d:Decl):Nat:=if d.kind=3 then d.sig.al+T1 (Bb d.body) else Sk d.A1+Nr d.fields+Zh d.sigs
def N7 (l:List Decl):Nat:=(l.map Decl.al).sum
def A1j (d:Decl):A5:=⟨[],d.A1,d.fields,.mk [] [] 0,0⟩
theorem D9n (d:Decl):(A1j d).al=Sk d.A1+Nr d.fields:=by simp [A5.al,A1j,Ty.args,Ty.C9]
theorem A5r (s:List Gx)(l:List Bk)(x:A5):(S6 s l x).length≤l.length+x.al*x.al:=by have J:=A7b (f:=fun l (f:Ak)=>Ga s false f.bound.name 0 l f.bound.args) (g:=fun f=>Ty.C9 f.bound.args) (fun l f=>Wh s f.bound.args false f.bound.name 0 l) x.A1 l;have E:=A7b (f:=fun l (f:Param)=>Ga s false f.type.name 0 l f.type.args) (g:=fun f=>Ty.C9 f.type.args) (fun l f=>Wh s f.type.args false f.type.name 0 l) x.params (x.A1.foldl (fun l f=>Ga s false f.bound.name 0 l f.bound.args) l);have I:=Wh s x.result.args false x.result.name 0 (x.params.foldl (fun l p=>Ga s false p.type.name 0 l p.type.args) (x.A1.foldl (fun l f=>Ga s false f.bound.name 0 l f.bound.args) l));exact B0s _ _ _ _ _ (B0s _ _ _ _ _ J E) I
def exE (s:List Gx)(l:List Bk)(e:Ex):List Bk:=Ga s true e.name 0 (Ga s false e.type.name 0 l e.type.args) e.targs
theorem D5v (s:List Gx)(l:List Bk)(e:Ex):(exE s l e).length≤l.length+Yz e*Yz e :=
 B0s _ _ _ _ _ (Wh s e.type.args false e.type.name 0 l) (Wh s e.targs true e.name 0 _)
def sgE (s:List Gx)(l:List Bk)(x:A5):List Bk:=S6 (Kj s true x.name (Ad x.A1)) l x
theorem C8m (l:List Bk)(d:Decl):A3o l d=if d.kind=3 then
   (Bb d.body).foldl (exE (Kj (Kj [] false d.name d.vars) true d.sig.name (Ad d.sig.A1))) (S6 (Kj (Kj [] false d.name d.vars) true d.sig.name (Ad d.sig.A1)) l d.sig)
  else d.sigs.foldl (sgE (Kj [] false d.name (Ad d.A1))) (S6 (Kj [] false d.name (Ad d.A1)) l (A1j d)):=rfl
theorem D2o (l:List Bk)(d:Decl):(A3o l d).length≤l.length+d.al*d.al:=by
 rw [C8m];unfold Decl.al;split
 ·exact B0s _ _ _ _ _ (A5r _ l d.sig) (A7b (g:=Yz) (fun l e=>D5v _ l e) (Bb d.body) _)
 ·have E:=A5r (Kj [] false d.name (Ad d.A1)) l (A1j d);rw [D9n] at E;exact B0s _ _ _ _ _ E (A7b (g:=A5.al) (fun l e=>A5r _ l e) d.sigs _)
theorem B2c {α:Type} (F:List α→Int→Int)(g:α→Int→Int)(h:α→Nat)(J:∀k,F [] k=k)(R:∀x xs k,F (x::xs) k=if k≤2000 then F xs (g x k) else k)(L:∀l k,k≤F l k)
  (E:∀x k,g x k≤2000→(h x:Int)≤120*(g x k - k)):∀(l:List α) (k:Int),F l k≤2000→((l.map h).sum:Int)≤120*(F l k - k)
 |[],k,_=>by rw [J];simp
 |x::xs,k,I=>by
  rw [R] at I ⊢;split at I
  ·rename_i O;rw [A8 O];have V:=L xs (g x k);have U:=E x k (by omega);have W:=B2c F g h J R L E xs (g x k) I;simp only [Cz,Kr];omega
  ·rename_i O;omega
theorem B8k (t:Ty):Ty.C9 t.args≤t.Dr:=by rw [Ty.U8];omega
theorem C6m:∀(l:List Ak)(k:Int),C7 l k≤2000→(Sk l:Int)≤120*(C7 l k - k) :=
 B2c C7 (fun f n=>f.bound.count (n+1+((f.name.length / 50:Nat):Int))) (fun f=>Ty.C9 f.bound.args) (fun _=>rfl) (fun _ _ _=>rfl) (fun l k=>(B1r l k).1) fun x k h=>by have I:=Ty.A0p x.bound _ h;have E:=B8k x.bound;omega
theorem D0y:∀(l:List Param)(k:Int),D5 l k≤2000→(Nr l:Int)≤120*(D5 l k - k) :=
 B2c D5 (fun f n=>f.type.count (n+1+((f.name.length / 50:Nat):Int))) (fun f=>Ty.C9 f.type.args) (fun _=>rfl) (fun _ _ _=>rfl) (fun l k=>(B1o l k).1) fun x k h=>by have I:=Ty.A0p x.type _ h;have E:=B8k x.type;omega
theorem A5.A8t (s:A5)(n:Int)(h:s.count n≤2000):(s.al:Int)≤120*(s.count n - n):=by unfold A5.count at h ⊢;have L:=(B1r s.A1 (n+((s.name.length / 50:Nat):Int))).1;have E:=(B1o s.params (C7 s.A1 (n+((s.name.length / 50:Nat):Int)))).1;have O:=Ty.F4 s.result (D5 s.params (C7 s.A1 (n+((s.name.length / 50:Nat):Int))));have J:=C6m s.A1 (n+((s.name.length / 50:Nat):Int)) (by omega);have R:=D0y s.params _ (show D5 s.params (C7 s.A1 (n+((s.name.length / 50:Nat):Int)))≤2000 by omega);have I:=Ty.A0p s.result _ h;have U:=B8k s.result;unfold A5.al;omega
theorem E6e:∀(l:List A5)(k:Int),Eh l k≤2000→(Zh l:Int)≤120*(Eh l k - k) :=
 B2c Eh A5.count A5.al (fun _=>rfl) (fun _ _ _=>rfl) (fun l k=>(B9z l k).1) fun x k h=>A5.A8t x k h
mutual
theorem D8j:∀e:Ex,T1 (Bb e)≤e.Uo
 |.mk k n t a ks p=>by have E:=D7u ks;have I:=B8k t;rw [Bb,Ex.D3m];simp only [T1,Cz,Kr,Yz,Ex.type,Ex.targs,Ex.kids,Ex.name] at E ⊢;omega
theorem D7u:∀l:List Ex,T1 (Cr l)≤Ex.Vu l
 |[]=>by simp [T1,Cr,Ex.Vu]
 |e::l=>by have E:=D8j e;have I:=D7u l;rw [Cr,Ex.Vu];simp only [T1,Fz,Ap9] at E I ⊢;omega
end
theorem Decl.A8t (d:Decl)(n:Int)(h:d.count n≤2000):(d.al:Int)≤120*(d.count n - n):=by
 unfold Decl.count at h ⊢;generalize W:n+1+((d.name.length / 50:Nat):Int)+((d.recv.length / 50:Nat):Int)=m at h ⊢;have Z:=(B1r d.A1 m).1;have U:=(B1o d.fields (C7 d.A1 m)).1;have c1:=(B9z d.sigs (D5 d.fields (C7 d.A1 m))).1;have V:=(A2t d.vars (Eh d.sigs (D5 d.fields (C7 d.A1 m)))).1;have I:=C6m d.A1 m;have J:=D0y d.fields (C7 d.A1 m);have E:=E6e d.sigs (D5 d.fields (C7 d.A1 m));generalize hz:Ii d.vars (Eh d.sigs (D5 d.fields (C7 d.A1 m)))=z at *;unfold Decl.Ry at h ⊢;have f1:=(A5.Gv d.sig z).1;have f2:=A5.A8t d.sig z;have g1:=Ex.F4 d.body (d.sig.count z);have L:=Ex.B5b d.body (d.sig.count z);have R:=D8j d.body;split at h
 ·rename_i O;rw [A8 O];have I:=I (by omega);have J:=J (by omega);have E:=E (by omega);have f2:=f2 (by omega);have L:=L (by omega);unfold Decl.al;split <;> omega
 ·omega
theorem Prog.A8t (p:Prog)(h:p.count≤600):N7 p.decls≤72000:=by unfold Prog.count at h;have E:=Ex.F4 p.main 0;have I:=(C3k p.decls (p.main.count 0)).1;have:=B2c Ik Decl.count Decl.al (fun _=>rfl) (fun _ _ _=>rfl) (fun l k=>(C3k l k).1) (fun x k h=>Decl.A8t x k h) p.decls (p.main.count 0) (by omega);unfold N7;omega
open Go Go.Proofs Tryz
abbrev edS (e:Bk):List SV:=[.d (.bool e.src.Ia),.d (.str e.src.name),.d (.int .i64 e.src.idx),.d (.bool e.dst.Ia),.d (.str e.dst.name),.d (.int .i64 e.dst.idx),.d (.bool e.ins)]
abbrev edV (e:Bk):SV:=.agg (edS e)
abbrev Gm (l:List Bk):SV:=.d (.slice (Kw l))
abbrev Q5 (l:List Gx):SV:=.d (.slice (Sj l))
theorem G7 {l:List Bk} {i:Nat} {c:Bk} (h:l[i]? = some c):(Kw l)[i]? = some (Er c):=Yf h
theorem E0f {l:List E0} {i:Nat} {c:E0} (h:l[i]? = some c):(Uh l)[i]? = some (noC c):=Yf h
theorem C2o {l:List Gx} {i:Nat} {c:Gx} (h:l[i]? = some c):(Sj l)[i]? = some (vaC c):=Yf h
theorem P1 (l:List Bk):(Kw l).length=l.length:=by simp [Kw]
theorem A0g (l:List E0):(Uh l).length=l.length:=by simp [Uh]
theorem B0r (l:List Gx):(Sj l).length=l.length:=by simp [Sj]
variable {S:Nat→Prop} {w:World} {β:Names}
theorem E2n {xs:List SV} {v:Value} (h:Am S w β (.agg xs) v):∃vs:List Value,v=.agg ⟨vs⟩∧vs.length=xs.length∧∀(j:Nat)(c:SV)(u:Value),xs[j]? = some c→vs[j]? = some u→Am S w β c u:=by cases h with| agg _ vs I _ E=>exact⟨vs,rfl,I,E⟩
theorem C9s {a:E0} {v:Value} (h:Am S w β (Ux a) v):v=.agg #[.bool a.Ia,.string (mkStr a.name),.int .i64 a.idx]:=by
 obtain⟨vs,rfl,E,hr⟩:=E2n h
 match vs,E with
 |[L,R,O],_ =>have J:=(hr 0 _ L rfl rfl).Vz;have U:=(hr 1 _ R rfl rfl).Tx.1;have I:=(hr 2 _ O rfl rfl).J4;subst J U I;rfl
theorem C8y {a:Bk} {v:Value} (h:Am S w β (edV a) v) :
  v=.agg #[.bool a.src.Ia,.string (mkStr a.src.name),.int .i64 a.src.idx,.bool a.dst.Ia,.string (mkStr a.dst.name),.int .i64 a.dst.idx,.bool a.ins]:=by
 obtain⟨vs,rfl,E,hr⟩:=E2n h
 match vs,E with
 |[U,v1,Z,v3,v4,V,L],_ =>have O:=(hr 0 _ U rfl rfl).Vz;have h1:=(hr 1 _ v1 rfl rfl).Tx.1;have J:=(hr 2 _ Z rfl rfl).J4;have W:=(hr 3 _ v3 rfl rfl).Vz;have h4:=(hr 4 _ v4 rfl rfl).Tx.1;have I:=(hr 5 _ V rfl rfl).J4;have R:=(hr 6 _ L rfl rfl).Vz;subst O h1 J W h4 I R;rfl
theorem C0q (d:Nat)(a b:E0)(w:World):(Op.equalIn (d+2) 208 (.agg #[.bool a.Ia,.string (mkStr a.name),.int .i64 a.idx]) (.agg #[.bool b.Ia,.string (mkStr b.name),.int .i64 b.idx])).run Tryz.prog w=.ok (decide (a=b)) w:=by
 have L:Tryz.prog.underlying 208=some (.struct (Tryz.prog.fieldsOf 208)):=by kernel_rfl
 have I:Tryz.prog.stoodInHeld 208=false:=by kernel_rfl
 rw [run_equalIn_agg w (d+1) 208 _ _ L I];simp only [Program.fieldsOf,underlying208]
 go_simp
 have O:(a=b)↔a.Ia=b.Ia∧a.name=b.name∧a.idx=b.idx:=by obtain⟨Z,W,a3⟩:=a;obtain⟨U,b2,V⟩:=b;simp
 simp only [D9q];by_cases R:a.Ia=b.Ia <;> by_cases E:a.name=b.name <;> by_cases J:a.idx=b.idx <;> simp [R,E,J,O]
theorem Wu {sl:SL} {bx:Ab} {x y:Operand} {u:TypeId} (a b:E0)(R:Ao sl x=Ux a)(O:Ao sl y=Ux b):OpQ Tryz.prog sl bx (.binOp .eql 208 x y u) (B0 (decide (a=b))):=by intro o J;refine .Ef fun _ S w β U _ L=>?_;have I:=L x (mC J);rw [R] at I;have E:=L y (mC J);rw [O] at E;have I:=C9s I;have E:=C9s E;refine⟨.bool (decide (a=b)),?_,.bool _⟩;simp only [execOp,J,Hu,I,E,run_eqGuard_agg w .eql 208 x y _ _ Tryz.eqGuardType208,H8,run_eql_struct];rw [show (10000:Nat)=9998+2 from rfl,C0q];rfl
theorem C8b {sl:SL} {bx:Ab} {x y:Operand} {u:TypeId} (a b:Bk)(R:Ao sl x=edV a)(V:Ao sl y=edV b):OpQ Tryz.prog sl bx (.binOp .eql 210 x y u) (B0 (decide (a=b))):=by
 intro o J;refine .Ef fun _ S w β ac _ L=>?_;have E:=L x (mC J);rw [R] at E;have I:=L y (mC J);rw [V] at I;have E:=C8y E;have I:=C8y I;refine⟨.bool (decide (a=b)),?_,.bool _⟩;have O:Tryz.prog.underlying 210=some (.struct (Tryz.prog.fieldsOf 210)):=by kernel_rfl
 have U:Tryz.prog.stoodInHeld 210=false:=by kernel_rfl
 have e1:=C0q 9997 a.src b.src;have e2:=C0q 9997 a.dst b.dst;simp only [execOp,J,Hu,E,I,run_eqGuard_agg w .eql 210 x y _ _ Tryz.eqGuardType210,H8,run_eql_struct];rw [show (10000:Nat)=9999+1 from rfl,run_equalIn_agg w 9999 210 _ _ O U];simp only [Program.fieldsOf,underlying210];rw [show (9999:Nat)=9997+2 from rfl];have he:(a=b)↔a.src=b.src∧a.dst=b.dst∧a.ins=b.ins:=by obtain⟨a1,a2,a3⟩:=a;obtain⟨b1,b2,Z⟩:=b;simp
 simp only [Op.eqFields]
 go_simp
 by_cases E:a.src=b.src <;> by_cases I:a.dst=b.dst <;> by_cases W:a.ins=b.ins <;> simp [E,I,W,]
abbrev A2o:List Nat:=[0,1,2,3,4,5,12]
theorem G3s (a b:Bk):Ac Tryz.prog 360 [edV a,edV b] (B0 (B8b a b)):=by
 have U:=C8g a.src b.src;have h2:=C8g a.dst b.dst;unfold B8b;obtain⟨⟨m1,n1,R⟩,⟨W,n2,i2⟩,q1⟩:=a;obtain⟨⟨Z,n3,i3⟩,⟨m4,n4,i4⟩,V⟩:=b;simp only at U h2 ⊢;generalize A3t ⟨m1,n1,R⟩ ⟨Z,n3,i3⟩=x at *;generalize A3t ⟨W,n2,i2⟩ ⟨m4,n4,i4⟩=y at *;refine cB func360 ?_;refine sR A2o ?_;refine sC U A2o ?_;refine sK fun K1 u1=>?_;have E:∀c:Int,(if x=0 then y else x)=c→∀sl bx,sle sl [(2,.box 2 0),(3,.box 3 0),(5,A9 c)]→ble bx [(2,.cells (edS ⟨⟨m1,n1,R⟩,⟨W,n2,i2⟩,q1⟩)),(3,.cells (edS ⟨⟨Z,n3,i3⟩,⟨m4,n4,i4⟩,V⟩))]→K1 sl bx:=by
  intro c J sl bx s1 s2;refine u1 _ _ (A0.ww s1 s2 ?_);clear u1 K1;rw [J];by_cases I:c < 0
  ·rw [Bn I,Tp];refine Ah I A2o ?_;exact aR
  rw [Ci I,V1];by_cases L:c=0
  ·subst L;cases q1 <;> cases V <;> (
    refine sR A2o ?_;exact aR)
  ·rw [Ci L,Bv];refine En I L A2o ?_;exact aR
 by_cases O:x=0
 ·subst O;refine sR A2o ?_;refine A0.tt rfl ?_
  (refine lV A2o fun K z=>?_;refine cc h2 ?_;apply z;clear z K;try simp only [A4,])
  exact E y (by rw [A8 rfl]) _ _ sS sB
 ·refine Ah O A2o ?_;refine A0.ff rfl (A0.kk ?_);exact E x (by rw [A6 O]) _ _ sS sB
abbrev M7:List Nat:=[0,1,3,4,5,6,10,18,31,47]
theorem G2c (l:List Bk)(e:Bk)(hl:l.length≤1000000000000):Ac Tryz.prog 326 [Gm l,edV e] (Gm (Z2 l e)):=by
 have hR:∃R,T2 e l 0 []=R:=⟨_,rfl⟩;obtain⟨R,hR⟩:=hR;have V:Z2 l e=A7a l e R:=by rw [F9x,hR]
 rw [V];clear V;refine cB func326 ?_;refine sR M7 ?_;refine sR M7 ?_;refine A0.pp 5 7 5 rfl ?_;refine kR M7 fun K1 u1=>?_;refine A0.bb (A0.ii l (X:=List Bk) (fun j out=>[(0,Gm l),(3,.box 3 0),(5,.acc 5),(6,A9 j)]) (fun j out=>[(3,.cells (edS e)),(5,.rows 7 (Kw out))])
  (fun j out=>T2 e (l.drop j) j out=R∧j≤out.length∧out.length≤j+1) [] ⟨hR,by simp,by simp⟩ sS (by simp [ble,A7,Kw]) ?_ ?_)
 rotate_left
 ·intro j out x hx a3 dp tk a2 J;obtain⟨J,a1,a0⟩:=J;have a4:=(Ay.1 hx).1;rw [dp,T2] at J;refine sK fun K2 u2=>?_
  (refine sQ M7 fun K z=>?_;simp -implicitDefEqProofs only [EV,Nat.reduceEqDiff,reduceCtorEq,I5,a2,P1];apply z;clear z K)
  refine gI u2 ?_;clear u2 K2;refine sK fun K2 u2=>?_;refine A0.bb ?_;refine sK fun K3 u3=>?_;by_cases W:x=e
  ·subst W;rw [A8 rfl] at J;subst J
   (refine sG M7 [] 5 [] fun K z=>?_;refine ev ?_;refine⟨by omega,_,G7 hx,rfl,?_⟩;(try simp -implicitDefEqProofs only [EV,Nat.reduceAdd,Nat.reduceEqDiff,reduceCtorEq,Mb,Er]);refine⟨_,C8b x x rfl rfl,?_⟩;(try refine ev ?_);apply z;clear z K)
   refine A0.tt rfl ?_;rw [show A7a l x none=l from rfl];refine sR M7 ?_;exact aR
  rw [A6 W] at J
  (refine sG M7 [] 5 [] fun K z=>?_;refine ev ?_;refine⟨by omega,_,G7 hx,rfl,?_⟩;(try simp -implicitDefEqProofs only [EV,Nat.reduceAdd,Nat.reduceEqDiff,reduceCtorEq,Mb,Er]);refine⟨_,C8b x e rfl rfl,?_⟩;(try refine An W ?_);apply z;clear z K)
  refine A0.ff rfl (A0.kk (u3 _ _ ?_));clear u3 K3;have U:=G3s e x;refine sK fun K3 u3=>?_;have Z:∀I:List Bk,T2 e (l.drop (j+1)) (j+1) (I++[x])=R→(I++[x]).length≤j+2→j+1≤(I++[x]).length→∀sl bx,sle sl [(0,Gm l),(3,.box 3 0),(5,.acc 5),(6,A9 j)]→ble bx [(3,.cells (edS e)),(5,.rows 7 (Kw I))]→K3 sl bx:=by
   intro I h1 h2 h3 sl bx s1 s2;refine u3 _ _ (A0.ww s1 s2 ?_);clear u3 K3;rw [B3,Bg,Ch] at h2 h3
   (refine lV M7 fun K z=>?_;refine⟨by omega,_,G7 hx,rfl,?_⟩;(try simp -implicitDefEqProofs only [EV,Nat.reduceAdd,Nat.reduceEqDiff,Nat.reduceBEq,Nat.reduceLeDiff,Nat.reduceMul,reduceCtorEq,I5,Mb,Er,P1,]);refine⟨by simp,by unfold lim;omega,?_⟩;apply z;clear z K;try simp only [A4,Aa])
   refine u2 _ _ ?_;clear u2 K2
   (refine lV M7 fun K z=>?_;refine cl ?_;apply z;clear z K;try simp only [A4,])
   exact⟨I++[x],⟨h1,by rw [B3,Bg,Ch];omega,by rw [B3,Bg,Ch];omega⟩,sS,by simp [ble,A7,Kw,Er]⟩
  by_cases L:out.length=j
  ·have E:((out.length:Nat):Int)=(j:Int):=by omega
   cases O:B8b e x with
   |true =>
    rw [A8 ⟨L,O⟩] at J;rw [O] at U
    (refine sG M7 [] 10 [] fun K z=>?_;simp -implicitDefEqProofs only [EV,Nat.reduceAdd,Nat.reduceEqDiff,reduceCtorEq,I5,Mb,P1,E];refine⟨by omega,_,G7 hx,rfl,?_⟩;(try simp -implicitDefEqProofs only [EV,Nat.reduceAdd,Nat.reduceEqDiff,reduceCtorEq,Er,]);refine cc U ?_;apply z;clear z K)
    refine A0.tt rfl ?_
    (refine lQ M7 fun K z=>?_;simp -implicitDefEqProofs only [EV,Nat.reduceAdd,Nat.reduceEqDiff,Nat.reduceBEq,Nat.reduceLeDiff,Nat.reduceMul,reduceCtorEq,I5,Mb,P1];refine⟨by simp,by unfold lim;omega,?_⟩;apply z;clear z K;try simp only [A4,])
    exact Z (out++[e]) J (by rw [B3,B3];simp only [Bg,Ch];omega) (by rw [B3,B3];simp only [Bg,Ch];omega) _ _ sS (by simp [ble,A7,Kw,Er])
   |false =>
    rw [A6 (by rw [O];simp)] at J;rw [O] at U
    (refine sG M7 [] 10 [] fun K z=>?_;simp -implicitDefEqProofs only [EV,Nat.reduceAdd,Nat.reduceEqDiff,reduceCtorEq,I5,Mb,P1,E];refine⟨by omega,_,G7 hx,rfl,?_⟩;(try simp -implicitDefEqProofs only [EV,Nat.reduceAdd,Nat.reduceEqDiff,reduceCtorEq,Er,]);refine cc U ?_;apply z;clear z K)
    refine A0.ff rfl (A0.kk ?_);exact Z out J (by rw [B3];simp only [Bg,Ch];omega) (by rw [B3];simp only [Bg,Ch];omega) _ _ sS (by simp [ble,A7,Kw])
  ·have E:¬((out.length:Nat):Int)=(j:Int):=by omega
   rw [A6 (fun h=>L h.1)] at J
   (refine sG M7 [] 10 [] fun K z=>?_;simp -implicitDefEqProofs only [EV,Nat.reduceEqDiff,reduceCtorEq,I5,P1,E];apply z;clear z K)
   refine A0.ff rfl (A0.kk ?_);exact Z out J (by rw [B3];simp only [Bg,Ch];omega) (by rw [B3];simp only [Bg,Ch];omega) _ _ sS (by simp [ble,A7,Kw])
 intro out J;obtain⟨J,a1,a0⟩:=J;rw [D6,T2] at J;subst J;refine sK fun K2 u2=>?_
 (refine sQ M7 fun K z=>?_;simp -implicitDefEqProofs only [EV,Nat.reduceEqDiff,reduceCtorEq,I5,B4,P1];apply z;clear z K)
 refine A0.ss rfl ?_;simp only [A4,Aa,Af];refine u1 _ _ ?_;clear u2 K2 u1 K1;refine sK fun K1 u1=>?_;by_cases L:out.length=l.length
 ·have E:((out.length:Nat):Int)=(l.length:Int):=by omega
  rw [show A7a l e (some out)=out++[e] from A8 L] at u1
  (refine sQ M7 fun K z=>?_;simp -implicitDefEqProofs only [EV,Nat.reduceEqDiff,reduceCtorEq,I5,P1,E];apply z;clear z K)
  refine A0.tt rfl ?_
  (refine lQ M7 fun K z=>?_;simp -implicitDefEqProofs only [EV,Nat.reduceAdd,Nat.reduceEqDiff,Nat.reduceBEq,Nat.reduceLeDiff,Nat.reduceMul,reduceCtorEq,I5,Mb,P1];refine⟨by simp,by unfold lim;omega,?_⟩;apply z;clear z K;try simp only [A4,])
  refine u1 _ _ ?_;refine sR M7 ?_;have e1:Gm (out++[e])=.d (.slice (Kw out++[Er e])):=by simp [Kw]
  rw [e1];exact aR
 ·have E:¬((out.length:Nat):Int)=(l.length:Int):=by omega
  rw [show A7a l e (some out)=out from A6 L] at u1
  (refine sQ M7 fun K z=>?_;simp -implicitDefEqProofs only [EV,Nat.reduceEqDiff,reduceCtorEq,I5,P1,E];apply z;clear z K)
  refine A0.ff rfl (A0.kk (u1 _ _ ?_));refine sR M7 ?_;exact aR
theorem E9r (l:List Gx):∀row,row∈Sj l→row.length=4:=by intro row h;obtain⟨t,_,rfl⟩:=Ax.1 h;rfl
theorem B6i (s:List Gx)(m:Bool)(own:A3)(l:List A3):(Kj s m own l).length=s.length+l.length:=by simp [Kj]
abbrev A0x:List Nat:=[0,1,2,3,8,9,10,11,17]
theorem B7s (s:List Gx)(m:Bool)(own:A3)(l:List A3)(hs:s.length≤10*sm)(U:l.length≤sm):Ac Tryz.prog 231 [Q5 s,B0 m,C8 own,Ct l] (Q5 (Kj s m own l)):=by
 refine cB func231 ?_;refine sR A0x ?_
 (refine A0.F6 A0x [11] (by decide +kernel) fun K z=>?_;refine ev ?_;refine⟨E9r _,by (try simp only [B0r]);unfold lim sm at *;omega,?_⟩;(try refine ev ?_);apply z;clear z K)
 refine kR A0x fun R u1=>?_;refine A0.bb (A0.ii l (X:=Unit) (fun j _=>[(1,B0 m),(2,C8 own),(3,Ct l),(9,.acc 11),(10,A9 j)]) (fun j _=>[(11,.rows 4 (Sj (s++(List.range j).map fun i=>⟨(l[i]?).getD [],m,own,i⟩)))])
  (fun _ _=>True) () trivial sS (by simp [ble,A7,Sj]) ?_ ?_)
 rotate_left
 ·intro j _ d hd L Z V I _;have W:=(Ay.1 hd).1;have O:Sj (s++(List.range (j+1)).map fun i=>⟨(l[i]?).getD [],m,own,i⟩)=Sj (s++(List.range j).map fun i=>⟨(l[i]?).getD [],m,own,i⟩)++[[.str d,.bool m,.str own,.int .i64 j]]:=by
   rw [List.range_succ,Fz,←Pg];simp [Sj,hd,vaC]
  have J:(Sj (s++(List.range j).map fun i=>⟨(l[i]?).getD [],m,own,i⟩)).length=s.length+j:=by simp [Sj]
  rw [O];generalize Sj (s++(List.range j).map fun i=>⟨(l[i]?).getD [],m,own,i⟩)=PR at *;refine Ai I A0x fun E u2=>?_;refine gI u2 ?_;clear u2 E;refine sK fun E u2=>?_;refine A0.bb ?_
  (refine lV A0x fun K z=>?_;refine⟨by omega,_,La hd,rfl,?_⟩;(try refine An J ?_);refine⟨by simp,by (try simp only [J]);unfold lim sm at *;omega,?_⟩;(try refine An J ?_);apply z;clear z K;try simp only [A4,Aa])
  refine u2 _ _ ?_;clear u2 E;refine lT A0x ?_;exact⟨(),trivial,sS,by simp [ble,A7]⟩
 intro _ _;refine Ai B4 A0x fun E u2=>?_;refine A0.ss rfl ?_;simp only [A4,Aa,Af];refine u1 _ _ ?_;clear u2 E u1 R;refine sR A0x ?_;exact aR
theorem F5v (s:List Gx)(E:E0)(b:Bool)(l:List Bk)(t:Ty):U4 s E b l t=match (if t.args.isEmpty=true then A4m s t.name else none) with
  |some v=>Z2 l ⟨v.node,E,b⟩
  |none=>Wz s E l t.args:=by cases t;rw [U4];rfl
abbrev Ps:List Nat:=[0,1,2,3,4,7,8,10,11,12,22,32,47]
theorem F5s (s:List Gx)(hs:s.length≤10*sm)(I:E0):∀(t:Ty)(b:Bool)(l:List Bk),l.length+t.Dr≤1000000000000→Ac Tryz.prog 284 [Gm l,Q5 s,Ux I,Be t,B0 b] (Gm (U4 s I b l t)):=by
 intro t
 induction t using Ty.induct with
 |h t ih =>
 intro b l hl;have a3:=Ty.U8 t;have a4:=C4b t.args;rw [F5v];have hR:∃R,Wz s I l t.args=R:=⟨_,rfl⟩;obtain⟨R,hR⟩:=hR;rw [hR];refine cB func284 ?_;refine sR Ps ?_;refine kR Ps fun K1 u1=>?_;have O:(if t.args.isEmpty=true then A4m s t.name else none)=none→∀sl bx,sle sl [(0,Gm l),(1,Q5 s),(7,.box 7 0),(8,.box 8 0)]→ble bx [(7,.cells (Z8 I)),(8,.cells [.d (.str t.name),.d (.slice (Aq t.args)),.d (.int .i64 t.pos)])]→K1 sl bx:=by
  intro a0 sl bx s1 s2;refine u1 _ _ (A0.ww s1 s2 ?_);clear u1 K1;rw [a0];refine kR Ps fun K1 u1=>?_;refine A0.bb (A0.ii t.args (X:=List Bk) (fun j z=>[(0,Gm z),(1,Q5 s),(7,.box 7 0),(8,.box 8 0),(12,A9 j)])
   (fun j z=>[(7,.cells (Z8 I)),(8,.cells [.d (.str t.name),.d (.slice (Aq t.args)),.d (.int .i64 t.pos)])])
   (fun j z=>Wz s I z (t.args.drop j)=R∧z.length+Ty.C9 (t.args.drop j)≤1000000000000) l ⟨hR,by simp only [Y7];omega⟩ sS sB ?_ ?_)
  rotate_left
  ·intro j z d hd L Z tk U E;obtain⟨E,W⟩:=E;have hj:=(Ay.1 hd).1;rw [Z,Wz] at E;rw [Z,Ty.C9] at W;have hc:=ih d L true z (by omega);have a2:=B8f s I d true z;generalize U4 s I true z d=z2 at *;refine Ai U Ps fun J u2=>?_;refine gI u2 ?_;clear u2 J;refine sK fun J u2=>?_;refine A0.bb ?_
   (refine lG Ps [] 8 [] fun K z=>?_;refine ev ?_;refine ci (F5 hd) ?_;refine cc hc ?_;apply z;clear z K;try simp only [A4,Aa])
   refine u2 _ _ ?_;clear u2 J
   (refine lV Ps fun K z=>?_;refine cl ?_;apply z;clear z K;try simp only [A4,])
   exact⟨z2,⟨E,by omega⟩,sS,by simp [ble,A7]⟩
  intro z E;obtain⟨E,_⟩:=E;rw [D6,Wz] at E;subst E;refine Ai B4 Ps fun J u2=>?_;refine A0.ss rfl ?_;simp only [A4,Aa,Af];refine u1 _ _ ?_;clear u2 J u1 K1;refine sR Ps ?_;exact aR
 by_cases V:t.args=[]
 ·have W:((t.args.length:Nat):Int)=0:=by rw [V];rfl
  refine A0.bb (A0.ii s (X:=Unit) (fun j _=>[(0,Gm l),(1,Q5 s),(4,B0 b),(7,.box 7 0),(8,.box 8 0),(11,A9 j)])
   (fun j _=>[(7,.cells (Z8 I)),(8,.cells [.d (.str t.name),.d (.slice (Aq t.args)),.d (.int .i64 t.pos)])])
   (fun j _=>A4m s t.name=A4m (s.drop j) t.name) () rfl sS sB ?_ ?_)
  rotate_left
  ·intro j _ v hv L Z tk U E;have hj:=(Ay.1 hv).1;rw [Z] at E;unfold A4m at E;rw [Av3] at E;refine sK fun J u2=>?_
   (refine sQ Ps fun K z=>?_;simp -implicitDefEqProofs only [EV,Nat.reduceEqDiff,reduceCtorEq,Mr,I9,B0v,U,W,B0r];apply z;clear z K)
   refine gI u2 ?_;clear u2 J;refine sK fun J u2=>?_;refine A0.bb ?_;by_cases hn:v.name=t.name
   ·rw [Bn hn] at E;have a1:A4m s t.name=some v:=E;have hp:=G2c l ⟨v.node,I,b⟩ (by omega);rw [V,List.isEmpty_nil,A8 rfl,a1];simp only;generalize Z2 l ⟨v.node,I,b⟩=z at *
    (refine sG Ps [] 7 [] fun K z=>?_;refine ev ?_;refine⟨by omega,_,C2o hv,rfl,?_⟩;(try simp -implicitDefEqProofs only [EV,Nat.reduceEqDiff,reduceCtorEq,M3,I9,hn,vaC]);apply z;clear z K)
    refine A0.tt rfl ?_
    (refine sG Ps [] 9 [] fun K z=>?_;refine ev ?_;refine⟨by omega,_,C2o hv,rfl,?_⟩;(try simp -implicitDefEqProofs only [EV,Nat.reduceAdd,Nat.reduceEqDiff,Nat.reduceLeDiff,reduceCtorEq,M8,Mb,vaC]);refine⟨_,.inl ⟨_,rfl,hp,rfl⟩,?_⟩;apply z;clear z K)
    exact aR
   ·rw [Ci hn] at E
    (refine sG Ps [] 7 [] fun K z=>?_;refine ev ?_;refine⟨by omega,_,C2o hv,rfl,?_⟩;(try simp -implicitDefEqProofs only [EV,Nat.reduceEqDiff,reduceCtorEq,M3,I9,hn,vaC]);apply z;clear z K)
    refine A0.ff rfl (A0.kk (u2 _ _ ?_));clear u2 J;refine lT Ps ?_;exact⟨(),E,sS,by simp [ble,A7]⟩
  intro _ E;rw [D6] at E;refine sK fun J u2=>?_
  (refine sQ Ps fun K z=>?_;simp -implicitDefEqProofs only [EV,Nat.reduceEqDiff,reduceCtorEq,B0v,B4,B0r];apply z;clear z K)
  refine A0.ss rfl ?_;simp only [A4,Aa,Af];exact O (by rw [V,List.isEmpty_nil,A8 rfl,E];rfl) _ _ sS sB
 ·have W:¬((t.args.length:Nat):Int)=0:=by
   intro h;exact V (Ao0.1 (by omega))
  refine A0.bb (A0.loop (X:=Unit) (fun _=>[(0,Gm l),(1,Q5 s),(4,B0 b),(7,.box 7 0),(8,.box 8 0),(11,A9 0)])
   (fun _=>[(7,.cells (Z8 I)),(8,.cells [.d (.str t.name),.d (.slice (Aq t.args)),.d (.int .i64 t.pos)])])
   (fun _=>True) (fun _=>0) () trivial sS sB ?_)
  intro _ _;refine sK fun J u2=>?_;by_cases h0:(0:Int) < (s.length:Int)
  ·(refine sQ Ps fun K z=>?_;simp -implicitDefEqProofs only [EV,Nat.reduceEqDiff,reduceCtorEq,Mr,I9,B0v,h0,W,B0r];apply z;clear z K)
   refine A0.ss rfl ?_;simp only [A4,Aa,Af];exact O (by rw [A6 (by rw [Au2];exact V)]) _ _ sS sB
  ·(refine sQ Ps fun K z=>?_;simp -implicitDefEqProofs only [EV,Nat.reduceEqDiff,reduceCtorEq,B0v,h0,B0r];apply z;clear z K)
   refine A0.ss rfl ?_;simp only [A4,Aa,Af];exact O (by rw [A6 (by rw [Au2];exact V)]) _ _ sS sB
theorem E3k (s:List Gx)(m:Bool)(own:A3)(i:Nat)(l:List Bk)(t:Ty):A8b s m own i l t=Ga s false t.name 0 (U4 s ⟨m,own,i⟩ false l t) t.args:=by cases t;rw [A8b];rfl
theorem C8u (x:Nat):x≤x*x:=by
 cases x with
 |zero=>simp
 |succ n=>exact Nat.le_mul_of_pos_left _ (by omega)
abbrev A1g:List Nat:=[0,1,2,3,4,10,11,15]
theorem F0e (s:List Gx)(hs:s.length≤10*sm):∀(t:Ty)(m:Bool)(own:A3)(l:List Bk),l.length+Ty.C9 t.args*Ty.C9 t.args≤1000000000000→Ac Tryz.prog 233 [Gm l,Q5 s,B0 m,C8 own,Cg t.args] (Gm (Ga s m own 0 l t.args)):=by
 intro t
 induction t using Ty.induct with
 |h t ih =>
 intro m own l Z;have a0:=C4b t.args;have a2:=C8u (Ty.C9 t.args);generalize t.args=a at *;have L:∃R,Ga s m own 0 l a=R:=⟨_,rfl⟩;obtain⟨R,L⟩:=L;rw [L];refine cB func233 ?_;refine sR A1g ?_;refine kR A1g fun K1 u1=>?_;refine A0.bb (A0.ii a (X:=List Bk) (fun j z=>[(0,Gm z),(1,Q5 s),(2,B0 m),(3,C8 own),(4,Cg a),(11,A9 j)]) (fun j z=>[])
  (fun j z=>Ga s m own j z (a.drop j)=R∧z.length+Ty.C9 (a.drop j)*Ty.C9 (a.drop j)≤1000000000000) l ⟨L,by simpa using Z⟩ sS (by simp [ble]) ?_ ?_)
 rotate_left
 ·intro j z d hd I W tk V E;obtain⟨E,hz⟩:=E;have hj:=(Ay.1 hd).1;rw [W,Ga,E3k] at E;rw [W,Ty.C9] at hz;have h1:=Sn d.Dr (Ty.C9 (a.drop (j+1)));have h2:=C8u d.Dr;have h3:=B8f s ⟨m,own,j⟩ d false z;have U:=F5s s hs ⟨m,own,j⟩ d false z (by omega);have h4:=C5y s d m own j z;rw [E3k] at h4;generalize a1:U4 s ⟨m,own,j⟩ false z d=z1 at *;have h5:d.Dr=d.name.length+4+Ty.C9 d.args:=Ty.U8 d;have h6:d.Dr+Ty.C9 d.args*Ty.C9 d.args≤d.Dr*d.Dr:=by
   generalize Ty.C9 d.args=y at *;generalize d.Dr=x at *;have g6:x*(y+4)≤x*x:=Am5 _ (by omega);have g7:x*(y+4)=x*y+x*4:=Nat.mul_add _ _ _;have g8:y*y≤x*y:=H4 _ (by omega);omega
  have O:=ih d I false d.name z1 (by omega);generalize Ga s false d.name 0 z1 d.args=z2 at *;refine Ai V A1g fun J u2=>?_;refine gI u2 ?_;clear u2 J;refine sK fun J u2=>?_;refine A0.bb ?_
  (refine sV A1g fun K z=>?_;refine ci (F5 hd) ?_;refine cc U ?_;apply z;clear z K)
  (refine lG A1g [] 12 [] fun K z=>?_;refine ev ?_;refine ci (F5 hd) ?_;refine ci (F5 hd) ?_;refine cc O ?_;apply z;clear z K;try simp only [A4,Aa])
  refine u2 _ _ ?_;clear u2 J
  (refine lV A1g fun K z=>?_;refine cl ?_;apply z;clear z K;try simp only [A4,])
  exact⟨z2,⟨E,by omega⟩,sS,by simp [ble]⟩
 intro z E;obtain⟨E,_⟩:=E;rw [D6,Ga] at E;subst E;refine Ai B4 A1g fun J u2=>?_;refine A0.ss rfl ?_;simp only [A4,Aa,Af];refine u1 _ _ ?_;clear u2 J u1 K1;refine sR A1g ?_;exact aR
theorem B0b (s:List Gx)(hs:s.length≤10*sm)(m:Bool)(own:A3)(a:List Ty)(l:List Bk)(h:l.length+Ty.C9 a*Ty.C9 a≤1000000000000):Ac Tryz.prog 233 [Gm l,Q5 s,B0 m,C8 own,Cg a] (Gm (Ga s m own 0 l a)) :=
 F0e s hs (.mk [] a 0) m own l h
end Go.Abs
