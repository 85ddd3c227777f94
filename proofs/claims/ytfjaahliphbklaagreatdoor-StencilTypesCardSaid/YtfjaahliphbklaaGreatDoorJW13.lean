/- castingsref18: edges between type parameters, plain functions and how many there can be -/
import Derived.Test.YtfjaahliphbklaaGreatDoorJU01
import Derived.Test.YtfjaahliphbklaaGreatDoorJS95
import Derived.Laws.StructEq
namespace Go.Abs
set_option linter.unusedSimpArgs false
set_option linter.unusedVariables false
open Go
set_option maxRecDepth 100000
set_option maxHeartbeats 1000000
structure NodeT where
 meth:Bool
 name:Str
 idx:Int
 deriving DecidableEq
structure EdgeT where
 src:NodeT
 dst:NodeT
 ins:Bool
 deriving DecidableEq
structure VarT where
 name:Str
 node:NodeT
def noC (n:NodeT):List D:=[.bool n.meth,.str n.name,.int .i64 n.idx]
def edC (e:EdgeT):List D:=[.bool e.src.meth,.str e.src.name,.int .i64 e.src.idx,.bool e.dst.meth,.str e.dst.name,.int .i64 e.dst.idx,.bool e.ins]
def vaC (v:VarT):List D:=[.str v.name,.bool v.node.meth,.str v.node.name,.int .i64 v.node.idx]
def noR (l:List NodeT):List (List D):=l.map noC
def edR (l:List EdgeT):List (List D):=l.map edC
def vrR (l:List VarT):List (List D):=l.map vaC
def G0a (a b:NodeT):Int:=if a.meth≠b.meth then (if b.meth=true then -1 else 1) else if a.name≠b.name then A2r a.name b.name else if a.idx < b.idx then -1 else if a.idx > b.idx then 1 else 0
def F7g (a b:EdgeT):Bool:=let c:=if G0a a.src b.src=0 then G0a a.dst b.dst else G0a a.src b.src
 decide (c < 0) || (decide (c=0) && (!a.ins && b.ins))
def goE (e:EdgeT):List EdgeT→Nat→List EdgeT→Option (List EdgeT)
 | [],_,out=>some out
 | x::r,i,out=>if x=e then none else goE e r (i+1) ((if out.length=i∧F7g e x=true then out++[e] else out)++[x])
def F6w (l:List EdgeT)(e:EdgeT):List EdgeT:=match goE e l 0 [] with
 | none=>l
 | some out=>if out.length=l.length then out++[e] else out
theorem E9p {e:EdgeT} :∀ {l:List EdgeT} {i:Nat} {out R:List EdgeT},i≤out.length→out.length≤i+1→goE e l i out=some R→i+l.length≤R.length∧R.length≤i+l.length+1
 | [],i,out,R,h1,h2,h=>by simp only [goE,Option.some.injEq] at h;subst h;simp;omega
 | x::l,i,out,R,h1,h2,h=>by
  rw [goE] at h;split at h
  ·cases h
  ·have h3:=E9p (i:=i+1) (by
    rw [List.length_append];simp only [List.length_cons,List.length_nil];split
    ·rw [List.length_append];simp only [List.length_cons,List.length_nil];omega
    ·omega) (by
    rw [List.length_append];simp only [List.length_cons,List.length_nil];split
    ·rename_i hc;rw [List.length_append];simp only [List.length_cons,List.length_nil];omega
    ·omega) h
   simp only [List.length_cons];omega
def G1w (l:List EdgeT)(e:EdgeT):Option (List EdgeT)→List EdgeT
 | none=>l
 | some out=>if out.length=l.length then out++[e] else out
theorem G0j (l:List EdgeT)(e:EdgeT):F6w l e=G1w l e (goE e l 0 []):=by unfold F6w G1w;cases goE e l 0 [] <;> rfl
theorem F4u (l:List EdgeT)(e:EdgeT):(F6w l e).length≤l.length+1:=by
 unfold F6w;cases h:goE e l 0 [] with
 | none=>simp
 | some R =>
  have:=E9p (i:=0) (by simp) (by simp) h;simp only;split
  ·rw [List.length_append];simp only [List.length_cons,List.length_nil];omega
  ·omega
def A8s (s:List VarT)(m:Bool)(own:Str)(l:List Str):List VarT:=s++(List.range l.length).map fun i=>⟨(l[i]?).getD [],m,own,i⟩
def D8k (s:List VarT)(n:Str):Option VarT:=s.find? fun v=>decide (v.name=n)
mutual
def inE (s:List VarT)(to:NodeT):Bool→List EdgeT→Ty→List EdgeT
 | b,l,.mk n a _=>match (if a.isEmpty=true then D8k s n else none) with
  | some v=>F6w l ⟨v.node,to,b⟩
  | none=>F2v s to l a
def F2v (s:List VarT)(to:NodeT):List EdgeT→List Ty→List EdgeT
 | l,[]=>l
 | l,t::ts=>F2v s to (inE s to true l t) ts
end
mutual
theorem C9w (s:List VarT)(to:NodeT):∀ (t:Ty)(b:Bool)(l:List EdgeT),(inE s to b l t).length≤l.length+t.tlen
 | .mk n a p,b,l=>by
  rw [inE,Ty.tlen];have h:=E0h s to a l;split
  ·rename_i v hv;have:=F4u l ⟨v.node,to,b⟩;omega
  ·omega
theorem E0h (s:List VarT)(to:NodeT):∀ (a:List Ty)(l:List EdgeT),(F2v s to l a).length≤l.length+Ty.tlenL a
 | [],l=>by simp [F2v]
 | t::ts,l=>by have h1:=C9w s to t true l;have h2:=E0h s to ts (inE s to true l t);rw [F2v,Ty.tlenL];omega
end
mutual
def E2n (s:List VarT)(m:Bool)(own:Str)(i:Nat):List EdgeT→Ty→List EdgeT
 | l,.mk n a p=>A3v s false n 0 (inE s ⟨m,own,i⟩ false l (.mk n a p)) a
def A3v (s:List VarT)(m:Bool)(own:Str):Nat→List EdgeT→List Ty→List EdgeT
 | _,l,[]=>l
 | i,l,t::ts=>A3v s m own (i+1) (E2n s m own i l t) ts
end
theorem A9i (x y:Nat):x*x+y*y≤(x+y)*(x+y):=by rw [Nat.add_mul,Nat.mul_add,Nat.mul_add];omega
mutual
theorem D4o (s:List VarT):∀ (t:Ty)(m:Bool)(own:Str)(i:Nat)(l:List EdgeT),(E2n s m own i l t).length≤l.length+t.tlen*t.tlen
 | .mk n a p,m,own,i,l=>by
  have h1:=C9w s ⟨m,own,i⟩ (.mk n a p) false l;have h2:=A4g s a false n 0 (inE s ⟨m,own,i⟩ false l (.mk n a p));rw [E2n];have h4:(Ty.mk n a p).tlen=n.length+4+Ty.tlenL a:=rfl;generalize Ty.tlenL a=y at *;generalize (Ty.mk n a p).tlen=x at *;have h5:x+y*y≤x*x:=by have h6:x*(y+4)≤x*x:=Nat.mul_le_mul_left _ (by omega);have h7:x*(y+4)=x*y+x*4:=Nat.mul_add _ _ _;have h8:y*y≤x*y:=Nat.mul_le_mul_right _ (by omega);omega
  omega
theorem A4g (s:List VarT):∀ (a:List Ty)(m:Bool)(own:Str)(i:Nat)(l:List EdgeT),(A3v s m own i l a).length≤l.length+Ty.tlenL a*Ty.tlenL a
 | [],m,own,i,l=>by simp [A3v]
 | t::ts,m,own,i,l=>by have h1:=D4o s t m own i l;have h2:=A4g s ts m own (i+1) (E2n s m own i l t);have h3:=A9i t.tlen (Ty.tlenL ts);rw [A3v,Ty.tlenL];omega
end
def E3y (s:List VarT)(l:List EdgeT)(x:Sig):List EdgeT :=
 A3v s false x.result.name 0 (x.params.foldl (fun l p=>A3v s false p.type.name 0 l p.type.args) (x.formals.foldl (fun l f=>A3v s false f.bound.name 0 l f.bound.args) l)) x.result.args
def D8v (l:List EdgeT)(d:Decl):List EdgeT :=
 if d.kind=3 then
  let s:=A8s (A8s [] false d.name d.vars) true d.sig.name (A0d d.sig.formals)
  (A4p d.body).foldl (fun l e=>A3v s true e.name 0 (A3v s false e.type.name 0 l e.type.args) e.targs) (E3y s l d.sig)
 else
  let s:=A8s [] false d.name (A0d d.formals)
  d.sigs.foldl (fun l x=>E3y (A8s s true x.name (A0d x.formals)) l x) (E3y s l ⟨[],d.formals,d.fields,.mk [] [] 0,0⟩)
def C3c (p:Prog):List EdgeT:=p.decls.foldl D8v []
def A6f (n:NodeT)(out:List NodeT)(e:EdgeT):List NodeT:=if (e.src=n∨e.src∈out)∧e.dst ∉ out then out++[e.dst] else out
def B8w (l:List EdgeT)(n:NodeT):Nat→Int→List NodeT→List NodeT
 | 0,_,out=>out
 | k+1,c,out=>if c=out.length then out else B8w l n k out.length (l.foldl (A6f n) out)
def B9e (l:List EdgeT)(n:NodeT):List NodeT:=B8w l n (l.length+3) (-1) []
def D3p (l:List EdgeT)(a b:NodeT):Bool:=decide (b∈B9e l a)
def G4n (l:List EdgeT):List EdgeT:=l.filter fun e=>e.ins && (decide (e.dst=e.src) || D3p l e.dst e.src)
def E0n (p:Prog):Bool:=decide ((G4n (C3c p)).length=0)
theorem B2u {α:Type} {f:List EdgeT→α→List EdgeT} {g:α→Nat} (h:∀ l a,(f l a).length≤l.length+g a*g a):∀ (as_:List α)(l:List EdgeT),(as_.foldl f l).length≤l.length+(as_.map g).sum*(as_.map g).sum
 | [],l=>by simp
 | a::r,l=>by have h1:=h l a;have h2:=B2u h r (f l a);have h3:=A9i (g a) (r.map g).sum;rw [List.foldl_cons,List.map_cons,List.sum_cons];omega
theorem D1s (a b c x y:Nat)(h1:b≤a+x*x)(h2:c≤b+y*y):c≤a+(x+y)*(x+y):=by have:=A9i x y;omega
theorem A7f {z z':Nat} {x y:Nat} (h:z+(x+y)*(x+y)≤1000000000000)(h1:z'≤z+x*x):z'+y*y≤1000000000000:=by have:=A9i x y;omega
open Go Go.Proofs
abbrev noS (n:NodeT):List SV:=[.d (.bool n.meth),.d (.str n.name),.d (.int .i64 n.idx)]
abbrev noV (n:NodeT):SV:=.agg (noS n)
abbrev B4y:List Nat:=[0,1,2,3,4,9,11,16,26,31]
theorem F1v (a b:NodeT):A0a Tryz.prog 292 [noV a,noV b] (A0g (G0a a b)):=by
 have hc:=A9f a.name b.name;obtain⟨m1,n1,i1⟩:=a;obtain⟨m2,n2,i2⟩:=b;unfold G0a;simp only at hc ⊢;generalize A2r n1 n2=z at *;have main:∀ m:Bool,A0a Tryz.prog 292 [noV ⟨m,n1,i1⟩,noV ⟨m,n2,i2⟩] (A0g (if n1≠n2 then z else if i1 < i2 then -1 else if i1 > i2 then 1 else 0)):=by
  intro m;have hm:(m == m)=true:=by simp
  by_cases h1:n1=n2
  ·rw [if_neg (fun h=>h h1)];by_cases h2:i1 < i2
   ·rw [if_pos h2];refine cB Tryz.func292 ?_;refine sR B4y ?_;refine kR1 hm B4y fun K1 u1=>?_;refine kI u1 ?_;clear u1 K1;refine kR1 h1 B4y fun K1 u1=>?_;refine kI u1 ?_;clear u1 K1;refine kR1 h2 B4y fun K1 u1=>?_;refine tI ?_;refine sR B4y ?_;exact aR
   rw [if_neg h2];by_cases h3:i1 > i2
   ·rw [if_pos h3];refine cB Tryz.func292 ?_;refine sR B4y ?_;refine kR1 hm B4y fun K1 u1=>?_;refine kI u1 ?_;clear u1 K1;refine kR1 h1 B4y fun K1 u1=>?_;refine kI u1 ?_;clear u1 K1;refine kR1 h2 B4y fun K1 u1=>?_;refine kI u1 ?_;clear u1 K1;refine kR1 h3 B4y fun K1 u1=>?_;refine tI ?_;refine sR B4y ?_;exact aR
   ·rw [if_neg h3];refine cB Tryz.func292 ?_;refine sR B4y ?_;refine kR1 hm B4y fun K1 u1=>?_;refine kI u1 ?_;clear u1 K1;refine kR1 h1 B4y fun K1 u1=>?_;refine kI u1 ?_;clear u1 K1;refine kR1 h2 B4y fun K1 u1=>?_;refine kI u1 ?_;clear u1 K1;refine kR1 h3 B4y fun K1 u1=>?_;refine kI u1 ?_;clear u1 K1;refine sR B4y ?_;exact aR
  ·rw [if_pos h1];refine cB Tryz.func292 ?_;refine sR B4y ?_;refine kR1 hm B4y fun K1 u1=>?_;refine kI u1 ?_;clear u1 K1;refine kR1 h1 B4y fun K1 u1=>?_;refine tI ?_;refine sC hc B4y ?_;exact aR
 cases m1 <;> cases m2
 ·exact main false
 ·rw [if_pos (by decide),if_pos rfl];refine cB Tryz.func292 ?_;refine sR B4y ?_;refine kR B4y fun K1 u1=>?_;refine tI ?_;refine kR B4y fun K2 u2=>?_;refine tI ?_;refine sR B4y ?_;exact aR
 ·rw [if_pos (by decide),if_neg (by decide)];refine cB Tryz.func292 ?_;refine sR B4y ?_;refine kR B4y fun K1 u1=>?_;refine tI ?_;refine kR B4y fun K2 u2=>?_;refine kI u2 ?_;clear u2 K2;refine sR B4y ?_;exact aR
 ·exact main true
open Go
def E4o (l:List Formal):Nat:=(l.map fun f=>Ty.tlenL f.bound.args).sum
def D2w (l:List Param):Nat:=(l.map fun f=>Ty.tlenL f.type.args).sum
def Sig.al (s:Sig):Nat:=E4o s.formals+D2w s.params+Ty.tlenL s.result.args
def F6e (e:Ex):Nat:=Ty.tlenL e.type.args+Ty.tlenL e.targs
def B7w (l:List Ex):Nat:=(l.map F6e).sum
def F5u (l:List Sig):Nat:=(l.map Sig.al).sum
def Decl.al (d:Decl):Nat:=if d.kind=3 then d.sig.al+B7w (A4p d.body) else E4o d.formals+D2w d.fields+F5u d.sigs
def D3w (l:List Decl):Nat:=(l.map Decl.al).sum
def D4u (d:Decl):Sig:=⟨[],d.formals,d.fields,.mk [] [] 0,0⟩
theorem E1g (d:Decl):(D4u d).al=E4o d.formals+D2w d.fields:=by simp [Sig.al,D4u,Ty.args,Ty.tlenL]
theorem B2w (s:List VarT)(l:List EdgeT)(x:Sig):(E3y s l x).length≤l.length+x.al*x.al:=by have h1:=B2u (f:=fun l (f:Formal)=>A3v s false f.bound.name 0 l f.bound.args) (g:=fun f=>Ty.tlenL f.bound.args) (fun l f=>A4g s f.bound.args false f.bound.name 0 l) x.formals l;have h2:=B2u (f:=fun l (f:Param)=>A3v s false f.type.name 0 l f.type.args) (g:=fun f=>Ty.tlenL f.type.args) (fun l f=>A4g s f.type.args false f.type.name 0 l) x.params (x.formals.foldl (fun l f=>A3v s false f.bound.name 0 l f.bound.args) l);have h3:=A4g s x.result.args false x.result.name 0 (x.params.foldl (fun l p=>A3v s false p.type.name 0 l p.type.args) (x.formals.foldl (fun l f=>A3v s false f.bound.name 0 l f.bound.args) l));exact D1s _ _ _ _ _ (D1s _ _ _ _ _ h1 h2) h3
def exE (s:List VarT)(l:List EdgeT)(e:Ex):List EdgeT:=A3v s true e.name 0 (A3v s false e.type.name 0 l e.type.args) e.targs
theorem E6w (s:List VarT)(l:List EdgeT)(e:Ex):(exE s l e).length≤l.length+F6e e*F6e e :=
 D1s _ _ _ _ _ (A4g s e.type.args false e.type.name 0 l) (A4g s e.targs true e.name 0 _)
def sgE (s:List VarT)(l:List EdgeT)(x:Sig):List EdgeT:=E3y (A8s s true x.name (A0d x.formals)) l x
theorem E1z (l:List EdgeT)(d:Decl):D8v l d=if d.kind=3 then
   (A4p d.body).foldl (exE (A8s (A8s [] false d.name d.vars) true d.sig.name (A0d d.sig.formals))) (E3y (A8s (A8s [] false d.name d.vars) true d.sig.name (A0d d.sig.formals)) l d.sig)
  else d.sigs.foldl (sgE (A8s [] false d.name (A0d d.formals))) (E3y (A8s [] false d.name (A0d d.formals)) l (D4u d)):=rfl
theorem D2o (l:List EdgeT)(d:Decl):(D8v l d).length≤l.length+d.al*d.al:=by
 rw [E1z];unfold Decl.al;split
 ·exact D1s _ _ _ _ _ (B2w _ l d.sig) (B2u (g:=F6e) (fun l e=>E6w _ l e) (A4p d.body) _)
 ·have h1:=B2w (A8s [] false d.name (A0d d.formals)) l (D4u d);rw [E1g] at h1;exact D1s _ _ _ _ _ h1 (B2u (g:=Sig.al) (fun l e=>B2w _ l e) d.sigs _)
theorem C3g {α:Type} (F:List α→Int→Int)(g:α→Int→Int)(h:α→Nat)(h0:∀ k,F [] k=k)(h1:∀ x xs k,F (x::xs) k=if k≤2000 then F xs (g x k) else k)(hm:∀ l k,k≤F l k)
  (hal:∀ x k,g x k≤2000→(h x:Int)≤120*(g x k - k)):∀ (l:List α) (k:Int),F l k≤2000→((l.map h).sum:Int)≤120*(F l k - k)
 | [],k,_=>by rw [h0];simp
 | x::xs,k,hk=>by
  rw [h1] at hk ⊢;split at hk
  ·rename_i hc;rw [if_pos hc];have a1:=hm xs (g x k);have a2:=hal x k (by omega);have a3:=C3g F g h h0 h1 hm hal xs (g x k) hk;simp only [List.map_cons,List.sum_cons];omega
  ·rename_i hc;omega
theorem B3g (t:Ty):Ty.tlenL t.args≤t.tlen:=by rw [Ty.tlen_eq];omega
theorem G1z:∀ (l:List Formal)(k:Int),A0i l k≤2000→(E4o l:Int)≤120*(A0i l k - k) :=
 C3g A0i (fun f n=>f.bound.count (n+1+((f.name.length / 50:Nat):Int))) (fun f=>Ty.tlenL f.bound.args) (fun _=>rfl) (fun _ _ _=>rfl) (fun l k=>(F0r l k).1) fun x k h=>by have h1:=Ty.count_tlen x.bound _ h;have h2:=B3g x.bound;omega
theorem G2i:∀ (l:List Param)(k:Int),A0p l k≤2000→(D2w l:Int)≤120*(A0p l k - k) :=
 C3g A0p (fun f n=>f.type.count (n+1+((f.name.length / 50:Nat):Int))) (fun f=>Ty.tlenL f.type.args) (fun _=>rfl) (fun _ _ _=>rfl) (fun l k=>(F1x l k).1) fun x k h=>by have h1:=Ty.count_tlen x.type _ h;have h2:=B3g x.type;omega
theorem Sig.count_al (s:Sig)(n:Int)(h:s.count n≤2000):(s.al:Int)≤120*(s.count n - n):=by unfold Sig.count at h ⊢;have a1:=(F0r s.formals (n+((s.name.length / 50:Nat):Int))).1;have b1:=(F1x s.params (A0i s.formals (n+((s.name.length / 50:Nat):Int)))).1;have c1:=Ty.count_ge s.result (A0p s.params (A0i s.formals (n+((s.name.length / 50:Nat):Int))));have a2:=G1z s.formals (n+((s.name.length / 50:Nat):Int)) (by omega);have b2:=G2i s.params _ (show A0p s.params (A0i s.formals (n+((s.name.length / 50:Nat):Int)))≤2000 by omega);have c2:=Ty.count_tlen s.result _ h;have c3:=B3g s.result;unfold Sig.al;omega
theorem G5n:∀ (l:List Sig)(k:Int),A0u l k≤2000→(F5u l:Int)≤120*(A0u l k - k) :=
 C3g A0u Sig.count Sig.al (fun _=>rfl) (fun _ _ _=>rfl) (fun l k=>(F9s l k).1) fun x k h=>Sig.count_al x k h
mutual
theorem C7g:∀ e:Ex,B7w (A4p e)≤e.xlen
 | .mk k n t a ks p=>by have h1:=C1q ks;have h2:=B3g t;rw [A4p,Ex.xlen_eq];simp only [B7w,List.map_cons,List.sum_cons,F6e,Ex.type,Ex.targs,Ex.kids,Ex.name] at h1 ⊢;omega
theorem C1q:∀ l:List Ex,B7w (A2q l)≤Ex.xlenL l
 | []=>by simp [B7w,A2q,Ex.xlenL]
 | e::l=>by have h1:=C7g e;have h2:=C1q l;rw [A2q,Ex.xlenL];simp only [B7w,List.map_append,List.sum_append] at h1 h2 ⊢;omega
end
theorem Decl.count_al (d:Decl)(n:Int)(h:d.count n≤2000):(d.al:Int)≤120*(d.count n - n):=by
 unfold Decl.count at h ⊢;generalize hm:n+1+((d.name.length / 50:Nat):Int)+((d.recv.length / 50:Nat):Int)=m at h ⊢;have a1:=(F0r d.formals m).1;have b1:=(F1x d.fields (A0i d.formals m)).1;have c1:=(F9s d.sigs (A0p d.fields (A0i d.formals m))).1;have e1:=(D6s d.vars (A0u d.sigs (A0p d.fields (A0i d.formals m)))).1;have a2:=G1z d.formals m;have b2:=G2i d.fields (A0i d.formals m);have c2:=G5n d.sigs (A0p d.fields (A0i d.formals m));generalize hz:A2i d.vars (A0u d.sigs (A0p d.fields (A0i d.formals m)))=z at *;unfold Decl.count2 at h ⊢;have f1:=(Sig.count_sm d.sig z).1;have f2:=Sig.count_al d.sig z;have g1:=Ex.count_ge d.body (d.sig.count z);have g2:=Ex.count_xlen d.body (d.sig.count z);have g3:=C7g d.body;split at h
 ·rename_i hc;rw [if_pos hc];have a2:=a2 (by omega);have b2:=b2 (by omega);have c2:=c2 (by omega);have f2:=f2 (by omega);have g2:=g2 (by omega);unfold Decl.al;split <;> omega
 ·omega
theorem Prog.count_al (p:Prog)(h:p.count≤600):D3w p.decls≤72000:=by unfold Prog.count at h;have h1:=Ex.count_ge p.main 0;have a1:=(G0m p.decls (p.main.count 0)).1;have:=C3g A2n Decl.count Decl.al (fun _=>rfl) (fun _ _ _=>rfl) (fun l k=>(G0m l k).1) (fun x k h=>Decl.count_al x k h) p.decls (p.main.count 0) (by omega);unfold D3w;omega
open Go Go.Proofs
set_option maxHeartbeats 4000000
abbrev edS (e:EdgeT):List SV:=[.d (.bool e.src.meth),.d (.str e.src.name),.d (.int .i64 e.src.idx),.d (.bool e.dst.meth),.d (.str e.dst.name),.d (.int .i64 e.dst.idx),.d (.bool e.ins)]
abbrev edV (e:EdgeT):SV:=.agg (edS e)
abbrev B3h (l:List EdgeT):SV:=.d (.slice (edR l))
abbrev vrV (l:List VarT):SV:=.d (.slice (vrR l))
theorem A1k {l:List EdgeT} {i:Nat} {c:EdgeT} (h:l[i]? = some c):(edR l)[i]? = some (edC c):=B0d h
theorem F0t {l:List NodeT} {i:Nat} {c:NodeT} (h:l[i]? = some c):(noR l)[i]? = some (noC c):=B0d h
theorem D7d {l:List VarT} {i:Nat} {c:VarT} (h:l[i]? = some c):(vrR l)[i]? = some (vaC c):=B0d h
theorem A3c (l:List EdgeT):(edR l).length=l.length:=by simp [edR]
theorem A7m (l:List NodeT):(noR l).length=l.length:=by simp [noR]
theorem C2s (l:List VarT):(vrR l).length=l.length:=by simp [vrR]
variable {S:Nat→Prop} {w:World} {β:A0y}
theorem E1m {xs:List SV} {v:Value} (h:RepV S w β (.agg xs) v):∃ vs:List Value,v=.agg ⟨vs⟩∧vs.length=xs.length∧∀ (j:Nat)(c:SV)(u:Value),xs[j]? = some c→vs[j]? = some u→RepV S w β c u:=by cases h with | agg _ vs h1 _ h3=>exact⟨vs,rfl,h1,h3⟩
theorem F8i {a:NodeT} {v:Value} (h:RepV S w β (noV a) v):v=.agg #[.bool a.meth,.string (A1d a.name),.int .i64 a.idx]:=by
 obtain⟨vs,rfl,hl,hr⟩:=E1m h
 match vs,hl with
 | [v0,v1,v2],_ =>have h0:=(hr 0 _ v0 rfl rfl).inv_bool;have h1:=(hr 1 _ v1 rfl rfl).inv_str.1;have h2:=(hr 2 _ v2 rfl rfl).inv_int;subst h0 h1 h2;rfl
theorem F8f {a:EdgeT} {v:Value} (h:RepV S w β (edV a) v) :
  v=.agg #[.bool a.src.meth,.string (A1d a.src.name),.int .i64 a.src.idx,.bool a.dst.meth,.string (A1d a.dst.name),.int .i64 a.dst.idx,.bool a.ins]:=by
 obtain⟨vs,rfl,hl,hr⟩:=E1m h
 match vs,hl with
 | [v0,v1,v2,v3,v4,v5,v6],_ =>have h0:=(hr 0 _ v0 rfl rfl).inv_bool;have h1:=(hr 1 _ v1 rfl rfl).inv_str.1;have h2:=(hr 2 _ v2 rfl rfl).inv_int;have h3:=(hr 3 _ v3 rfl rfl).inv_bool;have h4:=(hr 4 _ v4 rfl rfl).inv_str.1;have h5:=(hr 5 _ v5 rfl rfl).inv_int;have h6:=(hr 6 _ v6 rfl rfl).inv_bool;subst h0 h1 h2 h3 h4 h5 h6;rfl
theorem C8g (d:Nat)(a b:NodeT)(w:World):(Op.equalIn (d+2) 164 (.agg #[.bool a.meth,.string (A1d a.name),.int .i64 a.idx]) (.agg #[.bool b.meth,.string (A1d b.name),.int .i64 b.idx])).run Tryz.prog w=.ok (decide (a=b)) w:=by
 have hS:Tryz.prog.underlying 164=some (.struct (Tryz.prog.fieldsOf 164)):=by kernel_rfl
 have hp:Tryz.prog.stoodInHeld 164=false:=by kernel_rfl
 rw [run_equalIn_agg w (d+1) 164 _ _ hS hp];simp only [Program.fieldsOf,Tryz.underlying164]
 go_simp
 have he:(a=b)↔a.meth=b.meth∧a.name=b.name∧a.idx=b.idx:=by obtain⟨a1,a2,a3⟩:=a;obtain⟨b1,b2,b3⟩:=b;simp
 simp only [B9b];by_cases h1:a.meth=b.meth <;> by_cases h2:a.name=b.name <;> by_cases h3:a.idx=b.idx <;> simp [h1,h2,h3,he]
theorem A8v {sl:SL} {bx:A0b} {x y:Operand} {u:TypeId} (a b:NodeT)(hx:opnd sl x=noV a)(hy:opnd sl y=noV b):OpQ Tryz.prog sl bx (.binOp .eql 164 x y u) (A0m (decide (a=b))):=by intro o ho;refine .of_value fun _ S w β ac _ ha=>?_;have h1:=ha x (mC ho);rw [hx] at h1;have h2:=ha y (mC ho);rw [hy] at h2;have h1:=F8i h1;have h2:=F8i h2;refine⟨.bool (decide (a=b)),?_,.bool _⟩;simp only [execOp,ho,Sem.run_bind,h1,h2,run_eqGuard_agg w .eql 164 x y _ _ Tryz.eqGuardType164,Result.andThen_ok,run_eql_struct];rw [show (10000:Nat)=9998+2 from rfl,C8g];rfl
theorem F2k {sl:SL} {bx:A0b} {x y:Operand} {u:TypeId} (a b:EdgeT)(hx:opnd sl x=edV a)(hy:opnd sl y=edV b):OpQ Tryz.prog sl bx (.binOp .eql 166 x y u) (A0m (decide (a=b))):=by
 intro o ho;refine .of_value fun _ S w β ac _ ha=>?_;have h1:=ha x (mC ho);rw [hx] at h1;have h2:=ha y (mC ho);rw [hy] at h2;have h1:=F8f h1;have h2:=F8f h2;refine⟨.bool (decide (a=b)),?_,.bool _⟩;have hS:Tryz.prog.underlying 166=some (.struct (Tryz.prog.fieldsOf 166)):=by kernel_rfl
 have hp:Tryz.prog.stoodInHeld 166=false:=by kernel_rfl
 have e1:=C8g 9997 a.src b.src;have e2:=C8g 9997 a.dst b.dst;simp only [execOp,ho,Sem.run_bind,h1,h2,run_eqGuard_agg w .eql 166 x y _ _ Tryz.eqGuardType166,Result.andThen_ok,run_eql_struct];rw [show (10000:Nat)=9999+1 from rfl,run_equalIn_agg w 9999 166 _ _ hS hp];simp only [Program.fieldsOf,Tryz.underlying166];rw [show (9999:Nat)=9997+2 from rfl];have he:(a=b)↔a.src=b.src∧a.dst=b.dst∧a.ins=b.ins:=by obtain⟨a1,a2,a3⟩:=a;obtain⟨b1,b2,b3⟩:=b;simp
 simp only [Op.eqFields]
 go_simp
 by_cases h1:a.src=b.src <;> by_cases h2:a.dst=b.dst <;> by_cases h3:a.ins=b.ins <;> simp [h1,h2,h3,]
abbrev F7r:List Nat:=[0,1,2,3,4,5,12]
theorem F5n (a b:EdgeT):A0a Tryz.prog 275 [edV a,edV b] (A0m (F7g a b)):=by
 have h1:=F1v a.src b.src;have h2:=F1v a.dst b.dst;unfold F7g;obtain⟨⟨m1,n1,i1⟩,⟨m2,n2,i2⟩,q1⟩:=a;obtain⟨⟨m3,n3,i3⟩,⟨m4,n4,i4⟩,q2⟩:=b;simp only at h1 h2 ⊢;generalize G0a ⟨m1,n1,i1⟩ ⟨m3,n3,i3⟩=x at *;generalize G0a ⟨m2,n2,i2⟩ ⟨m4,n4,i4⟩=y at *;refine cB Tryz.func275 ?_;refine sR F7r ?_;refine sC h1 F7r ?_;refine sK fun K1 u1=>?_;have tail:∀ c:Int,(if x=0 then y else x)=c→∀ sl bx,sle sl [(2,.box 2 0),(3,.box 3 0),(5,A0g c)]→ble bx [(2,.cells (edS ⟨⟨m1,n1,i1⟩,⟨m2,n2,i2⟩,q1⟩)),(3,.cells (edS ⟨⟨m3,n3,i3⟩,⟨m4,n4,i4⟩,q2⟩))]→K1 sl bx:=by
  intro c hcc sl bx s1 s2;refine u1 _ _ (AWp.ww s1 s2 ?_);clear u1 K1;rw [hcc];by_cases c0:c < 0
  ·rw [decide_eq_true c0,Bool.true_or];refine sR1 c0 F7r ?_;exact aR
  rw [decide_eq_false c0,Bool.false_or];by_cases c1:c=0
  ·subst c1;cases q1 <;> cases q2 <;> (
    refine sR F7r ?_;exact aR)
  ·rw [decide_eq_false c1,Bool.false_and];refine sR2 c0 c1 F7r ?_;exact aR
 by_cases hx:x=0
 ·subst hx;refine sR F7r ?_;refine AWp.tt rfl ?_
  (refine lV F7r fun K z=>?_;refine cc h2 ?_;apply z;clear z K;try simp only [A0c,])
  exact tail y (by rw [if_pos rfl]) _ _ sS sB
 ·refine sR1 hx F7r ?_;refine AWp.ff rfl (AWp.kk ?_);exact tail x (by rw [if_neg hx]) _ _ sS sB
abbrev C7n:List Nat:=[0,1,3,4,5,6,10,18,31,47]
theorem F4r (l:List EdgeT)(e:EdgeT)(hl:l.length≤1000000000000):A0a Tryz.prog 252 [B3h l,edV e] (B3h (F6w l e)):=by
 have hR:∃ R,goE e l 0 []=R:=⟨_,rfl⟩;obtain⟨R,hR⟩:=hR;have hput:F6w l e=G1w l e R:=by rw [G0j,hR]
 rw [hput];clear hput;refine cB Tryz.func252 ?_;refine sR C7n ?_;refine sR C7n ?_;refine AWp.pp 5 7 5 rfl ?_;refine kR C7n fun K1 u1=>?_;refine AWp.bb (AWp.ii l (X:=List EdgeT) (fun j out=>[(0,B3h l),(3,.box 3 0),(5,.acc 5),(6,A0g j)]) (fun j out=>[(3,.cells (edS e)),(5,.rows 7 (edR out))])
  (fun j out=>goE e (l.drop j) j out=R∧j≤out.length∧out.length≤j+1) [] ⟨hR,by simp,by simp⟩ sS (by simp [ble,A0h,edR]) ?_ ?_)
 rotate_left
 ·intro j out x hx hmem dp tk hlt hI;obtain⟨hI,ho1,ho2⟩:=hI;have hjl:=(List.getElem?_eq_some_iff.1 hx).1;rw [dp,goE] at hI;refine sK fun K2 u2=>?_
  (refine sQ C7n fun K z=>?_;simp -implicitDefEqProofs only [EV,Nat.reduceEqDiff,reduceCtorEq,B3c,hlt,A3c];apply z;clear z K)
  refine gI u2 ?_;clear u2 K2;refine sK fun K2 u2=>?_;refine AWp.bb ?_;refine sK fun K3 u3=>?_;by_cases heq:x=e
  ·subst heq;rw [if_pos rfl] at hI;subst hI
   (refine sG C7n [] 5 [] fun K z=>?_;refine ev ?_;refine⟨by omega,_,A1k hx,rfl,?_⟩;(try simp -implicitDefEqProofs only [EV,Nat.reduceAdd,Nat.reduceEqDiff,reduceCtorEq,A5m,edC]);refine⟨_,F2k x x rfl rfl,?_⟩;(try refine ev ?_);apply z;clear z K)
   refine AWp.tt rfl ?_;rw [show G1w l x none=l from rfl];refine sR C7n ?_;exact aR
  rw [if_neg heq] at hI
  (refine sG C7n [] 5 [] fun K z=>?_;refine ev ?_;refine⟨by omega,_,A1k hx,rfl,?_⟩;(try simp -implicitDefEqProofs only [EV,Nat.reduceAdd,Nat.reduceEqDiff,reduceCtorEq,A5m,edC]);refine⟨_,F2k x e rfl rfl,?_⟩;(try refine ev1 heq ?_);apply z;clear z K)
  refine AWp.ff rfl (AWp.kk (u3 _ _ ?_));clear u3 K3;have hls:=F5n e x;refine sK fun K3 u3=>?_;have fin:∀ out2:List EdgeT,goE e (l.drop (j+1)) (j+1) (out2++[x])=R→(out2++[x]).length≤j+2→j+1≤(out2++[x]).length→∀ sl bx,sle sl [(0,B3h l),(3,.box 3 0),(5,.acc 5),(6,A0g j)]→ble bx [(3,.cells (edS e)),(5,.rows 7 (edR out2))]→K3 sl bx:=by
   intro out2 h1 h2 h3 sl bx s1 s2;refine u3 _ _ (AWp.ww s1 s2 ?_);clear u3 K3;rw [List.length_append,List.length_cons,List.length_nil] at h2 h3
   (refine lV C7n fun K z=>?_;refine⟨by omega,_,A1k hx,rfl,?_⟩;(try simp -implicitDefEqProofs only [EV,Nat.reduceAdd,Nat.reduceEqDiff,Nat.reduceBEq,Nat.reduceLeDiff,Nat.reduceMul,reduceCtorEq,B3c,A5m,edC,A3c,]);refine⟨by simp,by unfold lim;omega,?_⟩;(try simp -implicitDefEqProofs only [EV,forall_const,implies_true,Nat.reduceAdd,Nat.reduceEqDiff,Nat.reduceBEq,Nat.reduceLeDiff,Nat.reduceSub,Nat.reduceMul,Int.reduceEq,Int.reduceLT,Int.reduceLE,Int.reduceSub,Int.reduceAdd,Int.reduceToNat,reduceCtorEq,Int.reduceNeg,TF3,TF4,TF9,B3c,A5m,edC,A3c,List.length_append,List.length_cons,List.length_nil]);apply z;clear z K;try simp only [A0c,A0e])
   refine u2 _ _ ?_;clear u2 K2
   (refine lV C7n fun K z=>?_;refine cl ?_;apply z;clear z K;try simp only [A0c,])
   exact⟨out2++[x],⟨h1,by rw [List.length_append,List.length_cons,List.length_nil];omega,by rw [List.length_append,List.length_cons,List.length_nil];omega⟩,sS,by simp [ble,A0h,edR,edC]⟩
  by_cases hoj:out.length=j
  ·have hoj2:((out.length:Nat):Int)=(j:Int):=by omega
   cases hlx:F7g e x with
   | true =>
    rw [if_pos ⟨hoj,hlx⟩] at hI;rw [hlx] at hls
    (refine sG C7n [] 10 [] fun K z=>?_;simp -implicitDefEqProofs only [EV,Nat.reduceAdd,Nat.reduceEqDiff,reduceCtorEq,B3c,A5m,A3c,hoj2];refine⟨by omega,_,A1k hx,rfl,?_⟩;(try simp -implicitDefEqProofs only [EV,Nat.reduceAdd,Nat.reduceEqDiff,reduceCtorEq,edC,]);refine cc hls ?_;apply z;clear z K)
    refine AWp.tt rfl ?_
    (refine lQ C7n fun K z=>?_;simp -implicitDefEqProofs only [EV,Nat.reduceAdd,Nat.reduceEqDiff,Nat.reduceBEq,Nat.reduceLeDiff,Nat.reduceMul,reduceCtorEq,B3c,A5m,A3c];refine⟨by simp,by unfold lim;omega,?_⟩;(try simp -implicitDefEqProofs only [EV,forall_const,implies_true,Nat.reduceAdd,Nat.reduceEqDiff,Nat.reduceBEq,Nat.reduceLeDiff,Nat.reduceSub,Nat.reduceMul,Int.reduceEq,Int.reduceLT,Int.reduceLE,Int.reduceSub,Int.reduceAdd,Int.reduceToNat,reduceCtorEq,Int.reduceNeg,TF3,TF4,TF9,B3c,A5m,A3c]);apply z;clear z K;try simp only [A0c,])
    exact fin (out++[e]) hI (by rw [List.length_append,List.length_append];simp only [List.length_cons,List.length_nil];omega) (by rw [List.length_append,List.length_append];simp only [List.length_cons,List.length_nil];omega) _ _ sS (by simp [ble,A0h,edR,edC])
   | false =>
    rw [if_neg (by rw [hlx];simp)] at hI;rw [hlx] at hls
    (refine sG C7n [] 10 [] fun K z=>?_;simp -implicitDefEqProofs only [EV,Nat.reduceAdd,Nat.reduceEqDiff,reduceCtorEq,B3c,A5m,A3c,hoj2];refine⟨by omega,_,A1k hx,rfl,?_⟩;(try simp -implicitDefEqProofs only [EV,Nat.reduceAdd,Nat.reduceEqDiff,reduceCtorEq,edC,]);refine cc hls ?_;apply z;clear z K)
    refine AWp.ff rfl (AWp.kk ?_);exact fin out hI (by rw [List.length_append];simp only [List.length_cons,List.length_nil];omega) (by rw [List.length_append];simp only [List.length_cons,List.length_nil];omega) _ _ sS (by simp [ble,A0h,edR])
  ·have hoj2:¬ ((out.length:Nat):Int)=(j:Int):=by omega
   rw [if_neg (fun h=>hoj h.1)] at hI
   (refine sG C7n [] 10 [] fun K z=>?_;simp -implicitDefEqProofs only [EV,Nat.reduceEqDiff,reduceCtorEq,B3c,A3c,hoj2];apply z;clear z K)
   refine AWp.ff rfl (AWp.kk ?_);exact fin out hI (by rw [List.length_append];simp only [List.length_cons,List.length_nil];omega) (by rw [List.length_append];simp only [List.length_cons,List.length_nil];omega) _ _ sS (by simp [ble,A0h,edR])
 intro out hI;obtain⟨hI,ho1,ho2⟩:=hI;rw [List.drop_length,goE] at hI;subst hI;refine sK fun K2 u2=>?_
 (refine sQ C7n fun K z=>?_;simp -implicitDefEqProofs only [EV,Nat.reduceEqDiff,reduceCtorEq,B3c,Int.lt_irrefl,A3c];apply z;clear z K)
 refine AWp.ss rfl ?_;simp only [TB];refine u1 _ _ ?_;clear u2 K2 u1 K1;refine sK fun K1 u1=>?_;by_cases hoj:out.length=l.length
 ·have hoj2:((out.length:Nat):Int)=(l.length:Int):=by omega
  rw [show G1w l e (some out)=out++[e] from if_pos hoj] at u1
  (refine sQ C7n fun K z=>?_;simp -implicitDefEqProofs only [EV,Nat.reduceEqDiff,reduceCtorEq,B3c,A3c,hoj2];apply z;clear z K)
  refine AWp.tt rfl ?_
  (refine lQ C7n fun K z=>?_;simp -implicitDefEqProofs only [EV,Nat.reduceAdd,Nat.reduceEqDiff,Nat.reduceBEq,Nat.reduceLeDiff,Nat.reduceMul,reduceCtorEq,B3c,A5m,A3c];refine⟨by simp,by unfold lim;omega,?_⟩;(try simp -implicitDefEqProofs only [EV,forall_const,implies_true,Nat.reduceAdd,Nat.reduceEqDiff,Nat.reduceBEq,Nat.reduceLeDiff,Nat.reduceSub,Nat.reduceMul,Int.reduceEq,Int.reduceLT,Int.reduceLE,Int.reduceSub,Int.reduceAdd,Int.reduceToNat,reduceCtorEq,Int.reduceNeg,TF3,TF4,TF9,B3c,A5m,A3c]);apply z;clear z K;try simp only [A0c,])
  refine u1 _ _ ?_;refine sR C7n ?_;have e1:B3h (out++[e])=.d (.slice (edR out++[edC e])):=by simp [edR]
  rw [e1];exact aR
 ·have hoj2:¬ ((out.length:Nat):Int)=(l.length:Int):=by omega
  rw [show G1w l e (some out)=out from if_neg hoj] at u1
  (refine sQ C7n fun K z=>?_;simp -implicitDefEqProofs only [EV,Nat.reduceEqDiff,reduceCtorEq,B3c,A3c,hoj2];apply z;clear z K)
  refine AWp.ff rfl (AWp.kk (u1 _ _ ?_));refine sR C7n ?_;exact aR
theorem F9t (l:List VarT):∀ row,row∈vrR l→row.length=4:=by intro row h;obtain⟨t,_,rfl⟩:=List.mem_map.1 h;rfl
theorem B6t (s:List VarT)(m:Bool)(own:Str)(l:List Str):(A8s s m own l).length=s.length+l.length:=by simp [A8s]
abbrev F8e:List Nat:=[0,1,2,3,8,9,10,11,17]
theorem B6q (s:List VarT)(m:Bool)(own:Str)(l:List Str)(hs:s.length≤10*sm)(hl:l.length≤sm):A0a Tryz.prog 179 [vrV s,A0m m,A2d own,A1m l] (vrV (A8s s m own l)):=by
 refine cB Tryz.func179 ?_;refine sR F8e ?_
 (refine AWp.seqR F8e [11] (by decide +kernel) fun K z=>?_;refine ev ?_;refine⟨F9t _,by (try simp only [C2s]);unfold lim sm at *;omega,?_⟩;(try refine ev ?_);apply z;clear z K)
 refine kR F8e fun K1 u1=>?_;refine AWp.bb (AWp.ii l (X:=Unit) (fun j _=>[(1,A0m m),(2,A2d own),(3,A1m l),(9,.acc 11),(10,A0g j)]) (fun j _=>[(11,.rows 4 (vrR (s++(List.range j).map fun i=>⟨(l[i]?).getD [],m,own,i⟩)))])
  (fun _ _=>True) () trivial sS (by simp [ble,A0h,vrR]) ?_ ?_)
 rotate_left
 ·intro j _ d hd hmem dp tk hlt _;have hj:=(List.getElem?_eq_some_iff.1 hd).1;have e2:vrR (s++(List.range (j+1)).map fun i=>⟨(l[i]?).getD [],m,own,i⟩)=vrR (s++(List.range j).map fun i=>⟨(l[i]?).getD [],m,own,i⟩)++[[.str d,.bool m,.str own,.int .i64 j]]:=by
   rw [List.range_succ,List.map_append,← List.append_assoc];simp [vrR,hd,vaC]
  have e3:(vrR (s++(List.range j).map fun i=>⟨(l[i]?).getD [],m,own,i⟩)).length=s.length+j:=by simp [vrR]
  rw [e2];generalize vrR (s++(List.range j).map fun i=>⟨(l[i]?).getD [],m,own,i⟩)=PR at *;refine kR1 hlt F8e fun K2 u2=>?_;refine gI u2 ?_;clear u2 K2;refine sK fun K2 u2=>?_;refine AWp.bb ?_
  (refine lV F8e fun K z=>?_;refine⟨by omega,_,A2b hd,rfl,?_⟩;(try refine ev1 e3 ?_);refine⟨by simp,by (try simp only [e3]);unfold lim sm at *;omega,?_⟩;(try refine ev1 e3 ?_);apply z;clear z K;try simp only [A0c,A0e])
  refine u2 _ _ ?_;clear u2 K2;refine lT F8e ?_;exact⟨(),trivial,sS,by simp [ble,A0h]⟩
 intro _ _;refine kR1 Int.lt_irrefl F8e fun K2 u2=>?_;refine AWp.ss rfl ?_;simp only [TB];refine u1 _ _ ?_;clear u2 K2 u1 K1;refine sR F8e ?_;exact aR
theorem G3p (s:List VarT)(to:NodeT)(b:Bool)(l:List EdgeT)(t:Ty):inE s to b l t=match (if t.args.isEmpty=true then D8k s t.name else none) with
  | some v=>F6w l ⟨v.node,to,b⟩
  | none=>F2v s to l t.args:=by cases t;rw [inE];rfl
abbrev D5i:List Nat:=[0,1,2,3,4,7,8,10,11,12,22,32,47]
theorem G0f (s:List VarT)(hs:s.length≤10*sm)(to:NodeT):∀ (t:Ty)(b:Bool)(l:List EdgeT),l.length+t.tlen≤1000000000000→A0a Tryz.prog 222 [B3h l,vrV s,noV to,tyV t,A0m b] (B3h (inE s to b l t)):=by
 intro t
 induction t using Ty.induct with
 | h t ih =>
 intro b l hl;have htl:=Ty.tlen_eq t;have hal:=C3j t.args;rw [G3p];have hR:∃ R,F2v s to l t.args=R:=⟨_,rfl⟩;obtain⟨R,hR⟩:=hR;rw [hR];refine cB Tryz.func222 ?_;refine sR D5i ?_;refine kR D5i fun K1 u1=>?_;have fin:(if t.args.isEmpty=true then D8k s t.name else none)=none→∀ sl bx,sle sl [(0,B3h l),(1,vrV s),(7,.box 7 0),(8,.box 8 0)]→ble bx [(7,.cells (noS to)),(8,.cells [.d (.str t.name),.d (.slice (tyR t.args)),.d (.int .i64 t.pos)])]→K1 sl bx:=by
  intro hno sl bx s1 s2;refine u1 _ _ (AWp.ww s1 s2 ?_);clear u1 K1;rw [hno];refine kR D5i fun K1 u1=>?_;refine AWp.bb (AWp.ii t.args (X:=List EdgeT) (fun j z=>[(0,B3h z),(1,vrV s),(7,.box 7 0),(8,.box 8 0),(12,A0g j)])
   (fun j z=>[(7,.cells (noS to)),(8,.cells [.d (.str t.name),.d (.slice (tyR t.args)),.d (.int .i64 t.pos)])])
   (fun j z=>F2v s to z (t.args.drop j)=R∧z.length+Ty.tlenL (t.args.drop j)≤1000000000000) l ⟨hR,by simp only [List.drop_zero];omega⟩ sS sB ?_ ?_)
  rotate_left
  ·intro j z d hd hmem dp tk hlt hI;obtain⟨hI,hz⟩:=hI;have hj:=(List.getElem?_eq_some_iff.1 hd).1;rw [dp,F2v] at hI;rw [dp,Ty.tlenL] at hz;have hc:=ih d hmem true z (by omega);have hlen:=C9w s to d true z;generalize inE s to true z d=z2 at *;refine kR1 hlt D5i fun K2 u2=>?_;refine gI u2 ?_;clear u2 K2;refine sK fun K2 u2=>?_;refine AWp.bb ?_
   (refine lG D5i [] 8 [] fun K z=>?_;refine ev ?_;refine ci (A0w hd) ?_;refine cc hc ?_;apply z;clear z K;try simp only [A0c,A0e])
   refine u2 _ _ ?_;clear u2 K2
   (refine lV D5i fun K z=>?_;refine cl ?_;apply z;clear z K;try simp only [A0c,])
   exact⟨z2,⟨hI,by omega⟩,sS,by simp [ble,A0h]⟩
  intro z hI;obtain⟨hI,_⟩:=hI;rw [List.drop_length,F2v] at hI;subst hI;refine kR1 Int.lt_irrefl D5i fun K2 u2=>?_;refine AWp.ss rfl ?_;simp only [TB];refine u1 _ _ ?_;clear u2 K2 u1 K1;refine sR D5i ?_;exact aR
 by_cases ha:t.args=[]
 ·have hz:((t.args.length:Nat):Int)=0:=by rw [ha];rfl
  refine AWp.bb (AWp.ii s (X:=Unit) (fun j _=>[(0,B3h l),(1,vrV s),(4,A0m b),(7,.box 7 0),(8,.box 8 0),(11,A0g j)])
   (fun j _=>[(7,.cells (noS to)),(8,.cells [.d (.str t.name),.d (.slice (tyR t.args)),.d (.int .i64 t.pos)])])
   (fun j _=>D8k s t.name=D8k (s.drop j) t.name) () rfl sS sB ?_ ?_)
  rotate_left
  ·intro j _ v hv hmem dp tk hlt hI;have hj:=(List.getElem?_eq_some_iff.1 hv).1;rw [dp] at hI;unfold D8k at hI;rw [List.find?_cons] at hI;refine sK fun K2 u2=>?_
   (refine sQ D5i fun K z=>?_;simp -implicitDefEqProofs only [EV,Nat.reduceEqDiff,reduceCtorEq,B1i,A6s,E3p,hlt,hz,C2s];apply z;clear z K)
   refine gI u2 ?_;clear u2 K2;refine sK fun K2 u2=>?_;refine AWp.bb ?_;by_cases hn:v.name=t.name
   ·rw [decide_eq_true hn] at hI;have hI2:D8k s t.name=some v:=hI;have hp:=F4r l ⟨v.node,to,b⟩ (by omega);rw [ha,List.isEmpty_nil,if_pos rfl,hI2];simp only;generalize F6w l ⟨v.node,to,b⟩=z at *
    (refine sG D5i [] 7 [] fun K z=>?_;refine ev ?_;refine⟨by omega,_,D7d hv,rfl,?_⟩;(try simp -implicitDefEqProofs only [EV,Nat.reduceEqDiff,reduceCtorEq,TF9,A6s,hn,vaC]);apply z;clear z K)
    refine AWp.tt rfl ?_
    (refine sG D5i [] 9 [] fun K z=>?_;refine ev ?_;refine⟨by omega,_,D7d hv,rfl,?_⟩;(try simp -implicitDefEqProofs only [EV,Nat.reduceAdd,Nat.reduceEqDiff,Nat.reduceLeDiff,reduceCtorEq,A6n,A5m,vaC]);refine⟨_,.inl ⟨_,rfl,hp,rfl⟩,?_⟩;(try simp -implicitDefEqProofs only [EV,forall_const,implies_true,Nat.reduceAdd,Nat.reduceEqDiff,Nat.reduceBEq,Nat.reduceLeDiff,Nat.reduceSub,Nat.reduceMul,Int.reduceEq,Int.reduceLT,Int.reduceLE,Int.reduceSub,Int.reduceAdd,Int.reduceToNat,reduceCtorEq,Int.reduceNeg,TF3,TF4,TF9,B1i,A6s,A6n,A5m,E3p,G2r,vaC]);apply z;clear z K)
    exact aR
   ·rw [decide_eq_false hn] at hI
    (refine sG D5i [] 7 [] fun K z=>?_;refine ev ?_;refine⟨by omega,_,D7d hv,rfl,?_⟩;(try simp -implicitDefEqProofs only [EV,Nat.reduceEqDiff,reduceCtorEq,TF9,A6s,hn,vaC]);apply z;clear z K)
    refine AWp.ff rfl (AWp.kk (u2 _ _ ?_));clear u2 K2;refine lT D5i ?_;exact⟨(),hI,sS,by simp [ble,A0h]⟩
  intro _ hI;rw [List.drop_length] at hI;refine sK fun K2 u2=>?_
  (refine sQ D5i fun K z=>?_;simp -implicitDefEqProofs only [EV,Nat.reduceEqDiff,reduceCtorEq,E3p,Int.lt_irrefl,C2s];apply z;clear z K)
  refine AWp.ss rfl ?_;simp only [TB];exact fin (by rw [ha,List.isEmpty_nil,if_pos rfl,hI];rfl) _ _ sS sB
 ·have hz:¬ ((t.args.length:Nat):Int)=0:=by
   intro h;exact ha (List.length_eq_zero_iff.1 (by omega))
  refine AWp.bb (AWp.loop (X:=Unit) (fun _=>[(0,B3h l),(1,vrV s),(4,A0m b),(7,.box 7 0),(8,.box 8 0),(11,A0g 0)])
   (fun _=>[(7,.cells (noS to)),(8,.cells [.d (.str t.name),.d (.slice (tyR t.args)),.d (.int .i64 t.pos)])])
   (fun _=>True) (fun _=>0) () trivial sS sB ?_)
  intro _ _;refine sK fun K2 u2=>?_;by_cases h0:(0:Int) < (s.length:Int)
  ·(refine sQ D5i fun K z=>?_;simp -implicitDefEqProofs only [EV,Nat.reduceEqDiff,reduceCtorEq,B1i,A6s,E3p,h0,hz,C2s];apply z;clear z K)
   refine AWp.ss rfl ?_;simp only [TB];exact fin (by rw [if_neg (by rw [List.isEmpty_iff];exact ha)]) _ _ sS sB
  ·(refine sQ D5i fun K z=>?_;simp -implicitDefEqProofs only [EV,Nat.reduceEqDiff,reduceCtorEq,E3p,h0,C2s];apply z;clear z K)
   refine AWp.ss rfl ?_;simp only [TB];exact fin (by rw [if_neg (by rw [List.isEmpty_iff];exact ha)]) _ _ sS sB
theorem E0t (s:List VarT)(m:Bool)(own:Str)(i:Nat)(l:List EdgeT)(t:Ty):E2n s m own i l t=A3v s false t.name 0 (inE s ⟨m,own,i⟩ false l t) t.args:=by cases t;rw [E2n];rfl
theorem G3c (x:Nat):x≤x*x:=by
 cases x with
 | zero=>simp
 | succ n=>exact Nat.le_mul_of_pos_left _ (by omega)
abbrev F7t:List Nat:=[0,1,2,3,4,10,11,15]
theorem E2p (s:List VarT)(hs:s.length≤10*sm):∀ (t:Ty)(m:Bool)(own:Str)(l:List EdgeT),l.length+Ty.tlenL t.args*Ty.tlenL t.args≤1000000000000→A0a Tryz.prog 181 [B3h l,vrV s,A0m m,A2d own,A3s t.args] (B3h (A3v s m own 0 l t.args)):=by
 intro t
 induction t using Ty.induct with
 | h t ih =>
 intro m own l hl;have hal:=C3j t.args;have hsq:=G3c (Ty.tlenL t.args);generalize t.args=a at *;have hR:∃ R,A3v s m own 0 l a=R:=⟨_,rfl⟩;obtain⟨R,hR⟩:=hR;rw [hR];refine cB Tryz.func181 ?_;refine sR F7t ?_;refine kR F7t fun K1 u1=>?_;refine AWp.bb (AWp.ii a (X:=List EdgeT) (fun j z=>[(0,B3h z),(1,vrV s),(2,A0m m),(3,A2d own),(4,A3s a),(11,A0g j)]) (fun j z=>[])
  (fun j z=>A3v s m own j z (a.drop j)=R∧z.length+Ty.tlenL (a.drop j)*Ty.tlenL (a.drop j)≤1000000000000) l ⟨hR,by simpa using hl⟩ sS (by simp [ble]) ?_ ?_)
 rotate_left
 ·intro j z d hd hmem dp tk hlt hI;obtain⟨hI,hz⟩:=hI;have hj:=(List.getElem?_eq_some_iff.1 hd).1;rw [dp,A3v,E0t] at hI;rw [dp,Ty.tlenL] at hz;have h1:=A9i d.tlen (Ty.tlenL (a.drop (j+1)));have h2:=G3c d.tlen;have h3:=C9w s ⟨m,own,j⟩ d false z;have hc1:=G0f s hs ⟨m,own,j⟩ d false z (by omega);have h4:=D4o s d m own j z;rw [E0t] at h4;generalize hz1:inE s ⟨m,own,j⟩ false z d=z1 at *;have h5:d.tlen=d.name.length+4+Ty.tlenL d.args:=Ty.tlen_eq d;have h6:d.tlen+Ty.tlenL d.args*Ty.tlenL d.args≤d.tlen*d.tlen:=by
   generalize Ty.tlenL d.args=y at *;generalize d.tlen=x at *;have g6:x*(y+4)≤x*x:=Nat.mul_le_mul_left _ (by omega);have g7:x*(y+4)=x*y+x*4:=Nat.mul_add _ _ _;have g8:y*y≤x*y:=Nat.mul_le_mul_right _ (by omega);omega
  have hc2:=ih d hmem false d.name z1 (by omega);generalize A3v s false d.name 0 z1 d.args=z2 at *;refine kR1 hlt F7t fun K2 u2=>?_;refine gI u2 ?_;clear u2 K2;refine sK fun K2 u2=>?_;refine AWp.bb ?_
  (refine sV F7t fun K z=>?_;refine ci (A0w hd) ?_;refine cc hc1 ?_;apply z;clear z K)
  (refine lG F7t [] 12 [] fun K z=>?_;refine ev ?_;refine ci (A0w hd) ?_;refine ci (A0w hd) ?_;refine cc hc2 ?_;apply z;clear z K;try simp only [A0c,A0e])
  refine u2 _ _ ?_;clear u2 K2
  (refine lV F7t fun K z=>?_;refine cl ?_;apply z;clear z K;try simp only [A0c,])
  exact⟨z2,⟨hI,by omega⟩,sS,by simp [ble]⟩
 intro z hI;obtain⟨hI,_⟩:=hI;rw [List.drop_length,A3v] at hI;subst hI;refine kR1 Int.lt_irrefl F7t fun K2 u2=>?_;refine AWp.ss rfl ?_;simp only [TB];refine u1 _ _ ?_;clear u2 K2 u1 K1;refine sR F7t ?_;exact aR
theorem B1x (s:List VarT)(hs:s.length≤10*sm)(m:Bool)(own:Str)(a:List Ty)(l:List EdgeT)(h:l.length+Ty.tlenL a*Ty.tlenL a≤1000000000000):A0a Tryz.prog 181 [B3h l,vrV s,A0m m,A2d own,A3s a] (B3h (A3v s m own 0 l a)) :=
 E2p s hs (.mk [] a 0) m own l h
end Go.Abs
