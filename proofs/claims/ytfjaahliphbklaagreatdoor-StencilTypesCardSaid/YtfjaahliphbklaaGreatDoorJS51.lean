/- castingsref06.RightDecl, Right -/
import Derived.Test.YtfjaahliphbklaaGreatDoorJS36
import Derived.Test.YtfjaahliphbklaaGreatDoorJS25
namespace Go.Abs
set_option linter.unusedSimpArgs false
set_option linter.unusedVariables false
open Go Go.Proofs Tryz
set_option maxRecDepth 100000
set_option maxHeartbeats 1000000
def Decl.noneB (d:Decl):Bool:=decide (d.recv=[]) && (decide (d.vars.length=0) && (A6i d.sig D6a && D3r d.body ex0))
def Decl.right3 (d:Decl):Bool:=if d.kind=3 then A2g d.recv && (decide ((d.formals.length:Int)+(d.fields.length:Int)+(d.sigs.length:Int)=0) && (d.sig.right && d.body.right))
 else d.noneB && ((decide (d.kind=1) && decide (d.sigs.length=0)) || (decide (d.kind=2) && decide (d.fields.length=0)))
def Decl.right (d:Decl):Bool:=A2g d.name && (A6e d.formals && (A4z d.fields && (d.sigs.all Sig.right && (d.vars.all A2g && d.right3))))
abbrev q1V:List Nat:=[0,1,2,3,4,5,21,26,35,40,49,52]
set_option maxHeartbeats 4000000 in
theorem D4a (d:Decl)(h:d.Sm)(hn:d.Nn):A0a prog 44 [deV d] (A0m d.right):=by
 have h1:=C4o d.name;have h2:=B1t d.formals hn.formals;have h3:=B3x d.fields hn.fields;have hl1:=h.formals.1;have hl2:=h.fields.1;have hl3:=h.sigs.1;have hl4:=h.vars.1;unfold Decl.right;refine cB func44 ?_;refine sR q1V ?_
 (refine AWp.zz 1 rfl rfl (wk [(1,.dptr (deC d) 0)] [] ?_))
 refine sK fun K1 u1=>?_;rcases Bool.eq_false_or_eq_true (A2g d.name) with b1 | b1
 rotate_left
 ·rw [b1] at h1;rw [b1,Bool.false_and];refine sC h1 q1V ?_;refine tI ?_;refine sR q1V ?_;exact aR
 rcases Bool.eq_false_or_eq_true (A6e d.formals) with b2 | b2;rotate_left
 ·rw [b1] at h1;rw [b2] at h2;rw [b1,b2,Bool.false_and,Bool.true_and]
  (refine sV q1V fun K z=>?_;refine cc h1 ?_;refine cc h2 ?_;apply z;clear z K)
  refine tI ?_;refine sR q1V ?_;exact aR
 rcases Bool.eq_false_or_eq_true (A4z d.fields) with b3 | b3;rotate_left
 ·rw [b1] at h1;rw [b2] at h2;rw [b3] at h3;rw [b1,b2,b3,Bool.false_and,Bool.true_and,Bool.true_and]
  (refine sV q1V fun K z=>?_;refine cc h1 ?_;refine cc h2 ?_;refine cc h3 ?_;apply z;clear z K)
  refine tI ?_;refine sR q1V ?_;exact aR
 rw [b1] at h1;rw [b2] at h2;rw [b3] at h3;rw [b1,b2,b3,Bool.true_and,Bool.true_and,Bool.true_and] at u1 ⊢
 (refine sV q1V fun K z=>?_;refine cc h1 ?_;refine cc h2 ?_;refine cc h3 ?_;apply z;clear z K)
 refine kI u1 ?_;clear u1 K1 h1 h2 h3 b1 b2 b3;refine kR q1V fun K1 u1=>?_;refine AWp.bb (AWp.ii d.sigs (X:=Unit) (fun j _=>[(1,.dptr (deC d) 0),(3,A0g j)]) (fun _ _=>[])
  (fun j _=>(d.sigs.drop j).all Sig.right=d.sigs.all Sig.right) () rfl (by simp [sle,vle,A0k,deC]) sB ?_ ?_)
 rotate_left
 ·intro j _ s hd hmem dp tk hlt hI;rw [dp,List.all_cons] at hI;refine kR1 hlt q1V fun K2 u2=>?_;refine gI u2 ?_;clear u2 K2;refine sK fun K2 u2=>?_;refine AWp.bb ?_
  (refine sV q1V fun K z=>?_;refine ci (A0n hd) ?_;refine cc (C2d s (hn.sigs s hmem)) ?_;apply z;clear z K)
  refine AWp.cond rfl (fun hc=>?_) (fun hc=>?_)
  ·refine sR q1V ?_;simp only [Bool.not_eq_true'] at hc;rw [hc,Bool.false_and] at hI;rw [← hI,Bool.false_and];exact aR
  simp only [Bool.not_eq_false'] at hc;rw [hc,Bool.true_and] at hI;refine AWp.kk (u2 _ _ ?_);clear u2 K2;refine lT q1V ?_;exact⟨(),hI,(by simp [sle,vle,A0k,deC]),sB⟩
 intro _ hI;rw [List.drop_length,List.all_nil] at hI;rw [← hI,Bool.true_and] at u1 ⊢;clear hI;refine kR1 Int.lt_irrefl q1V fun K2 u2=>?_;refine AWp.ss rfl ?_;simp only [TB];refine u1 _ _ ?_;clear u2 K2 u1 K1;refine kR q1V fun K1 u1=>?_;refine AWp.bb (AWp.ii d.vars (X:=Unit) (fun j _=>[(1,.dptr (deC d) 0),(4,A0g j)]) (fun _ _=>[])
  (fun j _=>(d.vars.drop j).all A2g=d.vars.all A2g) () rfl (by simp [sle,vle,A0k,deC]) sB ?_ ?_)
 rotate_left
 ·intro j _ s hd hmem dp tk hlt hI;rw [dp,List.all_cons] at hI;refine kR1 hlt q1V fun K2 u2=>?_;refine gI u2 ?_;clear u2 K2;refine sK fun K2 u2=>?_;refine AWp.bb ?_
  (refine sV q1V fun K z=>?_;refine ci (A2b hd) ?_;refine cc (C4o s) ?_;apply z;clear z K)
  refine AWp.cond rfl (fun hc=>?_) (fun hc=>?_)
  ·refine sR q1V ?_;simp only [Bool.not_eq_true'] at hc;rw [hc,Bool.false_and] at hI;rw [← hI,Bool.false_and];exact aR
  simp only [Bool.not_eq_false'] at hc;rw [hc,Bool.true_and] at hI;refine AWp.kk (u2 _ _ ?_);clear u2 K2;refine lT q1V ?_;exact⟨(),hI,(by simp [sle,vle,A0k,deC]),sB⟩
 intro _ hI;rw [List.drop_length,List.all_nil] at hI;rw [← hI,Bool.true_and] at u1 ⊢;clear hI;refine kR1 Int.lt_irrefl q1V fun K2 u2=>?_;refine AWp.ss rfl ?_;simp only [TB];refine u1 _ _ ?_;clear u2 K2 u1 K1;unfold Decl.right3;by_cases k3:d.kind=3
 ·rw [if_pos k3];refine sK fun K1 u1=>?_;have h1:=C4o d.recv;have h3:=C2d d.sig hn.sig;have h4:=C5x d.body hn.body;refine sR1 k3 q1V ?_;refine tI ?_;rcases Bool.eq_false_or_eq_true (A2g d.recv) with b1 | b1
  rotate_left
  ·rw [b1] at h1;rw [b1,Bool.false_and];refine sC h1 q1V ?_;exact aR
  rw [b1] at h1;rw [b1,Bool.true_and];by_cases hz:(d.formals.length:Int)+(d.fields.length:Int)+(d.sigs.length:Int)=0;rotate_left
  ·rw [decide_eq_false hz,Bool.false_and]
   (refine sV q1V fun K z=>?_;refine⟨_,.inl ⟨_,rfl,h1,rfl⟩,?_⟩;(try refine ev1 hz ?_);refine⟨by first | (unfold InR;omega) | (simp only [InR,sm] at *;omega),?_⟩;(try refine ev1 hz ?_);refine⟨by first | (unfold InR;omega) | (simp only [InR,sm] at *;omega),?_⟩;(try refine ev1 hz ?_);apply z;clear z K)
   exact aR
  rw [decide_eq_true hz,Bool.true_and];rcases Bool.eq_false_or_eq_true d.sig.right with b3 | b3
  rotate_left
  ·rw [b3] at h3;rw [b3,Bool.false_and]
   (refine sV q1V fun K z=>?_;refine⟨_,.inl ⟨_,rfl,h1,rfl⟩,?_⟩;(try refine ev1 hz ?_);refine⟨by first | (unfold InR;omega) | (simp only [InR,sm,lim] at *;omega),?_⟩;(try refine ev1 hz ?_);refine⟨by first | (unfold InR;omega) | (simp only [InR,sm,lim] at *;omega),?_⟩;(try refine ev1 hz ?_);refine cc h3 ?_;apply z;clear z K)
   exact aR
  rw [b3] at h3;rw [b3,Bool.true_and]
  (refine sV q1V fun K z=>?_;refine⟨_,.inl ⟨_,rfl,h1,rfl⟩,?_⟩;(try refine ev1 hz ?_);refine⟨by first | (unfold InR;omega) | (simp only [InR,sm,lim] at *;omega),?_⟩;(try refine ev1 hz ?_);refine⟨by first | (unfold InR;omega) | (simp only [InR,sm,lim] at *;omega),?_⟩;(try refine ev1 hz ?_);refine cc h3 ?_;refine cc h4 ?_;apply z;clear z K)
  exact aR
 rw [if_neg k3];refine kR1 k3 q1V fun K1 u1=>?_;refine kI u1 ?_;clear u1 K1;refine sK fun K1 u1=>?_;have rest:∀ sl bx,sle sl [(1,.dptr (deC d) 0),(5,A0m d.noneB)]→K1 sl bx:=by
  intro sl bx hsl;refine u1 _ _ (AWp.ww (bx':=[]) hsl trivial ?_);clear u1 K1;rcases Bool.eq_false_or_eq_true d.noneB with b | b
  rotate_left
  ·rw [b,Bool.false_and];refine sR q1V ?_;exact aR
  rw [b,Bool.true_and];by_cases k1:d.kind=1
  ·have k2:¬ d.kind=2:=by omega
   rw [decide_eq_true k1,Bool.true_and,decide_eq_false k2,Bool.false_and,Bool.or_false];by_cases hs:d.sigs.length=0
   ·have hs':(d.sigs.length:Int)=0:=by omega
    rw [decide_eq_true hs];refine sR2 k1 hs' q1V ?_;exact aR
   ·have hs':¬ (d.sigs.length:Int)=0:=by omega
    have k12:¬ (1:Int)=2:=by omega
    rw [decide_eq_false hs];refine sR3 k1 hs' k12 q1V ?_;exact aR
  rw [decide_eq_false k1,Bool.false_and,Bool.false_or];by_cases k2:d.kind=2
  ·rw [decide_eq_true k2,Bool.true_and];have k21:¬ (2:Int)=1:=by omega
   have e:decide (d.fields.length=0)=decide ((d.fields.length:Int)=0):=by
    by_cases hf:d.fields.length=0
    ·rw [decide_eq_true hf,decide_eq_true (by omega)]
    ·rw [decide_eq_false hf,decide_eq_false (by omega)]
   rw [e];refine sR2 k2 k21 q1V ?_;exact aR
  ·rw [decide_eq_false k2,Bool.false_and];refine sR2 k1 k2 q1V ?_;exact aR
 have h3:=F0g d.sig D6a h.sig;have h4:=E6c d.body h.body ex0;unfold Decl.noneB at rest;by_cases hr:d.recv=[];rotate_left
 ·rw [decide_eq_false hr,Bool.false_and] at rest
  (refine lQ q1V fun K z=>?_;refine ev1 hr ?_;apply z;clear z K;try simp only [A0c,])
  exact rest _ _ (by simp [sle,vle,A0k,deC])
 have br:decide (d.recv=[])=true:=decide_eq_true hr;rw [br,Bool.true_and] at rest;by_cases hv:d.vars.length=0;rotate_left
 ·have hv':¬ (d.vars.length:Int)=0:=by omega
  rw [decide_eq_false hv,Bool.false_and] at rest
  (refine lQ q1V fun K z=>?_;refine ev2 br hv' ?_;apply z;clear z K;try simp only [A0c,])
  exact rest _ _ (by simp [sle,vle,A0k,deC])
 have hv':(d.vars.length:Int)=0:=by omega
 rw [decide_eq_true hv,Bool.true_and] at rest;rcases Bool.eq_false_or_eq_true (A6i d.sig D6a) with b3 | b3
 rotate_left
 ·rw [b3] at h3 rest;rw [Bool.false_and] at rest
  (refine lQ q1V fun K z=>?_;refine ev2 br hv' ?_;refine cc h3 ?_;apply z;clear z K;try simp only [A0c,])
  exact rest _ _ (by simp [sle,vle,A0k,deC])
 rw [b3] at h3 rest;rw [Bool.true_and] at rest
 (refine lQ q1V fun K z=>?_;refine ev2 br hv' ?_;refine cc h3 ?_;refine cc h4 ?_;apply z;clear z K;try simp only [A0c,])
 exact rest _ _ (by simp [sle,vle,A0k,deC])
def Prog.right (p:Prog):Bool:=p.decls.all Decl.right && p.main.right
abbrev q2V:List Nat:=[0,1,2,3,8,17]
theorem E2u (p:Prog)(h:p.Sm)(hn:p.Nn):A0a prog 16 [prV p] (A0m p.right):=by
 have hm:=C5x p.main hn.main;have hpl:=h.decls.1;unfold Prog.right;refine cB func16 ?_;refine sR q2V ?_
 (refine AWp.zz 1 rfl rfl (wk [(1,.dptr (prC p) 0)] [] ?_))
 refine kR q2V fun K1 u1=>?_;refine AWp.bb (AWp.ii p.decls (X:=Unit) (fun j _=>[(1,.dptr (prC p) 0),(3,A0g j)]) (fun _ _=>[])
  (fun j _=>(p.decls.drop j).all Decl.right=p.decls.all Decl.right) () rfl (by simp [sle,vle,A0k,prC]) sB ?_ ?_)
 rotate_left
 ·intro j _ s hd hmem dp tk hlt hI;rw [dp,List.all_cons] at hI;refine kR1 hlt q2V fun K2 u2=>?_;refine gI u2 ?_;clear u2 K2;refine sK fun K2 u2=>?_;refine AWp.bb ?_
  (refine sV q2V fun K z=>?_;refine ci (A0t hd) ?_;refine cc (D4a s (h.decls.2 s hmem) (hn.decls s hmem)) ?_;apply z;clear z K)
  refine AWp.cond rfl (fun hc=>?_) (fun hc=>?_)
  ·refine sR q2V ?_;simp only [Bool.not_eq_true'] at hc;rw [hc,Bool.false_and] at hI;rw [← hI,Bool.false_and];exact aR
  simp only [Bool.not_eq_false'] at hc;rw [hc,Bool.true_and] at hI;refine AWp.kk (u2 _ _ ?_);clear u2 K2;refine lT q2V ?_;exact⟨(),hI,(by simp [sle,vle,A0k,prC]),sB⟩
 intro _ hI;rw [List.drop_length,List.all_nil] at hI;rw [← hI,Bool.true_and] at u1 ⊢;clear hI;refine kR1 Int.lt_irrefl q2V fun K2 u2=>?_;refine AWp.ss rfl ?_;simp only [TB];refine u1 _ _ ?_;refine sC hm q2V ?_;exact aR
structure Res where
 pos:Int
 bad:Bool
 large:Bool
def E3o:Res:=⟨0,false,false⟩
def C9h (n:Int):Res:=⟨n,true,false⟩
def B5c:Option Int→Res
 | none=>E3o
 | some q=>C9h q
abbrev rsV (r:Res):SV:=.agg [.d (.int .i64 r.pos),.d (.bool r.bad),.d (.bool r.large)]
abbrev rs0:BoxC:=.cells [.d (.int .i64 0),.d (.bool false),.d (.bool false)]
theorem D5u (a b:List Formal)(ha:a.length≤sm)(hb:b.length≤sm):A0a prog 220 [.d (.slice (foR a)),.d (.slice (foR b))] (.d (.slice (foR (a++b)))):=by
 rw [show foR (a++b)=foR a++foR b by simp [foR]];refine cB func220 ?_;refine sR [0,1,4] ?_
 (refine AWp.seqR [0,1,4,5] [5] (by decide +kernel) fun K z=>?_;refine ev ?_;refine⟨C8i _,by unfold lim sm at *;omega,?_⟩;(try refine ev ?_);refine⟨C8i _,by unfold lim sm at *;omega,?_⟩;(try refine ev ?_);apply z;clear z K)
 exact aR
def C5s (p:Prog)(pre:List Formal):List Formal→Option Int
 | []=>none
 | f::fs=>if A1z p f.name≠0∨f.name∈A0d pre then some f.pos else C5s p (pre++[f]) fs
def C6f (p:Prog)(all:List Formal):List Formal→Option Int
 | []=>none
 | f::fs=>match chk p all f.bound with
  | some q=>some q
  | none=>if A8n p all f.bound=true then C6f p all fs else some f.bound.pos
def B2q (p:Prog)(env l:List Formal):Option Int:=match C5s p env l with
 | some q=>some q
 | none=>C6f p (env++l) l
abbrev q1Y:List Nat:=[0,1,2,3,6,7,8,9,10,11,12,16,41,54,68,79]
theorem B8z (p:Prog)(h:p.Sm)(env l:List Formal)(hll:env.length+l.length≤sm)(he:∀ f,f∈env→f.Sm)(hl:∀ f,f∈l→f.Sm) :
  A0a prog 170 [prV p,.d (.slice (foR env)),.d (.slice (foR l))] (rsV (B5c (B2q p env l))):=by
 have hall:∀ f,f∈env++l→f.Sm:=fun f hf=>by
  rcases List.mem_append.1 hf with h | h
  ·exact he f h
  ·exact hl f h
 have hjn:=D5u env l (by omega) (by omega);unfold B2q;refine cB func170 ?_;refine sR q1Y ?_
 (refine AWp.zz 3 rfl rfl (wk [(1,.d (.slice (foR env))),(2,.d (.slice (foR l))),(3,.dptr (prC p) 0),(6,.box 6 0)] [(6,rs0)] ?_))
 refine kR q1Y fun K1 u1=>?_;refine AWp.bb (AWp.ii l (X:=Unit) (fun j _=>[(1,.d (.slice (foR env))),(2,.d (.slice (foR l))),(3,.dptr (prC p) 0),(6,.box 6 0),(7,A0g j)]) (fun _ _=>[(6,rs0)])
  (fun j _=>C5s p (env++l.take j) (l.drop j)=C5s p env l) () (by simp) (by simp [sle,vle,A0k,prC]) sB ?_ ?_)
 rotate_left
 ·intro j _ d hd hmem dp tk hlt hI;rw [dp,C5s] at hI;have hj:A0a prog 220 [.d (.slice (foR env)),.d (.slice ((foR l).take j))] (.d (.slice (foR (env++l.take j)))):=by
   rw [show (foR l).take j=foR (l.take j) by simp [foR,List.map_take]];exact D5u env (l.take j) (by omega) (by rw [List.length_take];omega)
  have hnm:=A1u (env++l.take j) (by rw [List.length_append,List.length_take];omega);have hk:=B7e p d.name;have hin:=E4b (A0d (env++l.take j)) d.name;refine kR1 hlt q1Y fun K2 u2=>?_;refine gI u2 ?_;clear u2 K2;refine sK fun K2 u2=>?_;refine AWp.bb ?_
  (refine sV q1Y fun K z=>?_;refine⟨C8i _,by omega,by omega,?_⟩;(try refine ev ?_);refine cc hj ?_;refine cc hnm ?_;apply z;clear z K)
  by_cases hk0:A1z p d.name=0;rotate_left
  ·rw [if_pos (.inl hk0)] at hI;rw [← hI]
   (refine sG q1Y [] 15 [] fun K z=>?_;refine ev ?_;refine ci (A0v hd) ?_;refine⟨_,.inl ⟨_,rfl,hk,rfl⟩,?_⟩;(try refine ev1 hk0 ?_);apply z;clear z K)
   refine AWp.tt rfl ?_
   (refine sV q1Y fun K z=>?_;refine ci (A0v hd) ?_;apply z;clear z K)
   exact aR
  by_cases hm:d.name∈A0d (env++l.take j)
  ·rw [if_pos (.inr hm)] at hI;rw [← hI];rw [decide_eq_true hm] at hin
   (refine sG q1Y [] 15 [] fun K z=>?_;refine ev ?_;refine ci (A0v hd) ?_;refine⟨_,.inl ⟨_,rfl,hk,rfl⟩,?_⟩;(try refine ev1 hk0 ?_);refine ci (A0v hd) ?_;refine cc hin ?_;apply z;clear z K)
   refine AWp.tt rfl ?_
   (refine sV q1Y fun K z=>?_;refine ci (A0v hd) ?_;apply z;clear z K)
   exact aR
  rw [if_neg (by rintro (h | h);exact h hk0;exact hm h)] at hI;rw [decide_eq_false hm] at hin
  (refine sG q1Y [] 15 [] fun K z=>?_;refine ev ?_;refine ci (A0v hd) ?_;refine⟨_,.inl ⟨_,rfl,hk,rfl⟩,?_⟩;(try refine ev1 hk0 ?_);refine ci (A0v hd) ?_;refine cc hin ?_;apply z;clear z K)
  refine AWp.ff rfl (AWp.kk (u2 _ _ ?_));clear u2 K2;refine lT q1Y ?_;exact⟨(),by rw [tk,← List.append_assoc];exact hI,(by simp [sle,vle,A0k,prC]),sB⟩
 intro _ hI;rw [List.drop_length,C5s] at hI;rw [← hI] at u1 ⊢;simp only;clear hI;refine kR1 Int.lt_irrefl q1Y fun K2 u2=>?_;refine AWp.ss rfl ?_;simp only [TB];refine u1 _ _ ?_;clear u2 K2 u1 K1;refine sC hjn q1Y ?_;refine kR q1Y fun K1 u1=>?_;refine AWp.bb (AWp.ii l (X:=Unit) (fun j _=>[(2,.d (.slice (foR l))),(3,.dptr (prC p) 0),(6,.box 6 0),(9,.d (.slice (foR (env++l)))),(10,A0g j)]) (fun _ _=>[(6,rs0)])
  (fun j _=>C6f p (env++l) (l.drop j)=C6f p (env++l) l) () rfl (by simp [sle,vle,A0k,prC]) sB ?_ ?_)
 rotate_left
 ·intro j _ d hd hmem dp tk hlt hI;rw [dp,C6f] at hI;have hc:=A9a p h (env++l) (by rw [List.length_append];omega) hall d.bound (hl d hmem).bound;have hif:=B1u p (env++l) (by rw [List.length_append];omega) d.bound;refine kR1 hlt q1Y fun K2 u2=>?_;refine gI u2 ?_;clear u2 K2;refine sK fun K2 u2=>?_;refine AWp.bb ?_;cases hq:chk p (env++l) d.bound with
  | some q =>
   rw [hq] at hI hc;simp only [E4t] at hc;rw [← hI]
   (refine sG q1Y [] 12 [] fun K z=>?_;refine ev ?_;refine ci (A0v hd) ?_;refine cc hc ?_;apply z;clear z K)
   refine kR q1Y fun K3 u3=>?_;refine tI ?_;refine sR q1Y ?_;exact aR
  | none =>
   rw [hq] at hI hc;simp only [E4t] at hc;simp only at hI
   (refine sG q1Y [] 12 [] fun K z=>?_;refine ev ?_;refine ci (A0v hd) ?_;refine cc hc ?_;apply z;clear z K)
   refine kR q1Y fun K3 u3=>?_;refine kI u3 ?_;clear u3 K3;rcases Bool.eq_false_or_eq_true (A8n p (env++l) d.bound) with hb | hb
   ·rw [if_pos hb] at hI;rw [hb] at hif
    (refine sG q1Y [] 7 [] fun K z=>?_;refine ev ?_;refine ci (A0v hd) ?_;refine cc hif ?_;apply z;clear z K)
    refine AWp.ff rfl (AWp.kk (u2 _ _ ?_));clear u2 K2;refine lT q1Y ?_;exact⟨(),hI,(by simp [sle,vle,A0k,prC]),sB⟩
   ·rw [if_neg (by simp [hb])] at hI;rw [← hI];rw [hb] at hif
    (refine sG q1Y [] 7 [] fun K z=>?_;refine ev ?_;refine ci (A0v hd) ?_;refine cc hif ?_;apply z;clear z K)
    refine AWp.tt rfl ?_
    (refine sV q1Y fun K z=>?_;refine ci (A0v hd) ?_;apply z;clear z K)
    exact aR
 intro _ hI;rw [List.drop_length,C6f] at hI;rw [← hI] at u1 ⊢;clear hI;refine kR1 Int.lt_irrefl q1Y fun K2 u2=>?_;refine AWp.ss rfl ?_;simp only [TB];refine u1 _ _ ?_;refine sR q1Y ?_;exact aR
def F2z (p:Prog)(env:List Formal)(pre:List Str):List Param→Option Int
 | []=>none
 | f::fs=>if f.name∈pre then some f.pos else match chk p env f.type with
  | some q=>some q
  | none=>F2z p env (pre++[f.name]) fs
abbrev q2Y:List Nat:=[0,1,2,3,6,7,8,9,10,14,23,49]
theorem C2p (p:Prog)(h:p.Sm)(env:List Formal)(hel:env.length≤sm)(he:∀ f,f∈env→f.Sm)(l:List Param)(hll:l.length≤sm)(hl:∀ f,f∈l→f.Sm) :
  A0a prog 171 [prV p,.d (.slice (foR env)),.d (.slice (paR l))] (rsV (B5c (F2z p env [] l))):=by
 refine cB func171 ?_;refine sR q2Y ?_
 (refine AWp.zz 3 rfl rfl (wk [(1,.d (.slice (foR env))),(2,.d (.slice (paR l))),(3,.dptr (prC p) 0),(6,.box 6 0)] [(6,rs0)] ?_))
 refine sR q2Y ?_;refine AWp.pp 7 1 7 rfl ?_;refine kR q2Y fun K1 u1=>?_;refine AWp.bb (AWp.ii l (X:=Unit) (fun j _=>[(1,.d (.slice (foR env))),(2,.d (.slice (paR l))),(3,.dptr (prC p) 0),(6,.box 6 0),(7,.acc 7),(8,A0g j)]) (fun j _=>[(6,rs0),(7,.rows 1 (A2x ((l.take j).map (·.name))))])
  (fun j _=>F2z p env ((l.take j).map (·.name)) (l.drop j)=F2z p env [] l) () rfl (by simp [sle,vle,A0k,prC]) (by simp [ble,A0h,A2x]) ?_ ?_)
 rotate_left
 ·intro j _ d hd hmem dp tk hlt hI;rw [dp,F2z] at hI;have hin:=E4b ((l.take j).map (·.name)) d.name;have hc:=A9a p h env hel he d.type (hl d hmem).type;refine kR1 hlt q2Y fun K2 u2=>?_;refine gI u2 ?_;clear u2 K2;refine sK fun K2 u2=>?_;refine AWp.bb ?_;refine sK fun K3 u3=>?_;by_cases hm:d.name∈(l.take j).map (·.name)
  ·rw [if_pos hm] at hI;rw [← hI];rw [decide_eq_true hm] at hin
   (refine sV q2Y fun K z=>?_;refine ci (A0r hd) ?_;refine⟨_,.inr ⟨_,rfl,hin,rfl⟩,?_⟩;(try refine ev ?_);apply z;clear z K)
   refine tI ?_
   (refine sV q2Y fun K z=>?_;refine ci (A0r hd) ?_;apply z;clear z K)
   exact aR
  rw [if_neg hm] at hI;rw [decide_eq_false hm] at hin
  (refine sV q2Y fun K z=>?_;refine ci (A0r hd) ?_;refine⟨_,.inr ⟨_,rfl,hin,rfl⟩,?_⟩;(try refine ev ?_);apply z;clear z K)
  refine kI u3 ?_;clear u3 K3
  (refine sV q2Y fun K z=>?_;refine ci (A0r hd) ?_;refine⟨by simp,by simp only [List.length_map,List.length_take];unfold lim sm at *;omega,?_⟩;(try refine ev ?_);apply z;clear z K)
  cases hq:chk p env d.type with
  | some q =>
   rw [hq] at hI hc;simp only [E4t] at hc;rw [← hI]
   (refine sG q2Y [] 12 [] fun K z=>?_;refine ev ?_;refine ci (A0r hd) ?_;refine cc hc ?_;apply z;clear z K)
   refine sR q2Y ?_;refine AWp.tt rfl ?_;refine sR q2Y ?_;exact aR
  | none =>
   rw [hq] at hI hc;simp only [E4t] at hc;simp only at hI
   (refine sG q2Y [] 12 [] fun K z=>?_;refine ev ?_;refine ci (A0r hd) ?_;refine cc hc ?_;apply z;clear z K)
   refine sR q2Y ?_;refine AWp.ff rfl (AWp.kk (u2 _ _ ?_));clear u2 K2;refine lT q2Y ?_;exact⟨(),by rw [tk,List.map_append];exact hI,(by simp [sle,vle,A0k,prC]),by rw [tk,List.map_append];simp [ble,A0h,A2x]⟩
 intro _ hI;rw [List.drop_length,F2z] at hI;rw [← hI] at u1 ⊢;clear hI;refine kR1 Int.lt_irrefl q2Y fun K2 u2=>?_;refine AWp.ss rfl ?_;simp only [TB];refine u1 _ _ ?_;refine sR q2Y ?_;exact aR
def E6f (p:Prog)(env:List Formal)(s:Sig):Option Int:=match B2q p env s.formals with
 | some q=>some q
 | none=>match F2z p (env++s.formals) [] s.params with
  | some q=>some q
  | none=>chk p (env++s.formals) s.result
abbrev q3Y:List Nat:=[0,1,2,3,5,6,7,8,9,10,22,29,39]
theorem D9f (p:Prog)(h:p.Sm)(env:List Formal)(s:Sig)(hll:env.length+s.formals.length≤sm)(he:∀ f,f∈env→f.Sm)(hs:s.Sm) :
  A0a prog 174 [prV p,.d (.slice (foR env)),siV s] (rsV (B5c (E6f p env s))):=by
 have hall:∀ f,f∈env++s.formals→f.Sm:=fun f hf=>by
  rcases List.mem_append.1 hf with h | h
  ·exact he f h
  ·exact hs.formals.2 f h
 have hal:(env++s.formals).length≤sm:=by rw [List.length_append];exact hll
 have hjn:=D5u env s.formals (by omega) (by omega);have h1:=B8z p h env s.formals hll he hs.formals.2;have h2:=C2p p h (env++s.formals) hal hall s.params hs.params.1 hs.params.2;have h3:=A9a p h (env++s.formals) hal hall s.result hs.result;generalize hR:E6f p env s=R;refine cB func174 ?_;refine sR q3Y ?_;cases hf:B2q p env s.formals with
 | some q =>
  rw [hf] at h1;obtain rfl:R=some q:=by rw [← hR];unfold E6f;rw [hf]
  refine sC h1 q3Y ?_;refine sC hjn q3Y ?_;refine kR q3Y fun K1 u1=>?_;refine AWp.ff rfl (AWp.kk (u1 _ _ ?_));clear u1 K1;refine kR q3Y fun K1 u1=>?_;refine tI ?_;refine sR q3Y ?_;exact aR
 | none =>
  rw [hf] at h1;refine sC h1 q3Y ?_;refine sC hjn q3Y ?_;refine kR q3Y fun K1 u1=>?_;cases hp:F2z p (env++s.formals) [] s.params with
  | some q =>
   rw [hp] at h2;obtain rfl:R=some q:=by rw [← hR];unfold E6f;rw [hf];simp only [hp]
   refine AWp.tt rfl ?_
   (refine lV q3Y fun K z=>?_;refine cc h2 ?_;apply z;clear z K;try simp only [A0c,])
   refine u1 _ _ ?_;clear u1 K1;refine kR q3Y fun K1 u1=>?_;refine tI ?_;refine sR q3Y ?_;exact aR
  | none =>
   rw [hp] at h2;refine AWp.tt rfl ?_
   (refine lV q3Y fun K z=>?_;refine cc h2 ?_;apply z;clear z K;try simp only [A0c,])
   refine u1 _ _ ?_;clear u1 K1;refine kR q3Y fun K1 u1=>?_;refine kI u1 ?_;clear u1 K1;cases hq:chk p (env++s.formals) s.result with
   | some q =>
    rw [hq] at h3;obtain rfl:R=some q:=by rw [← hR];unfold E6f;rw [hf];simp only [hp,hq]
    refine sC h3 q3Y ?_;refine kR q3Y fun K1 u1=>?_;refine tI ?_;refine sR q3Y ?_;exact aR
   | none =>
    rw [hq] at h3;obtain rfl:R=none:=by rw [← hR];unfold E6f;rw [hf];simp only [hp,hq]
    refine sC h3 q3Y ?_;refine kR q3Y fun K1 u1=>?_;refine kI u1 ?_;refine sR q3Y ?_;exact aR
end Go.Abs
