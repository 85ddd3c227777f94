/- castingsref05.List -/
import Derived.Test.YtfjaahliphbklaaGreatDoorJS58
namespace Go.Abs
set_option linter.unusedSimpArgs false
set_option linter.unusedVariables false
open Go Go.Proofs Tryz
set_option maxRecDepth 100000
set_option maxHeartbeats 1000000
abbrev tyS (t:Ty):List SV:=[.d (.str t.name),.d (.slice (tyR t.args)),.d (.int .i64 t.pos)]
abbrev deS (d:Decl):List SV:=[.d (.int .i64 d.kind),.d (.str d.name),.d (.slice (foR d.formals)),.d (.slice (paR d.fields)),.d (.slice (siR d.sigs)),.d (.str d.recv),.d (.slice (A2x d.vars)),.d (.str d.sig.name),.d (.slice (foR d.sig.formals)),.d (.slice (paR d.sig.params)),.d (.str d.sig.result.name),.d (.slice (tyR d.sig.result.args)),.d (.int .i64 d.sig.result.pos),.d (.int .i64 d.sig.pos),.d (.int .i64 d.body.kind),.d (.str d.body.name),.d (.str d.body.type.name),.d (.slice (tyR d.body.type.args)),.d (.int .i64 d.body.type.pos),.d (.slice (tyR d.body.targs)),.d (.slice (exR d.body.kids)),.d (.int .i64 d.body.pos),.d (.int .i64 d.pos)]
mutual
def A4p:Ex→List Ex
 | .mk k n t a ks q=>.mk k n t a ks q::A2q ks
def A2q:List Ex→List Ex
 | []=>[]
 | e::es=>A4p e++A2q es
end
theorem C7x (e:Ex):A4p e=e::A2q e.kids:=by cases e;rw [A4p];rfl
theorem A6j:∀ a b:List Ex,A2q (a++b)=A2q a++A2q b
 | [],_=>rfl
 | x::a,b=>by simp only [List.cons_append,A2q,A6j a b,List.append_assoc]
theorem C7d:∀ {l:List Ex} {x:Ex},x∈l→(A4p x).length≤(A2q l).length
 | [],_,h=>by simp at h
 | y::l,x,h=>by
  rw [A2q,List.length_append];rcases List.mem_cons.1 h with rfl | h
  ·omega
  ·have:=C7d h;omega
theorem C6e:∀ l:List Ex,l.length≤(A2q l).length
 | []=>Nat.le_refl _
 | y::l=>by have:=C6e l;rw [A2q,List.length_append,C7x];simp only [List.length_cons];omega
theorem C3m (l:List Ex)(j:Nat):(A2q (l.take j)).length≤(A2q l).length:=by
 conv=>rhs;rw [← List.take_append_drop j l,A6j,List.length_append]
 omega
theorem B5j {Q:Ex→Prop} (hq:∀ e:Ex,Q e→∀ x,x∈e.kids→Q x):∀ e:Ex,Q e→∀ x,x∈A4p e→Q x:=by
 intro e
 induction e using Ex.induct with | _ e ih=>?_
 intro he x hx;rw [C7x,List.mem_cons] at hx;rcases hx with rfl | hx
 ·exact he
 have:∀ l:List Ex,(∀ y,y∈l→y∈e.kids)→x∈A2q l→Q x:=fun l=>by
  induction l with
  | nil=>intro _ h;simp [A2q] at h
  | cons y l ihl =>
   intro hl h;rw [A2q,List.mem_append] at h;rcases h with h | h
   ·exact ih y (hl y (by simp)) (hq e he y (hl y (by simp))) x h
   ·exact ihl (fun z hz=>hl z (by simp [hz])) h
 exact this e.kids (fun _ h=>h) hx
abbrev F7o:List Nat:=[0,1,2,3,4,6,11]
theorem E1e:∀ e:Ex,(A4p e).length≤sm→A0a prog 123 [exV e] (.d (.slice (exR (A4p e)))):=by
 intro e
 induction e using Ex.induct with
 | h e ih =>
 intro hl;rw [C7x] at hl ⊢;simp only [List.length_cons] at hl;have hkl:=C6e e.kids;refine cB func123 ?_;refine sR F7o ?_
 (refine AWp.seqR F7o [6] (by decide +kernel) fun K z=>?_;refine ev ?_;apply z;clear z K)
 refine kR F7o fun K1 u1=>?_;refine AWp.bb (AWp.ii e.kids (X:=Unit) (fun j _=>[(1,.box 1 0),(3,.acc 6),(4,A0g j)]) (fun j _=>[(1,.cells (exS e)),(6,.rows 8 (exR (e::A2q (e.kids.take j))))])
  (fun j _=>True) () trivial sS (by simp [ble,A0h,A2q,A2k,exC]) ?_ ?_)
 rotate_left
 ·intro j _ u hu hmem dp tk hlt _;have hul:=C7d hmem;have hi:=ih u hmem (by omega);have htl:=C3m e.kids j;have htl2:=C3m e.kids (j+1);rw [tk,A6j] at htl2;simp only [A2q,List.append_nil,List.length_append] at htl2;rw [tk,A6j];simp only [A2q,List.append_nil];generalize A2q (e.kids.take j)=A at *;generalize A4p u=B at *;refine kR1 hlt F7o fun K2 u2=>?_;refine gI u2 ?_;clear u2 K2;refine sK fun K2 u2=>?_;refine AWp.bb ?_
  (refine lV F7o fun K z=>?_;refine ci (A1h hu) ?_;refine cc hi ?_;refine⟨E8v _,by unfold lim sm at *;omega,?_⟩;(try refine ev ?_);apply z;clear z K;try simp only [A0c,A0e])
  refine u2 _ _ ?_;clear u2 K2;refine lT F7o ?_;exact⟨(),trivial,sS,by simp [ble,A0h,A2k,exC]⟩
 intro _ _;rw [List.take_length];refine kR1 Int.lt_irrefl F7o fun K2 u2=>?_;refine AWp.ss rfl ?_;simp only [TB];refine u1 _ _ ?_;refine sR F7o ?_;exact aR
structure CallT where
 on:Ty
 name:Str
 targs:List Ty
structure SetT where
 types:List Ty
 calls:List CallT
 large:Bool
def caC (c:CallT):List D:=[.str c.on.name,.slice (tyR c.on.args),.int .i64 c.on.pos,.str c.name,.slice (tyR c.targs)]
def caR (l:List CallT):List (List D):=l.map caC
abbrev caS (c:CallT):List SV:=[.d (.str c.on.name),.d (.slice (tyR c.on.args)),.d (.int .i64 c.on.pos),.d (.str c.name),.d (.slice (tyR c.targs))]
abbrev caV (c:CallT):SV:=.agg (caS c)
abbrev seS (s:SetT):List SV:=[.d (.slice (tyR s.types)),.d (.slice (caR s.calls)),.d (.bool s.large)]
abbrev seV (s:SetT):SV:=.agg (seS s)
theorem A1a (l:List CallT):(caR l).length=l.length:=by simp [caR]
theorem A1s {l:List CallT} {i:Nat} {c:CallT} (h:l[i]? = some c):(caR l)[i]? = some (caC c):=by simp [caR,h]
theorem B7m (l:List CallT):caR l=l.map caC:=rfl
structure CallT.Sm (c:CallT):Prop where
 on:c.on.Sm
 name:c.name.length≤sm
 targs:c.targs.length≤sm∧∀ t,t∈c.targs→t.Sm
structure SetT.Sm (s:SetT):Prop where
 types:s.types.length≤sm∧∀ t,t∈s.types→t.Sm
 calls:s.calls.length≤sm∧∀ t,t∈s.calls→t.Sm
def A2t (a b:CallT):Int:=if A7c a.on b.on=0 then (if A2r a.name b.name=0 then A7c (.mk [] a.targs 0) (.mk [] b.targs 0) else A2r a.name b.name) else A7c a.on b.on
abbrev D0t:List Nat:=[0,1,2,3,4,5,12,19]
theorem D3q (a:CallT)(ha:a.Sm)(b:CallT):A0a prog 161 [caV a,caV b] (A0g (A2t a b)):=by
 have h1:=B4a a.on ha.on b.on;have h2:=A9f a.name b.name;have h3:=B4a (.mk [] a.targs 0) (.mk _ _ _ (by simp [sm]) ha.targs.1 ha.targs.2) (.mk [] b.targs 0);unfold A2t;generalize A7c (.mk [] a.targs 0) (.mk [] b.targs 0)=z at *;generalize A7c a.on b.on=x at *;generalize A2r a.name b.name=y at *;by_cases hx:x=0
 ·subst hx;rw [if_pos rfl];by_cases hy:y=0
  ·subst hy;rw [if_pos rfl];refine cB func161 ?_;refine sR D0t ?_;refine sC h1 D0t ?_;refine kR D0t fun K1 u1=>?_;refine AWp.tt rfl ?_
   (refine lV D0t fun K z=>?_;refine cc h2 ?_;apply z;clear z K;try simp only [A0c,])
   refine u1 _ _ ?_;clear u1 K1;refine kR D0t fun K1 u1=>?_;refine AWp.tt rfl ?_
   (refine lV D0t fun K z=>?_;refine cc h3 ?_;apply z;clear z K;try simp only [A0c,])
   refine u1 _ _ ?_;refine sR D0t ?_;exact aR
  ·rw [if_neg hy];refine cB func161 ?_;refine sR D0t ?_;refine sC h1 D0t ?_;refine kR D0t fun K1 u1=>?_;refine AWp.tt rfl ?_
   (refine lV D0t fun K z=>?_;refine cc h2 ?_;apply z;clear z K;try simp only [A0c,])
   refine u1 _ _ ?_;clear u1 K1;refine kR1 hy D0t fun K1 u1=>?_;refine AWp.ff rfl (AWp.kk (u1 _ _ ?_));refine sR D0t ?_;exact aR
 ·rw [if_neg hx];refine cB func161 ?_;refine sR D0t ?_;refine sC h1 D0t ?_;refine kR1 hx D0t fun K1 u1=>?_;refine AWp.ff rfl (AWp.kk (u1 _ _ ?_));clear u1 K1;refine kR1 hx D0t fun K1 u1=>?_;refine AWp.ff rfl (AWp.kk (u1 _ _ ?_));refine sR D0t ?_;exact aR
def A6a {α:Type} (cmp:α→α→Int)(x:α):List α→Bool→List α→Option (List α)
 | [],done,out=>some (if done then out else out++[x])
 | t::ts,done,out=>if cmp x t=0 then none else if cmp x t < 0∧done=false then A6a cmp x ts true (out++[x,t]) else A6a cmp x ts done (out++[t])
def D3k {α:Type} (cmp:α→α→Int)(l:List α)(x:α):List α:=(A6a cmp x l false []).getD l
def C4d (s:SetT)(x:Ty):SetT:=if 100 < s.types.length then { s with large:=true } else { s with types:=D3k A7c s.types x }
def C2o (s:SetT)(x:CallT):SetT:=if 100 < s.calls.length then { s with large:=true } else { s with calls:=D3k A2t s.calls x }
abbrev B1g:List Nat:=[0,1,2,3,4,5,6,7,8,12,19,30,37,51]
theorem F9z (s:SetT)(hs:s.Sm)(x:Ty)(hx:x.Sm)(hcmp:∀ t,A0a prog 182 [.agg (tyS x),.agg (tyS t)] (A0g (A7c x t))):A0a prog 124 [seV s,.agg (tyS x)] (seV (C4d s x)):=by
 unfold C4d;have hfl:=hs.types.1;by_cases hbig:100 < s.types.length
 ·rw [if_pos hbig];have hb:(s.types.length:Int) > 100:=by omega
  refine cB func124 ?_;refine sR B1g ?_;refine kR1 hb B1g fun K1 u1=>?_;refine AWp.tt rfl ?_;refine sR B1g ?_;refine sR B1g ?_;exact aR
 rw [if_neg hbig];have hb:¬ (s.types.length:Int) > 100:=by omega
 have hR:∃ R,A6a A7c x s.types false []=R:=⟨_,rfl⟩;obtain⟨R,hR⟩:=hR;have hput:D3k A7c s.types x=R.getD s.types:=by unfold D3k;rw [hR]
 rw [hput];refine cB func124 ?_;refine sR B1g ?_;refine kR1 hb B1g fun K1 u1=>?_;refine AWp.ff rfl (AWp.kk (u1 _ _ ?_));clear u1 K1;refine sR B1g ?_;refine AWp.pp 5 3 5 rfl ?_;refine sR B1g ?_;refine kR B1g fun K1 u1=>?_;refine AWp.bb (AWp.loop (X:=Nat × Bool × List Ty) (fun z=>[(2,.box 2 0),(3,.box 3 0),(4,.box 4 0),(5,.acc 5),(6,A0m z.2.1),(7,A0g z.1)])
  (fun z=>[(2,.cells (seS s)),(3,.cells (tyS x)),(4,.cells [.d .nil,.d .nil,.d (.bool false)]),(5,.rows 3 (tyR z.2.2))])
  (fun z=>z.1≤s.types.length∧A6a A7c x (s.types.drop z.1) z.2.1 z.2.2=R∧z.2.2.length≤z.1+1∧(z.2.1=false→z.2.2.length≤z.1)) (fun z=>s.types.length - z.1) (0,false,[])
  ⟨Nat.zero_le _,hR,by simp,by simp⟩ sS (by simp [ble,A0h,A1o]) ?_)
 rintro⟨i,done,out⟩ ⟨hi,hsc,hol,hof⟩;simp only at hi hsc hol hof ⊢;have fin:True:=trivial;by_cases hin:i=s.types.length
 ·have hnl:¬ (i:Int) < (s.types.length:Int):=by omega
  rw [hin,List.drop_length,A6a] at hsc;refine kR1 hnl B1g fun K2 u2=>?_;refine AWp.ss rfl ?_;simp only [TB];refine u1 _ _ ?_;clear u2 K2 u1 K1;refine sK fun K1 u1=>?_;cases done with
  | true =>simp only [if_true] at hsc;subst hsc;refine sR B1g ?_;refine AWp.ff rfl (AWp.kk (u1 _ _ ?_));clear u1 K1;refine sR B1g ?_;refine sR B1g ?_;exact aR
  | false =>
   simp only [Bool.false_eq_true,if_false] at hsc;subst hsc;refine sR B1g ?_;refine AWp.tt rfl ?_
   (refine lV B1g fun K z=>?_;refine⟨by simp,by unfold lim sm at *;omega,?_⟩;(try simp -implicitDefEqProofs only [EV,forall_const,implies_true,Nat.reduceAdd,Nat.reduceEqDiff,Nat.reduceBEq,Nat.reduceLeDiff,Nat.reduceSub,Nat.reduceMul,Int.reduceEq,Int.reduceLT,Int.reduceLE,Int.reduceSub,Int.reduceAdd,Int.reduceToNat,reduceCtorEq,Int.reduceNeg,TF3,TF4,TF9,B1i,A6s,B2x,A1a]);apply z;clear z K;try simp only [A0c,])
   refine u1 _ _ ?_;clear u1 K1;refine sR B1g ?_;refine sR B1g ?_;have hse:seV { s with types:=(some (out++[x])).getD s.types }=.agg [.d (.slice (tyR out++[tyC x])),.d (.slice (caR s.calls)),.d (.bool s.large)]:=by simp [A1o]
   rw [hse];exact aR
 ·have hlt:(i:Int) < (s.types.length:Int):=by omega
  obtain⟨t,ht⟩:∃ t,s.types[i]? = some t:=⟨_,List.getElem?_eq_getElem (by omega)⟩;have hd:s.types.drop i=t::s.types.drop (i+1):=by
   rw [List.drop_eq_getElem_cons (by omega)]
   congr 1
   have:=List.getElem?_eq_some_iff.1 ht;exact this.2
  rw [hd,A6a] at hsc;have hc:=hcmp t;generalize A7c x t=c at *;refine kR1 hlt B1g fun K2 u2=>?_;refine gI u2 ?_;clear u2 K2;refine sK fun K2 u2=>?_;refine AWp.bb ?_
  (refine sG B1g [] 6 [] fun K z=>?_;refine ev ?_;refine⟨by omega,_,A0w ht,rfl,?_⟩;(try simp -implicitDefEqProofs only [EV,Nat.reduceAdd,Nat.reduceEqDiff,reduceCtorEq,tyC]);refine cc hc ?_;apply z;clear z K)
  refine sK fun K3 u3=>?_;by_cases h0:c=0
  ·subst h0;rw [if_pos rfl] at hsc;subst hsc;refine sR B1g ?_;refine AWp.tt rfl ?_;refine sR B1g ?_;exact aR
  rw [if_neg h0] at hsc;refine sR1 h0 B1g ?_;refine AWp.ff rfl (AWp.kk (u3 _ _ ?_));clear u3 K3;refine sK fun K3 u3=>?_;by_cases hn:c < 0∧done=false
  ·obtain⟨hn1,rfl⟩:=hn;rw [if_pos ⟨hn1,rfl⟩] at hsc;refine sR1 hn1 B1g ?_;refine AWp.tt rfl ?_
   (refine sV B1g fun K z=>?_;refine⟨by simp,by unfold lim sm at *;omega,?_⟩;(try simp -implicitDefEqProofs only [EV,forall_const,implies_true,Nat.reduceAdd,Nat.reduceEqDiff,Nat.reduceBEq,Nat.reduceLeDiff,Nat.reduceSub,Nat.reduceMul,Int.reduceEq,Int.reduceLT,Int.reduceLE,Int.reduceSub,Int.reduceAdd,Int.reduceToNat,reduceCtorEq,Int.reduceNeg,TF3,TF4,TF9,B1i,A6s,B2x,A1a]);apply z;clear z K)
   (refine lV B1g fun K z=>?_;apply z;clear z K;try simp only [A0c,])
   refine u3 _ _ ?_;clear u3 K3
   (refine lV B1g fun K z=>?_;refine⟨by omega,_,A0w ht,rfl,?_⟩;(try simp -implicitDefEqProofs only [EV,Nat.reduceAdd,Nat.reduceEqDiff,Nat.reduceBEq,Nat.reduceLeDiff,Nat.reduceMul,reduceCtorEq,B1i,A6s,tyC,List.length_append,]);refine⟨by simp,by unfold lim sm at *;omega,?_⟩;(try simp -implicitDefEqProofs only [EV,forall_const,implies_true,Nat.reduceAdd,Nat.reduceEqDiff,Nat.reduceBEq,Nat.reduceLeDiff,Nat.reduceSub,Nat.reduceMul,Int.reduceEq,Int.reduceLT,Int.reduceLE,Int.reduceSub,Int.reduceAdd,Int.reduceToNat,reduceCtorEq,Int.reduceNeg,TF3,TF4,TF9,B1i,A6s,B2x,tyC,A1a,List.length_append,List.length_cons,List.length_nil]);apply z;clear z K;try simp only [A0c,A0e])
   refine u2 _ _ ?_;clear u2 K2
   (refine lV B1g fun K z=>?_;refine cl ?_;apply z;clear z K;try simp only [A0c,])
   exact⟨(i+1,true,out++[x,t]),⟨by simp only;omega,hsc,by have:=hof rfl;simp;omega,by simp⟩,by simp only;omega,sS,by simp [ble,A0h,A1o,tyC]⟩
  ·rw [if_neg hn] at hsc;have hcond:(decide (c < 0) && !done)=false:=by
    cases done <;> simp_all
   cases done with
   | true =>
    by_cases hn1:c < 0
    ·refine sR1 hn1 B1g ?_;refine AWp.ff rfl (AWp.kk (u3 _ _ ?_));clear u3 K3
     (refine lV B1g fun K z=>?_;refine⟨by omega,_,A0w ht,rfl,?_⟩;(try simp -implicitDefEqProofs only [EV,Nat.reduceAdd,Nat.reduceEqDiff,Nat.reduceBEq,Nat.reduceLeDiff,Nat.reduceMul,reduceCtorEq,B1i,A6s,tyC,]);refine⟨by simp,by unfold lim sm at *;omega,?_⟩;(try simp -implicitDefEqProofs only [EV,forall_const,implies_true,Nat.reduceAdd,Nat.reduceEqDiff,Nat.reduceBEq,Nat.reduceLeDiff,Nat.reduceSub,Nat.reduceMul,Int.reduceEq,Int.reduceLT,Int.reduceLE,Int.reduceSub,Int.reduceAdd,Int.reduceToNat,reduceCtorEq,Int.reduceNeg,TF3,TF4,TF9,B1i,A6s,B2x,tyC,A1a,List.length_append,List.length_cons,List.length_nil]);apply z;clear z K;try simp only [A0c,A0e])
     refine u2 _ _ ?_;clear u2 K2
     (refine lV B1g fun K z=>?_;refine cl ?_;apply z;clear z K;try simp only [A0c,])
     exact⟨(i+1,true,out++[t]),⟨by simp only;omega,hsc,by simp;omega,by simp⟩,by simp only;omega,sS,by simp [ble,A0h,A1o,tyC]⟩
    ·refine sR1 hn1 B1g ?_;refine AWp.ff rfl (AWp.kk (u3 _ _ ?_));clear u3 K3
     (refine lV B1g fun K z=>?_;refine⟨by omega,_,A0w ht,rfl,?_⟩;(try simp -implicitDefEqProofs only [EV,Nat.reduceAdd,Nat.reduceEqDiff,Nat.reduceBEq,Nat.reduceLeDiff,Nat.reduceMul,reduceCtorEq,B1i,A6s,tyC,]);refine⟨by simp,by unfold lim sm at *;omega,?_⟩;(try simp -implicitDefEqProofs only [EV,forall_const,implies_true,Nat.reduceAdd,Nat.reduceEqDiff,Nat.reduceBEq,Nat.reduceLeDiff,Nat.reduceSub,Nat.reduceMul,Int.reduceEq,Int.reduceLT,Int.reduceLE,Int.reduceSub,Int.reduceAdd,Int.reduceToNat,reduceCtorEq,Int.reduceNeg,TF3,TF4,TF9,B1i,A6s,B2x,tyC,A1a,List.length_append,List.length_cons,List.length_nil]);apply z;clear z K;try simp only [A0c,A0e])
     refine u2 _ _ ?_;clear u2 K2
     (refine lV B1g fun K z=>?_;refine cl ?_;apply z;clear z K;try simp only [A0c,])
     exact⟨(i+1,true,out++[t]),⟨by simp only;omega,hsc,by simp;omega,by simp⟩,by simp only;omega,sS,by simp [ble,A0h,A1o,tyC]⟩
   | false =>
    have hn1:¬ c < 0:=fun h=>hn ⟨h,rfl⟩;refine sR1 hn1 B1g ?_;refine AWp.ff rfl (AWp.kk (u3 _ _ ?_));clear u3 K3
    (refine lV B1g fun K z=>?_;refine⟨by omega,_,A0w ht,rfl,?_⟩;(try simp -implicitDefEqProofs only [EV,Nat.reduceAdd,Nat.reduceEqDiff,Nat.reduceBEq,Nat.reduceLeDiff,Nat.reduceMul,reduceCtorEq,B1i,A6s,tyC,]);refine⟨by simp,by unfold lim sm at *;omega,?_⟩;(try simp -implicitDefEqProofs only [EV,forall_const,implies_true,Nat.reduceAdd,Nat.reduceEqDiff,Nat.reduceBEq,Nat.reduceLeDiff,Nat.reduceSub,Nat.reduceMul,Int.reduceEq,Int.reduceLT,Int.reduceLE,Int.reduceSub,Int.reduceAdd,Int.reduceToNat,reduceCtorEq,Int.reduceNeg,TF3,TF4,TF9,B1i,A6s,B2x,tyC,A1a,List.length_append,List.length_cons,List.length_nil]);apply z;clear z K;try simp only [A0c,A0e])
    refine u2 _ _ ?_;clear u2 K2
    (refine lV B1g fun K z=>?_;refine cl ?_;apply z;clear z K;try simp only [A0c,])
    exact⟨(i+1,false,out++[t]),⟨by simp only;omega,hsc,by simp;omega,fun _=>by have:=hof rfl;simp;omega⟩,by simp only;omega,sS,by simp [ble,A0h,A1o,tyC]⟩
abbrev B1f:List Nat:=[0,1,2,3,4,5,6,7,8,12,19,30,37,51]
theorem G1n (s:SetT)(hs:s.Sm)(x:CallT)(hx:x.Sm)(hcmp:∀ t,A0a prog 161 [.agg (caS x),.agg (caS t)] (A0g (A2t x t))):A0a prog 82 [seV s,.agg (caS x)] (seV (C2o s x)):=by
 unfold C2o;have hfl:=hs.calls.1;by_cases hbig:100 < s.calls.length
 ·rw [if_pos hbig];have hb:(s.calls.length:Int) > 100:=by omega
  refine cB func82 ?_;refine sR B1f ?_;refine sK fun K1 u1=>?_
  (refine sQ B1f fun K z=>?_;simp -implicitDefEqProofs only [EV,Nat.reduceEqDiff,reduceCtorEq,B1h,B2x,hb,A1a];apply z;clear z K)
  refine AWp.tt rfl ?_;refine sR B1f ?_;refine sR B1f ?_;exact aR
 rw [if_neg hbig];have hb:¬ (s.calls.length:Int) > 100:=by omega
 have hR:∃ R,A6a A2t x s.calls false []=R:=⟨_,rfl⟩;obtain⟨R,hR⟩:=hR;have hput:D3k A2t s.calls x=R.getD s.calls:=by unfold D3k;rw [hR]
 rw [hput];refine cB func82 ?_;refine sR B1f ?_;refine sK fun K1 u1=>?_
 (refine sQ B1f fun K z=>?_;simp -implicitDefEqProofs only [EV,Nat.reduceEqDiff,reduceCtorEq,B1h,B2x,hb,A1a];apply z;clear z K)
 refine AWp.ff rfl (AWp.kk (u1 _ _ ?_));clear u1 K1;refine sR B1f ?_;refine AWp.pp 5 5 5 rfl ?_;refine sR B1f ?_;refine kR B1f fun K1 u1=>?_;refine AWp.bb (AWp.loop (X:=Nat × Bool × List CallT) (fun z=>[(2,.box 2 0),(3,.box 3 0),(4,.box 4 0),(5,.acc 5),(6,A0m z.2.1),(7,A0g z.1)])
  (fun z=>[(2,.cells (seS s)),(3,.cells (caS x)),(4,.cells [.d .nil,.d .nil,.d (.bool false)]),(5,.rows 5 (caR z.2.2))])
  (fun z=>z.1≤s.calls.length∧A6a A2t x (s.calls.drop z.1) z.2.1 z.2.2=R∧z.2.2.length≤z.1+1∧(z.2.1=false→z.2.2.length≤z.1)) (fun z=>s.calls.length - z.1) (0,false,[])
  ⟨Nat.zero_le _,hR,by simp,by simp⟩ sS (by simp [ble,A0h,B7m]) ?_)
 rintro⟨i,done,out⟩ ⟨hi,hsc,hol,hof⟩;simp only at hi hsc hol hof ⊢;have fin:True:=trivial;by_cases hin:i=s.calls.length
 ·have hnl:¬ (i:Int) < (s.calls.length:Int):=by omega
  rw [hin,List.drop_length,A6a] at hsc;refine sK fun K2 u2=>?_
  (refine sQ B1f fun K z=>?_;simp -implicitDefEqProofs only [EV,Nat.reduceEqDiff,reduceCtorEq,B1h,B2x,hnl,A1a];apply z;clear z K)
  refine AWp.ss rfl ?_;simp only [TB];refine u1 _ _ ?_;clear u2 K2 u1 K1;refine sK fun K1 u1=>?_;cases done with
  | true =>simp only [if_true] at hsc;subst hsc;refine sR B1f ?_;refine AWp.ff rfl (AWp.kk (u1 _ _ ?_));clear u1 K1;refine sR B1f ?_;refine sR B1f ?_;exact aR
  | false =>
   simp only [Bool.false_eq_true,if_false] at hsc;subst hsc;refine sR B1f ?_;refine AWp.tt rfl ?_
   (refine lQ B1f fun K z=>?_;simp -implicitDefEqProofs only [EV,Nat.reduceAdd,Nat.reduceEqDiff,Nat.reduceBEq,Nat.reduceLeDiff,Nat.reduceMul,reduceCtorEq,B1h,C3z,A1a];refine⟨by simp,by unfold lim sm at *;omega,?_⟩;(try simp -implicitDefEqProofs only [EV,forall_const,implies_true,Nat.reduceAdd,Nat.reduceEqDiff,Nat.reduceBEq,Nat.reduceLeDiff,Nat.reduceSub,Nat.reduceMul,Int.reduceEq,Int.reduceLT,Int.reduceLE,Int.reduceSub,Int.reduceAdd,Int.reduceToNat,reduceCtorEq,Int.reduceNeg,TF3,TF4,TF9,B1h,B2x,C3z,A1a]);apply z;clear z K;try simp only [A0c,])
   refine u1 _ _ ?_;clear u1 K1;refine sR B1f ?_;refine sR B1f ?_;have hse:seV { s with calls:=(some (out++[x])).getD s.calls }=.agg [.d (.slice (tyR s.types)),.d (.slice (caR out++[caC x])),.d (.bool s.large)]:=by simp [B7m]
   rw [hse];exact aR
 ·have hlt:(i:Int) < (s.calls.length:Int):=by omega
  obtain⟨t,ht⟩:∃ t,s.calls[i]? = some t:=⟨_,List.getElem?_eq_getElem (by omega)⟩;have hd:s.calls.drop i=t::s.calls.drop (i+1):=by
   rw [List.drop_eq_getElem_cons (by omega)]
   congr 1
   have:=List.getElem?_eq_some_iff.1 ht;exact this.2
  rw [hd,A6a] at hsc;have hc:=hcmp t;generalize A2t x t=c at *;refine sK fun K2 u2=>?_
  (refine sQ B1f fun K z=>?_;simp -implicitDefEqProofs only [EV,Nat.reduceEqDiff,reduceCtorEq,B1h,B2x,hlt,A1a];apply z;clear z K)
  refine gI u2 ?_;clear u2 K2;refine sK fun K2 u2=>?_;refine AWp.bb ?_
  (refine sG B1f [] 6 [] fun K z=>?_;refine ev ?_;refine⟨by omega,_,A1s ht,rfl,?_⟩;(try simp -implicitDefEqProofs only [EV,Nat.reduceAdd,Nat.reduceEqDiff,reduceCtorEq,caC]);refine cc hc ?_;apply z;clear z K)
  refine sK fun K3 u3=>?_;by_cases h0:c=0
  ·subst h0;rw [if_pos rfl] at hsc;subst hsc;refine sR B1f ?_;refine AWp.tt rfl ?_;refine sR B1f ?_;exact aR
  rw [if_neg h0] at hsc;refine sR1 h0 B1f ?_;refine AWp.ff rfl (AWp.kk (u3 _ _ ?_));clear u3 K3;refine sK fun K3 u3=>?_;by_cases hn:c < 0∧done=false
  ·obtain⟨hn1,rfl⟩:=hn;rw [if_pos ⟨hn1,rfl⟩] at hsc;refine sR1 hn1 B1f ?_;refine AWp.tt rfl ?_
   (refine sQ B1f fun K z=>?_;simp -implicitDefEqProofs only [EV,Nat.reduceAdd,Nat.reduceEqDiff,Nat.reduceBEq,Nat.reduceLeDiff,Nat.reduceMul,reduceCtorEq,B1h,C3z,A1a];refine⟨by simp,by unfold lim sm at *;omega,?_⟩;(try simp -implicitDefEqProofs only [EV,forall_const,implies_true,Nat.reduceAdd,Nat.reduceEqDiff,Nat.reduceBEq,Nat.reduceLeDiff,Nat.reduceSub,Nat.reduceMul,Int.reduceEq,Int.reduceLT,Int.reduceLE,Int.reduceSub,Int.reduceAdd,Int.reduceToNat,reduceCtorEq,Int.reduceNeg,TF3,TF4,TF9,B1h,B2x,C3z,A1a]);apply z;clear z K)
   (refine lV B1f fun K z=>?_;apply z;clear z K;try simp only [A0c,])
   refine u3 _ _ ?_;clear u3 K3
   (refine lV B1f fun K z=>?_;refine⟨by omega,_,A1s ht,rfl,?_⟩;(try simp -implicitDefEqProofs only [EV,Nat.reduceAdd,Nat.reduceEqDiff,Nat.reduceBEq,Nat.reduceLeDiff,Nat.reduceMul,reduceCtorEq,B1h,C3z,caC,A1a,List.length_append,]);refine⟨by simp,by unfold lim sm at *;omega,?_⟩;(try simp -implicitDefEqProofs only [EV,forall_const,implies_true,Nat.reduceAdd,Nat.reduceEqDiff,Nat.reduceBEq,Nat.reduceLeDiff,Nat.reduceSub,Nat.reduceMul,Int.reduceEq,Int.reduceLT,Int.reduceLE,Int.reduceSub,Int.reduceAdd,Int.reduceToNat,reduceCtorEq,Int.reduceNeg,TF3,TF4,TF9,B1h,B2x,C3z,caC,A1a,List.length_append,List.length_cons,List.length_nil]);apply z;clear z K;try simp only [A0c,A0e])
   refine u2 _ _ ?_;clear u2 K2
   (refine lV B1f fun K z=>?_;refine cl ?_;apply z;clear z K;try simp only [A0c,])
   exact⟨(i+1,true,out++[x,t]),⟨by simp only;omega,hsc,by have:=hof rfl;simp;omega,by simp⟩,by simp only;omega,sS,by simp [ble,A0h,B7m,caC]⟩
  ·rw [if_neg hn] at hsc;have hcond:(decide (c < 0) && !done)=false:=by
    cases done <;> simp_all
   cases done with
   | true =>
    by_cases hn1:c < 0
    ·refine sR1 hn1 B1f ?_;refine AWp.ff rfl (AWp.kk (u3 _ _ ?_));clear u3 K3
     (refine lV B1f fun K z=>?_;refine⟨by omega,_,A1s ht,rfl,?_⟩;(try simp -implicitDefEqProofs only [EV,Nat.reduceAdd,Nat.reduceEqDiff,Nat.reduceBEq,Nat.reduceLeDiff,Nat.reduceMul,reduceCtorEq,B1h,C3z,caC,A1a,]);refine⟨by simp,by unfold lim sm at *;omega,?_⟩;(try simp -implicitDefEqProofs only [EV,forall_const,implies_true,Nat.reduceAdd,Nat.reduceEqDiff,Nat.reduceBEq,Nat.reduceLeDiff,Nat.reduceSub,Nat.reduceMul,Int.reduceEq,Int.reduceLT,Int.reduceLE,Int.reduceSub,Int.reduceAdd,Int.reduceToNat,reduceCtorEq,Int.reduceNeg,TF3,TF4,TF9,B1h,B2x,C3z,caC,A1a,List.length_append,List.length_cons,List.length_nil]);apply z;clear z K;try simp only [A0c,A0e])
     refine u2 _ _ ?_;clear u2 K2
     (refine lV B1f fun K z=>?_;refine cl ?_;apply z;clear z K;try simp only [A0c,])
     exact⟨(i+1,true,out++[t]),⟨by simp only;omega,hsc,by simp;omega,by simp⟩,by simp only;omega,sS,by simp [ble,A0h,B7m,caC]⟩
    ·refine sR1 hn1 B1f ?_;refine AWp.ff rfl (AWp.kk (u3 _ _ ?_));clear u3 K3
     (refine lV B1f fun K z=>?_;refine⟨by omega,_,A1s ht,rfl,?_⟩;(try simp -implicitDefEqProofs only [EV,Nat.reduceAdd,Nat.reduceEqDiff,Nat.reduceBEq,Nat.reduceLeDiff,Nat.reduceMul,reduceCtorEq,B1h,C3z,caC,A1a,]);refine⟨by simp,by unfold lim sm at *;omega,?_⟩;(try simp -implicitDefEqProofs only [EV,forall_const,implies_true,Nat.reduceAdd,Nat.reduceEqDiff,Nat.reduceBEq,Nat.reduceLeDiff,Nat.reduceSub,Nat.reduceMul,Int.reduceEq,Int.reduceLT,Int.reduceLE,Int.reduceSub,Int.reduceAdd,Int.reduceToNat,reduceCtorEq,Int.reduceNeg,TF3,TF4,TF9,B1h,B2x,C3z,caC,A1a,List.length_append,List.length_cons,List.length_nil]);apply z;clear z K;try simp only [A0c,A0e])
     refine u2 _ _ ?_;clear u2 K2
     (refine lV B1f fun K z=>?_;refine cl ?_;apply z;clear z K;try simp only [A0c,])
     exact⟨(i+1,true,out++[t]),⟨by simp only;omega,hsc,by simp;omega,by simp⟩,by simp only;omega,sS,by simp [ble,A0h,B7m,caC]⟩
   | false =>
    have hn1:¬ c < 0:=fun h=>hn ⟨h,rfl⟩;refine sR1 hn1 B1f ?_;refine AWp.ff rfl (AWp.kk (u3 _ _ ?_));clear u3 K3
    (refine lV B1f fun K z=>?_;refine⟨by omega,_,A1s ht,rfl,?_⟩;(try simp -implicitDefEqProofs only [EV,Nat.reduceAdd,Nat.reduceEqDiff,Nat.reduceBEq,Nat.reduceLeDiff,Nat.reduceMul,reduceCtorEq,B1h,C3z,caC,A1a,]);refine⟨by simp,by unfold lim sm at *;omega,?_⟩;(try simp -implicitDefEqProofs only [EV,forall_const,implies_true,Nat.reduceAdd,Nat.reduceEqDiff,Nat.reduceBEq,Nat.reduceLeDiff,Nat.reduceSub,Nat.reduceMul,Int.reduceEq,Int.reduceLT,Int.reduceLE,Int.reduceSub,Int.reduceAdd,Int.reduceToNat,reduceCtorEq,Int.reduceNeg,TF3,TF4,TF9,B1h,B2x,C3z,caC,A1a,List.length_append,List.length_cons,List.length_nil]);apply z;clear z K;try simp only [A0c,A0e])
    refine u2 _ _ ?_;clear u2 K2
    (refine lV B1f fun K z=>?_;refine cl ?_;apply z;clear z K;try simp only [A0c,])
    exact⟨(i+1,false,out++[t]),⟨by simp only;omega,hsc,by simp;omega,fun _=>by have:=hof rfl;simp;omega⟩,by simp only;omega,sS,by simp [ble,A0h,B7m,caC]⟩
theorem A6x (s:SetT)(hs:s.Sm)(x:Ty)(hx:x.Sm):A0a prog 124 [seV s,tyV x] (seV (C4d s x)):=F9z s hs x hx (fun t=>B4a x hx t)
theorem C5k (s:SetT)(hs:s.Sm)(x:CallT)(hx:x.Sm):A0a prog 82 [seV s,caV x] (seV (C2o s x)):=G1n s hs x hx (fun t=>D3q x hx t)
end Go.Abs
