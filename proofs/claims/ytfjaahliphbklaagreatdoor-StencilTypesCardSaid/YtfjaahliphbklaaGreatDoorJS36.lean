/- expr.All, visit: the nodes of an expression in order, for a range over a function; expr.Value; step.first -/
import Derived.Test.YtfjaahliphbklaaGreatDoorJAb7
import Derived.Test.YtfjaahliphbklaaGreatDoorJS18
namespace Go.Abs
set_option linter.unusedSimpArgs false
set_option linter.unusedVariables false
open Go Go.Proofs Tryz
set_option maxRecDepth 100000
set_option maxHeartbeats 1000000
structure Fits (Y:Yld)(j:Nat)(l:List Ex):Prop where
 P:Y.P=prog
 N:j+l.length≤Y.N
 at_:∀ i e,l[i]? = some e→Y.xs (j+i)=exV e∧Y.go (j+i)=decide (e.kind=3)
theorem Fits.left {Y:Yld} {j:Nat} {l m:List Ex} (h:Fits Y j (l++m)):Fits Y j l where
 P:=h.P
 N:=by have:=h.N;rw [List.length_append] at this;omega
 at_:=fun i e he=>h.at_ i e (by rw [List.getElem?_append_left (List.getElem?_eq_some_iff.1 he).1];exact he)
theorem Fits.right {Y:Yld} {j:Nat} {l m:List Ex} (h:Fits Y j (l++m)):Fits Y (j+l.length) m where
 P:=h.P
 N:=by have:=h.N;rw [List.length_append] at this;omega
 at_:=fun i e he=>by have:=h.at_ (l.length+i) e (by rw [List.getElem?_append_right (by omega)];simpa using he);rw [Nat.add_assoc];exact this
theorem C5z {vars:List Str} {args:List Ty} (ha:∀ u,u∈args→u.Sm):∀ t:Ty,t.Sm→(t.subst vars args).Sm:=by
 intro t
 induction t using Ty.induct with
 | h t ih =>
 intro h;rw [A4n];split
 ·rename_i hc;have hlt:(A1b t.name vars 0).toNat < args.length:=by omega
  rw [List.getElem?_eq_getElem hlt,Option.getD_some];have:=ha _ (List.getElem_mem hlt);exact .mk _ _ _ this.name this.len this.arg
 ·refine .mk _ _ _ h.name (by rw [List.length_map];exact h.len) fun u hu=>?_;obtain⟨x,hx,rfl⟩:=List.mem_map.1 hu;exact ih x hx (h.arg x hx)
theorem Ex.Sm.subst {vars:List Str} {args:List Ty} (ha:∀ u,u∈args→u.Sm)(e:Ex):e.Sm→(e.subst vars args).Sm:=by
 induction e using Ex.induct with
 | h e ih =>
 intro h;unfold Ex.subst;rw [A9m];refine .mk _ _ _ _ _ _ h.name (C5z ha _ h.type) ?_ ?_ ?_ ?_
 ·show (e.targs.map (Ty.subst vars args)).length≤sm;rw [List.length_map];exact h.targs.1
 ·intro t ht;have ht:t∈e.targs.map (Ty.subst vars args):=ht;obtain⟨u,hu,rfl⟩:=List.mem_map.1 ht;exact C5z ha _ (h.targs.2 u hu)
 ·show (e.kids.map _).length≤sm;rw [List.length_map];exact h.kids.1
 ·intro k hk;have hk:k∈e.kids.map (Ex.mapped (Ex.sub1 vars args)):=hk;obtain⟨u,hu,rfl⟩:=List.mem_map.1 hk;exact ih u hu (h.kids.2 u hu)
def F9o (vars:List Str)(vals:List Ex)(e:Ex):Ex:=if e.kind=1∧0≤A1b e.name vars 0∧A1b e.name vars 0 < vals.length then (vals[(A1b e.name vars 0).toNat]?).getD e else e
def Ex.repl (vars:List Str)(vals:List Ex):Ex→Ex:=Ex.mapped (F9o vars vals)
abbrev q1M:List Nat:=[0,1,2,3,6,7,8,30,67]
theorem C6h (vars:List Str)(args:List Ty)(ha:∀ u,u∈args→u.Sm)(e:Ex):e.Sm→A0a prog 39 [exV e,A1m vars,A3s args] (exV (e.subst vars args)):=by
 induction e using Ex.induct with
 | h e ih =>
 intro hsm;have hkl:=hsm.kids.1;have h1:=A2j vars args ha e.type hsm.type;have h2:=G1k vars args ha e.targs hsm.targs.1 hsm.targs.2;have heqn:e.subst vars args=.mk e.kind e.name (e.type.subst vars args) (e.targs.map (Ty.subst vars args)) (e.kids.map (Ex.subst vars args)) e.pos:=by unfold Ex.subst;rw [A9m];rfl
 rw [heqn];generalize e.type.subst vars args=T at *;generalize e.targs.map (Ty.subst vars args)=A at *;refine cB func39 ?_;refine sR q1M ?_
 (refine sG q1M [] 18 [⟨[],[],[7],[7]⟩,⟨[],[],[7],[7]⟩,⟨[],[],[7],[7]⟩,⟨[],[],[7],[7]⟩,⟨[],[],[7],[7]⟩,⟨[],[],[7],[7]⟩,⟨[],[],[7],[7]⟩,⟨[],[],[7],[7]⟩,⟨[],[],[7],[7]⟩,⟨[],[],[7],[7]⟩,⟨[],[],[7],[7]⟩,⟨[],[],[7],[7]⟩,⟨[],[],[7],[7]⟩,⟨[],[],[7],[7]⟩,⟨[],[],[7],[7]⟩,⟨[],[],[7],[7]⟩,⟨[],[],[7],[7]⟩,⟨[7],[7],[],[]⟩] fun K z=>?_;refine ev ?_;refine cc h1 ?_;refine cc h2 ?_;apply z;clear z K)
 refine AWp.promoteBox 67 8 7 6 rfl rfl (by decide) ?_;refine kR q1M fun K1 u1=>?_;refine AWp.bb (AWp.ii e.kids (X:=Unit) (fun j _=>[(1,A1m vars),(2,A3s args),(3,.box 3 0),(6,.box 6 0),(7,.box 7 0),(8,A0g j)])
  (fun j _=>[(3,.cells (exS e)),(6,.cells [.d (.int .i64 0),.d (.str []),.d (.str []),.d .nil,.d (.int .i64 0),.d .nil,.d .nil,.d (.int .i64 0)]),(7,.cells [.d (.int .i64 e.kind),.d (.str e.name),.d (.str T.name),.d (.slice (tyR T.args)),.d (.int .i64 T.pos),.d (.slice (tyR A)),.acc 67,.d (.int .i64 e.pos)]),(67,.rows 8 (exR ((e.kids.take j).map (Ex.subst vars args))))])
  (fun j _=>True) () trivial sS (by simp [ble,A0h,A2k,exS]) ?_ ?_)
 ·intro _ _;rw [List.take_length];refine kR1 Int.lt_irrefl q1M fun K2 u2=>?_;refine AWp.ss rfl ?_;simp only [TB];refine u1 _ _ ?_;refine sR q1M ?_;exact aR
 ·intro j _ d hd hmem dp tk hlt _;rw [tk];refine kR1 hlt q1M fun K2 u2=>?_;refine gI u2 ?_;clear u2 K2;refine sK fun K2 u2=>?_;refine AWp.bb ?_
  (refine lG q1M [] 11 [] fun K z=>?_;refine ev ?_;refine ci (A1h hd) ?_;refine cc (ih d hmem (hsm.kids.2 d hmem)) ?_;refine⟨by simp,by simp only [List.length_map,List.length_take];unfold lim sm at *;omega,?_⟩;(try refine ev ?_);apply z;clear z K;try simp only [A0c,A0e])
  refine u2 _ _ ?_;clear u2 K2;refine lT q1M ?_;exact⟨(),trivial,sS,by simp [ble,A0h,A2k,exC,exS]⟩
def B4q (d:Decl)(x:Ty):List Param:=d.fields.map (Param.subst (A0d d.formals) x.args)
def A1c (p:Prog)(x:Ty):List Param:=if A1w p x 1=true then B4q ((A5f p x.name).getD default) x else []
abbrev q1N:List Nat:=[0,1,3,4,5,6,7,8,10,18,20,21,22,23]
theorem E3w (p:Prog)(h:p.Sm)(x:Ty)(hx:x.Sm):A0a prog 71 [.dptr (B0u p) 0,tyV x] (.tuple [.d (.slice (paR (A1c p x))),A0m (A1w p x 1)]):=by
 have hin:=B0c p h x 1 (by decide);unfold A1c;rcases Bool.eq_false_or_eq_true (A1w p x 1) with hi | hi
 ·obtain⟨dd,hdd,_⟩:=A3n (by decide) hi;rw [hi,if_pos rfl];rw [hdd,Option.getD_some,hi] at hin;rw [hdd,Option.getD_some];have hds:=h.decls.2 dd (A3d hdd);have hfl:=hds.fields.1;have hn:=B5f dd.formals hds.formals.1;unfold B4q;refine cB func71 ?_;refine sR q1N ?_;refine sC hin q1N ?_;refine kR q1N fun K1 u1=>?_;refine kI u1 ?_;clear u1 K1;refine sR q1N ?_;refine AWp.pp 8 5 8 rfl ?_;refine kR q1N fun K1 u1=>?_;refine AWp.bb (AWp.ii dd.fields (X:=Unit) (fun j _=>[(3,.box 3 0),(6,.box 6 0),(8,.acc 8),(20,.d (.slice (paR dd.fields))),(21,A0g dd.fields.length),(22,A0g j)])
   (fun j _=>[(3,.cells [.d (.str x.name),A3s x.args,A0g x.pos]),(6,.cells ((deC dd).map .d)),(8,.rows 5 (paR ((dd.fields.take j).map (Param.subst (A0d dd.formals) x.args))))])
   (fun j _=>True) () trivial sS (by simp [ble,A0h,paR,deC]) ?_ ?_)
  ·intro _ _;rw [List.take_length];refine sR1 Int.lt_irrefl q1N ?_;refine AWp.stop rfl ?_;simp only [TB];refine u1 _ _ ?_;refine sR q1N ?_;exact aR
  ·intro j _ d hd hmem dp tk hlt _;rw [tk];have hsub:=B5w (A0d dd.formals) x.args hx.arg d.type (hds.fields.2 d hmem).type;refine sR1 hlt q1N ?_;refine AWp.goOn rfl ?_;refine sK fun K2 u2=>?_;refine AWp.bb ?_
   (refine sV q1N fun K z=>?_;refine ci (A0r hd) ?_;apply z;clear z K)
   (refine lG q1N [] 15 [] fun K z=>?_;refine ev ?_;refine cc hn ?_;refine cc hsub ?_;refine⟨by simp,by simp only [List.length_map,List.length_take];unfold lim sm at *;omega,?_⟩;(try refine ev ?_);apply z;clear z K;try simp only [A0c,A0e])
   refine u2 _ _ ?_;clear u2 K2;refine lT q1N ?_;exact⟨(),trivial,sS,by simp [ble,A0h,paR,deC,paC,Param.subst]⟩
 ·rw [hi] at hin ⊢;rw [if_neg (by decide)];generalize (A5f p x.name).getD default=dd at *;refine cB func71 ?_;refine sR q1N ?_;refine sC hin q1N ?_;refine kR q1N fun K1 u1=>?_;refine tI ?_;refine sR q1N ?_;exact aR
def F8b (ls:List (List Ty)):List (List D):=ls.map fun l=>[.slice (tyR l)]
theorem E1s {ls:List (List Ty)} {j:Nat} {l:List Ty} (h:ls[j]? = some l):(F8b ls)[j]? = some [.slice (tyR l)]:=by simp [F8b,h]
abbrev q1O:List Nat:=[0,2,3,5,6,8,9,10,11,12,20,24,25,26,27,28]
theorem E5p (ls:List (List Ty))(hl:ls.length≤sm)(hn:(ls.map List.length).sum≤2*sm):A0a prog 151 [.d (.slice (F8b ls))] (.d (.slice (tyR ls.flatten))):=by
 refine cB func151 ?_;refine sR q1O ?_;refine sR q1O ?_;refine kR q1O fun K1 u1=>?_;refine AWp.bb (AWp.ii ls (X:=Unit) (fun j _=>[(0,.d (.slice (F8b ls))),(3,A0g (((ls.take j).map List.length).sum:Nat)),(9,.d (.slice (F8b ls))),(10,A0g ls.length),(11,A0g j)]) (fun _ _=>[])
  (fun j _=>True) () trivial (by simp [sle,vle,A0k,F8b]) sB ?_ ?_)
 ·intro _ _;rw [List.take_length];refine sR1 Int.lt_irrefl q1O ?_;refine AWp.stop rfl ?_;simp only [TB];refine u1 _ _ ?_;clear u1 K1
  (refine AWp.seqR q1O [800024] (by decide +kernel) fun K z=>?_;refine ev ?_;refine⟨_,_,_,C0s 24 rfl rfl rfl (F6o _ (by unfold sm at hn;omega)) rfl (by decide) rfl,?_⟩;simp only [SV.ren,G3j,if_true];(try refine ev ?_);apply z;clear z K)
  refine kR q1O fun K1 u1=>?_;refine AWp.bb (AWp.ii ls (X:=Unit) (fun j _=>[(6,.acc 24),(25,.d (.slice (F8b ls))),(26,A0g ls.length),(27,A0g j)]) (fun j _=>[(24,.rows 3 (tyR (ls.take j).flatten))])
   (fun j _=>True) () trivial (by simp [sle,vle,A0k,F8b]) (by simp [ble,A0h,A1o]) ?_ ?_)
  ·intro _ _;rw [List.take_length];refine sR1 Int.lt_irrefl q1O ?_;refine AWp.stop rfl ?_;simp only [TB];refine u1 _ _ ?_;clear u1 K1;refine sR q1O ?_;exact aR
  ·intro j _ d hd hmem dp tk hlt hI;have htk:=E1f ls (j+1);rw [tk,List.map_append,List.sum_append] at htk;simp only [List.map_cons,List.map_nil,List.sum_cons,List.sum_nil,Nat.add_zero] at htk;rw [tk,List.flatten_append,List.flatten_cons,List.flatten_nil,List.append_nil];refine sR1 hlt q1O ?_;refine AWp.goOn rfl ?_;refine sK fun K2 u2=>?_;refine AWp.bb ?_
   (refine sV q1O fun K z=>?_;refine ci (E1s hd) ?_;apply z;clear z K)
   (refine lV q1O fun K z=>?_;refine⟨C0f _,by rw [List.length_flatten];unfold lim sm at *;omega,?_⟩;(try refine ev ?_);apply z;clear z K;try simp only [A0c,A0e])
   refine u2 _ _ ?_;clear u2 K2;refine lT q1O ?_;exact⟨(),trivial,sS,by simp [ble,A0h,A1o]⟩
 ·intro j _ d hd hmem dp tk hlt hI;have htk:=E1f ls (j+1);rw [tk,List.map_append,List.sum_append] at htk;simp only [List.map_cons,List.map_nil,List.sum_cons,List.sum_nil,Nat.add_zero] at htk;have hnn:¬ (((((ls.take j).map List.length).sum:Nat):Int)+(d.length:Int) < 0):=by omega
  rw [tk,List.map_append,List.sum_append];simp only [List.map_cons,List.map_nil,List.sum_cons,List.sum_nil,Nat.add_zero];refine sR1 hlt q1O ?_;refine AWp.goOn rfl ?_;refine sK fun K2 u2=>?_;refine AWp.bb ?_
  (refine sV q1O fun K z=>?_;refine ci (E1s hd) ?_;apply z;clear z K)
  (refine sV q1O fun K z=>?_;refine ca ?_;apply z;clear z K)
  refine sR1 hnn q1O ?_;refine AWp.ff rfl (AWp.kk (u2 _ _ ?_));clear u2 K2;refine lT q1O ?_;exact⟨(),trivial,sS,sB⟩
theorem RepC.split_nil {S:Nat→Prop} {w:World} {v:Value} (h:RepC S w (.slice []) v):RepC S w .nil v∨RepC S w .emp v:=by
 cases h with
 | slice0 a cap h1 =>
  cases a with
  | none=>rw [h1 rfl];exact .inl .nil
  | some a=>exact .inr (.emp a cap)
 | slice rows b off cap sz _ _ _ _ _ _ _=>exact .inr (.emp _ cap)
theorem A1p.split_nil {P:Program} {f:FuncId} {r:SV} {bx:A0b} (h1:A1p P f [.d .nil] [] r bx)(h2:A1p P f [.d .emp] [] r bx):A1p P f [.d (.slice [])] [] r bx:=by
 refine⟨h1.1,fun C β vs hi hv=>?_⟩;obtain⟨v,hv1,hv2⟩:=hv.get (j:=0) (c:=.d (.slice [])) rfl;have hvs:vs=[v]:=by
  have hl:=hv.1
  match vs,hl with
  | [u],_=>simpa using hv1
 subst hvs;rcases hv2.inv_d.split_nil with h | h
 ·exact h1.2 C β _ hi (.cons (.d _ _ h) .nil)
 ·exact h2.2 C β _ hi (.cons (.d _ _ h) .nil)
theorem E8k (l:List Str)(hl:l.length≤sm):A1p prog 150 [A1m l] [] (.acc 5) [(5,.rows 1 (A2x l))]:=by
 cases l with
 | nil =>
  rw [show A2x []=[] from rfl];refine A1p.split_nil ?_ ?_
  ·refine bB func150 ?_;refine sR [0,2,4] ?_;refine kR [0,2,4] fun K1 u1=>?_;refine tI ?_;refine sR [0,2,4] ?_;refine AWp.pp 5 1 2 rfl ?_;exact AWp.ret ⟨_,by rw [results150];rfl,.inl rfl,by simp [ble,A0h]⟩
  ·refine bB func150 ?_;refine sR [0,2,4] ?_;refine kR [0,2,4] fun K1 u1=>?_;refine kI u1 ?_;clear u1 K1
   (refine AWp.seqR [0,2,4,5] [5] (by decide +kernel) fun K z=>?_;refine ev ?_;apply z;clear z K)
   exact AWp.ret ⟨_,by rw [results150];rfl,.inl rfl,by simp [ble,A0h]⟩
 | cons x xs =>
  refine bB func150 ?_;refine sR [0,2,4] ?_;refine kR [0,2,4] fun K1 u1=>?_;refine kI u1 ?_;clear u1 K1
  (refine AWp.seqR [0,2,4,5] [5] (by decide +kernel) fun K z=>?_;refine ev ?_;refine⟨A6m _,by have:=hl;simp only [List.length_cons] at this;unfold lim sm at *;omega,?_⟩;(try refine ev ?_);apply z;clear z K)
  exact AWp.ret ⟨_,by rw [results150];rfl,.inl rfl,by simp [ble,A0h]⟩
def A8q (p:Prog)(x:Ty)(m:Str):Option Decl:=if A1w p x 1=true then (match p.decls.find? (B9w x.name m) with
 | some d=>if d.vars.length=x.args.length then some d else none
 | none=>none) else none
theorem D7u (p:Prog)(nm m:Str):B8y p (B3u nm (46::m))=p.decls.find? (B9w nm m):=by unfold B8y;rw [← F2h];rfl
def ex0:Ex:=.mk 0 [] (.mk [] [] 0) [] [] 0
theorem F7u:ex0.Sm:=.mk _ _ _ _ _ _ (by simp) (.mk _ _ _ (by simp) (by simp) (by simp)) (by simp) (by simp) (by simp) (by simp)
theorem E9e (d:Decl)(h:d.Sm):A0a prog 208 [deV d] (deV d):=by
 have hc:=D3x ⟨[d],.mk 0 [] (.mk [] [] 0) [] [] 0⟩ ⟨⟨show 1≤sm by decide,fun t ht=>by rw [List.mem_singleton.1 ht];exact h⟩,F7u⟩;have hg:=A0t (l:=[d]) (i:=0) rfl;refine cB func208 ?_;refine sR [0,1,2] ?_
 (refine sV [0,1,2] fun K z=>?_;refine cc hc ?_;refine cj hg ?_;apply z;clear z K)
 exact aR
abbrev q2O:List Nat:=[0,1,2,4,6,7,8,9,11,42]
theorem C5r (p:Prog)(h:p.Sm)(x:Ty)(hx:x.Sm)(m:Str)(hm:m.length≤sm):A0a prog 149 [.dptr (B0u p) 0,tyV x,A2d m] (.tuple [deV ((A8q p x m).getD default),A0m (A8q p x m).isSome]):=by
 have hg:=F7j p h x.name (46::m);rw [D7u] at hg;have hin:=B0c p h x 1 (by decide);unfold A8q;generalize (A5f p x.name).getD default=dd at *;cases hf:p.decls.find? (B9w x.name m) with
 | none =>
  rw [hf] at hg;simp only [Option.getD_none,Option.isSome_none] at hg;have e:(if A1w p x 1=true then (none:Option Decl) else none)=none:=by split <;> rfl
  simp only [e,Option.getD_none,Option.isSome_none];generalize A1w p x 1=bb at *;refine cB func149 ?_;refine sR q2O ?_
  (refine sV q2O fun K z=>?_;refine⟨by unfold lim sm at *;omega,?_⟩;(try refine ev ?_);refine cc hg ?_;apply z;clear z K)
  refine kC hin q2O fun K1 u1=>?_;cases bb
  ·refine sR q2O ?_;refine tI ?_;refine sR q2O ?_;exact aR
  ·refine sR q2O ?_;refine tI ?_;refine sR q2O ?_;exact aR
 | some d =>
  rw [hf] at hg;simp only [Option.getD_some,Option.isSome_some] at hg;have hdm:=List.mem_of_find?_eq_some hf;have hcl:=E9e d (h.decls.2 d hdm);cases hb:A1w p x 1 with
  | false =>
   rw [hb] at hin;simp only [Bool.false_eq_true,if_false,Option.getD_none,Option.isSome_none];refine cB func149 ?_;refine sR q2O ?_
   (refine sV q2O fun K z=>?_;refine⟨by unfold lim sm at *;omega,?_⟩;(try refine ev ?_);refine cc hg ?_;apply z;clear z K)
   refine kC hin q2O fun K1 u1=>?_;refine sR q2O ?_;refine tI ?_;refine sR q2O ?_;exact aR
  | true =>
   rw [hb] at hin;by_cases hlen:d.vars.length=x.args.length
   ·have hlen':(d.vars.length:Int)=x.args.length:=by omega
    simp only [if_true,if_pos hlen,Option.getD_some,Option.isSome_some];refine cB func149 ?_;refine sR q2O ?_
    (refine sV q2O fun K z=>?_;refine⟨by unfold lim sm at *;omega,?_⟩;(try refine ev ?_);refine cc hg ?_;apply z;clear z K)
    refine kC hin q2O fun K1 u1=>?_;refine sR1 hlen' q2O ?_;refine kI u1 ?_;clear u1 K1;refine sC hcl q2O ?_;exact aR
   ·have hlen':¬ (d.vars.length:Int)=x.args.length:=by omega
    simp only [if_true,if_neg hlen,Option.getD_none,Option.isSome_none];refine cB func149 ?_;refine sR q2O ?_
    (refine sV q2O fun K z=>?_;refine⟨by unfold lim sm at *;omega,?_⟩;(try refine ev ?_);refine cc hg ?_;apply z;clear z K)
    refine kC hin q2O fun K1 u1=>?_;refine sR1 hlen' q2O ?_;refine tI ?_;refine sR q2O ?_;exact aR
abbrev q3O:List Nat:=[0,1,2,3,4,5,6,7,8,21]
theorem B3a (p:Prog)(h:p.Sm)(x:Ty)(hx:x.Sm)(hi:A1w p x 1=true):A0a prog 35 [prV p,tyV x] (.d (.slice (paR (A1c p x)))):=by
 obtain⟨dd,hdd,_⟩:=A3n (by decide) hi;unfold A1c;rw [if_pos hi,hdd,Option.getD_some];have hds:=h.decls.2 dd (A3d hdd);have hfl:=hds.fields.1;have hn:=A1u dd.formals hds.formals.1;have hfi:=B8c p x.name;obtain⟨k,hk,hk2⟩:∃ k:Nat,p.decls[k]? = some dd∧B4b x.name p.decls 0=(k:Int):=by
  rcases A6r x.name p.decls 0 with ⟨_,h2⟩ | ⟨k,e,h1,h2,h3⟩
  ·have:A5f p x.name=none:=h2;rw [hdd] at this;cases this
  ·have:A5f p x.name=some e:=h3;rw [hdd] at this;obtain rfl:=Option.some.inj this;exact⟨k,h1,by rw [h2];simp⟩
 rw [hk2] at hfi;unfold B4q;refine cB func35 ?_;refine sR q3O ?_
 (refine sG q3O [] 9 [⟨[],[],[5],[5]⟩,⟨[],[],[5],[5]⟩,⟨[],[],[5],[5]⟩,⟨[],[],[5],[5]⟩,⟨[],[],[5],[5]⟩,⟨[],[],[5],[5]⟩,⟨[],[],[5],[5]⟩,⟨[],[],[5],[5]⟩,⟨[5],[5],[],[]⟩] fun K z=>?_;refine ev ?_;refine cc hfi ?_;refine ci (A0t hk) ?_;apply z;clear z K)
 refine sR q3O ?_;refine AWp.pp 6 5 6 rfl ?_;refine kR q3O fun K1 u1=>?_;refine AWp.bb (AWp.ii dd.fields (X:=Unit) (fun j _=>[(3,.box 3 0),(5,.box 5 0),(6,.acc 6),(7,A0g j)])
  (fun j _=>[(3,.cells [.d (.str x.name),A3s x.args,A0g x.pos]),(5,.cells ((deC dd).map .d)),(6,.rows 5 (paR ((dd.fields.take j).map (Param.subst (A0d dd.formals) x.args))))])
  (fun j _=>True) () trivial sS (by simp [ble,A0h,paR,deC]) ?_ ?_)
 ·intro _ _;rw [List.take_length];refine kR1 Int.lt_irrefl q3O fun K2 u2=>?_;refine AWp.ss rfl ?_;simp only [TB];refine u1 _ _ ?_;refine sR q3O ?_;exact aR
 ·intro j _ d hd hmem dp tk hlt _;rw [tk];have hsub:=A2j (A0d dd.formals) x.args hx.arg d.type (hds.fields.2 d hmem).type;refine kR1 hlt q3O fun K2 u2=>?_;refine gI u2 ?_;clear u2 K2;refine sK fun K2 u2=>?_;refine AWp.bb ?_
  (refine sV q3O fun K z=>?_;refine ci (A0r hd) ?_;apply z;clear z K)
  (refine sG q3O [] 7 [] fun K z=>?_;refine ev ?_;refine cc hn ?_;refine cc hsub ?_;apply z;clear z K)
  (refine lV q3O fun K z=>?_;refine⟨by simp,by simp only [List.length_map,List.length_take];unfold lim sm at *;omega,?_⟩;(try refine ev ?_);apply z;clear z K;try simp only [A0c,A0e])
  refine u2 _ _ ?_;clear u2 K2;refine lT q3O ?_;exact⟨(),trivial,sS,by simp [ble,A0h,paR,deC,paC,Param.subst]⟩
end Go.Abs
