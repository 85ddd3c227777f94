/- what castingsref15.Head, castingsref16.Type, castingsref17.Program and infer compute -/
import Derived.Test.YtfjaahliphbklaaGreatDoorJS51
import Derived.Test.YtfjaahliphbklaaGreatDoorJS37
import Derived.Test.YtfjaahliphbklaaGreatDoorJAb7
import Derived.Test.YtfjaahliphbklaaGreatDoorJAb21
namespace Go.Abs
set_option linter.unusedSimpArgs false
set_option linter.unusedVariables false
open Go Go.Proofs Tryz
set_option maxRecDepth 100000
set_option maxHeartbeats 1000000
structure TCtx where
 p:Prog
 strict:Bool
 env:List Formal
 vars:List Param
def ty0:Ty:=.mk [] [] 0
def noT (n:Int):Ty × Res:=(ty0,C9h n)
def B3s (z:Ty × Res):Ty × Res:=if z.2.bad=false∧400 < z.1.count 0 then (ty0,⟨0,true,true⟩) else z
def B0b (c:TCtx)(x:Ty):Bool:=decide (A3u c.env x < 0) && A1w c.p x 1
def D3s (c:TCtx)(x:Ty):Bool:=decide (0≤A3u c.env x) || A1w c.p x 2
def C4f (c:TCtx)(want:Ty)(e:Ex)(z:Ty × Res):Res:=if z.2.bad=false∧A5x c.p c.env z.1 want=false then C9h e.pos else z.2
def C0i (c:TCtx):List Ty→List Ex→List (Ty × Res)→Res
 | w::ws,e::es,z::zs=>if (C4f c w e z).bad=true then C4f c w e z else C0i c ws es zs
 | _,_,_=>E3o
def F3y (c:TCtx)(e:Ex)(x:Ty):Int ⊕ Sig :=
 match (A3o c.p c.env x)[(A3j (A3o c.p c.env x) e.name).toNat]? with
 | none=>.inl e.pos
 | some s=>if A3j (A3o c.p c.env x) e.name < 0∨s.formals.length≠e.targs.length then .inl e.pos else
  match E2j c.p c.env e.targs with
  | some q=>.inl q
  | none=>if 0≤A4s c.p c.env s.formals e.targs then .inl ((e.targs[(A4s c.p c.env s.formals e.targs).toNat]?).getD default).pos else
   if e.kids.length≠s.params.length+1 then .inl e.pos else .inr s
def G5k (s:Sig)(a:List Ty):List Ty:=s.params.map fun f=>f.type.subst (A0d s.formals) a
def E4k (c:TCtx)(e:Ex)(x:Ty)(zs:List (Ty × Res)):Ty × Res:=match F3y c e x with
 | .inl q=>noT q
 | .inr s=>B3s (s.result.subst (A0d s.formals) e.targs,C0i c (G5k s e.targs) e.kids.tail zs)
def B6u (l:List Param)(nm:Str):Int:=B0h (fun f:Param=>decide (f.name=nm)) l
def B9a (c:TCtx)(e:Ex)(x:Ty)(r:Res):Ty × Res :=
 if B0b c x=false then noT e.pos else
 match (A1c c.p x)[(B6u (A1c c.p x) e.name).toNat]? with
 | some f=>if B6u (A1c c.p x) e.name < 0 then noT e.pos else B3s (f.type,r)
 | none=>noT e.pos
def B5s (c:TCtx)(x:Ty):Ty:=(A1i c.env x).getD x
def C9e (c:TCtx)(x y:Ty):Bool:=D3s c x && (D3s c y || A5x c.p c.env y (B5s c x))
def C8e (c:TCtx)(e:Ex)(x:Ty)(r:Res):Ty × Res:=match chk c.p c.env e.type with
 | some q=>noT q
 | none=>if c.strict=true∧C9e c x e.type=false then noT e.pos else (e.type,r)
def E4s (c:TCtx)(e:Ex):Ty × Res:=match c.vars[(B6u c.vars e.name).toNat]? with
 | some f=>if B6u c.vars e.name < 0 then noT e.pos else (f.type,E3o)
 | none=>noT e.pos
def G4d (c:TCtx)(e:Ex)(zs:List (Ty × Res)):Ty × Res:=match chk c.p c.env e.type with
 | some q=>noT q
 | none=>if B0b c e.type=false∨(A1c c.p e.type).length≠e.kids.length then noT e.pos else (e.type,C0i c ((A1c c.p e.type).map (·.type)) e.kids zs)
def D7j (c:TCtx)(e:Ex)(zs:List (Ty × Res)):Ty × Res :=
 if e.kind=1 then E4s c e else if e.kind=3 then G4d c e zs else
 if e.kind≠2∧e.kind≠4∧e.kind≠5 then noT e.pos else
 match zs with
 | []=>noT e.pos
 | z::zs=>if z.2.bad=true then z else if e.kind=2 then E4k c e z.1 zs else if e.kind=4 then B9a c e z.1 z.2 else C8e c e z.1 z.2
mutual
def A3b (c:TCtx):Ex→Ty × Res
 | .mk k n t a ks q=>D7j c (.mk k n t a ks q) (D2s c ks)
def D2s (c:TCtx):List Ex→List (Ty × Res)
 | []=>[]
 | e::es=>A3b c e::D2s c es
end
theorem C6n (c:TCtx):∀ l,D2s c l=l.map (A3b c)
 | []=>by rw [D2s];rfl
 | e::es=>by rw [D2s,C6n c es];rfl
theorem C7y (c:TCtx)(e:Ex):A3b c e=D7j c e (e.kids.map (A3b c)):=by cases e with | mk k n t a ks q=>rw [A3b,C6n];rfl
abbrev TO:=Ty × Option Int
def noI (n:Int):TO:=(ty0,some n)
def G2e (a:Ty × Res)(b:TO):Prop:=a.2.large=true∧a.2.bad=true∨a.2.large=false∧(a.2.bad=true∧b.2=some a.2.pos∨a.2.bad=false∧a.2.pos=0∧b=(a.1,none))
theorem G2e.no (n:Int):G2e (noT n) (noI n):=.inr ⟨rfl,.inl ⟨rfl,rfl⟩⟩
def A5g (l:List Str):List Ty:=l.map fun v=>.mk v [] 0
def D0s (p:Prog)(d:Decl):List Formal:=((A1f p d.name).zip d.vars).map fun z=>⟨z.2,z.1.bound.subst (A0d (A1f p d.name)) (A5g d.vars),z.1.pos⟩
def D2r (p:Prog)(env:List Formal)(pre:List Str):List Sig→Option Int
 | []=>none
 | s::ss=>if s.name∈pre then some s.pos else match E6f p env s with
  | some q=>some q
  | none=>D2r p env (pre++[s.name]) ss
def E1v (p:Prog)(i:Nat)(d:Decl):Option Int :=
 if B4b d.name p.decls 0≠(i:Int) then some d.pos else
 match B2q p [] d.formals with
 | some q=>some q
 | none=>if d.kind=1 then (match F2z p d.formals [] d.fields with
   | some q=>some q
   | none=>if d.name∈C5a p d.name then some d.pos else none) else D2r p d.formals [] d.sigs
def E5d (p:Prog)(pre:List Str):List Str→Bool
 | []=>false
 | v::vs=>decide (A1z p v≠0∨v∈pre) || E5d p (pre++[v]) vs
def G2p (d:Decl):Option Int→Option Int
 | some q=>some q
 | none=>(d.sig.params.find? fun f=>decide (f.name=d.recv)).map (·.pos)
def C7s (p:Prog)(i:Nat)(d:Decl):Option Int :=
 if A1z p d.name≠1∨d.vars.length≠(A1f p d.name).length then some d.pos else
 if E5d p [] d.vars=true then some d.pos else
 if B1c p d.name d.sig.name≠(i:Int) then some d.pos else
 G2p d (E6f p (D0s p d) d.sig)
def E9v (p:Prog)(i:Nat)(d:Decl):Option Int:=if d.kind=1∨d.kind=2 then E1v p i d else if d.kind=3 then C7s p i d else some d.pos
def G1c (d:Decl):Ty:=.mk d.name (A5g d.vars) 0
def A8g (p:Prog)(st:Bool)(d:Decl):TCtx:=⟨p,st,D0s p d++d.sig.formals,⟨d.recv,G1c d,0⟩::d.sig.params⟩
def E7k (p:Prog)(st:Bool)(d:Decl):Res:=if d.kind=3 then C4f (A8g p st d) d.sig.result d.body (A3b (A8g p st d) d.body) else E3o
def F1h (p:Prog)(st:Bool):List Decl→Nat→Res
 | [],_=>(A3b ⟨p,st,[],[]⟩ p.main).2
 | d::ds,i=>match E9v p i d with
  | some q=>C9h q
  | none=>if (E7k p st d).bad=true then E7k p st d else F1h p st ds (i+1)
def E8c (p:Prog)(st:Bool):Res:=F1h p st p.decls 0
abbrev D5j:List Nat:=[0,1,2,3,4,5,6,7,8,9,18,39]
theorem D1z (p:Prog)(h:p.Sm)(d:Decl)(hd:d.Sm):A1p prog 175 [prV p,deV d] [] (.acc 8) [(8,.rows 5 (foR (D0s p d)))]:=by
 have hfl:=B4o h d.name;have hf:=A6o p d.name;have hnm:=A1u (A1f p d.name) hfl.1;have hvl:=hd.vars.1;have hvs:∀ u,u∈A5g d.vars→u.Sm:=by intro u hu;obtain⟨v,hv,rfl⟩:=List.mem_map.1 hu;exact .mk _ _ _ (hd.vars.2 v hv) (by simp) (by simp)
 unfold D0s;generalize hL:A1f p d.name=L at *;refine bB func175 ?_;refine sR D5j ?_
 (refine AWp.zz 2 rfl rfl ?_;refine AWp.zz 3 rfl rfl (wk [(2,.dptr (prC p) 0),(3,.dptr (deC d) 0),(4,.d .nil)] [] ?_))
 refine sC hf D5j ?_;refine sR D5j ?_;refine AWp.pp 6 3 6 rfl ?_;refine kR D5j fun K1 u1=>?_;refine AWp.bb (AWp.ii d.vars (X:=Unit) (fun j _=>[(3,.dptr (deC d) 0),(5,.d (.slice (foR L))),(6,.acc 6),(7,A0g j)]) (fun j _=>[(6,.rows 3 (tyR (A5g (d.vars.take j))))])
  (fun j _=>True) () trivial (by simp [sle,vle,A0k,deC]) (by simp [ble,A0h,A1o,A5g]) ?_ ?_)
 rotate_left
 ·intro j _ s hs hmem dp tk hlt _;rw [tk];refine kR1 hlt D5j fun K2 u2=>?_;refine gI u2 ?_;clear u2 K2;refine sK fun K2 u2=>?_;refine AWp.bb ?_
  (refine lV D5j fun K z=>?_;refine ci (A2b hs) ?_;refine⟨by simp,by simp only [A5g,List.length_map,List.length_take];unfold lim sm at *;omega,?_⟩;(try refine ev ?_);apply z;clear z K;try simp only [A0c,A0e])
  refine u2 _ _ ?_;clear u2 K2;refine lT D5j ?_;exact⟨(),trivial,(by simp [sle,vle,A0k,deC]),by simp [ble,A0h,A1o,A5g,tyC,Ty.name,Ty.args,Ty.pos]⟩
 intro _ _;rw [List.take_length];refine kR1 Int.lt_irrefl D5j fun K2 u2=>?_;refine AWp.ss rfl ?_;simp only [TB];refine u1 _ _ ?_;clear u2 K2 u1 K1
 (refine AWp.publish 6 rfl (wk [(3,.dptr (deC d) 0),(5,.d (.slice (foR L))),(6,.d (.slice (tyR (A5g d.vars))))] [] ?_))
 refine sR D5j ?_;refine AWp.pp 8 5 8 rfl ?_;refine kR D5j fun K1 u1=>?_;have hsub:∀ z,z∈L.zip d.vars→A0a prog 90 [tyV z.1.bound,A1m (L.map (·.name)),A3s (A5g d.vars)] (tyV (z.1.bound.subst (A0d L) (A5g d.vars))):=fun z hz =>A2j (L.map (·.name)) (A5g d.vars) hvs z.1.bound (hfl.2 z.1 (List.of_mem_zip hz).1).bound
 refine AWp.bb (AWp.ii (L.zip d.vars) (X:=Unit) (fun j _=>[(3,.dptr (deC d) 0),(5,.d (.slice (foR L))),(6,.d (.slice (tyR (A5g d.vars)))),(8,.acc 8),(9,A0g j)])
  (fun j _=>[(8,.rows 5 (foR (((L.zip d.vars).take j).map fun z=>⟨z.2,z.1.bound.subst (A0d L) (A5g d.vars),z.1.pos⟩)))])
  (fun j _=>True) () trivial (by simp [sle,vle,A0k,deC]) (by simp [ble,A0h,foR]) ?_ ?_)
 rotate_left
 ·intro j _ z hz hmem dp tk hlt _;obtain⟨f,v⟩:=z;rw [List.getElem?_zip_eq_some] at hz;have hj1:=(List.getElem?_eq_some_iff.1 hz.1).1;have hj2:=(List.getElem?_eq_some_iff.1 hz.2).1;have hl1:(j:Int) < (L.length:Int):=by omega
  have hl2:(j:Int) < ((A5g d.vars).length:Int):=by simp only [A5g,List.length_map];omega
  have hs:=hsub (f,v) hmem;simp only at hs;have hzl:(L.zip d.vars).length≤sm:=by rw [List.length_zip];omega
  rw [tk];refine kR2 hl1 hl2 D5j fun K2 u2=>?_;refine gI u2 ?_;clear u2 K2;refine sK fun K2 u2=>?_;refine AWp.bb ?_
  (refine lG D5j [] 22 [] fun K z=>?_;refine ev ?_;refine ci (A2b hz.2) ?_;refine ci (A0v hz.1) ?_;refine cc hnm ?_;refine cc hs ?_;refine ci (A0v hz.1) ?_;refine⟨by simp,by simp only [List.length_map,List.length_take];unfold lim sm at *;omega,?_⟩;(try refine ev ?_);apply z;clear z K;try simp only [A0c,A0e])
  refine u2 _ _ ?_;clear u2 K2;refine lT D5j ?_;exact⟨(),trivial,(by simp [sle,vle,A0k,deC]),by simp [ble,A0h,foR,foC]⟩
 intro _ _;rw [List.take_length];have fin:∀ sl bx,sle sl [(8,.acc 8)]→ble bx [(8,.rows 5 (foR ((L.zip d.vars).map fun z=>⟨z.2,z.1.bound.subst (A0d L) (A5g d.vars),z.1.pos⟩)))]→K1 sl bx:=by intro sl bx h1 h2;refine u1 _ _ (AWp.ww h1 h2 ?_);clear u1 K1;refine sR D5j ?_;exact AWp.ret ⟨_,by rw [results175];rfl,.inl rfl,by simp [ble,A0h]⟩
 refine sK fun K2 u2=>?_;by_cases hl1:L.length≤d.vars.length
 ·have e:(L.zip d.vars).length=L.length:=by rw [List.length_zip];omega
  rw [e];refine sR1 Int.lt_irrefl D5j ?_;refine AWp.ss rfl ?_;simp only [TB];exact fin _ _ sS sB
 ·have e:(L.zip d.vars).length=d.vars.length:=by rw [List.length_zip];omega
  rw [e];have hl1:(d.vars.length:Int) < (L.length:Int):=by omega
  have hl2:¬ (d.vars.length:Int) < ((A5g d.vars).length:Int):=by simp [A5g]
  refine sR2 hl1 hl2 D5j ?_;refine AWp.ss rfl ?_;simp only [TB];exact fin _ _ sS sB
theorem F7c (p:Prog)(h:p.Sm)(d:Decl)(hd:d.Sm):A0a prog 175 [prV p,deV d] (.d (.slice (foR (D0s p d)))):=(D1z p h d hd).pub
abbrev rsC (r:Res):BoxC:=.cells [.d (.int .i64 r.pos),.d (.bool r.bad),.d (.bool r.large)]
abbrev A6y:List Nat:=[0,1,2,4,5,6,7,8,19,34,52,58,69,79]
set_option maxHeartbeats 4000000 in
theorem E2w (p:Prog)(h:p.Sm)(hpl:p.decls.length≤100000)(i:Nat)(d:Decl)(hd:p.decls[i]? = some d)(hk:d.kind=1∨d.kind=2)(hsz:∀ s,s∈d.sigs→d.formals.length+s.formals.length≤sm) :
  A0a prog 110 [prV p,A0g i] (rsV (B5c (E1v p i d))):=by
 have hds:=h.decls.2 d (List.mem_of_getElem? hd);have hfi:=B8c p d.name;have hfo:=B8z p h [] d.formals (by simpa using hds.formals.1) (by simp) hds.formals.2;have hpa:=C2p p h d.formals hds.formals.1 hds.formals.2 d.fields hds.fields.1 hds.fields.2;have hre:=F3h p hpl d.name;have hin:=E4b (C5a p d.name) d.name;unfold E1v;refine cB func110 ?_;refine sR A6y ?_
 (refine sV A6y fun K z=>?_;refine ci (A0t hd) ?_;apply z;clear z K)
 (refine AWp.zz 2 rfl rfl ?_;refine AWp.zz 5 rfl rfl (wk [(1,A0g i),(2,.dptr (prC p) 0),(4,.box 4 0),(5,.dptr (deC d) 0)] [(4,rs0)] ?_))
 by_cases h0:B4b d.name p.decls 0=(i:Int);rotate_left
 ·rw [if_pos h0];refine sK fun K1 u1=>?_
  (refine sV A6y fun K z=>?_;refine⟨_,.inl ⟨_,rfl,hfi,rfl⟩,?_⟩;(try refine ev1 h0 ?_);apply z;clear z K)
  refine tI ?_;refine sR A6y ?_;exact aR
 rw [if_neg fun hh=>hh h0];rw [h0] at hfi;refine kC hfi A6y fun K1 u1=>?_;refine kI u1 ?_;clear u1 K1;cases hf:B2q p [] d.formals with
 | some q =>
  rw [hf] at hfo;simp only [rsV,B5c,C9h] at hfo;refine sC hfo A6y ?_;refine kR A6y fun K1 u1=>?_;refine AWp.ff rfl (AWp.kk (u1 _ _ ?_));clear u1 K1;refine sK fun K1 u1=>?_;rcases hk with k1 | k2
  ·refine sR1 k1 A6y ?_;refine tI ?_;refine sR A6y ?_;exact aR
  ·have k1:¬ d.kind=1:=by omega
   refine sR1 k1 A6y ?_;refine kI u1 ?_;clear u1 K1;refine sR A6y ?_;refine kR A6y fun K1 u1=>?_;refine AWp.bb (AWp.loop (X:=Unit) (fun _=>[(1,A0g i),(2,.dptr (prC p) 0),(4,.box 4 0),(5,.dptr (deC d) 0),(6,.box 6 0),(8,A0g 0)]) (fun _=>[(4,rs0),(6,rsC (C9h q))]) (fun _=>True) (fun _=>0) () trivial (by simp [sle,vle,A0k,deC,prC]) (by simp [ble,A0h,C9h]) ?_);intro _ _;refine sK fun K2 u2=>?_;by_cases hl:(0:Int) < (d.sigs.length:Int)
   ·refine sR1 hl A6y ?_;refine AWp.ss rfl ?_;simp only [TB];refine u1 _ _ ?_;refine sR A6y ?_;exact aR
   ·refine sR1 hl A6y ?_;refine AWp.ss rfl ?_;simp only [TB];refine u1 _ _ ?_;refine sR A6y ?_;exact aR
 | none =>
  rw [hf] at hfo;simp only [rsV,B5c,E3o] at hfo;simp only;refine sC hfo A6y ?_;by_cases k1:d.kind=1
  ·rw [if_pos k1];cases hp:F2z p d.formals [] d.fields with
   | some q =>rw [hp] at hpa;simp only [rsV,B5c,C9h] at hpa;refine kR1 k1 A6y fun K1 u1=>?_;refine AWp.tt rfl ?_;refine sC hpa A6y ?_;refine dR A6y 10 ?_;refine AWp.ff rfl (AWp.kk ?_);simp only [A0c,];refine u1 _ _ ?_;clear u1 K1;refine kR A6y fun K1 u1=>?_;refine tI ?_;refine sR A6y ?_;exact aR
   | none =>
    rw [hp] at hpa;simp only [rsV,B5c,E3o] at hpa;simp only;by_cases hm:d.name∈C5a p d.name
    ·rw [if_pos hm];rw [decide_eq_true hm] at hin;refine kR1 k1 A6y fun K1 u1=>?_;refine AWp.tt rfl ?_;refine sC hpa A6y ?_
     (refine sG A6y [] 10 [] fun K z=>?_;refine ev ?_;refine cc hre ?_;refine cc hin ?_;apply z;clear z K)
     refine AWp.tt rfl ?_
     (refine lV A6y fun K z=>?_;apply z;clear z K;try simp only [A0c,])
     refine u1 _ _ ?_;clear u1 K1;refine kR A6y fun K1 u1=>?_;refine tI ?_;refine sR A6y ?_;exact aR
    ·rw [if_neg hm];rw [decide_eq_false hm] at hin;refine kR1 k1 A6y fun K1 u1=>?_;refine AWp.tt rfl ?_;refine sC hpa A6y ?_
     (refine sG A6y [] 10 [] fun K z=>?_;refine ev ?_;refine cc hre ?_;refine cc hin ?_;apply z;clear z K)
     refine AWp.ff rfl (AWp.kk ?_);simp only [A0c,];refine u1 _ _ ?_;clear u1 K1;refine kR A6y fun K1 u1=>?_;refine tI ?_;refine sR A6y ?_;exact aR
  rw [if_neg k1];refine kR1 k1 A6y fun K1 u1=>?_;refine AWp.ff rfl (AWp.kk (u1 _ _ ?_));clear u1 K1;refine kR1 k1 A6y fun K1 u1=>?_;refine kI u1 ?_;clear u1 K1;refine sR A6y ?_;refine AWp.pp 7 1 7 rfl ?_;refine kR A6y fun K1 u1=>?_;have fin:∀ (r:Res),r=B5c (D2r p d.formals [] d.sigs)→∀ sl bx,sle sl [(4,.box 4 0),(6,.box 6 0)]→ble bx [(4,rs0),(6,rsC r)]→K1 sl bx:=by intro r hr sl bx h1 h2;refine u1 _ _ (AWp.ww h1 h2 ?_);clear u1 K1;refine sR A6y ?_;rw [← hr];exact aR
  refine AWp.bb (AWp.loop (X:=Nat × Option Int) (fun x=>[(1,A0g i),(2,.dptr (prC p) 0),(4,.box 4 0),(5,.dptr (deC d) 0),(6,.box 6 0),(7,.acc 7),(8,A0g x.1)]) (fun x=>[(4,rs0),(6,rsC (B5c x.2)),(7,.rows 1 (A2x ((d.sigs.take x.1).map (·.name))))])
   (fun x=>x.1≤d.sigs.length∧(match x.2 with | some q=>D2r p d.formals [] d.sigs=some q | none=>D2r p d.formals ((d.sigs.take x.1).map (·.name)) (d.sigs.drop x.1)=D2r p d.formals [] d.sigs))
   (fun x=>d.sigs.length - x.1) (0,none) ⟨by simp,by simp⟩ (by simp [sle,vle,A0k,deC,prC]) (by simp [ble,A0h,A2x,B5c,E3o]) ?_)
  rintro⟨j,o⟩ ⟨hj,hI⟩;simp only at hj hI;by_cases hlt:j < d.sigs.length
  ·have hlt':(j:Int) < (d.sigs.length:Int):=by omega
   cases o with
   | some q =>simp only at hI;refine kR1 hlt' A6y fun K2 u2=>?_;refine AWp.ss rfl ?_;simp only [TB];exact fin (C9h q) (by rw [hI];rfl) _ _ sS (by simp [ble,A0h,B5c])
   | none =>
    simp only at hI;have hs:d.sigs[j]? = some d.sigs[j]:=List.getElem?_eq_getElem hlt;have hmem:d.sigs[j]∈d.sigs:=List.getElem_mem hlt;have dp:d.sigs.drop j=d.sigs[j]::d.sigs.drop (j+1):=List.drop_eq_getElem_cons hlt;have tk:d.sigs.take (j+1)=d.sigs.take j++[d.sigs[j]]:=List.take_succ_eq_append_getElem hlt;have hsg:=D9f p h d.formals d.sigs[j] (hsz _ hmem) hds.formals.2 (hds.sigs.2 _ hmem);have hdl:=hds.sigs.1;generalize d.sigs[j]=s at *;rw [dp,D2r] at hI;have hin:=E4b ((d.sigs.take j).map (·.name)) s.name;refine kR1 hlt' A6y fun K2 u2=>?_;refine gI u2 ?_;clear u2 K2;refine sK fun K2 u2=>?_;refine AWp.bb ?_;refine sK fun K3 u3=>?_;by_cases hm:s.name∈(d.sigs.take j).map (·.name)
    ·rw [if_pos hm] at hI;rw [← hI];rw [decide_eq_true hm] at hin
     (refine sV A6y fun K z=>?_;refine ci (A0n hs) ?_;refine⟨_,.inr ⟨_,rfl,hin,rfl⟩,?_⟩;(try refine ev ?_);apply z;clear z K)
     refine tI ?_
     (refine sV A6y fun K z=>?_;refine ci (A0n hs) ?_;apply z;clear z K)
     exact aR
    rw [if_neg hm] at hI;rw [decide_eq_false hm] at hin
    (refine sV A6y fun K z=>?_;refine ci (A0n hs) ?_;refine⟨_,.inr ⟨_,rfl,hin,rfl⟩,?_⟩;(try refine ev ?_);apply z;clear z K)
    refine kI u3 ?_;clear u3 K3
    (refine sV A6y fun K z=>?_;refine ci (A0n hs) ?_;refine⟨by simp,by simp only [List.length_map,List.length_take];unfold lim sm at *;omega,?_⟩;(try refine ev ?_);apply z;clear z K)
    (refine lG A6y [] 8 [] fun K z=>?_;refine ev ?_;refine ci (A0n hs) ?_;refine cc hsg ?_;apply z;clear z K;try simp only [A0c,A0e])
    refine u2 _ _ ?_;clear u2 K2;refine lT A6y ?_;refine⟨(j+1,E6f p d.formals s),⟨by omega,?_⟩,by simp only;omega,(by simp [sle,vle,A0k,deC,prC]),?_⟩
    ·simp only;cases hq:E6f p d.formals s with
     | some q=>rw [hq] at hI;exact hI.symm
     | none=>rw [hq] at hI;simp only;rw [tk,List.map_append];exact hI
    ·simp only;rw [tk,List.map_append];cases E6f p d.formals s <;> simp [ble,A0h,A2x,B5c,E3o,C9h]
  ·have hj':j=d.sigs.length:=by omega
   subst hj';refine sK fun K2 u2=>?_;cases o with
   | some q =>simp only at hI;refine sR1 Int.lt_irrefl A6y ?_;refine AWp.ss rfl ?_;simp only [TB];exact fin (C9h q) (by rw [hI];rfl) _ _ sS (by simp [ble,A0h,B5c])
   | none =>simp only at hI;rw [List.drop_length,D2r] at hI;refine sR1 Int.lt_irrefl A6y ?_;refine AWp.ss rfl ?_;simp only [TB];exact fin E3o (by rw [← hI];rfl) _ _ sS (by simp [ble,A0h,B5c])
theorem D8z {d:Decl} (hd:d.Sm):∀ u,u∈A5g d.vars→u.Sm:=by intro u hu;obtain⟨v,hv,rfl⟩:=List.mem_map.1 hu;exact .mk _ _ _ (hd.vars.2 v hv) (by simp) (by simp)
theorem F2r {p:Prog} (h:p.Sm) {d:Decl} (hd:d.Sm):∀ f,f∈D0s p d→f.Sm:=by intro f hf;unfold D0s at hf;obtain⟨⟨l,v⟩,hz,rfl⟩:=List.mem_map.1 hf;have hl:=(B4o h d.name).2 l (List.of_mem_zip hz).1;exact⟨hd.vars.2 v (List.of_mem_zip hz).2,hl.bound.subst (D8z hd)⟩
theorem C8o (p:Prog)(d:Decl):(D0s p d).length≤d.vars.length:=by unfold D0s;rw [List.length_map,List.length_zip];omega
abbrev B4u:List Nat:=[0,1,2,4,5,6,7,8,9,33,39,61,71,90,102]
set_option maxHeartbeats 4000000 in
theorem D6e (p:Prog)(h:p.Sm)(i:Nat)(d:Decl)(hd:p.decls[i]? = some d)(hsz:d.vars.length+d.sig.formals.length≤sm) :
  A0a prog 111 [prV p,A0g i] (rsV (B5c (C7s p i d))):=by
 have hds:=h.decls.2 d (List.mem_of_getElem? hd);have hki:=B7e p d.name;have hfo:=A6o p d.name;have hfm:=B5q p h.decls.1 d.name d.sig.name;have henv:=F7c p h d hds;have hel:=C8o p d;have hsg:=D9f p h (D0s p d) d.sig (by omega) (F2r h hds) hds.sig;have hvl:=hds.vars.1;unfold C7s;generalize D0s p d=ev at *;generalize A1f p d.name=L at *;refine cB func111 ?_;refine sR B4u ?_
 (refine sV B4u fun K z=>?_;refine ci (A0t hd) ?_;apply z;clear z K)
 refine sR B4u ?_
 (refine AWp.zz 2 rfl rfl ?_;refine AWp.zz 5 rfl rfl (wk [(1,A0g i),(2,.dptr (prC p) 0),(4,.box 4 0),(5,.dptr (deC d) 0),(6,.box 6 0)] [(4,rs0),(6,rsC (C9h d.pos))] ?_))
 refine sK fun K1 u1=>?_;by_cases a1:A1z p d.name=1;rotate_left
 ·rw [if_pos (.inl a1)]
  (refine sG B4u [] 14 [] fun K z=>?_;refine Go.Abs.ev ?_;refine⟨_,.inl ⟨_,rfl,hki,rfl⟩,?_⟩;(try refine Go.Abs.ev1 a1 ?_);apply z;clear z K)
  refine tI ?_;refine sR B4u ?_;exact aR
 by_cases a2:d.vars.length=L.length;rotate_left
 ·rw [if_pos (.inr a2)];have a2':¬ (d.vars.length:Int)=(L.length:Int):=by omega
  (refine sG B4u [] 14 [] fun K z=>?_;refine Go.Abs.ev ?_;refine⟨_,.inl ⟨_,rfl,hki,rfl⟩,?_⟩;(try refine Go.Abs.ev1 a1 ?_);refine⟨_,.inl ⟨_,rfl,hfo,rfl⟩,?_⟩;(try refine Go.Abs.ev1 a2' ?_);apply z;clear z K)
  refine tI ?_;refine sR B4u ?_;exact aR
 rw [if_neg (by rintro (hh | hh);exact hh a1;exact hh a2)] at u1 ⊢;have a2':(d.vars.length:Int)=(L.length:Int):=by omega
 (refine sG B4u [] 14 [] fun K z=>?_;refine Go.Abs.ev ?_;refine⟨_,.inl ⟨_,rfl,hki,rfl⟩,?_⟩;(try refine Go.Abs.ev2 a1 a2' ?_);refine cc hfo ?_;apply z;clear z K)
 refine kI u1 ?_;clear u1 K1 a1 a2 a2';refine kR B4u fun K1 u1=>?_;refine AWp.bb (AWp.ii d.vars (X:=Unit) (fun j _=>[(1,A0g i),(2,.dptr (prC p) 0),(4,.box 4 0),(5,.dptr (deC d) 0),(6,.box 6 0),(7,A0g j)]) (fun _ _=>[(4,rs0),(6,rsC (C9h d.pos))])
  (fun j _=>E5d p (d.vars.take j) (d.vars.drop j)=E5d p [] d.vars) () (by simp) (by simp [sle,vle,A0k,deC,prC]) (by simp [ble,A0h,C9h]) ?_ ?_)
 rotate_left
 ·intro j _ s hs hmem dp tk hlt hI;rw [dp,E5d] at hI;have hkv:=B7e p s;have hin:A0a prog 172 [.d (.slice ((A2x d.vars).take j)),A2d s] (A0m (decide (s∈d.vars.take j))):=by
   rw [A2x,← List.map_take];exact E4b (d.vars.take j) s
  refine kR1 hlt B4u fun K2 u2=>?_;refine gI u2 ?_;clear u2 K2;refine sK fun K2 u2=>?_;refine AWp.bb ?_;by_cases b1:A1z p s=0;rotate_left
  ·rw [decide_eq_true (.inl b1),Bool.true_or] at hI;rw [if_pos hI.symm]
   (refine sG B4u [] 18 [] fun K z=>?_;refine Go.Abs.ev ?_;refine ci (A2b hs) ?_;refine⟨_,.inl ⟨_,rfl,hkv,rfl⟩,?_⟩;(try refine Go.Abs.ev1 b1 ?_);apply z;clear z K)
   refine AWp.tt rfl ?_;refine sR B4u ?_;exact aR
  by_cases b2:s∈d.vars.take j
  ·rw [decide_eq_true (.inr b2),Bool.true_or] at hI;rw [if_pos hI.symm];rw [decide_eq_true b2] at hin
   (refine sG B4u [] 18 [] fun K z=>?_;refine Go.Abs.ev ?_;refine ci (A2b hs) ?_;refine⟨_,.inl ⟨_,rfl,hkv,rfl⟩,?_⟩;(try refine Go.Abs.ev1 b1 ?_);refine⟨A6m _,by omega,by omega,?_⟩;(try refine Go.Abs.ev1 b1 ?_);refine ci (A2b hs) ?_;refine cc hin ?_;apply z;clear z K)
   refine AWp.tt rfl ?_;refine sR B4u ?_;exact aR
  rw [decide_eq_false (by rintro (hh | hh);exact hh b1;exact b2 hh),Bool.false_or] at hI;rw [decide_eq_false b2] at hin
  (refine sG B4u [] 18 [] fun K z=>?_;refine Go.Abs.ev ?_;refine ci (A2b hs) ?_;refine⟨_,.inl ⟨_,rfl,hkv,rfl⟩,?_⟩;(try refine Go.Abs.ev1 b1 ?_);refine⟨A6m _,by omega,by omega,?_⟩;(try refine Go.Abs.ev1 b1 ?_);refine ci (A2b hs) ?_;refine cc hin ?_;apply z;clear z K)
  refine AWp.ff rfl (AWp.kk (u2 _ _ ?_));clear u2 K2;refine lT B4u ?_;exact⟨(),by rw [tk];exact hI,(by simp [sle,vle,A0k,deC,prC]),(by simp [ble,A0h,C9h])⟩
 intro _ hI;rw [List.drop_length,E5d] at hI;rw [← hI,if_neg (by decide)] at u1 ⊢;clear hI;refine kR1 Int.lt_irrefl B4u fun K2 u2=>?_;refine AWp.ss rfl ?_;simp only [TB];refine u1 _ _ ?_;clear u2 K2 u1 K1;refine sK fun K1 u1=>?_;by_cases a3:B1c p d.name d.sig.name=(i:Int);rotate_left
 ·rw [if_pos a3]
  (refine sV B4u fun K z=>?_;refine⟨_,.inl ⟨_,rfl,hfm,rfl⟩,?_⟩;(try refine Go.Abs.ev1 a3 ?_);apply z;clear z K)
  refine tI ?_;refine sR B4u ?_;exact aR
 rw [if_neg fun hh=>hh a3] at u1 ⊢;rw [a3] at hfm;refine sC hfm B4u ?_;refine kI u1 ?_;clear u1 K1;generalize hq:E6f p ev d.sig=o at *;generalize hR:G2p d o=R at *
 (refine sG B4u [] 8 [⟨[],[],[8],[8]⟩,⟨[],[],[8],[8]⟩,⟨[],[],[8],[8]⟩,⟨[],[],[8],[8]⟩,⟨[],[],[8],[8]⟩,⟨[],[],[8],[8]⟩,⟨[],[],[8],[8]⟩,⟨[8],[8],[],[]⟩] fun K z=>?_;refine Go.Abs.ev ?_;refine cc henv ?_;refine cc hsg ?_;apply z;clear z K)
 refine kR B4u fun K1 u1=>?_;have fin:∀ (r:Res),r=B5c R→∀ sl bx,sle sl [(4,.box 4 0),(8,.box 8 0)]→ble bx [(4,rs0),(8,rsC r)]→K1 sl bx:=by intro r hr sl bx h1 h2;refine u1 _ _ (AWp.ww h1 h2 ?_);clear u1 K1;refine sR B4u ?_;rw [← hr];exact aR
 refine AWp.bb (AWp.loop (X:=Nat × Option Int) (fun x=>[(1,A0g i),(2,.dptr (prC p) 0),(4,.box 4 0),(5,.dptr (deC d) 0),(8,.box 8 0),(9,A0g x.1)]) (fun x=>[(4,rs0),(8,rsC (B5c x.2))])
  (fun x=>x.1≤d.sig.params.length∧(match x.2 with | some q=>R=some q | none=>R=((d.sig.params.drop x.1).find? fun f=>decide (f.name=d.recv)).map (·.pos)))
  (fun x=>d.sig.params.length - x.1) (0,o) ⟨by simp,by cases o <;> exact hR.symm⟩ (by simp [sle,vle,A0k,deC,prC]) (by simp [ble,A0h,B5c]) ?_)
 rintro⟨j,o⟩ ⟨hj,hI⟩;simp only at hj hI;by_cases hlt:j < d.sig.params.length
 ·have hlt':(j:Int) < (d.sig.params.length:Int):=by omega
  cases o with
  | some q =>simp only at hI;refine kR1 hlt' B4u fun K2 u2=>?_;refine AWp.ss rfl ?_;simp only [TB];exact fin (C9h q) (by rw [hI];rfl) _ _ sS (by simp [ble,A0h,B5c])
  | none =>
   simp only at hI;have hs:d.sig.params[j]? = some d.sig.params[j]:=List.getElem?_eq_getElem hlt;have dp:d.sig.params.drop j=d.sig.params[j]::d.sig.params.drop (j+1):=List.drop_eq_getElem_cons hlt;have hdl:=hds.sig.params.1;generalize d.sig.params[j]=s at *;rw [dp,List.find?_cons] at hI;refine kR1 hlt' B4u fun K2 u2=>?_;refine gI u2 ?_;clear u2 K2;refine sK fun K2 u2=>?_;refine AWp.bb ?_;by_cases hm:s.name=d.recv
   ·rw [decide_eq_true hm] at hI
    (refine sG B4u [] 9 [] fun K z=>?_;refine Go.Abs.ev ?_;refine⟨by omega,_,A0r hs,rfl,?_⟩;(try refine Go.Abs.ev1 hm ?_);apply z;clear z K)
    refine AWp.tt rfl ?_
    (refine lV B4u fun K z=>?_;refine ci (A0r hs) ?_;apply z;clear z K;try simp only [A0c,A0e])
    refine u2 _ _ ?_;clear u2 K2;refine lT B4u ?_;exact⟨(j+1,some s.pos),⟨by omega,by simpa using hI⟩,by simp only;omega,(by simp [sle,vle,A0k,deC,prC]),by simp [ble,A0h,B5c,C9h]⟩
   ·rw [decide_eq_false hm] at hI
    (refine sG B4u [] 9 [] fun K z=>?_;refine Go.Abs.ev ?_;refine⟨by omega,_,A0r hs,rfl,?_⟩;(try refine Go.Abs.ev1 hm ?_);apply z;clear z K)
    refine AWp.ff rfl (AWp.kk (u2 _ _ ?_));clear u2 K2;refine lT B4u ?_;exact⟨(j+1,none),⟨by omega,hI⟩,by simp only;omega,(by simp [sle,vle,A0k,deC,prC]),by simp [ble,A0h,B5c]⟩
 ·have hj':j=d.sig.params.length:=by omega
  subst hj';refine kR1 Int.lt_irrefl B4u fun K2 u2=>?_;refine AWp.ss rfl ?_;simp only [TB];cases o with
  | some q =>simp only at hI;exact fin (C9h q) (by rw [hI];rfl) _ _ sS (by simp [ble,A0h,B5c])
  | none =>simp only at hI;rw [List.drop_length] at hI;exact fin E3o (by rw [hI];rfl) _ _ sS (by simp [ble,A0h,B5c])
structure Decl.Two (d:Decl):Prop where
 sigs:∀ s,s∈d.sigs→d.formals.length+s.formals.length≤sm
 sig:d.vars.length+d.sig.formals.length≤sm
theorem Decl.Nn.two {d:Decl} (h:d.Nn):d.Two:=⟨fun s hs=>by have:=(h.sigs s hs).flen;have:=h.flen;unfold sm;omega,by have:=h.sig.flen;have:=h.vlen;unfold sm;omega⟩
abbrev C8p:List Nat:=[0,1,2,4,5,14,27,32]
theorem E6t (p:Prog)(h:p.Sm)(hpl:p.decls.length≤100000)(i:Nat)(d:Decl)(hd:p.decls[i]? = some d)(h2:d.Two):A0a prog 46 [prV p,A0g i] (rsV (B5c (E9v p i d))):=by
 have hlt:=(List.getElem?_eq_some_iff.1 hd).1;have g1:¬ (i:Int) < 0:=by omega
 have g2:¬ (i:Int) ≥ (p.decls.length:Int):=by omega
 unfold E9v;by_cases hk:d.kind=1∨d.kind=2
 ·rw [if_pos hk];have hc:=E2w p h hpl i d hd hk h2.sigs;generalize B5c (E1v p i d)=r at *;refine cB func46 ?_;refine sR C8p ?_;refine kR2 g1 g2 C8p fun K1 u1=>?_;refine kI u1 ?_;clear u1 K1
  (refine sV C8p fun K z=>?_;refine ci (A0t hd) ?_;apply z;clear z K)
  refine sK fun K1 u1=>?_;by_cases k1:d.kind=1
  ·refine sR1 k1 C8p ?_;refine tI ?_;refine sC hc C8p ?_;exact aR
  ·have k2:d.kind=2:=by omega
   refine sR1 k2 C8p ?_;refine tI ?_;refine sC hc C8p ?_;exact aR
 rw [if_neg hk];obtain⟨k1,k2⟩:=not_or.1 hk;by_cases k3:d.kind=3
 ·rw [if_pos k3];have hc:=D6e p h i d hd h2.sig;generalize B5c (C7s p i d)=r at *;refine cB func46 ?_;refine sR C8p ?_;refine kR2 g1 g2 C8p fun K1 u1=>?_;refine kI u1 ?_;clear u1 K1
  (refine sV C8p fun K z=>?_;refine ci (A0t hd) ?_;apply z;clear z K)
  refine kR2 k1 k2 C8p fun K1 u1=>?_;refine kI u1 ?_;clear u1 K1;refine kR1 k3 C8p fun K1 u1=>?_;refine tI ?_;refine sC hc C8p ?_;exact aR
 rw [if_neg k3];refine cB func46 ?_;refine sR C8p ?_;refine kR2 g1 g2 C8p fun K1 u1=>?_;refine kI u1 ?_;clear u1 K1
 (refine sV C8p fun K z=>?_;refine ci (A0t hd) ?_;apply z;clear z K)
 refine kR2 k1 k2 C8p fun K1 u1=>?_;refine kI u1 ?_;clear u1 K1;refine kR1 k3 C8p fun K1 u1=>?_;refine kI u1 ?_;clear u1 K1
 (refine sV C8p fun K z=>?_;refine ci (A0t hd) ?_;apply z;clear z K)
 exact aR
abbrev tcV (c:TCtx):SV:=.agg [.d (.slice (deR c.p.decls)),.d (.int .i64 c.p.main.kind),.d (.str c.p.main.name),.d (.str c.p.main.type.name),.d (.slice (tyR c.p.main.type.args)),.d (.int .i64 c.p.main.type.pos),.d (.slice (tyR c.p.main.targs)),.d (.slice (exR c.p.main.kids)),.d (.int .i64 c.p.main.pos),.d (.bool c.strict),.d (.slice (foR c.env)),.d (.slice (paR c.vars))]
def tcC (c:TCtx):List D:=[.slice (deR c.p.decls),.int .i64 c.p.main.kind,.str c.p.main.name,.str c.p.main.type.name,.slice (tyR c.p.main.type.args),.int .i64 c.p.main.type.pos,.slice (tyR c.p.main.targs),.slice (exR c.p.main.kids),.int .i64 c.p.main.pos,.bool c.strict,.slice (foR c.env),.slice (paR c.vars)]
abbrev trV (z:Ty × Res):SV:=.tuple [tyV z.1,rsV z.2]
abbrev F3d:BoxC:=.cells [.d (.str []),.d .nil,.d (.int .i64 0)]
structure TCtx.Sm (c:TCtx):Prop where
 p:c.p.Sm
 el:c.env.length≤sm
 env:∀ f,f∈c.env→f.Sm
 vl:c.vars.length≤sm
 vars:∀ f,f∈c.vars→f.Sm
theorem B2y {p:Prog} (h:p.Sm) {x:Ty} (hx:x.Sm):∀ f,f∈A1c p x→f.Sm:=by
 intro f hf;unfold A1c at hf;split at hf
 ·rename_i hi;obtain⟨d,hd,_⟩:=A3n (by decide) hi;rw [hd,Option.getD_some] at hf;unfold B4q at hf;obtain⟨g,hg,rfl⟩:=List.mem_map.1 hf;have:=(h.decls.2 d (A3d hd)).fields.2 g hg;exact⟨this.name,this.type.subst hx.arg⟩
 ·simp at hf
theorem A8h:ty0.Sm:=.mk _ _ _ (by simp) (by simp) (by simp)
variable {c:TCtx}
theorem B5v (hc:c.Sm):∀ e:Ex,e.Sm→(A3b c e).1.Sm:=by
 intro e
 induction e using Ex.induct with | _ e ih=>?_
 intro he;rw [C7y];unfold D7j;split
 ·unfold E4s;split
  ·rename_i f hf;split
   ·exact A8h
   ·exact (hc.vars f (List.mem_of_getElem? hf)).type
  ·exact A8h
 split
 ·unfold G4d;split
  ·exact A8h
  ·split
   ·exact A8h
   ·exact he.type
 split
 ·exact A8h
 split
 ·exact A8h
 ·rename_i z zs hz;cases hks:e.kids with
  | nil=>rw [hks] at hz;simp at hz
  | cons v vs =>
   rw [hks] at hz;simp only [List.map_cons,List.cons.injEq] at hz;obtain⟨rfl,rfl⟩:=hz;have hv:=ih v (by rw [hks];simp) (he.kids.2 v (by rw [hks];simp));split
   ·exact hv
   split
   ·unfold E4k;split
    ·exact A8h
    ·rename_i s hs;unfold B3s;split
     ·exact A8h
     ·have hsm:s∈A3o c.p c.env (A3b c v).1:=by
       unfold F3y at hs;split at hs
       ·cases hs
       ·rename_i s' hs';split at hs
        ·cases hs
        ·split at hs
         ·cases hs
         ·split at hs
          ·cases hs
          ·split at hs
           ·cases hs
           ·cases hs;exact List.mem_of_getElem? hs'
      exact (B1v hc.p hc.env hv s hsm).result.subst he.targs.2
   split
   ·unfold B9a;split
    ·exact A8h
    ·split
     ·rename_i f hf;split
      ·exact A8h
      ·unfold B3s;split
       ·exact A8h
       ·exact (B2y hc.p hv f (List.mem_of_getElem? hf)).type
     ·exact A8h
   ·unfold C8e;split
    ·exact A8h
    ·split
     ·exact A8h
     ·exact he.type
theorem B7t (n:Int):A0a prog 114 [A0g n] (trV (noT n)):=by refine cB func114 ?_;refine sR [0,2,3] ?_;refine sR [0,2,3] ?_;exact aR
abbrev G1g:List Nat:=[0,1,2,3,4,5,13]
theorem C5b (x:Ty)(r:Res):A0a prog 119 [tyV x,rsV r] (trV (B3s (x,r))):=by
 have hc:=A4t x 0 (by decide) (by decide);obtain⟨q,b,l⟩:=r;unfold B3s;simp only;refine cB func119 ?_;refine sR G1g ?_
 (refine AWp.zz 2 rfl rfl ?_;refine AWp.zz 3 rfl rfl (wk [(2,.dptr (tyC x) 0),(3,.dptr [.int .i64 q,.bool b,.bool l] 0),(4,.box 4 0),(5,.box 5 0)] [(4,F3d),(5,rs0)] ?_))
 cases b with
 | true =>
  rw [if_neg (by simp)];refine kR G1g fun K1 u1=>?_;refine kI u1 ?_
  (refine sG G1g [] 3 [⟨[],[],[],[]⟩,⟨[],[],[4],[]⟩,⟨[4],[],[],[]⟩] fun K z=>?_;refine ev ?_;apply z;clear z K)
  exact aR
 | false =>
  by_cases h:400 < x.count 0
  ·rw [if_pos ⟨rfl,h⟩];refine sK fun K1 u1=>?_
   (refine sV G1g fun K z=>?_;refine⟨_,.inl ⟨_,rfl,hc,rfl⟩,?_⟩;(try simp -implicitDefEqProofs only [EV,Nat.reduceEqDiff,reduceCtorEq,h]);apply z;clear z K)
   refine tI ?_;refine sR G1g ?_;exact aR
  ·rw [if_neg (fun hh=>h hh.2)];refine sK fun K1 u1=>?_
   (refine sV G1g fun K z=>?_;refine⟨_,.inl ⟨_,rfl,hc,rfl⟩,?_⟩;(try simp -implicitDefEqProofs only [EV,Nat.reduceEqDiff,reduceCtorEq,h]);apply z;clear z K)
   refine kI u1 ?_
   (refine sG G1g [] 3 [⟨[],[],[],[]⟩,⟨[],[],[4],[]⟩,⟨[4],[],[],[]⟩] fun K z=>?_;refine ev ?_;apply z;clear z K)
   exact aR
theorem B5z (c:TCtx)(hc:c.Sm)(x:Ty):A0a prog 116 [tcV c,tyV x] (A0m (B0b c x)):=by
 have h1:=A6z c.env x hc.el;have h2:=A2o c.p x 1;unfold B0b;generalize A3u c.env x=z at *;generalize A1w c.p x 1=b at *;by_cases hz:z < 0
 ·rw [decide_eq_true hz,Bool.true_and];refine cB func116 ?_;refine sR [0,1,2,3,4] ?_
  (refine sV [0,1,2,3,4] fun K z=>?_;refine⟨_,.inl ⟨_,rfl,h1,rfl⟩,?_⟩;(try refine ev1 hz ?_);refine cc h2 ?_;apply z;clear z K)
  exact aR
 ·rw [decide_eq_false hz,Bool.false_and];refine cB func116 ?_;refine sR [0,1,2,3,4] ?_
  (refine sV [0,1,2,3,4] fun K z=>?_;refine⟨_,.inl ⟨_,rfl,h1,rfl⟩,?_⟩;(try refine ev1 hz ?_);apply z;clear z K)
  exact aR
theorem D3e (c:TCtx)(hc:c.Sm)(x:Ty):A0a prog 120 [tcV c,tyV x] (A0m (D3s c x)):=by
 have h1:=A6z c.env x hc.el;have h2:=A2o c.p x 2;unfold D3s;generalize A3u c.env x=z at *;generalize A1w c.p x 2=b at *;by_cases hz:0≤z
 ·rw [decide_eq_true hz,Bool.true_or];refine cB func120 ?_;refine sR [0,1,2,3,4] ?_
  (refine sV [0,1,2,3,4] fun K z=>?_;refine⟨_,.inl ⟨_,rfl,h1,rfl⟩,?_⟩;(try refine ev1 hz ?_);apply z;clear z K)
  exact aR
 ·rw [decide_eq_false hz,Bool.false_or];refine cB func120 ?_;refine sR [0,1,2,3,4] ?_
  (refine sV [0,1,2,3,4] fun K z=>?_;refine⟨_,.inl ⟨_,rfl,h1,rfl⟩,?_⟩;(try refine ev1 hz ?_);refine cc h2 ?_;apply z;clear z K)
  exact aR
abbrev E6h:List Nat:=[0,1,2,3,4,5,6,7,8,27]
theorem D2c (c:TCtx)(hc:c.Sm)(e:Ex)(hT:A0a prog 48 [tcV c,exV e] (trV (A3b c e)))(hx:(A3b c e).1.Sm)(w:Ty)(hw:w.Sm):A0a prog 112 [tcV c,exV e,tyV w] (rsV (C4f c w e (A3b c e))):=by
 have hi:=A3q c.p hc.p c.env hc.el hc.env (A3b c e).1 w hx hw;unfold C4f;generalize A3b c e=z at *;obtain⟨x,⟨q,b,l⟩⟩:=z;simp only at hi hx ⊢;cases b with
 | true =>rw [if_neg (by simp)];refine cB func112 ?_;refine sR E6h ?_;refine sC hT E6h ?_;refine kR E6h fun K1 u1=>?_;refine kI u1 ?_;refine sR E6h ?_;exact aR
 | false =>
  generalize A5x c.p c.env x w=b at *;cases b with
  | true =>rw [if_neg (by simp)];refine cB func112 ?_;refine sR E6h ?_;refine sC hT E6h ?_;refine kC hi E6h fun K1 u1=>?_;refine kI u1 ?_;refine sR E6h ?_;exact aR
  | false =>rw [if_pos ⟨rfl,rfl⟩];refine cB func112 ?_;refine sR E6h ?_;refine sC hT E6h ?_;refine kC hi E6h fun K1 u1=>?_;refine tI ?_;refine sR E6h ?_;exact aR
abbrev F6a:List Nat:=[0,1,2,3,4,5,10,11,12,16,34]
theorem D1x (c:TCtx)(l:List Ex)(hll:l.length≤sm)(params:List Param)(hpl:params.length=l.length)(hps:∀ f,f∈params→f.Sm)(names:List Str)(args:List Ty)(ha:∀ u,u∈args→u.Sm)
  (hF:∀ k,k∈l→∀ w:Ty,w.Sm→A0a prog 112 [tcV c,exV k,tyV w] (rsV (C4f c w k (A3b c k)))) :
  A0a prog 117 [tcV c,.d (.slice (exR l)),.d (.slice (paR params)),A1m names,A3s args] (rsV (C0i c (params.map fun f=>f.type.subst names args) l (l.map (A3b c)))):=by
 generalize hR:C0i c (params.map fun f=>f.type.subst names args) l (l.map (A3b c))=R;refine cB func117 ?_;refine sR F6a ?_
 (refine AWp.zz 5 rfl rfl (wk [(1,.d (.slice (exR l))),(2,.d (.slice (paR params))),(3,A1m names),(4,A3s args),(5,.dptr (tcC c) 0),(10,.box 10 0)] [(10,rs0)] ?_))
 refine kR F6a fun K1 u1=>?_;refine AWp.bb (AWp.ii l (X:=Unit) (fun j _=>[(1,.d (.slice (exR l))),(2,.d (.slice (paR params))),(3,A1m names),(4,A3s args),(5,.dptr (tcC c) 0),(10,.box 10 0),(11,A0g j)]) (fun _ _=>[(10,rs0)])
  (fun j _=>C0i c ((params.drop j).map fun f=>f.type.subst names args) (l.drop j) ((l.drop j).map (A3b c))=R) () hR (by simp [sle,vle,A0k,tcC]) sB ?_ ?_)
 rotate_left
 ·intro j _ k hk hmem dp tk hlt hI;have hj:j < params.length:=by omega
  have hp:params[j]? = some params[j]:=List.getElem?_eq_getElem hj;have hpm:=List.getElem_mem hj;have hpd:params.drop j=params[j]::params.drop (j+1):=List.drop_eq_getElem_cons hj;generalize params[j]=f at *;rw [dp,hpd,List.map_cons,List.map_cons,C0i] at hI;have hs:=A2j names args ha f.type (hps f hpm).type;have hf:=hF k hmem (f.type.subst names args) ((hps f hpm).type.subst ha);generalize C4f c (f.type.subst names args) k (A3b c k)=r at *;refine kR1 hlt F6a fun K2 u2=>?_;refine gI u2 ?_;clear u2 K2;refine sK fun K2 u2=>?_;refine AWp.bb ?_
  (refine sG F6a [] 15 [⟨[],[],[12],[12]⟩,⟨[],[],[12],[12]⟩,⟨[],[],[12],[12]⟩,⟨[],[],[12],[12]⟩,⟨[],[],[12],[12]⟩,⟨[],[],[12],[12]⟩,⟨[],[],[12],[12]⟩,⟨[],[],[12],[12]⟩,⟨[],[],[12],[12]⟩,⟨[],[],[12],[12]⟩,⟨[],[],[12],[12]⟩,⟨[],[],[12],[12]⟩,⟨[],[],[12],[12]⟩,⟨[],[],[12],[12]⟩,⟨[12],[12],[],[]⟩] fun K z=>?_;simp -implicitDefEqProofs only [EV,Nat.reduceAdd,Nat.reduceEqDiff,Nat.reduceBEq,reduceCtorEq,D1v,B3i,D5k,tcC];refine ci (A1h hk) ?_;refine ci (A0r hp) ?_;refine cc hs ?_;refine cc hf ?_;apply z;clear z K)
  refine sR F6a ?_;refine AWp.cond rfl (fun hb=>?_) (fun hb=>?_)
  ·rw [if_pos hb] at hI;refine sR F6a ?_;rw [← hI];exact aR
  ·rw [if_neg (by rw [hb];simp)] at hI;refine AWp.kk (u2 _ _ ?_);clear u2 K2;refine lT F6a ?_;exact⟨(),hI,(by simp [sle,vle,A0k,tcC]),sB⟩
 intro _ hI;rw [List.drop_length] at hI;have hR0:R=E3o:=by rw [← hI];cases (params.drop l.length).map fun f=>f.type.subst names args <;> rfl
 subst hR0;refine kR1 Int.lt_irrefl F6a fun K2 u2=>?_;refine AWp.ss rfl ?_;simp only [TB];refine u1 _ _ ?_;refine sR F6a ?_;exact aR
set_option maxHeartbeats 4000000
variable {e:Ex} {x:Ty}
theorem G1j {j:Nat} {s:Sig} (h1:A3j (A3o c.p c.env x) e.name=j)(h2:(A3o c.p c.env x)[j]? = some s):F3y c e x=if s.formals.length≠e.targs.length then .inl e.pos else
  match E2j c.p c.env e.targs with
  | some q=>.inl q
  | none=>if 0≤A4s c.p c.env s.formals e.targs then .inl ((e.targs[(A4s c.p c.env s.formals e.targs).toNat]?).getD default).pos else
   if e.kids.length≠s.params.length+1 then .inl e.pos else .inr s:=by
 unfold F3y;rw [h1,Int.toNat_natCast,h2];simp only;by_cases hf:s.formals.length≠e.targs.length
 ·rw [if_pos (.inr hf),if_pos hf]
 ·rw [if_neg (by rintro (h | h);omega;exact hf h),if_neg hf] <;> rfl
abbrev A8m:List Nat:=[0,1,2,3,4,5,6,7,8,9,10,11,12,13,14,15,16,40,54,70,85,102]
theorem E9x (c:TCtx)(hc:c.Sm)(e:Ex)(he:e.Sm)(x:Ty)(hx:x.Sm)(hk1:1≤e.kids.length)
  (hF:∀ k,k∈e.kids.tail→∀ w:Ty,w.Sm→A0a prog 112 [tcV c,exV k,tyV w] (rsV (C4f c w k (A3b c k)))) :
  A0a prog 118 [tcV c,exV e,tyV x] (trV (E4k c e x (e.kids.tail.map (A3b c)))):=by
 have hset:=B4t c.p hc.p c.env hc.el hc.env x hx;have hsl:=A3h hc.p c.env x;have hss:=B1v hc.p hc.env hx;have hfind:=A5v (A3o c.p c.env x) e.name hsl;have hnoE:=B7t e.pos;have htl:=he.targs.1;have hat:=@G1j c e x;generalize hR:E4k c e x (e.kids.tail.map (A3b c))=R;unfold E4k at hR;have hno:F3y c e x=.inl e.pos→R=noT e.pos:=fun h=>by rw [← hR,h]
 have hneg:A3j (A3o c.p c.env x) e.name = -1→F3y c e x=.inl e.pos:=fun h=>by
  unfold F3y;rw [h];split
  ·rfl
  ·rw [if_pos (.inl (by decide))]
 have hidx:=A2w (fun s:Sig=>decide (s.name=e.name)) (A3o c.p c.env x);unfold A3j at hat hneg;generalize A3o c.p c.env x=l at *;refine cB func118 ?_;refine sR A8m ?_
 (refine AWp.zz 3 rfl rfl ?_;refine AWp.zz 4 rfl rfl ?_;refine AWp.zz 5 rfl rfl (wk [(3,.dptr (tcC c) 0),(4,.dptr (exC e) 0),(5,.dptr (tyC x) 0),(6,.box 6 0),(7,.box 7 0)] [(6,F3d),(7,rs0)] ?_))
 (refine sQ A8m fun K z=>?_;simp -implicitDefEqProofs only [EV,Nat.reduceAdd,Nat.reduceEqDiff,Nat.reduceLeDiff,reduceCtorEq,A6s,B9o,C3x,D5k,tcC];refine⟨_,.inl ⟨_,rfl,hset,rfl⟩,?_⟩;(try simp -implicitDefEqProofs only [EV,forall_const,implies_true,Nat.reduceAdd,Nat.reduceEqDiff,Nat.reduceBEq,Nat.reduceLeDiff,Nat.reduceSub,Nat.reduceMul,Int.reduceEq,Int.reduceLT,Int.reduceLE,Int.reduceSub,Int.reduceAdd,Int.reduceToNat,reduceCtorEq,Int.reduceNeg,TF3,TF4,TF9,B1i,A6s,D1v,B3i,B9o,C3x,C4a,C8q,B6e,F2x,E2k,D5k,B0g,tcC]);apply z;clear z K)
 refine sC hfind A8m ?_;rcases hidx with ⟨h1,_⟩ | ⟨j,s,h1,h2,_⟩
 ·rw [h1];obtain rfl:=hno (hneg h1);refine sK fun K1 u1=>?_;refine dR A8m 12 ?_;refine tI ?_;refine sC hnoE A8m ?_;exact aR
 have hsig:=hat h1 h2;have hs:=hss s (List.mem_of_getElem? h2);rw [h1];have hj0:¬ (j:Int) < 0:=by omega
 by_cases hfl:s.formals.length=e.targs.length;rotate_left
 ·rw [if_pos hfl] at hsig;obtain rfl:=hno hsig;have hfl':¬ (s.formals.length:Int)=(e.targs.length:Int):=by omega
  refine sK fun K1 u1=>?_
  (refine sG A8m [] 12 [] fun K z=>?_;refine ev1 hj0 ?_;refine⟨by omega,_,A0n h2,rfl,?_⟩;(try refine ev1 hfl' ?_);apply z;clear z K)
  refine tI ?_;refine sC hnoE A8m ?_;exact aR
 rw [if_neg fun hh=>hh hfl] at hsig;have hfl':(s.formals.length:Int)=(e.targs.length:Int):=by omega
 have hbo:=C4x c.p hc.p c.env hc.el hc.env s.formals hs.formals.1 hs.formals.2 e.targs hfl.symm he.targs.2;have hbg:=@C6t c.p c.env s.formals e.targs;refine sK fun K1 u1=>?_
 (refine sG A8m [] 12 [] fun K z=>?_;refine ev1 hj0 ?_;refine⟨by omega,_,A0n h2,rfl,?_⟩;(try refine ev1 hfl' ?_);apply z;clear z K)
 refine kI u1 ?_;clear u1 K1
 (refine sV A8m fun K z=>?_;refine ci (A0n h2) ?_;apply z;clear z K)
 (refine AWp.zz 10 rfl rfl (wk [(3,.dptr (tcC c) 0),(4,.dptr (exC e) 0),(6,.box 6 0),(7,.box 7 0),(10,.dptr (siC s) 0)] [(6,F3d),(7,rs0)] ?_))
 refine sK fun K1 u1=>?_
 (refine sQ A8m fun K z=>?_;simp -implicitDefEqProofs only [EV,Nat.reduceEqDiff,reduceCtorEq,tcC];apply z;clear z K)
 refine AWp.bb (AWp.ii e.targs (X:=Unit) (fun j _=>[(3,.dptr (tcC c) 0),(4,.dptr (exC e) 0),(6,.box 6 0),(7,.box 7 0),(10,.dptr (siC s) 0),(11,A0g j)]) (fun _ _=>[(6,F3d),(7,rs0)])
  (fun j _=>E2j c.p c.env (e.targs.drop j)=E2j c.p c.env e.targs) () (by simp) (by simp [sle,vle,A0k,tcC,exC,siC]) sB ?_ ?_)
 rotate_left
 ·intro j _ d hd hmem dp tk hlt hI;have hck:=A9a c.p hc.p c.env hc.el hc.env d (he.targs.2 d hmem);rw [dp,E2j] at hI;refine sK fun K2 u2=>?_
  (refine sQ A8m fun K z=>?_;simp -implicitDefEqProofs only [EV,Nat.reduceEqDiff,reduceCtorEq,B1i,B3i,tcC,hlt];apply z;clear z K)
  refine gI u2 ?_;clear u2 K2;refine sK fun K2 u2=>?_;refine AWp.bb ?_;cases ho:chk c.p c.env d with
  | none =>
   rw [ho] at hck hI;simp only [E4t] at hck hI
   (refine sG A8m [] 14 [] fun K z=>?_;refine ev ?_;refine ci (A0w hd) ?_;refine cc hck ?_;apply z;clear z K)
   refine sR A8m ?_;refine AWp.ff rfl (AWp.kk (u2 _ _ ?_));clear u2 K2
   (refine lV A8m fun K z=>?_;refine⟨by first | (unfold InR;omega) | (simp only [InR,sm] at *;omega),?_⟩;(try simp -implicitDefEqProofs only [EV,forall_const,implies_true,Nat.reduceAdd,Nat.reduceEqDiff,Nat.reduceBEq,Nat.reduceLeDiff,Nat.reduceSub,Nat.reduceMul,Int.reduceEq,Int.reduceLT,Int.reduceLE,Int.reduceSub,Int.reduceAdd,Int.reduceToNat,reduceCtorEq,Int.reduceNeg,TF3,TF4,TF9,B1i,A6s,D1v,B3i,B9o,C3x,C4a,C8q,B6e,F2x,E2k,D5k,B0g,tcC]);apply z;clear z K;try simp only [A0c,])
   exact⟨(),hI,(by simp [sle,vle,A0k,tcC,exC,siC]),sB⟩
  | some q =>
   rw [ho] at hck hI;simp only [E4t] at hck hI;rw [← hI] at hsig;obtain rfl:R=noT q:=by rw [← hR,hsig]
   have hnoQ:=B7t q
   (refine sG A8m [] 14 [] fun K z=>?_;refine ev ?_;refine ci (A0w hd) ?_;refine cc hck ?_;apply z;clear z K)
   refine sR A8m ?_;refine AWp.tt rfl ?_;refine sC hnoQ A8m ?_;exact aR
 intro _ hI;rw [List.drop_length,E2j] at hI;rw [← hI] at hsig;simp only at hsig;clear hI;refine sK fun K2 u2=>?_
 (refine sQ A8m fun K z=>?_;simp -implicitDefEqProofs only [EV,Nat.reduceEqDiff,reduceCtorEq,B1i,B3i,tcC,Int.lt_irrefl];apply z;clear z K)
 refine AWp.ss rfl ?_;simp only [TB];refine u1 _ _ ?_;clear u2 K2 u1 K1;refine sC hbo A8m ?_;generalize A4s c.p c.env s.formals e.targs=b at *;by_cases hb0:0≤b
 ·obtain⟨u,hu⟩:=hbg hb0 hfl.symm;rw [if_pos hb0,hu,Option.getD_some] at hsig;obtain rfl:R=noT u.pos:=by rw [← hR,hsig]
  have hnoQ:=B7t u.pos;refine kR1 hb0 A8m fun K1 u1=>?_;refine tI ?_
  (refine sV A8m fun K z=>?_;refine ci (A0w hu) ?_;refine cc hnoQ ?_;apply z;clear z K)
  exact aR
 rw [if_neg hb0] at hsig;refine kR1 hb0 A8m fun K1 u1=>?_;refine kI u1 ?_;clear u1 K1;have hpl:=hs.params.1;by_cases hkl:e.kids.length=s.params.length+1;rotate_left
 ·rw [if_pos hkl] at hsig;obtain rfl:=hno hsig;have hkl':¬ (e.kids.length:Int)=(s.params.length:Int)+1:=by omega
  refine sK fun K1 u1=>?_
  (refine sQ A8m fun K z=>?_;refine ev1 hkl' ?_;refine⟨by first | (unfold InR;omega) | (simp only [InR,sm] at *;omega),?_⟩;(try simp -implicitDefEqProofs only [EV,forall_const,implies_true,Nat.reduceAdd,Nat.reduceEqDiff,Nat.reduceBEq,Nat.reduceLeDiff,Nat.reduceSub,Nat.reduceMul,Int.reduceEq,Int.reduceLT,Int.reduceLE,Int.reduceSub,Int.reduceAdd,Int.reduceToNat,reduceCtorEq,Int.reduceNeg,TF3,TF4,TF9,B1i,A6s,D1v,B3i,B9o,C3x,C4a,C8q,B6e,F2x,E2k,D5k,B0g,tcC,hkl']);apply z;clear z K)
  refine tI ?_;refine sC hnoE A8m ?_;exact aR
 rw [if_neg fun hh=>hh hkl] at hsig;have hkl':(e.kids.length:Int)=(s.params.length:Int)+1:=by omega
 refine sK fun K1 u1=>?_
 (refine sQ A8m fun K z=>?_;refine ev1 hkl' ?_;refine⟨by first | (unfold InR;omega) | (simp only [InR,sm] at *;omega),?_⟩;(try simp -implicitDefEqProofs only [EV,forall_const,implies_true,Nat.reduceAdd,Nat.reduceEqDiff,Nat.reduceBEq,Nat.reduceLeDiff,Nat.reduceSub,Nat.reduceMul,Int.reduceEq,Int.reduceLT,Int.reduceLE,Int.reduceSub,Int.reduceAdd,Int.reduceToNat,reduceCtorEq,Int.reduceNeg,TF3,TF4,TF9,B1i,A6s,D1v,B3i,B9o,C3x,C4a,C8q,B6e,F2x,E2k,D5k,B0g,tcC,hkl']);apply z;clear z K)
 refine kI u1 ?_;clear u1 K1;have hnm:=A1u s.formals hs.formals.1;have hki:=D1x c e.kids.tail (by rw [List.length_tail];omega) s.params (by rw [List.length_tail];omega) hs.params.2 (s.formals.map (·.name)) e.targs he.targs.2 hF;have hsr:=A2j (s.formals.map (·.name)) e.targs he.targs.2 s.result hs.result;rw [hsig] at hR;simp only at hR;have hfd:=C5b (s.result.subst (s.formals.map (·.name)) e.targs) (C0i c (s.params.map fun f=>f.type.subst (s.formals.map (·.name)) e.targs) e.kids.tail (e.kids.tail.map (A3b c)));have hR':R=B3s (s.result.subst (s.formals.map (·.name)) e.targs,C0i c (s.params.map fun f=>f.type.subst (s.formals.map (·.name)) e.targs) e.kids.tail (e.kids.tail.map (A3b c))):=hR.symm;rw [← hR'] at hfd;have hex:exR e.kids.tail=((exR e.kids).take e.kids.length).drop 1:=by rw [List.take_of_length_le (by rw [D6n];exact Nat.le_refl _),A2k,A2k,← List.map_drop,List.drop_one]
 rw [hex] at hki;generalize C0i c (s.params.map fun f=>f.type.subst (s.formals.map (·.name)) e.targs) e.kids.tail (e.kids.tail.map (A3b c))=r at *;obtain⟨rt,rr⟩:=R
 (refine sV A8m fun K z=>?_;refine⟨_,.inl ⟨_,rfl,hnm,rfl⟩,?_⟩;(try simp -implicitDefEqProofs only [EV,forall_const,implies_true,Nat.reduceAdd,Nat.reduceEqDiff,Nat.reduceBEq,Nat.reduceLeDiff,Nat.reduceSub,Nat.reduceMul,Int.reduceEq,Int.reduceLT,Int.reduceLE,Int.reduceSub,Int.reduceAdd,Int.reduceToNat,reduceCtorEq,Int.reduceNeg,TF3,TF4,TF9,B1i,A6s,D1v,B3i,B9o,C3x,C4a,C8q,B6e,F2x,E2k,D5k,B0g,tcC]);apply z;clear z K)
 (refine sG A8m [] 11 [⟨[],[],[16],[16]⟩,⟨[],[],[16],[16]⟩,⟨[],[],[16],[16]⟩,⟨[],[],[16],[16]⟩,⟨[],[],[16],[16]⟩,⟨[],[],[16],[16]⟩,⟨[],[],[16],[16]⟩,⟨[],[],[16],[16]⟩,⟨[],[],[16],[16]⟩,⟨[],[],[16],[16]⟩,⟨[16],[16],[],[]⟩] fun K z=>?_;refine ev ?_;refine⟨E8v _,by omega,by omega,?_⟩;(try simp -implicitDefEqProofs only [EV,forall_const,implies_true,Nat.reduceAdd,Nat.reduceEqDiff,Nat.reduceBEq,Nat.reduceLeDiff,Nat.reduceSub,Nat.reduceMul,Int.reduceEq,Int.reduceLT,Int.reduceLE,Int.reduceSub,Int.reduceAdd,Int.reduceToNat,reduceCtorEq,Int.reduceNeg,TF3,TF4,TF9,B1i,A6s,D1v,B3i,B9o,C3x,C4a,C8q,B6e,F2x,E2k,D5k,B0g,tcC]);refine cc hki ?_;apply z;clear z K)
 (refine sG A8m [] 10 [] fun K z=>?_;refine ev ?_;refine cc hsr ?_;refine cc hfd ?_;apply z;clear z K)
 exact aR
set_option maxHeartbeats 1000000
set_option maxHeartbeats 4000000
theorem E9t (h:B6u c.vars e.name = -1):E4s c e=noT e.pos:=by
 unfold E4s;rw [h];split
 ·rw [if_pos (by decide)]
 ·rfl
theorem E4u {r:Res} (hs:B0b c x=true)(h:B6u (A1c c.p x) e.name = -1):B9a c e x r=noT e.pos:=by
 unfold B9a;rw [if_neg (by rw [hs];simp),h];split
 ·rw [if_pos (by decide)]
 ·rfl
theorem B9h (h:B0b c x=true):A1w c.p x 1=true:=by unfold B0b at h;rw [Bool.and_eq_true] at h;exact h.2
theorem F1d (h:¬ 0≤A3u c.env x):B5s c x=x:=by unfold B5s A1i;rw [if_pos (by omega)];rfl
theorem E9z {f:Formal} (h:0≤A3u c.env x)(hf:c.env[(A3u c.env x).toNat]? = some f):B5s c x=f.bound:=by unfold B5s A1i;rw [if_neg (by omega),hf];rfl
abbrev A2s:List Nat:=[0,1,2,3,4,5,6,7,8,9,10,11,12,13,14,15,16,19,24,35,50,61,82,117,133,138,147,151,164,174,199,205,212,240]
theorem C3w (c:TCtx)(hc:c.Sm):∀ e:Ex,e.Sm→A0a prog 48 [tcV c,exV e] (trV (A3b c e)):=by
 intro e
 induction e using Ex.induct with | _ e ih=>?_
 intro he;have hnoE:=B7t e.pos;have hF:∀ k,k∈e.kids→∀ w:Ty,w.Sm→A0a prog 112 [tcV c,exV k,tyV w] (rsV (C4f c w k (A3b c k))):=fun k hk w hw =>D2c c hc k (ih k hk (he.kids.2 k hk)) (B5v hc k (he.kids.2 k hk)) w hw
 have hkl:=he.kids.1;have hvl:=hc.vl;rw [C7y];generalize hR:D7j c e (e.kids.map (A3b c))=R;unfold D7j at hR;refine cB func48 ?_;refine sR A2s ?_
 (refine AWp.zz 2 rfl rfl ?_;refine AWp.zz 3 rfl rfl (wk [(2,.dptr (tcC c) 0),(3,.dptr (exC e) 0),(4,.box 4 0),(5,.box 5 0)] [(4,F3d),(5,rs0)] ?_))
 by_cases k1:e.kind=1
 ·rw [if_pos k1] at hR;have d1:=decide_eq_true k1;refine sK fun K1 u1=>?_
  (refine sQ A2s fun K z=>?_;simp -implicitDefEqProofs only [EV,Nat.reduceEqDiff,reduceCtorEq,TF3,B3i,tcC,d1];apply z;clear z K)
  refine tI ?_;refine kR A2s fun K2 u2=>?_;refine AWp.bb (AWp.ii c.vars (X:=Unit) (fun j _=>[(2,.dptr (tcC c) 0),(3,.dptr (exC e) 0),(4,.box 4 0),(5,.box 5 0),(6,A0g j)]) (fun _ _=>[(4,F3d),(5,rs0)])
   (fun j _=>∀ y,y∈c.vars.take j→(fun f:Param=>decide (f.name=e.name)) y=false) () (by simp) (by simp [sle,vle,A0k,tcC,exC]) sB ?_ ?_)
  rotate_left
  ·intro j _ d hd hmem dp tk hlt hI;refine sK fun K3 u3=>?_
   (refine sQ A2s fun K z=>?_;simp -implicitDefEqProofs only [EV,Nat.reduceEqDiff,reduceCtorEq,C4a,D5k,tcC,hlt];apply z;clear z K)
   refine gI u3 ?_;clear u3 K3;refine sK fun K3 u3=>?_;refine AWp.bb ?_;by_cases hn:d.name=e.name
   ·have hix:B6u c.vars e.name=j:=A5u hd (by simp [hn]) hI;have hj0:¬ (j:Int) < 0:=by omega
    obtain rfl:R=(d.type,E3o):=by rw [← hR];unfold E4s;rw [hix,Int.toNat_natCast,hd];simp only;rw [if_neg hj0]
    have dn:=decide_eq_true hn
    (refine sG A2s [] 8 [] fun K z=>?_;refine ev ?_;refine⟨by omega,_,A0r hd,rfl,?_⟩;(try refine ev1 dn ?_);apply z;clear z K)
    refine AWp.tt rfl ?_
    (refine sV A2s fun K z=>?_;refine ci (A0r hd) ?_;apply z;clear z K)
    exact aR
   ·(refine sG A2s [] 8 [] fun K z=>?_;refine ev ?_;refine⟨by omega,_,A0r hd,rfl,?_⟩;(try refine ev1 hn ?_);apply z;clear z K)
    refine AWp.ff rfl (AWp.kk (u3 _ _ ?_));clear u3 K3
    (refine lV A2s fun K z=>?_;refine⟨by first | (unfold InR;omega) | (simp only [InR,sm] at *;omega),?_⟩;(try simp -implicitDefEqProofs only [EV,forall_const,implies_true,Nat.reduceAdd,Nat.reduceEqDiff,Nat.reduceBEq,Nat.reduceLeDiff,Nat.reduceSub,Nat.reduceMul,Int.reduceEq,Int.reduceLT,Int.reduceLE,Int.reduceSub,Int.reduceAdd,Int.reduceToNat,reduceCtorEq,Int.reduceNeg,TF3,TF4,TF9,A6s,D1v,B3i,B9o,C3x,C4a,F2x,E2k,D5k,B0g,tcC]);apply z;clear z K;try simp only [A0c,])
    refine⟨(),?_,(by simp [sle,vle,A0k,tcC,exC]),sB⟩;intro y hy;rw [tk,List.mem_append] at hy;rcases hy with hy | hy
    ·exact hI y hy
    ·simp only [List.mem_singleton] at hy;subst hy;exact decide_eq_false hn
  intro _ hI;rw [List.take_length] at hI;obtain rfl:R=noT e.pos:=by rw [← hR];exact E9t (A5t hI)
  refine sK fun K3 u3=>?_
  (refine sQ A2s fun K z=>?_;simp -implicitDefEqProofs only [EV,Nat.reduceEqDiff,reduceCtorEq,C4a,D5k,tcC,Int.lt_irrefl];apply z;clear z K)
  refine AWp.ss rfl ?_;simp only [TB];refine u2 _ _ ?_;refine sC hnoE A2s ?_;exact aR
 rw [if_neg k1] at hR;refine sK fun K1 u1=>?_
 (refine sQ A2s fun K z=>?_;simp -implicitDefEqProofs only [EV,Nat.reduceEqDiff,reduceCtorEq,TF3,B3i,tcC,k1];apply z;clear z K)
 refine kI u1 ?_;clear u1 K1;by_cases k3:e.kind=3
 ·rw [if_pos k3] at hR;unfold G4d at hR;have d3:=decide_eq_true k3;have hck:=A9a c.p hc.p c.env hc.el hc.env e.type he.type;have hst:=B5z c hc e.type;refine kR1 d3 A2s fun K1 u1=>?_;refine tI ?_;cases ho:chk c.p c.env e.type with
  | some q =>rw [ho] at hck hR;simp only [E4t] at hck hR;have hnoQ:=B7t q;subst hR;refine sC hck A2s ?_;refine kR A2s fun K2 u2=>?_;refine tI ?_;refine sC hnoQ A2s ?_;exact aR
  | none =>
   rw [ho] at hck hR;simp only [E4t] at hck hR;refine sC hck A2s ?_;refine kR A2s fun K2 u2=>?_;refine kI u2 ?_;clear u2 K2;rcases Bool.eq_false_or_eq_true (B0b c e.type) with hs | hs
   rotate_left
   ·rw [if_pos (.inl hs)] at hR;subst hR;rw [hs] at hst;refine sK fun K2 u2=>?_
    (refine sG A2s [] 15 [] fun K z=>?_;refine ev ?_;refine cc hst ?_;apply z;clear z K)
    refine tI ?_;refine sC hnoE A2s ?_;exact aR
   have hfi:=B3a c.p hc.p e.type he.type (B9h hs);rw [hs] at hst;by_cases hl:(A1c c.p e.type).length=e.kids.length;rotate_left
   ·rw [if_pos (.inr hl)] at hR;subst hR;have hl':¬ ((A1c c.p e.type).length:Int)=(e.kids.length:Int):=by omega
    refine sK fun K2 u2=>?_
    (refine sG A2s [] 15 [] fun K z=>?_;refine ev ?_;refine cc hst ?_;refine⟨_,.inl ⟨_,rfl,hfi,rfl⟩,?_⟩;(try refine ev1 hl' ?_);apply z;clear z K)
    refine tI ?_;refine sC hnoE A2s ?_;exact aR
   rw [if_neg (by rw [hs];simp [hl])] at hR;have hl':((A1c c.p e.type).length:Int)=(e.kids.length:Int):=by omega
   have hki:=D1x c e.kids hkl (A1c c.p e.type) hl (B2y hc.p he.type) [] [] (by simp) hF;have hmm:((A1c c.p e.type).map fun f=>f.type.subst [] [])=(A1c c.p e.type).map (·.type):=List.map_congr_left fun f _=>A9u f.type;rw [hmm] at hki;subst hR;generalize C0i c ((A1c c.p e.type).map (·.type)) e.kids (e.kids.map (A3b c))=r at *;refine sK fun K2 u2=>?_
   (refine sG A2s [] 15 [] fun K z=>?_;refine ev ?_;refine cc hst ?_;refine⟨_,.inl ⟨_,rfl,hfi,rfl⟩,?_⟩;(try refine ev1 hl' ?_);apply z;clear z K)
   refine kI u2 ?_;clear u2 K2
   (refine sG A2s [] 11 [] fun K z=>?_;refine ev ?_;refine cc hfi ?_;refine cc hki ?_;apply z;clear z K)
   exact aR
 rw [if_neg k3] at hR;refine kR1 k3 A2s fun K1 u1=>?_;refine kI u1 ?_;clear u1 K1;by_cases k2:e.kind≠2∧e.kind≠4∧e.kind≠5
 ·rw [if_pos k2] at hR;subst hR;obtain⟨n2,n4,n5⟩:=k2;refine kR3 n2 n4 n5 A2s fun K1 u1=>?_;refine tI ?_;refine sC hnoE A2s ?_;exact aR
 rw [if_neg k2] at hR;have kk:e.kind=2∨e.kind=4∨e.kind=5:=by omega
 have hcs:e.kids=[]∨∃ v vs,e.kids=v::vs:=by
  cases e.kids with
  | nil=>exact .inl rfl
  | cons v vs=>exact .inr ⟨v,vs,rfl⟩
 rcases hcs with hks | ⟨v,vs,hks⟩
 ·rw [hks] at hR;simp only [List.map_nil] at hR;subst hR;have hl0:(e.kids.length:Int)=0:=by rw [hks];rfl
  rcases kk with k | k | k
  ·have e2:=decide_eq_true k;refine sK fun K1 u1=>?_
   (refine sQ A2s fun K z=>?_;simp -implicitDefEqProofs only [EV,Nat.reduceEqDiff,reduceCtorEq,TF3,D1v,B3i,decide_not,e2,hl0];apply z;clear z K)
   refine tI ?_;refine sC hnoE A2s ?_;exact aR
  ·have n2:¬ e.kind=2:=by omega
   have e4:=decide_eq_true k;refine sK fun K1 u1=>?_
   (refine sQ A2s fun K z=>?_;simp -implicitDefEqProofs only [EV,Nat.reduceEqDiff,reduceCtorEq,TF3,D1v,B3i,decide_not,n2,e4,hl0];apply z;clear z K)
   refine tI ?_;refine sC hnoE A2s ?_;exact aR
  ·have n2:¬ e.kind=2:=by omega
   have n4:¬ e.kind=4:=by omega
   have e5:=decide_eq_true k;refine sK fun K1 u1=>?_
   (refine sQ A2s fun K z=>?_;simp -implicitDefEqProofs only [EV,Nat.reduceEqDiff,reduceCtorEq,TF3,D1v,B3i,decide_not,n2,n4,e5,hl0];apply z;clear z K)
   refine tI ?_;refine sC hnoE A2s ?_;exact aR
 ·have hl0:¬ (e.kids.length:Int)=0:=by rw [hks];simp only [List.length_cons];omega
  have h0:e.kids[0]? = some v:=by rw [hks];rfl
  have hvm:v∈e.kids:=by rw [hks];simp
  have hT:=ih v hvm (he.kids.2 v hvm);have hzs:=B5v hc v (he.kids.2 v hvm);have hck:=A9a c.p hc.p c.env hc.el hc.env e.type he.type;have hcall:=E9x c hc e he (A3b c v).1 hzs (by rw [hks];simp) fun k hk w hw=>hF k (List.mem_of_mem_tail hk) w hw;have htl:e.kids.tail=vs:=by rw [hks];rfl
  rw [htl] at hcall;rw [hks] at hR;clear hks;simp only [List.map_cons] at hR;generalize A3b c v=z at *;obtain⟨x,⟨q,b,lg⟩⟩:=z;simp only at hR hzs hcall;have hfd:=fun f:Param=>C5b f.type ⟨q,b,lg⟩;rcases kk with k | k | k
  ·have e2:=decide_eq_true k;refine sK fun K1 u1=>?_
   (refine sQ A2s fun K z=>?_;simp -implicitDefEqProofs only [EV,Nat.reduceEqDiff,reduceCtorEq,TF3,D1v,B3i,decide_not,e2,hl0];apply z;clear z K)
   refine kI u1 ?_;clear u1 K1
   (refine sG A2s [] 12 [⟨[],[],[9,10],[9,10]⟩,⟨[],[],[9,10],[9,10]⟩,⟨[],[],[9,10],[9,10]⟩,⟨[],[],[9,10],[9,10]⟩,⟨[],[],[9,10],[9,10]⟩,⟨[],[],[9,10],[9,10]⟩,⟨[],[],[9,10],[9,10]⟩,⟨[],[],[9,10],[9,10]⟩,⟨[],[],[9,10],[9,10]⟩,⟨[9],[9],[10],[10]⟩,⟨[10],[10],[9],[9]⟩,⟨[9],[],[],[]⟩] fun K z=>?_;refine ev ?_;refine cj (A1h h0) ?_;refine cc hT ?_;apply z;clear z K)
   (refine AWp.zz 9 rfl rfl ?_;refine AWp.zz 10 rfl rfl (wk [(2,.dptr (tcC c) 0),(3,.dptr (exC e) 0),(4,.box 4 0),(5,.box 5 0),(9,.dptr (tyC x) 0),(10,.dptr [.int .i64 q,.bool b,.bool lg] 0)] [(4,F3d),(5,rs0)] ?_))
   cases b with
   | true =>
    rw [if_pos rfl] at hR;subst hR;refine kR A2s fun K1 u1=>?_;refine tI ?_
    (refine sG A2s [] 3 [⟨[],[],[],[]⟩,⟨[],[],[4],[]⟩,⟨[4],[],[],[]⟩] fun K z=>?_;refine ev ?_;apply z;clear z K)
    exact aR
   | false =>
    rw [if_neg (by simp),if_pos k] at hR;rw [hR] at hcall;obtain⟨rt,rr⟩:=R;refine kR A2s fun K1 u1=>?_;refine kI u1 ?_;clear u1 K1;refine sK fun K1 u1=>?_
    (refine sQ A2s fun K z=>?_;simp -implicitDefEqProofs only [EV,Nat.reduceEqDiff,reduceCtorEq,TF3,B3i,tcC,e2];apply z;clear z K)
    refine tI ?_;refine sC hcall A2s ?_;exact aR
  ·have n2:¬ e.kind=2:=by omega
   have e4:=decide_eq_true k;refine sK fun K1 u1=>?_
   (refine sQ A2s fun K z=>?_;simp -implicitDefEqProofs only [EV,Nat.reduceEqDiff,reduceCtorEq,TF3,D1v,B3i,decide_not,n2,e4,hl0];apply z;clear z K)
   refine kI u1 ?_;clear u1 K1
   (refine sG A2s [] 12 [⟨[],[],[9,10],[9,10]⟩,⟨[],[],[9,10],[9,10]⟩,⟨[],[],[9,10],[9,10]⟩,⟨[],[],[9,10],[9,10]⟩,⟨[],[],[9,10],[9,10]⟩,⟨[],[],[9,10],[9,10]⟩,⟨[],[],[9,10],[9,10]⟩,⟨[],[],[9,10],[9,10]⟩,⟨[],[],[9,10],[9,10]⟩,⟨[9],[9],[10],[10]⟩,⟨[10],[10],[9],[9]⟩,⟨[9],[],[],[]⟩] fun K z=>?_;refine ev ?_;refine cj (A1h h0) ?_;refine cc hT ?_;apply z;clear z K)
   (refine AWp.zz 9 rfl rfl ?_;refine AWp.zz 10 rfl rfl (wk [(2,.dptr (tcC c) 0),(3,.dptr (exC e) 0),(4,.box 4 0),(5,.box 5 0),(9,.dptr (tyC x) 0),(10,.dptr [.int .i64 q,.bool b,.bool lg] 0)] [(4,F3d),(5,rs0)] ?_))
   cases b with
   | true =>
    rw [if_pos rfl] at hR;subst hR;refine kR A2s fun K1 u1=>?_;refine tI ?_
    (refine sG A2s [] 3 [⟨[],[],[],[]⟩,⟨[],[],[4],[]⟩,⟨[4],[],[],[]⟩] fun K z=>?_;refine ev ?_;apply z;clear z K)
    exact aR
   | false =>
    rw [if_neg (by simp),if_neg n2,if_pos k] at hR;refine kR A2s fun K1 u1=>?_;refine kI u1 ?_;clear u1 K1;refine sK fun K1 u1=>?_
    (refine sQ A2s fun K z=>?_;simp -implicitDefEqProofs only [EV,Nat.reduceEqDiff,reduceCtorEq,TF3,B3i,tcC,n2];apply z;clear z K)
    refine kI u1 ?_;clear u1 K1;refine kR1 e4 A2s fun K1 u1=>?_;refine tI ?_;have hst:=B5z c hc x;rcases Bool.eq_false_or_eq_true (B0b c x) with hs | hs
    rotate_left
    ·obtain rfl:R=noT e.pos:=by rw [← hR];unfold B9a;rw [if_pos hs]
     rw [hs] at hst;refine kC hst A2s fun K2 u2=>?_;refine tI ?_;refine sC hnoE A2s ?_;exact aR
    have hfi:=B3a c.p hc.p x hzs (B9h hs);have hfl:=A7g hc.p x;have hneg:=@E4u c e x ⟨q,false,lg⟩ hs;have hpos:∀ (j:Nat) (f:Param),B6u (A1c c.p x) e.name=j→(A1c c.p x)[j]? = some f→B9a c e x ⟨q,false,lg⟩=B3s (f.type,⟨q,false,lg⟩):=fun j f h1 h2=>by unfold B9a;rw [if_neg (by rw [hs];simp),h1,Int.toNat_natCast,h2];simp only;rw [if_neg (by omega)]
    rw [hs] at hst;generalize A1c c.p x=L at *;refine kC hst A2s fun K2 u2=>?_;refine kI u2 ?_;clear u2 K2
    (refine sV A2s fun K z=>?_;refine⟨_,.inl ⟨_,rfl,hfi,rfl⟩,?_⟩;(try simp -implicitDefEqProofs only [EV,forall_const,implies_true,Nat.reduceAdd,Nat.reduceEqDiff,Nat.reduceBEq,Nat.reduceLeDiff,Nat.reduceSub,Nat.reduceMul,Int.reduceEq,Int.reduceLT,Int.reduceLE,Int.reduceSub,Int.reduceAdd,Int.reduceToNat,reduceCtorEq,Int.reduceNeg,TF3,TF4,TF9,A6s,D1v,B3i,B9o,C3x,C4a,F2x,E2k,D5k,B0g,tcC]);apply z;clear z K)
    refine kR A2s fun K2 u2=>?_;refine AWp.bb (AWp.ii L (X:=Unit) (fun j _=>[(2,.dptr (tcC c) 0),(3,.dptr (exC e) 0),(4,.box 4 0),(5,.box 5 0),(10,.dptr [.int .i64 q,.bool false,.bool lg] 0),(11,.d (.slice (paR L))),(12,A0g j)]) (fun _ _=>[(4,F3d),(5,rs0)])
     (fun j _=>∀ y,y∈L.take j→(fun f:Param=>decide (f.name=e.name)) y=false) () (by simp) (by simp [sle,vle,A0k,tcC,exC]) sB ?_ ?_)
    rotate_left
    ·intro j _ d hd hmem dp tk hlt hI;refine sK fun K3 u3=>?_
     (refine sQ A2s fun K z=>?_;simp -implicitDefEqProofs only [EV,Nat.reduceEqDiff,reduceCtorEq,C4a,tcC,hlt];apply z;clear z K)
     refine gI u3 ?_;clear u3 K3;refine sK fun K3 u3=>?_;refine AWp.bb ?_;by_cases hn:d.name=e.name
     ·have hix:B6u L e.name=j:=A5u hd (by simp [hn]) hI;have hfd:=hfd d;rw [← hpos j d hix hd,hR] at hfd;obtain⟨rt,rr⟩:=R;have dn:=decide_eq_true hn
      (refine sG A2s [] 7 [] fun K z=>?_;refine ev ?_;refine⟨by omega,_,A0r hd,rfl,?_⟩;(try refine ev1 dn ?_);apply z;clear z K)
      refine AWp.tt rfl ?_
      (refine sG A2s [] 9 [] fun K z=>?_;refine ev ?_;refine ci (A0r hd) ?_;refine cc hfd ?_;apply z;clear z K)
      exact aR
     ·(refine sG A2s [] 7 [] fun K z=>?_;refine ev ?_;refine⟨by omega,_,A0r hd,rfl,?_⟩;(try refine ev1 hn ?_);apply z;clear z K)
      refine AWp.ff rfl (AWp.kk (u3 _ _ ?_));clear u3 K3
      (refine lV A2s fun K z=>?_;refine⟨by first | (unfold InR;omega) | (simp only [InR,sm] at *;omega),?_⟩;(try simp -implicitDefEqProofs only [EV,forall_const,implies_true,Nat.reduceAdd,Nat.reduceEqDiff,Nat.reduceBEq,Nat.reduceLeDiff,Nat.reduceSub,Nat.reduceMul,Int.reduceEq,Int.reduceLT,Int.reduceLE,Int.reduceSub,Int.reduceAdd,Int.reduceToNat,reduceCtorEq,Int.reduceNeg,TF3,TF4,TF9,A6s,D1v,B3i,B9o,C3x,C4a,F2x,E2k,D5k,B0g,tcC]);apply z;clear z K;try simp only [A0c,])
      refine⟨(),?_,(by simp [sle,vle,A0k,tcC,exC]),sB⟩;intro y hy;rw [tk,List.mem_append] at hy;rcases hy with hy | hy
      ·exact hI y hy
      ·simp only [List.mem_singleton] at hy;subst hy;exact decide_eq_false hn
    intro _ hI;rw [List.take_length] at hI;obtain rfl:R=noT e.pos:=by rw [← hR];exact hneg (A5t hI)
    refine sK fun K3 u3=>?_
    (refine sQ A2s fun K z=>?_;simp -implicitDefEqProofs only [EV,Nat.reduceEqDiff,reduceCtorEq,C4a,tcC,Int.lt_irrefl];apply z;clear z K)
    refine AWp.ss rfl ?_;simp only [TB];refine u2 _ _ ?_;refine sC hnoE A2s ?_;exact aR
  ·have n2:¬ e.kind=2:=by omega
   have n4:¬ e.kind=4:=by omega
   have e5:=decide_eq_true k;refine sK fun K1 u1=>?_
   (refine sQ A2s fun K z=>?_;simp -implicitDefEqProofs only [EV,Nat.reduceEqDiff,reduceCtorEq,TF3,D1v,B3i,decide_not,n2,n4,e5,hl0];apply z;clear z K)
   refine kI u1 ?_;clear u1 K1
   (refine sG A2s [] 12 [⟨[],[],[9,10],[9,10]⟩,⟨[],[],[9,10],[9,10]⟩,⟨[],[],[9,10],[9,10]⟩,⟨[],[],[9,10],[9,10]⟩,⟨[],[],[9,10],[9,10]⟩,⟨[],[],[9,10],[9,10]⟩,⟨[],[],[9,10],[9,10]⟩,⟨[],[],[9,10],[9,10]⟩,⟨[],[],[9,10],[9,10]⟩,⟨[9],[9],[10],[10]⟩,⟨[10],[10],[9],[9]⟩,⟨[9],[],[],[]⟩] fun K z=>?_;refine ev ?_;refine cj (A1h h0) ?_;refine cc hT ?_;apply z;clear z K)
   (refine AWp.zz 9 rfl rfl ?_;refine AWp.zz 10 rfl rfl (wk [(2,.dptr (tcC c) 0),(3,.dptr (exC e) 0),(4,.box 4 0),(5,.box 5 0),(9,.dptr (tyC x) 0),(10,.dptr [.int .i64 q,.bool b,.bool lg] 0)] [(4,F3d),(5,rs0)] ?_))
   cases b with
   | true =>
    rw [if_pos rfl] at hR;subst hR;refine kR A2s fun K1 u1=>?_;refine tI ?_
    (refine sG A2s [] 3 [⟨[],[],[],[]⟩,⟨[],[],[4],[]⟩,⟨[4],[],[],[]⟩] fun K z=>?_;refine ev ?_;apply z;clear z K)
    exact aR
   | false =>
    rw [if_neg (by simp),if_neg n2,if_neg n4] at hR;unfold C8e at hR;refine kR A2s fun K1 u1=>?_;refine kI u1 ?_;clear u1 K1;refine sK fun K1 u1=>?_
    (refine sQ A2s fun K z=>?_;simp -implicitDefEqProofs only [EV,Nat.reduceEqDiff,reduceCtorEq,TF3,B3i,tcC,n2];apply z;clear z K)
    refine kI u1 ?_;clear u1 K1;refine kR1 n4 A2s fun K1 u1=>?_;refine kI u1 ?_;clear u1 K1;cases ho:chk c.p c.env e.type with
    | some n =>rw [ho] at hck hR;simp only [E4t] at hck hR;have hnoQ:=B7t n;subst hR;refine sC hck A2s ?_;refine kR A2s fun K1 u1=>?_;refine tI ?_;refine sC hnoQ A2s ?_;exact aR
    | none =>
     rw [ho] at hck hR;simp only [E4t] at hck hR;refine sC hck A2s ?_;refine kR A2s fun K1 u1=>?_;refine kI u1 ?_;clear u1 K1;have hfv:=A6z c.env x hc.el;have hox:=D3e c hc x;have hoy:=D3e c hc e.type;refine sK fun K1 u1=>?_;rcases Bool.eq_false_or_eq_true c.strict with hst | hst
     rotate_left
     ·rw [if_neg (fun hh=>by rw [hst] at hh;cases hh.1)] at hR;subst hR;refine sR1 hst A2s ?_;refine AWp.ff rfl (AWp.kk (u1 _ _ ?_))
      (refine sG A2s [] 4 [⟨[],[],[],[]⟩,⟨[],[],[],[]⟩,⟨[],[],[4],[]⟩,⟨[4],[],[],[]⟩] fun K z=>?_;refine ev ?_;apply z;clear z K)
      exact aR
     ·refine sR A2s ?_;refine AWp.cond rfl (fun _=>?_) (fun hf=>absurd (hst.symm.trans hf) (by decide));refine sR A2s ?_;refine sC hfv A2s ?_;refine sK fun K2 u2=>?_;by_cases h0:0≤A3u c.env x
      ·obtain⟨f,hf,_⟩:=B2j (env:=c.env) (t:=x) (by omega);have hbt:=E9z h0 hf;have hi:=A3q c.p hc.p c.env hc.el hc.env e.type f.bound he.type (hc.env f (List.mem_of_getElem? hf)).bound;have hbi:A5x c.p c.env e.type (B5s c x)=A5x c.p c.env e.type f.bound:=by rw [hbt]
       rw [← hbi] at hi;refine sR1 h0 A2s ?_;refine AWp.tt rfl ?_
       (refine lV A2s fun K z=>?_;refine⟨h0,_,A0v hf,rfl,?_⟩;(try refine ev ?_);apply z;clear z K;try simp only [A0c,])
       refine u2 _ _ ?_;clear u2 K2;rcases Bool.eq_false_or_eq_true (D3s c x) with ha | ha
       rotate_left
       ·rw [if_pos ⟨hst,by unfold C9e;rw [ha];rfl⟩] at hR;subst hR;rw [ha] at hox;refine sC hox A2s ?_;refine tI ?_;refine sC hnoE A2s ?_;exact aR
       rw [ha] at hox;rcases Bool.eq_false_or_eq_true (D3s c e.type) with hb | hb
       ·rw [if_neg (fun hh=>by have:=hh.2;unfold C9e at this;rw [ha,hb] at this;cases this)] at hR;subst hR;rw [hb] at hoy
        (refine sV A2s fun K z=>?_;refine cc hox ?_;refine cc hoy ?_;apply z;clear z K)
        refine AWp.ff rfl (AWp.kk (u1 _ _ ?_))
        (refine sG A2s [] 4 [⟨[],[],[],[]⟩,⟨[],[],[],[]⟩,⟨[],[],[4],[]⟩,⟨[4],[],[],[]⟩] fun K z=>?_;refine ev ?_;apply z;clear z K)
        exact aR
       rw [hb] at hoy;rcases Bool.eq_false_or_eq_true (A5x c.p c.env e.type (B5s c x)) with hm | hm
       ·rw [if_neg (fun hh=>by have:=hh.2;unfold C9e at this;rw [ha,hb,hm] at this;cases this)] at hR;subst hR;rw [hm] at hi
        (refine sV A2s fun K z=>?_;refine cc hox ?_;refine cc hoy ?_;refine cc hi ?_;apply z;clear z K)
        refine AWp.ff rfl (AWp.kk (u1 _ _ ?_))
        (refine sG A2s [] 4 [⟨[],[],[],[]⟩,⟨[],[],[],[]⟩,⟨[],[],[4],[]⟩,⟨[4],[],[],[]⟩] fun K z=>?_;refine ev ?_;apply z;clear z K)
        exact aR
       ·rw [if_pos ⟨hst,by unfold C9e;rw [ha,hb,hm];rfl⟩] at hR;subst hR;rw [hm] at hi
        (refine sV A2s fun K z=>?_;refine cc hox ?_;refine cc hoy ?_;refine cc hi ?_;apply z;clear z K)
        refine tI ?_;refine sC hnoE A2s ?_;exact aR
      ·have hbt:=F1d h0;have hi:=A3q c.p hc.p c.env hc.el hc.env e.type x he.type hzs;have hbi:A5x c.p c.env e.type (B5s c x)=A5x c.p c.env e.type x:=by rw [hbt]
       rw [← hbi] at hi;refine sR1 h0 A2s ?_;refine AWp.ff rfl (AWp.kk (u2 _ _ ?_));clear u2 K2;rcases Bool.eq_false_or_eq_true (D3s c x) with ha | ha
       rotate_left
       ·rw [if_pos ⟨hst,by unfold C9e;rw [ha];rfl⟩] at hR;subst hR;rw [ha] at hox;refine sC hox A2s ?_;refine tI ?_;refine sC hnoE A2s ?_;exact aR
       rw [ha] at hox;rcases Bool.eq_false_or_eq_true (D3s c e.type) with hb | hb
       ·rw [if_neg (fun hh=>by have:=hh.2;unfold C9e at this;rw [ha,hb] at this;cases this)] at hR;subst hR;rw [hb] at hoy
        (refine sV A2s fun K z=>?_;refine cc hox ?_;refine cc hoy ?_;apply z;clear z K)
        refine AWp.ff rfl (AWp.kk (u1 _ _ ?_))
        (refine sG A2s [] 4 [⟨[],[],[],[]⟩,⟨[],[],[],[]⟩,⟨[],[],[4],[]⟩,⟨[4],[],[],[]⟩] fun K z=>?_;refine ev ?_;apply z;clear z K)
        exact aR
       rw [hb] at hoy;rcases Bool.eq_false_or_eq_true (A5x c.p c.env e.type (B5s c x)) with hm | hm
       ·rw [if_neg (fun hh=>by have:=hh.2;unfold C9e at this;rw [ha,hb,hm] at this;cases this)] at hR;subst hR;rw [hm] at hi
        (refine sV A2s fun K z=>?_;refine cc hox ?_;refine cc hoy ?_;refine cc hi ?_;apply z;clear z K)
        refine AWp.ff rfl (AWp.kk (u1 _ _ ?_))
        (refine sG A2s [] 4 [⟨[],[],[],[]⟩,⟨[],[],[],[]⟩,⟨[],[],[4],[]⟩,⟨[4],[],[],[]⟩] fun K z=>?_;refine ev ?_;apply z;clear z K)
        exact aR
       ·rw [if_pos ⟨hst,by unfold C9e;rw [ha,hb,hm];rfl⟩] at hR;subst hR;rw [hm] at hi
        (refine sV A2s fun K z=>?_;refine cc hox ?_;refine cc hoy ?_;refine cc hi ?_;apply z;clear z K)
        refine tI ?_;refine sC hnoE A2s ?_;exact aR
set_option maxHeartbeats 1000000
set_option maxHeartbeats 4000000
theorem C8f {p:Prog} (h:p.Sm)(st:Bool) {d:Decl} (hd:d.Sm)(h2:d.Two)(hps:d.sig.params.length+1≤sm):(A8g p st d).Sm:=by
 refine⟨h,?_,?_,?_,?_⟩
 ·show (D0s p d++d.sig.formals).length≤sm;have:=C8o p d;have:=h2.sig;rw [List.length_append];omega
 ·intro f hf;rcases List.mem_append.1 hf with hf | hf
  ·exact F2r h hd f hf
  ·exact hd.sig.formals.2 f hf
 ·show (⟨d.recv,G1c d,0⟩::d.sig.params:List Param).length≤sm;rw [List.length_cons];exact hps
 ·intro f hf;rcases List.mem_cons.1 hf with rfl | hf
  ·refine⟨hd.recv,.mk _ _ _ hd.name (by simp only [A5g,List.length_map];exact hd.vars.1) (D8z hd)⟩
  ·exact hd.sig.params.2 f hf
abbrev z49:BoxC:=.cells [.d .nil,.d (.int .i64 0),.d (.str []),.d (.str []),.d .nil,.d (.int .i64 0),.d .nil,.d .nil,.d (.int .i64 0),.d (.bool false),.d .nil,.d .nil]
abbrev B9p:List Nat:=[0,1,2,3,5,6,7,8,9,17,36,46,900]
theorem C7e (p:Prog)(h:p.Sm)(st:Bool)(d:Decl)(hd:d.Sm)(h2:d.Two)(hps:d.sig.params.length+1≤sm):A0a prog 113 [prV p,A0m st,deV d] (tcV (A8g p st d)):=by
 have henv:=D1z p h d hd;have hel:=C8o p d;have hvl:=hd.vars.1;have hsl:=h2.sig;have e1:foR (A8g p st d).env=foR (D0s p d)++foR d.sig.formals:=by simp [A8g,foR]
 unfold tcV;rw [e1];show A0a prog 113 [prV p,A0m st,deV d] (.agg [.d (.slice (deR p.decls)),.d (.int .i64 p.main.kind),.d (.str p.main.name),.d (.str p.main.type.name),.d (.slice (tyR p.main.type.args)),.d (.int .i64 p.main.type.pos),.d (.slice (tyR p.main.targs)),.d (.slice (exR p.main.kids)),.d (.int .i64 p.main.pos),.d (.bool st),.d (.slice (foR (D0s p d)++foR d.sig.formals)),.d (.slice ([[.str d.recv,.str d.name,.slice (tyR (A5g d.vars)),.int .i64 0,.int .i64 0]]++paR d.sig.params))]);have helr:(foR (D0s p d)).length≤d.vars.length:=by simpa [foR] using hel
 generalize foR (D0s p d)=ER at *;refine cB func113 ?_;refine sR B9p ?_
 (refine AWp.zz 3 rfl rfl ?_;refine AWp.zz 5 rfl rfl (wk [(1,A0m st),(3,.dptr (prC p) 0),(5,.dptr (deC d) 0),(6,.box 6 0)] [(6,z49)] ?_))
 refine sR B9p ?_;refine AWp.promoteBox 900 3 7 1 rfl rfl (by decide) ?_;refine kR B9p fun K1 u1=>?_;refine AWp.bb (AWp.ii d.vars (X:=Unit) (fun j _=>[(1,A0m st),(3,.dptr (prC p) 0),(5,.dptr (deC d) 0),(6,.box 6 0),(7,.box 7 0),(8,A0g j)]) (fun j _=>[(6,z49),(7,.cells [.d (.str d.name),.acc 900,.d (.int .i64 0)]),(900,.rows 3 (tyR (A5g (d.vars.take j))))])
  (fun _ _=>True) () trivial (by simp [sle,vle,A0k,deC,prC]) (by simp [ble,A0h,A1o,A5g]) ?_ ?_)
 rotate_left
 ·intro j _ s hs hmem dp tk hlt _;rw [tk];refine kR1 hlt B9p fun K2 u2=>?_;refine gI u2 ?_;clear u2 K2;refine sK fun K2 u2=>?_;refine AWp.bb ?_
  (refine lG B9p [] 9 [] fun K z=>?_;refine ev ?_;refine ci (A2b hs) ?_;refine⟨by simp,by simp only [A5g,List.length_map,List.length_take];unfold lim sm at *;omega,?_⟩;(try refine ev ?_);apply z;clear z K;try simp only [A0c,A0e])
  refine u2 _ _ ?_;clear u2 K2;refine lT B9p ?_;exact⟨(),trivial,(by simp [sle,vle,A0k,deC,prC]),by simp [ble,A0h,A1o,A5g,tyC,Ty.name,Ty.args,Ty.pos]⟩
 intro _ _;rw [List.take_length];refine kR1 Int.lt_irrefl B9p fun K2 u2=>?_;refine AWp.ss rfl ?_;simp only [TB];refine u1 _ _ ?_;clear u2 K2 u1 K1
 (refine AWp.publish 900 rfl (wk [(1,A0m st),(3,.dptr (prC p) 0),(5,.dptr (deC d) 0),(6,.box 6 0),(7,.box 7 0)] [(6,z49),(7,.cells [.d (.str d.name),.d (.slice (tyR (A5g d.vars))),.d (.int .i64 0)])] ?_))
 refine sR B9p ?_
 (refine sG B9p [36] 6 [⟨[],[],[],[]⟩,⟨[],[],[],[]⟩,⟨[36],[36],[],[]⟩,⟨[],[],[36],[36]⟩,⟨[],[],[36],[36]⟩,⟨[],[],[36],[36]⟩] fun K z=>?_;refine ev ?_;refine⟨_,_,_,_,_,rfl,henv,?_⟩;(try refine ev ?_);refine⟨C8i _,by unfold lim sm at *;omega,?_⟩;(try refine ev ?_);apply z;clear z K)
 (refine AWp.seqR B9p [46] (by decide +kernel) fun K z=>?_;refine ev ?_;refine⟨G1o _,by unfold lim sm at *;omega,?_⟩;(try refine ev ?_);apply z;clear z K)
 (refine AWp.publish 36 rfl ?_;refine AWp.publish 46 rfl (wk [(6,.box 6 0),(9,.box 9 0)] [(6,z49),(9,.cells [.d (.slice (deR p.decls)),.d (.int .i64 p.main.kind),.d (.str p.main.name),.d (.str p.main.type.name),.d (.slice (tyR p.main.type.args)),.d (.int .i64 p.main.type.pos),.d (.slice (tyR p.main.targs)),.d (.slice (exR p.main.kids)),.d (.int .i64 p.main.pos),.d (.bool st),.d (.slice (ER++foR d.sig.formals)),.d (.slice ([[.str d.recv,.str d.name,.slice (tyR (A5g d.vars)),.int .i64 0,.int .i64 0]]++paR d.sig.params))])] ?_))
 refine sR B9p ?_;exact aR
abbrev C0c:List Nat:=[0,1,2,3,6,7,25]
theorem F0p (p:Prog)(h:p.Sm)(st:Bool)(i:Nat)(d:Decl)(hd:p.decls[i]? = some d)(h2:d.Two)(hps:d.sig.params.length+1≤sm):A0a prog 47 [prV p,A0m st,A0g i] (rsV (E7k p st d)):=by
 have hlt:=(List.getElem?_eq_some_iff.1 hd).1;have g1:¬ (i:Int) < 0:=by omega
 have g2:¬ (i:Int) ≥ (p.decls.length:Int):=by omega
 have hds:=h.decls.2 d (List.mem_of_getElem? hd);have hsm:=C8f h st hds h2 hps;have hsc:=C7e p h st d hds h2 hps;have hft:=D2c (A8g p st d) hsm d.body (C3w _ hsm d.body hds.body) (B5v hsm d.body hds.body) d.sig.result hds.sig.result;unfold E7k;generalize C4f (A8g p st d) d.sig.result d.body (A3b (A8g p st d) d.body)=r at *;generalize A8g p st d=c at *;by_cases k3:d.kind=3
 ·rw [if_pos k3];have d3:=decide_eq_true k3;refine cB func47 ?_;refine sR C0c ?_;refine sK fun K1 u1=>?_
  (refine sQ C0c fun K z=>?_;refine ev2 g1 g2 ?_;refine⟨by omega,_,A0t hd,rfl,?_⟩;(try simp -implicitDefEqProofs only [EV,Nat.reduceEqDiff,reduceCtorEq,decide_not,d3]);apply z;clear z K)
  refine kI u1 ?_;clear u1 K1
  (refine sV C0c fun K z=>?_;refine ci (A0t hd) ?_;apply z;clear z K)
  (refine sG C0c [] 9 [] fun K z=>?_;refine ev ?_;refine cc hsc ?_;refine cc hft ?_;apply z;clear z K)
  exact aR
 ·rw [if_neg k3];refine cB func47 ?_;refine sR C0c ?_;refine sK fun K1 u1=>?_
  (refine sQ C0c fun K z=>?_;refine ev2 g1 g2 ?_;refine⟨by omega,_,A0t hd,rfl,?_⟩;(try refine ev1 k3 ?_);apply z;clear z K)
  refine tI ?_;refine sR C0c ?_;exact aR
structure Prog.Fit (p:Prog):Prop where
 sm:p.Sm
 len:p.decls.length≤100000
 two:∀ d,d∈p.decls→d.Two
 par:∀ d,d∈p.decls→d.sig.params.length+1≤Go.Abs.sm
theorem Sig.count_par (s:Sig)(n:Int)(h0:0≤n)(h:s.count n≤2000):s.params.length≤2000:=by unfold Sig.count at h;obtain⟨a1,a2⟩:=E3v s.formals (n+((s.name.length / 50:Nat):Int));obtain⟨b1,b2⟩:=E5c s.params (A0i s.formals (n+((s.name.length / 50:Nat):Int)));have c1:=Ty.count_ge s.result (A0p s.params (A0i s.formals (n+((s.name.length / 50:Nat):Int))));have:=(b2 (by omega) (by omega)).1;omega
theorem Decl.count_par (d:Decl)(n:Int)(h0:0≤n)(h:d.count n≤2000):d.sig.params.length≤2000:=by
 unfold Decl.count at h;generalize hm:n+1+((d.name.length / 50:Nat):Int)+((d.recv.length / 50:Nat):Int)=m at h;obtain⟨a1,a2⟩:=E3v d.formals m;obtain⟨b1,b2⟩:=E5c d.fields (A0i d.formals m);obtain⟨c1,c2⟩:=G3m d.sigs (A0p d.fields (A0i d.formals m));obtain⟨e1,e2⟩:=D6s d.vars (A0u d.sigs (A0p d.fields (A0i d.formals m)));generalize hz:A2i d.vars (A0u d.sigs (A0p d.fields (A0i d.formals m)))=z at *;unfold Decl.count2 at h;have g1:=Ex.count_ge d.body (d.sig.count z);split at h
 ·exact Sig.count_par d.sig z (by omega) (by omega)
 ·omega
theorem G2b:LSm A2n (fun d=>d.sig.params.length≤2000):=A3r A2n Decl.count (fun d=>d.sig.params.length≤2000) (fun _=>rfl) (fun _ _ _=>rfl) (fun x k=>(Decl.count_sm x k).1) (fun x k h0 h=>Decl.count_par x k h0 h)
theorem Prog.count_Fit (p:Prog)(h:p.count≤600):p.Fit:=by have hn:=Prog.count_Nn p h;have hs:=Prog.count_sm p h;refine⟨hs.1,by have:=hs.2;omega,fun d hd=>(hn.decls d hd).two,fun d hd=>?_⟩;unfold Prog.count at h;have h1:=Ex.count_ge p.main 0;obtain⟨a1,a2⟩:=G2b p.decls (p.main.count 0);have:=(a2 (by omega) (by omega)).2 d hd;unfold Go.Abs.sm;omega
abbrev D5o:List Nat:=[0,1,2,4,5,6,8,13,21,27]
theorem D4i (p:Prog)(h:p.Fit)(st:Bool):A0a prog 17 [prV p,A0m st] (rsV (E8c p st)):=by
 have hpl:=h.sm.decls.1;have hm0:(⟨p,st,[],[]⟩:TCtx).Sm:=⟨h.sm,by simp,by simp,by simp,by simp⟩;have hmt:=C3w ⟨p,st,[],[]⟩ hm0 p.main h.sm.main;generalize hR:E8c p st=R;unfold E8c at hR;refine cB func17 ?_;refine sR D5o ?_
 (refine AWp.zz 2 rfl rfl (wk [(1,A0m st),(2,.dptr (prC p) 0),(4,.box 4 0)] [(4,rs0)] ?_))
 refine kR D5o fun K1 u1=>?_;refine AWp.bb (AWp.ii p.decls (X:=Unit) (fun j _=>[(1,A0m st),(2,.dptr (prC p) 0),(4,.box 4 0),(5,A0g j)]) (fun _ _=>[(4,rs0)])
  (fun j _=>F1h p st (p.decls.drop j) j=R) () hR (by simp [sle,vle,A0k,prC]) sB ?_ ?_)
 rotate_left
 ·intro j _ d hd hmem dp tk hlt hI;have hhd:=E6t p h.sm h.len j d hd (h.two d hmem);have hbo:=F0p p h.sm st j d hd (h.two d hmem) (h.par d hmem);rw [dp,F1h] at hI;refine kR1 hlt D5o fun K2 u2=>?_;refine gI u2 ?_;clear u2 K2;refine sK fun K2 u2=>?_;refine AWp.bb ?_;cases ho:E9v p j d with
  | some q =>rw [ho] at hhd hI;simp only [rsV,B5c,C9h] at hhd hI;refine sC hhd D5o ?_;refine kR D5o fun K3 u3=>?_;refine AWp.ff rfl (AWp.kk (u3 _ _ ?_));clear u3 K3;refine sR D5o ?_;refine AWp.tt rfl ?_;refine sR D5o ?_;rw [← hI];exact aR
  | none =>
   rw [ho] at hhd hI;simp only [rsV,B5c,E3o] at hhd hI;generalize E7k p st d=r at *;obtain⟨q,b,l⟩:=r;refine sC hhd D5o ?_;refine kR D5o fun K3 u3=>?_;refine AWp.tt rfl ?_
   (refine lV D5o fun K z=>?_;refine cc hbo ?_;apply z;clear z K;try simp only [A0c,])
   refine u3 _ _ ?_;clear u3 K3;refine sR D5o ?_;cases b with
   | true =>rw [if_pos rfl] at hI;refine AWp.tt rfl ?_;refine sR D5o ?_;rw [← hI];exact aR
   | false =>rw [if_neg (by simp)] at hI;refine AWp.ff rfl (AWp.kk (u2 _ _ ?_));clear u2 K2;refine lT D5o ?_;exact⟨(),hI,(by simp [sle,vle,A0k,prC]),sB⟩
 intro _ hI;rw [List.drop_length,F1h] at hI;refine kR1 Int.lt_irrefl D5o fun K2 u2=>?_;refine AWp.ss rfl ?_;simp only [TB];refine u1 _ _ ?_;clear u2 K2 u1 K1;generalize A3b ⟨p,st,[],[]⟩ p.main=z at *;obtain⟨x,r⟩:=z;simp only at hI;subst hI;refine sC hmt D5o ?_;refine sR D5o ?_;exact aR
end Go.Abs
