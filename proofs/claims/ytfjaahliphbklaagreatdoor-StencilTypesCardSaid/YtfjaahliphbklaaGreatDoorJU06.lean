/- castingsref06: sigTypes, Body, Types, bare, Plain; sizes of the lists of types -/
import Derived.Test.YtfjaahliphbklaaGreatDoorJU01
import Derived.Test.YtfjaahliphbklaaGreatDoorJS95
namespace Go.Abs
set_option linter.unusedSimpArgs false
set_option linter.unusedVariables false
open Go Go.Proofs Tryz
set_option maxRecDepth 100000
set_option maxHeartbeats 4000000
def G3y (x:Ex):List Ty:=x.targs++if x.kind=3∨x.kind=5 then [x.type] else []
def C8v (l:List Ex):List Ty:=l.flatMap G3y
def E0y (e:Ex):List Ty:=C8v (A4p e)
theorem Ty.countL_lenL:∀ (l:List Ty)(k:Int),Ty.countL l k≤2000→k+(l.length:Int)≤Ty.countL l k
 | [],k,_=>by simp [Ty.countL]
 | t::ts,k,h=>by
  simp only [Ty.countL] at h ⊢;split at h
  ·rename_i hk;rw [if_pos hk];have h1:=Ty.countL_lenL ts _ h;have h2:=Ty.count_ge t k;simp only [List.length_cons];omega
  ·omega
theorem E2g (e:Ex)(l:List Ex):C8v (e::l)=G3y e++C8v l:=rfl
theorem D4v (a b:List Ex):C8v (a++b)=C8v a++C8v b:=by simp [C8v]
theorem F5c (x:Ex):(G3y x).length≤x.targs.length+1:=by unfold G3y;rw [List.length_append];split <;> simp
mutual
theorem Ex.count_lens:∀ (e:Ex)(k:Int),e.count k≤2000→k+((A4p e).length:Int)≤e.count k∧k+((E0y e).length:Int)≤e.count k
 | .mk kd n t a ks p,k,h=>by simp only [Ex.count] at h ⊢;have h1:=Ty.count_ge t (k+((n.length / 50:Nat):Int));have h2:=Ty.countL_ge a (t.count (k+((n.length / 50:Nat):Int)));have h3:=Ex.countL_ge ks (Ty.countL a (t.count (k+((n.length / 50:Nat):Int))));have g2:=Ty.countL_lenL a (t.count (k+((n.length / 50:Nat):Int))) (by omega);obtain⟨g3,g4⟩:=Ex.countL_lens ks (Ty.countL a (t.count (k+((n.length / 50:Nat):Int)))) h;have g5:=F5c (.mk kd n t a ks p);rw [show (Ex.mk kd n t a ks p).targs=a from rfl] at g5;unfold E0y;rw [A4p,E2g];simp only [List.length_cons,List.length_append];omega
theorem Ex.countL_lens:∀ (l:List Ex)(k:Int),Ex.countL l k≤2000→k+((A2q l).length:Int)≤Ex.countL l k∧k+((C8v (A2q l)).length:Int)≤Ex.countL l k
 | [],k,_=>by simp [Ex.countL,A2q,C8v]
 | t::ts,k,h=>by
  simp only [Ex.countL] at h ⊢;split at h
  ·rename_i hk;rw [if_pos hk];have h1:=Ex.countL_ge ts (t.count k);obtain⟨h2,h3⟩:=Ex.countL_lens ts (t.count k) h;obtain⟨h4,h5⟩:=Ex.count_lens t k (by omega);unfold E0y at h5;rw [A2q,D4v];simp only [List.length_append];omega
  ·omega
end
structure Ex.Le (e:Ex):Prop where
 list:(A4p e).length≤2000
 tys:(E0y e).length≤2000
theorem Ex.count_Le (e:Ex)(k:Int)(h0:0≤k)(h:e.count k≤2000):e.Le:=by have:=Ex.count_lens e k h;exact⟨by omega,by omega⟩
structure Sig.Le (s:Sig):Prop where
 formals:s.formals.length≤2000
 params:s.params.length≤2000
structure Decl.Le (d:Decl):Prop where
 formals:d.formals.length≤2000
 fields:d.fields.length≤2000
 sigsL:d.sigs.length≤2000
 sigs:∀ s,s∈d.sigs→s.Le
 sig:d.sig.Le
 body:d.body.Le
structure Prog.Le (p:Prog):Prop where
 declsL:p.decls.length≤2000
 decls:∀ d,d∈p.decls→d.Le
 main:p.main.Le
theorem Sig.count_Le (s:Sig)(n:Int)(h0:0≤n)(h:s.count n≤2000):s.Le:=by unfold Sig.count at h;obtain⟨a1,a2⟩:=E3v s.formals (n+((s.name.length / 50:Nat):Int));obtain⟨b1,b2⟩:=E5c s.params (A0i s.formals (n+((s.name.length / 50:Nat):Int)));have c1:=Ty.count_ge s.result (A0p s.params (A0i s.formals (n+((s.name.length / 50:Nat):Int))));have a3:=(a2 (by omega) (by omega)).1;have b3:=(b2 (by omega) (by omega)).1;exact⟨by omega,by omega⟩
theorem G4y:LSm A0u Sig.Le:=A3r A0u Sig.count Sig.Le (fun _=>rfl) (fun _ _ _=>rfl) (fun x k=>(Sig.count_sm x k).1) (fun x k h0 h=>Sig.count_Le x k h0 h)
theorem Decl.count_Le (d:Decl)(n:Int)(h0:0≤n)(h:d.count n≤2000):d.Le:=by
 unfold Decl.count at h;generalize hm:n+1+((d.name.length / 50:Nat):Int)+((d.recv.length / 50:Nat):Int)=m at h;obtain⟨a1,a2⟩:=E3v d.formals m;obtain⟨b1,b2⟩:=E5c d.fields (A0i d.formals m);obtain⟨c1,c2⟩:=G4y d.sigs (A0p d.fields (A0i d.formals m));obtain⟨e1,e2⟩:=D6s d.vars (A0u d.sigs (A0p d.fields (A0i d.formals m)));generalize hz:A2i d.vars (A0u d.sigs (A0p d.fields (A0i d.formals m)))=z at *;unfold Decl.count2 at h;obtain⟨f1,_⟩:=Sig.count_sm d.sig z;have g1:=Ex.count_ge d.body (d.sig.count z);split at h
 ·have a3:=(a2 (by omega) (by omega)).1;have b3:=(b2 (by omega) (by omega)).1;have c3:=(c2 (by omega) (by omega)).1;exact⟨by omega,by omega,by omega,(c2 (by omega) (by omega)).2,Sig.count_Le d.sig z (by omega) (by omega),Ex.count_Le d.body (d.sig.count z) (by omega) h⟩
 ·omega
theorem G4v:LSm A2n Decl.Le:=A3r A2n Decl.count Decl.Le (fun _=>rfl) (fun _ _ _=>rfl) (fun x k=>(Decl.count_sm x k).1) (fun x k h0 h=>Decl.count_Le x k h0 h)
theorem Prog.count_Le (p:Prog)(h:p.count≤600):p.Le:=by unfold Prog.count at h;have h1:=Ex.count_ge p.main 0;obtain⟨a1,a2⟩:=G4v p.decls (p.main.count 0);have:=(a2 (by omega) (by omega)).1;exact⟨by omega,(a2 (by omega) (by omega)).2,Ex.count_Le p.main 0 (by omega) (by omega)⟩
set_option maxHeartbeats 1000000
def A4f (s:SetT):Nat:=s.types.length+s.calls.length
theorem E7a (s:SetT)(hs:s.Sm):A0a prog 52 [seV s] (A0g (A4f s)):=by
 have h1:=hs.types.1;have h2:=hs.calls.1;have hz:((A4f s:Nat):Int)=(s.types.length:Int)+s.calls.length:=by unfold A4f;omega
 rw [hz];refine cB func52 ?_;refine sR [0,1,2] ?_
 (refine sQ [0,1,2] fun K z=>?_;simp -implicitDefEqProofs only [EV,Nat.reduceEqDiff,reduceCtorEq,B1i,B1h,B2x,A1a];refine⟨by first | (unfold InR;omega) | (simp only [InR,sm] at *;omega),?_⟩;(try simp -implicitDefEqProofs only [EV,forall_const,implies_true,Nat.reduceAdd,Nat.reduceEqDiff,Nat.reduceBEq,Nat.reduceLeDiff,Nat.reduceSub,Nat.reduceMul,Int.reduceEq,Int.reduceLT,Int.reduceLE,Int.reduceSub,Int.reduceAdd,Int.reduceToNat,reduceCtorEq,Int.reduceNeg,TF3,TF4,TF9,B1i,A6s,B1h,B2x,C3z,A1a]);apply z;clear z K)
 exact aR
def B1n (s:SetT):Bool:=s.types.any (fun t=>decide (60 < t.count 0)) || (s.calls.any (fun c=>decide (60 < (Ty.mk [] c.targs 0).count 0)) || (s.large || decide (60 < A4f s)))
abbrev B4n:List Nat:=[0,1,2,3,4,9,18,23,34]
theorem F4z (s:SetT)(hs:s.Sm):A0a prog 53 [seV s] (A0m (B1n s)):=by
 have h1:=hs.types.1;have h2:=hs.calls.1;have hz:=E7a s hs;unfold B1n;generalize A4f s=z at *;refine cB func53 ?_;refine sR B4n ?_;refine kR B4n fun K1 u1=>?_;refine AWp.bb (AWp.ii s.types (X:=Unit) (fun j _=>[(1,.box 1 0),(3,A0g j)]) (fun j _=>[(1,.cells (seS s))])
  (fun j _=>s.types.any (fun t=>decide (60 < t.count 0))=(s.types.drop j).any (fun t=>decide (60 < t.count 0))) () rfl sS sB ?_ ?_)
 rotate_left
 ·intro j _ u hu hmem dp tk hlt hI;have hc:=A4t u 0 (by decide) (by decide);rw [dp,List.any_cons] at hI;generalize u.count 0=k at *;refine kR1 hlt B4n fun K2 u2=>?_;refine gI u2 ?_;clear u2 K2;refine sK fun K2 u2=>?_;refine AWp.bb ?_;by_cases hk:60 < k
  ·have hk':k > 60:=hk;rw [hI,decide_eq_true hk,Bool.true_or,Bool.true_or]
   (refine sV B4n fun K z=>?_;refine ci (A0w hu) ?_;refine⟨_,.inl ⟨_,rfl,hc,rfl⟩,?_⟩;(try refine ev1 hk' ?_);apply z;clear z K)
   refine AWp.tt rfl ?_;refine sR B4n ?_;exact aR
  ·have hk':¬ k > 60:=hk;rw [decide_eq_false hk,Bool.false_or] at hI
   (refine sV B4n fun K z=>?_;refine ci (A0w hu) ?_;refine⟨_,.inl ⟨_,rfl,hc,rfl⟩,?_⟩;(try refine ev1 hk' ?_);apply z;clear z K)
   refine AWp.ff rfl (AWp.kk (u2 _ _ ?_));clear u2 K2;refine lT B4n ?_;exact⟨(),hI,sS,by simp [ble,A0h]⟩
 intro _ hI;rw [List.drop_length,List.any_nil] at hI;rw [hI,Bool.false_or] at u1 ⊢;clear hI;refine kR1 Int.lt_irrefl B4n fun K2 u2=>?_;refine AWp.ss rfl ?_;simp only [TB];refine u1 _ _ ?_;clear u1 K1 u2 K2;refine kR B4n fun K1 u1=>?_;refine AWp.bb (AWp.ii s.calls (X:=Unit) (fun j _=>[(1,.box 1 0),(4,A0g j)]) (fun j _=>[(1,.cells (seS s))])
  (fun j _=>s.calls.any (fun c=>decide (60 < (Ty.mk [] c.targs 0).count 0))=(s.calls.drop j).any (fun c=>decide (60 < (Ty.mk [] c.targs 0).count 0))) () rfl sS sB ?_ ?_)
 rotate_left
 ·intro j _ u hu hmem dp tk hlt hI;have hc:=A4t (.mk [] u.targs 0) 0 (by decide) (by decide);rw [dp,List.any_cons] at hI;generalize (Ty.mk [] u.targs 0).count 0=k at *;refine sK fun K2 u2=>?_
  (refine sQ B4n fun K z=>?_;simp -implicitDefEqProofs only [EV,Nat.reduceEqDiff,reduceCtorEq,B1h,B2x,hlt,A1a];apply z;clear z K)
  refine gI u2 ?_;clear u2 K2;refine sK fun K2 u2=>?_;refine AWp.bb ?_;by_cases hk:60 < k
  ·have hk':k > 60:=hk;rw [hI,decide_eq_true hk,Bool.true_or,Bool.true_or]
   (refine sV B4n fun K z=>?_;refine⟨by omega,_,A1s hu,rfl,?_⟩;(try simp -implicitDefEqProofs only [EV,Nat.reduceAdd,Nat.reduceEqDiff,Nat.reduceLeDiff,reduceCtorEq,A6s,caC]);refine⟨_,.inl ⟨_,rfl,hc,rfl⟩,?_⟩;(try refine ev1 hk' ?_);apply z;clear z K)
   refine AWp.tt rfl ?_;refine sR B4n ?_;exact aR
  ·have hk':¬ k > 60:=hk;rw [decide_eq_false hk,Bool.false_or] at hI
   (refine sV B4n fun K z=>?_;refine⟨by omega,_,A1s hu,rfl,?_⟩;(try simp -implicitDefEqProofs only [EV,Nat.reduceAdd,Nat.reduceEqDiff,Nat.reduceLeDiff,reduceCtorEq,A6s,caC]);refine⟨_,.inl ⟨_,rfl,hc,rfl⟩,?_⟩;(try refine ev1 hk' ?_);apply z;clear z K)
   refine AWp.ff rfl (AWp.kk (u2 _ _ ?_));clear u2 K2;refine lT B4n ?_;exact⟨(),hI,sS,by simp [ble,A0h]⟩
 intro _ hI;rw [List.drop_length,List.any_nil] at hI;rw [hI,Bool.false_or] at u1 ⊢;clear hI;refine sK fun K2 u2=>?_
 (refine sQ B4n fun K z=>?_;simp -implicitDefEqProofs only [EV,Nat.reduceEqDiff,reduceCtorEq,B1h,B2x,Int.lt_irrefl,A1a];apply z;clear z K)
 refine AWp.ss rfl ?_;simp only [TB];refine u1 _ _ ?_;clear u1 K1 u2 K2;have hse:s=⟨s.types,s.calls,s.large⟩:=rfl;cases hlg:s.large with
 | true =>rw [Bool.true_or];refine sR1 hlg B4n ?_;exact aR
 | false =>
  rw [Bool.false_or];have hz':A0a prog 52 [.agg [.d (.slice (tyR s.types)),.d (.slice (caR s.calls)),.d (.bool false)]] (A0g z):=by rw [← hlg];exact hz
  by_cases hk:60 < z
  ·have hk':(z:Int) > 60:=by omega
   rw [decide_eq_true hk]
   (refine sQ B4n fun K z=>?_;refine ev1 hlg ?_;refine⟨_,.inl ⟨_,rfl,hz',rfl⟩,?_⟩;(try refine ev1 hk' ?_);apply z;clear z K)
   exact aR
  ·have hk':¬ (z:Int) > 60:=by omega
   rw [decide_eq_false hk]
   (refine sQ B4n fun K z=>?_;refine ev1 hlg ?_;refine⟨_,.inl ⟨_,rfl,hz',rfl⟩,?_⟩;(try refine ev1 hk' ?_);apply z;clear z K)
   exact aR
set_option maxHeartbeats 2000000
theorem B7k {α:Type} {cmp:α→α→Int} {x:α}:∀ {l:List α} {done:Bool} {out R:List α},A6a cmp x l done out=some R→R.length≤out.length+l.length+(if done=true then 0 else 1)∧∀ t,t∈R→t=x∨t∈l∨t∈out
 | [],done,out,R,h=>by
  rw [A6a] at h;cases h;cases done
  ·simp;intro t ht;rcases ht with h | h <;> simp [h]
  ·simp;intro t ht;simp [ht]
 | t::l,done,out,R,h=>by
  rw [A6a] at h;split at h
  ·cases h
  split at h
  ·obtain⟨h1,h2⟩:=B7k h;refine⟨by clear h2;cases done <;> simp_all <;> omega,fun u hu=>?_⟩;rcases h2 u hu with h3 | h3 | h3
   ·exact .inl h3
   ·exact .inr (.inl (by simp [h3]))
   ·simp only [List.mem_append,List.mem_cons,List.not_mem_nil,or_false] at h3;rcases h3 with h3 | h3 | h3
    ·exact .inr (.inr h3)
    ·exact .inl h3
    ·exact .inr (.inl (by simp [h3]))
  ·obtain⟨h1,h2⟩:=B7k h;refine⟨by clear h2;cases done <;> simp_all <;> omega,fun u hu=>?_⟩;rcases h2 u hu with h3 | h3 | h3
   ·exact .inl h3
   ·exact .inr (.inl (by simp [h3]))
   ·simp only [List.mem_append,List.mem_cons,List.not_mem_nil,or_false] at h3;rcases h3 with h3 | h3
    ·exact .inr (.inr h3)
    ·exact .inr (.inl (by simp [h3]))
theorem B1m {α:Type} {cmp:α→α→Int} {x:α} (l:List α):(D3k cmp l x).length≤l.length+1∧∀ t,t∈D3k cmp l x→t=x∨t∈l:=by
 unfold D3k;cases h:A6a cmp x l false [] with
 | none=>exact⟨by simp,fun t ht=>.inr ht⟩
 | some R =>
  obtain⟨h1,h2⟩:=B7k h;refine⟨by simpa using h1,fun t ht=>?_⟩;rcases h2 t ht with h3 | h3 | h3
  ·exact .inl h3
  ·exact .inr h3
  ·simp at h3
theorem B2n {s:SetT} (hs:s.Sm) {x:Ty} (hx:x.Sm):(C4d s x).Sm:=by
 unfold C4d;split
 ·exact⟨hs.types,hs.calls⟩
 ·rename_i h;obtain⟨h1,h2⟩:=B1m (cmp:=A7c) (x:=x) s.types;refine⟨⟨by simp only;unfold sm;omega,fun t ht=>?_⟩,hs.calls⟩;rcases h2 t ht with rfl | h3
  ·exact hx
  ·exact hs.types.2 t h3
theorem D7z {s:SetT} (hs:s.Sm) {x:CallT} (hx:x.Sm):(C2o s x).Sm:=by
 unfold C2o;split
 ·exact⟨hs.types,hs.calls⟩
 ·rename_i h;obtain⟨h1,h2⟩:=B1m (cmp:=A2t) (x:=x) s.calls;refine⟨hs.types,⟨by simp only;unfold sm;omega,fun t ht=>?_⟩⟩;rcases h2 t ht with rfl | h3
  ·exact hx
  ·exact hs.calls.2 t h3
def D1e (s:SetT)(e:Ex)(z:Ty × Res):SetT:=if z.2.bad=true then { s with large:=s.large || z.2.large } else C2o (C4d { s with large:=s.large || z.2.large } z.1) ⟨z.1,e.name,e.targs⟩
def B4c (p:Prog)(vars:List Param)(s:SetT)(e:Ex):SetT:=if e.kind=3∨e.kind=5 then C4d s e.type else if e.kind=2 then (match e.kids with
 | []=>s
 | v::_=>D1e s e (A3b ⟨p,false,[],vars⟩ v)) else s
def B0x (p:Prog)(s:SetT)(e:Ex)(vars:List Param):SetT:=(A4p e).foldl (B4c p vars) s
theorem F4g {s:SetT} (hs:s.Sm) {e:Ex} (he:e.Sm) {z:Ty × Res} (hz:z.1.Sm):(D1e s e z).Sm:=by
 unfold D1e;have hs':SetT.Sm { s with large:=s.large || z.2.large }:=⟨hs.types,hs.calls⟩;split
 ·exact hs'
 ·exact D7z (B2n hs' hz) ⟨hz,he.name,he.targs⟩
theorem E0r {p:Prog} {vars:List Param} (hc:TCtx.Sm ⟨p,false,[],vars⟩) {s:SetT} (hs:s.Sm) {e:Ex} (he:e.Sm):(B4c p vars s e).Sm:=by
 unfold B4c;split
 ·exact B2n hs he.type
 split
 ·split
  ·exact hs
  ·rename_i v vs hk;exact F4g hs he (B5v hc v (he.kids.2 v (by rw [hk];simp)))
 ·exact hs
theorem C7w {p:Prog} {vars:List Param} (hc:TCtx.Sm ⟨p,false,[],vars⟩):∀ (l:List Ex) {s:SetT},s.Sm→(∀ x,x∈l→x.Sm)→(l.foldl (B4c p vars) s).Sm
 | [],_,hs,_=>hs
 | e::l,_,hs,h=>C7w hc l (E0r hc hs (h e (by simp))) fun x hx=>h x (by simp [hx])
abbrev A7p:List Nat:=[0,1,2,3,4,5,6,8,9,10,11,12,18,34,47,71]
theorem D9b (p:Prog)(vars:List Param)(hc:TCtx.Sm ⟨p,false,[],vars⟩)(s:SetT)(hs:s.Sm)(e:Ex)(he:e.Sm)(hsh:e.Shp)(hl:(A4p e).length≤sm) :
  A0a prog 51 [prV p,seV s,exV e,.d (.slice (paR vars))] (seV (B0x p s e vars)):=by
 have h1:=E1e e hl;have hall:=B5j (Q:=fun x=>x.Sm∧x.Shp) (fun e h x hx=>⟨h.1.kids.2 x hx,h.2.kids x hx⟩) e ⟨he,hsh⟩;have hR:∃ R,B0x p s e vars=R:=⟨_,rfl⟩;obtain⟨R,hR⟩:=hR;rw [hR];unfold B0x at hR;generalize A4p e=l at *;refine cB func51 ?_;refine sR A7p ?_;refine sC h1 A7p ?_;refine kR A7p fun K1 u1=>?_;refine AWp.bb (AWp.ii l (X:=SetT) (fun j s=>[(3,.d (.slice (paR vars))),(4,.box 4 0),(5,.box 5 0),(6,.box 6 0),(8,.box 8 0),(9,.d (.slice (exR l))),(10,A0g j)])
  (fun j s=>[(4,.cells ((prC p).map .d)),(5,.cells (seS s)),(6,.cells (exS e)),(8,.cells [.d .nil,.d .nil,.d (.bool false)])])
  (fun j s=>(l.drop j).foldl (B4c p vars) s=R∧s.Sm) s ⟨hR,hs⟩ sS (by simp [ble,A0h,prC]) ?_ ?_)
 rotate_left
 ·intro j s u hu hmem dp tk hlt hI;obtain⟨hI,hsm⟩:=hI;obtain⟨hus,hush⟩:=hall u hmem;have hnsm:=E0r hc hsm hus;rw [dp,List.foldl_cons] at hI;refine kR1 hlt A7p fun K2 u2=>?_;refine gI u2 ?_;clear u2 K2;refine sK fun K2 u2=>?_;refine AWp.bb ?_;refine sK fun K3 u3=>?_;by_cases k3:u.kind=3
  ·have d3:decide (u.kind=3)=true:=decide_eq_true k3;have n2:¬ u.kind=2:=by omega
   have hput:=A6x s hsm u.type hus.type;have hn:B4c p vars s u=C4d s u.type:=by unfold B4c;rw [if_pos (.inl k3)]
   rw [hn] at hI hnsm;clear hn;generalize C4d s u.type=s2 at *
   (refine sV A7p fun K z=>?_;refine⟨by omega,_,A1h hu,rfl,?_⟩;(try refine ev1 d3 ?_);apply z;clear z K)
   refine AWp.tt rfl ?_
   (refine lG A7p [] 6 [] fun K z=>?_;refine ev ?_;refine ci (A1h hu) ?_;refine cc hput ?_;apply z;clear z K;try simp only [A0c,])
   refine u3 _ _ ?_;clear u3 K3
   (refine sV A7p fun K z=>?_;refine⟨by omega,_,A1h hu,rfl,?_⟩;(try refine ev1 n2 ?_);apply z;clear z K)
   refine AWp.ff rfl (AWp.kk (u2 _ _ ?_));clear u2 K2;refine lT A7p ?_;exact⟨s2,⟨hI,hnsm⟩,sS,by simp [ble,A0h,prC]⟩
  by_cases k5:u.kind=5
  ·have d5:decide (u.kind=5)=true:=decide_eq_true k5;have n2:¬ u.kind=2:=by omega
   have hput:=A6x s hsm u.type hus.type;have hn:B4c p vars s u=C4d s u.type:=by unfold B4c;rw [if_pos (.inr k5)]
   rw [hn] at hI hnsm;clear hn;generalize C4d s u.type=s2 at *
   (refine sV A7p fun K z=>?_;refine⟨by omega,_,A1h hu,rfl,?_⟩;(try refine ev1 k3 ?_);refine⟨by omega,_,A1h hu,rfl,?_⟩;(try refine ev1 d5 ?_);apply z;clear z K)
   refine AWp.tt rfl ?_
   (refine lG A7p [] 6 [] fun K z=>?_;refine ev ?_;refine ci (A1h hu) ?_;refine cc hput ?_;apply z;clear z K;try simp only [A0c,])
   refine u3 _ _ ?_;clear u3 K3
   (refine sV A7p fun K z=>?_;refine⟨by omega,_,A1h hu,rfl,?_⟩;(try refine ev1 n2 ?_);apply z;clear z K)
   refine AWp.ff rfl (AWp.kk (u2 _ _ ?_));clear u2 K2;refine lT A7p ?_;exact⟨s2,⟨hI,hnsm⟩,sS,by simp [ble,A0h,prC]⟩
  (refine sV A7p fun K z=>?_;refine⟨by omega,_,A1h hu,rfl,?_⟩;(try refine ev1 k3 ?_);refine⟨by omega,_,A1h hu,rfl,?_⟩;(try refine ev1 k5 ?_);apply z;clear z K)
  refine AWp.ff rfl (AWp.kk (u3 _ _ ?_));clear u3 K3;by_cases k2:u.kind=2;rotate_left
  ·have hn:B4c p vars s u=s:=by unfold B4c;rw [if_neg (by omega),if_neg k2]
   rw [hn] at hI
   (refine sV A7p fun K z=>?_;refine⟨by omega,_,A1h hu,rfl,?_⟩;(try refine ev1 k2 ?_);apply z;clear z K)
   refine AWp.ff rfl (AWp.kk (u2 _ _ ?_));clear u2 K2;refine lT A7p ?_;exact⟨s,⟨hI,hsm⟩,sS,by simp [ble,A0h,prC]⟩
  have d2:decide (u.kind=2)=true:=decide_eq_true k2;obtain⟨v,hv⟩:=hush.some (.inl k2);have hvs:=hus.kids.2 v (List.mem_of_getElem? hv);have hT:=C3w ⟨p,false,[],vars⟩ hc v hvs;have hzS:=B5v hc v hvs;have hn:B4c p vars s u=D1e s u (A3b ⟨p,false,[],vars⟩ v):=by
   unfold B4c;rw [if_neg (by omega),if_pos k2];cases hk:u.kids with
   | nil=>rw [hk] at hv;cases hv
   | cons y r=>rw [hk] at hv;cases hv;rfl
  rw [hn] at hI hnsm;clear hn;generalize A3b ⟨p,false,[],vars⟩ v=z at *;obtain⟨x,⟨q,b,lg⟩⟩:=z;simp only at hzS;obtain⟨ts,cs,lg0⟩:=s;have hsl:SetT.Sm ⟨ts,cs,lg0 || lg⟩:=⟨hsm.types,hsm.calls⟩;have hp1:=A6x _ hsl x hzS;have hp1s:=B2n hsl hzS;have hp2:=C5k _ hp1s ⟨x,u.name,u.targs⟩ ⟨hzS,hus.name,hus.targs⟩;unfold D1e at hI hnsm;simp only at hI hnsm
  (refine sV A7p fun K z=>?_;refine⟨by omega,_,A1h hu,rfl,?_⟩;(try refine ev1 d2 ?_);apply z;clear z K)
  refine AWp.tt rfl ?_
  (refine sG A7p [] 17 [⟨[],[],[11,12],[11,12]⟩,⟨[],[],[11,12],[11,12]⟩,⟨[],[],[11,12],[11,12]⟩,⟨[],[],[11,12],[11,12]⟩,⟨[],[],[11,12],[11,12]⟩,⟨[],[],[11,12],[11,12]⟩,⟨[],[],[11,12],[11,12]⟩,⟨[],[],[11,12],[11,12]⟩,⟨[],[],[11,12],[11,12]⟩,⟨[],[],[11,12],[11,12]⟩,⟨[],[],[11,12],[11,12]⟩,⟨[],[],[11,12],[11,12]⟩,⟨[],[],[11,12],[11,12]⟩,⟨[],[],[11,12],[11,12]⟩,⟨[11],[11],[12],[12]⟩,⟨[12],[12],[11],[11]⟩,⟨[11],[],[],[]⟩] fun K z=>?_;refine ev ?_;refine ci (A1h hu) ?_;refine cj (A1h hv) ?_;refine cc hT ?_;apply z;clear z K)
  cases b with
  | true =>
   rw [if_pos rfl] at hI hnsm;cases lg0 <;> (
    refine sR A7p ?_;refine sR A7p ?_;refine AWp.ff rfl (AWp.kk (u2 _ _ ?_));clear u2 K2;refine lT A7p ?_;exact⟨_,⟨hI,hnsm⟩,sS,by simp [ble,A0h,prC]⟩)
  | false =>
   rw [if_neg (by simp)] at hI hnsm;cases lg0 <;> (
    simp only [Bool.true_or,Bool.false_or] at hI hnsm hp1 hp2;generalize C4d _ x=s3 at *;generalize C2o s3 _=s4 at *;refine sR A7p ?_;refine sR A7p ?_;refine AWp.tt rfl ?_
    (refine lG A7p [] 15 [] fun K z=>?_;refine ev ?_;refine cc hp1 ?_;refine ci (A1h hu) ?_;refine ci (A1h hu) ?_;refine cc hp2 ?_;apply z;clear z K;try simp only [A0c,A0e])
    refine u2 _ _ ?_;clear u2 K2;refine lT A7p ?_;exact⟨_,⟨hI,hnsm⟩,sS,by simp [ble,A0h,prC]⟩)
 intro s' hI;obtain⟨hI,_⟩:=hI;rw [List.drop_length,List.foldl_nil] at hI;subst hI;refine kR1 Int.lt_irrefl A7p fun K2 u2=>?_;refine AWp.ss rfl ?_;simp only [TB];refine u1 _ _ ?_;refine sR A7p ?_;exact aR
set_option maxHeartbeats 1000000
set_option maxHeartbeats 4000000
def A7j (d:Decl):List Str:=d.vars++A0d d.sig.formals
def B1d (x:Ty)(c:CallT):List Ty:=x.args++c.targs
def F0k (p:Prog)(d:Decl)(x:Ty)(c:CallT):List Param:=(A8g p false d).vars.map (Param.subst (A7j d) (B1d x c))
def B6n (d:Decl)(x:Ty)(c:CallT):Ex:=d.body.subst (A7j d) (B1d x c)
def C4h (p:Prog)(s:SetT)(x:Ty)(c:CallT):SetT:=if B0q p x c.name < 0 then s else match p.decls[(B0q p x c.name).toNat]? with
 | none=>s
 | some d=>B0x p s (B6n d x c) (F0k p d x c)
mutual
theorem C3i (v:List Str)(a:List Ty):∀ e:Ex,(A4p (e.subst v a)).length=(A4p e).length
 | .mk k n t l ks q=>by rw [A7e,A4p,A4p];have:(Ex.mk k n t l ks q).kids=ks:=rfl;rw [this,List.length_cons,List.length_cons,B9d v a ks]
theorem B9d (v:List Str)(a:List Ty):∀ l:List Ex,(A2q (l.map (Ex.subst v a))).length=(A2q l).length
 | []=>rfl
 | e::l=>by rw [List.map_cons,A2q,A2q,List.length_append,List.length_append,C3i v a e,B9d v a l]
end
theorem C2i (p:Prog)(x:Ty)(m:Str):B0q p x m < 0∨∃ (j:Nat)(d:Decl),B0q p x m=j∧p.decls[j]? = some d∧d.kind=3:=by
 unfold B0q;split
 ·rcases A2w (B9w x.name m) p.decls with ⟨h1,_⟩ | ⟨j,d,h1,h2,h3⟩
  ·left;unfold B1c;rw [h1];split
   ·rw [if_neg (by omega)];decide
   ·decide
  ·unfold B1c;rw [h1,Int.toNat_natCast,h2];simp only;split
   ·refine .inr ⟨j,d,rfl,h2,?_⟩;simp only [B9w,Bool.and_eq_true,decide_eq_true_eq] at h3;exact h3.1.1
   ·exact .inl (by decide)
 ·exact .inl (by decide)
theorem B5t {x:Ty} {c:CallT} (hx:x.Sm)(hc:c.Sm):∀ u,u∈B1d x c→u.Sm:=fun u hu=>(List.mem_append.1 hu).elim (hx.arg u) (hc.targs.2 u)
theorem E1d {p:Prog} (h:p.Fit) {d:Decl} (hd:d∈p.decls) {x:Ty} {c:CallT} (hx:x.Sm)(hc:c.Sm):TCtx.Sm ⟨p,false,[],F0k p d x c⟩:=by have hs:=C8f h.sm false (h.sm.decls.2 d hd) (h.two d hd) (h.par d hd);refine⟨h.sm,by simp,by simp,by simp only [F0k,List.length_map];exact hs.vl,fun f hf=>?_⟩;obtain⟨g,hg,rfl⟩:=List.mem_map.1 hf;have:=hs.vars g hg;exact⟨this.name,this.type.subst (B5t hx hc)⟩
theorem F5o {p:Prog} (h:p.Fit) {s:SetT} (hs:s.Sm) {x:Ty} {c:CallT} (hx:x.Sm)(hc:c.Sm):(C4h p s x c).Sm:=by
 unfold C4h;split
 ·exact hs
 ·split
  ·exact hs
  ·rename_i d hd;have hdm:=List.mem_of_getElem? hd;refine C7w (E1d h hdm hx hc) _ hs fun y hy=>?_;exact B5j (Q:=Ex.Sm) (fun e h x hx=>h.kids.2 x hx) _ (Ex.Sm.subst (B5t hx hc) _ (h.sm.decls.2 d hdm).body) y hy
abbrev C5d:List Nat:=[0,1,2,3,4,5,6,7,8,9,10,11,12,13,14,15,16,23,30,39,53]
theorem E4d (p:Prog)(h:p.Fit)(hle:p.Le)(hsh:∀ d,d∈p.decls→d.kind=3→d.body.Shp)(s:SetT)(hs:s.Sm)(x:Ty)(hx:x.Sm)(c:CallT)(hc:c.Sm) :
  A0a prog 126 [prV p,seV s,tyV x,caV c] (seV (C4h p s x c)):=by
 have hpl:=h.sm.decls.1;have hm:=C1t p hpl x c.name;have hcases:=C2i p x c.name;unfold C4h;by_cases h0:B0q p x c.name < 0
 ·rw [if_pos h0];generalize B0q p x c.name=i at *;refine cB func126 ?_;refine sR C5d ?_;refine sC hm C5d ?_;refine kR1 h0 C5d fun K1 u1=>?_;refine tI ?_;refine sR C5d ?_;exact aR
 ·rw [if_neg h0];obtain⟨j,d,hj,hd,hk⟩:=hcases.resolve_left h0;have hdm:=List.mem_of_getElem? hd;have hds:=h.sm.decls.2 d hdm;rw [hj] at hm h0 ⊢;rw [Int.toNat_natCast,hd];simp only;have hvl:=hds.vars.1;have hfl:=hds.sig.formals.1;have hxl:=hx.len;have hcl:=hc.targs.1;have hn:=A1u d.sig.formals hfl;have hsc:=C7e p h.sm false d hds (h.two d hdm) (h.par d hdm);have hscm:=C8f h.sm false hds (h.two d hdm) (h.par d hdm);have hS:=fun t ht=>A2j (A7j d) (B1d x c) (B5t hx hc) t ht;have hb:=C6h (A7j d) (B1d x c) (B5t hx hc) d.body hds.body;have hN:=D9b p (F0k p d x c) (E1d h hdm hx hc) s hs (B6n d x c) (Ex.Sm.subst (B5t hx hc) _ hds.body) ((hsh d hdm hk).subst _ _) (by
   unfold B6n;rw [C3i];have:=(hle.decls d hdm).body.list;unfold sm;omega)
  have hmn:A2x (A7j d)=A2x d.vars++A2x (d.sig.formals.map (·.name)):=by simp [A7j,A2x,A0d]
  have hma:tyR (B1d x c)=tyR x.args++tyR c.targs:=by simp [B1d,A1o]
  have hvl2:=hscm.vl;have hvs:=hscm.vars;unfold F0k B6n at *;generalize B0x p s (d.body.subst (A7j d) (B1d x c)) ((A8g p false d).vars.map (Param.subst (A7j d) (B1d x c)))=R at *;generalize hNN:A7j d=NN at *;generalize hAA:B1d x c=AA at *;generalize A8g p false d=sc at *;refine cB func126 ?_;refine sR C5d ?_;refine sC hm C5d ?_;refine kR1 h0 C5d fun K1 u1=>?_;refine kI u1 ?_;clear u1 K1
  (refine sV C5d fun K z=>?_;refine ci (A0t hd) ?_;apply z;clear z K)
  (refine sG C5d [30] 7 [⟨[30],[30],[],[]⟩,⟨[],[],[30],[30]⟩,⟨[],[],[30],[30]⟩,⟨[30],[30],[],[]⟩,⟨[],[],[30],[30]⟩,⟨[],[],[30],[30]⟩,⟨[],[],[30],[30]⟩] fun K z=>?_;refine ev ?_;refine⟨A6m _,by (try simp only [A2x,List.length_map,List.length_nil]);unfold lim sm at *;omega,?_⟩;(try refine ev ?_);refine cc hn ?_;refine⟨A6m _,by (try simp only [List.length_map]);unfold lim sm at *;omega,?_⟩;(try refine ev ?_);apply z;clear z K)
  (refine sG C5d [39] 6 [⟨[39],[39],[],[]⟩,⟨[],[],[39],[39]⟩,⟨[],[],[39],[39]⟩,⟨[39],[39],[],[]⟩,⟨[],[],[39],[39]⟩,⟨[],[],[39],[39]⟩] fun K z=>?_;refine ev ?_;refine⟨C0f _,by (try simp only [A1o,List.length_map,List.length_nil]);unfold lim sm at *;omega,?_⟩;(try refine ev ?_);refine⟨C0f _,by (try simp only [A1o,List.length_append,List.length_map,List.length_nil]);unfold lim sm at *;omega,?_⟩;(try refine ev ?_);apply z;clear z K)
  rw [← hmn,← hma]
  (refine AWp.publish 30 rfl ?_;refine AWp.publish 39 rfl (wk [(4,.box 4 0),(5,.box 5 0),(8,.box 8 0),(10,.box 10 0),(11,A1m NN),(12,A3s AA)] [(4,.cells ((prC p).map .d)),(5,.cells (seS s)),(8,.cells [.d .nil,.d .nil,.d (.bool false)]),(10,.cells (deS d))] ?_))
  refine sC hsc C5d ?_;refine sR C5d ?_;refine AWp.pp 14 5 14 rfl ?_;refine kR C5d fun K1 u1=>?_;refine AWp.bb (AWp.ii sc.vars (X:=Unit) (fun j _=>[(4,.box 4 0),(5,.box 5 0),(8,.box 8 0),(10,.box 10 0),(11,A1m NN),(12,A3s AA),(13,.box 13 0),(14,.acc 14),(15,A0g j)])
   (fun j _=>[(4,.cells ((prC p).map .d)),(5,.cells (seS s)),(8,.cells [.d .nil,.d .nil,.d (.bool false)]),(10,.cells (deS d)),(13,.cells ((tcC sc).map .d)),(14,.rows 5 (paR ((sc.vars.take j).map (Param.subst NN AA))))])
   (fun _ _=>True) () trivial sS (by simp [ble,A0h,prC,tcC,paR]) ?_ ?_)
  rotate_left
  ·intro j _ v hv hmem dp tk hlt _;have hjl:=(List.getElem?_eq_some_iff.1 hv).1;have hsv:=hS v.type (hvs v hmem).type;rw [tk];refine sK fun K2 u2=>?_
   (refine sQ C5d fun K z=>?_;simp -implicitDefEqProofs only [EV,Nat.reduceEqDiff,reduceCtorEq,C4a,D5k,hlt,tcC];apply z;clear z K)
   refine gI u2 ?_;clear u2 K2;refine sK fun K2 u2=>?_;refine AWp.bb ?_
   (refine sV C5d fun K z=>?_;refine ci (A0r hv) ?_;apply z;clear z K)
   refine sC hsv C5d ?_
   (refine lV C5d fun K z=>?_;refine⟨by simp,by (try simp only [List.length_map,List.length_take]);unfold lim sm at *;omega,?_⟩;(try refine ev ?_);apply z;clear z K;try simp only [A0c,A0e])
   refine u2 _ _ ?_;clear u2 K2;refine lT C5d ?_;exact⟨(),trivial,sS,by simp [ble,A0h,prC,tcC,paR,paC,Param.subst]⟩
  intro _ _;rw [List.take_length];refine sK fun K2 u2=>?_
  (refine sQ C5d fun K z=>?_;simp -implicitDefEqProofs only [EV,Nat.reduceEqDiff,reduceCtorEq,C4a,D5k,Int.lt_irrefl,tcC];apply z;clear z K)
  refine AWp.ss rfl ?_;simp only [TB];refine u1 _ _ ?_;clear u2 K2 u1 K1
  (refine AWp.publish 14 rfl (wk [(4,.box 4 0),(5,.box 5 0),(8,.box 8 0),(10,.box 10 0),(11,A1m NN),(12,A3s AA),(14,.d (.slice (paR (sc.vars.map (Param.subst NN AA)))))] [(4,.cells ((prC p).map .d)),(5,.cells (seS s)),(8,.cells [.d .nil,.d .nil,.d (.bool false)]),(10,.cells (deS d))] ?_))
  (refine sG C5d [] 8 [] fun K z=>?_;refine ev ?_;refine cc hb ?_;refine cc hN ?_;apply z;clear z K)
  exact aR
set_option maxHeartbeats 1000000
set_option maxHeartbeats 4000000
def B5m (s:SetT)(l:List Ty):SetT:=l.foldl C4d s
def E5b (p:Prog)(x:Ty)(c:CallT):Option Sig:=if A3j (A3o p [] x) c.name < 0 then none else match (A3o p [] x)[(A3j (A3o p [] x) c.name).toNat]? with
 | none=>none
 | some g=>if g.formals.length=c.targs.length∧A5x p [] x c.on=true then some g else none
def F6q (g:Sig)(c:CallT):List Ty:=g.params.map fun q=>q.type.subst (A0d g.formals) c.targs
def F5w (g:Sig)(c:CallT):Ty:=g.result.subst (A0d g.formals) c.targs
def B6g (p:Prog)(x:Ty)(out:SetT)(c:CallT):SetT:=match E5b p x c with
 | none=>out
 | some g=>C4h p (C4d (B5m out (F6q g c)) (F5w g c)) x c
def C8r (p:Prog)(s out:SetT)(x:Ty):SetT:=s.calls.foldl (B6g p x) (if A1w p x 1=true then B5m out ((A1c p x).map (·.type)) else out)
def B1k (p:Prog)(s:SetT):SetT:=s.types.foldl (C8r p s) s
theorem C9t:∀ (l:List Ty) {s:SetT},s.Sm→(∀ t,t∈l→t.Sm)→(B5m s l).Sm
 | [],_,hs,_=>hs
 | t::l,_,hs,h=>C9t l (B2n hs (h t (by simp))) fun u hu=>h u (by simp [hu])
theorem D9m {p:Prog} (h:p.Fit) {x:Ty} (hx:x.Sm) {out:SetT} (ho:out.Sm) {c:CallT} (hc:c.Sm):(B6g p x out c).Sm:=by
 unfold B6g;split
 ·exact ho
 ·rename_i g hg;have hgs:g.Sm:=by
   unfold E5b at hg;split at hg
   ·cases hg
   ·split at hg
    ·cases hg
    ·rename_i g' hg';split at hg
     ·cases hg;exact B1v h.sm (by simp) hx _ (List.mem_of_getElem? hg')
     ·cases hg
  refine F5o h (B2n (C9t _ ho fun t ht=>?_) (hgs.result.subst hc.targs.2)) hx hc;obtain⟨q,hq,rfl⟩:=List.mem_map.1 ht;exact (hgs.params.2 q hq).type.subst hc.targs.2
theorem D5v {α:Type} {f:SetT→α→SetT}:∀ (l:List α) {s:SetT},(∀ s a,a∈l→s.Sm→(f s a).Sm)→s.Sm→(l.foldl f s).Sm
 | [],_,_,hs=>hs
 | a::l,_,h,hs=>D5v l (fun s b hb=>h s b (by simp [hb])) (h _ a (by simp) hs)
theorem D9d {p:Prog} (h:p.Fit) {s:SetT} (hs:s.Sm) {x:Ty} (hx:x.Sm) {out:SetT} (ho:out.Sm):(C8r p s out x).Sm:=by
 refine D5v _ (fun s' c hc hs'=>D9m h hx hs' (hs.calls.2 c hc)) ?_;split
 ·refine C9t _ ho fun t ht=>?_;obtain⟨f,hf,rfl⟩:=List.mem_map.1 ht;exact (B2y h.sm hx f hf).type
 ·exact ho
theorem C4v {p:Prog} (h:p.Fit) {s:SetT} (hs:s.Sm):(B1k p s).Sm:=D5v _ (fun s' x hx hs'=>D9d h hs (hs.types.2 x hx) hs') hs
abbrev z38:BoxC:=.cells [.d .nil,.d .nil,.d (.bool false)]
abbrev B0t:List Nat:=[0,1,2,3,4,5,6,7,8,9,10,11,12,13,14,15,21,31,38,55,88,102]
theorem D6v (p:Prog)(h:p.Fit)(hle:p.Le)(hsh:∀ d,d∈p.decls→d.kind=3→d.body.Shp)(s:SetT)(hs:s.Sm):A0a prog 54 [prV p,seV s] (seV (B1k p s)):=by
 have htl:=hs.types.1;have hcl:=hs.calls.1;generalize hR:B1k p s=R;unfold B1k at hR;refine cB func54 ?_;refine sR B0t ?_;refine sR B0t ?_;refine kR B0t fun K1 u1=>?_;refine AWp.bb (AWp.ii s.types (X:=SetT) (fun j out=>[(2,.box 2 0),(3,.box 3 0),(4,.box 4 0),(5,.box 5 0),(6,A0g j)]) (fun j out=>[(2,.cells ((prC p).map .d)),(3,.cells (seS s)),(4,z38),(5,.cells (seS out))])
  (fun j out=>(s.types.drop j).foldl (C8r p s) out=R∧out.Sm) s ⟨hR,hs⟩ sS (by simp [ble,A0h,prC]) ?_ ?_)
 rotate_left
 ·intro j out x hxg hmem dp tk hlt hI;obtain⟨hI,ho⟩:=hI;have hx:=hs.types.2 x hmem;have hnx:=D9d h hs hx ho;rw [dp,List.foldl_cons] at hI;have hin:=A2o p x 1;have hset:=B4t p h.sm [] (by simp) (by simp) x hx;simp only [show foR ([]:List Formal)=[] from rfl] at hset;have hsl:=A3h h.sm [] x;have hss:=B1v h.sm (env:=[]) (by simp) hx;refine kR1 hlt B0t fun K2 u2=>?_;refine gI u2 ?_;clear u2 K2;refine sK fun K2 u2=>?_;refine AWp.bb ?_
  (refine sV B0t fun K z=>?_;refine ci (A0w hxg) ?_;apply z;clear z K)
  refine AWp.seqM fun K3 u3 mK3=>?_;have key:∀ o1:SetT,o1.Sm→s.calls.foldl (B6g p x) o1=C8r p s out x→K3 [(2,.box 2 0),(3,.box 3 0),(4,.box 4 0),(5,.box 5 0),(6,A0g j),(7,.box 7 0)] [(2,.cells ((prC p).map .d)),(3,.cells (seS s)),(4,z38),(5,.cells (seS o1)),(7,.cells (tyS x))]:=by
   intro o1 ho1 hT;refine u3 _ _ ?_;clear mK3 u3 K3;refine sC hset B0t ?_;generalize hSET:A3o p [] x=set at *;refine sR B0t ?_;refine AWp.bb (AWp.ii s.calls (X:=SetT) (fun k o=>[(2,.box 2 0),(3,.box 3 0),(4,.box 4 0),(5,.box 5 0),(6,A0g j),(7,.box 7 0),(10,.d (.slice (siR set))),(11,A0g k)])
    (fun k o=>[(2,.cells ((prC p).map .d)),(3,.cells (seS s)),(4,z38),(5,.cells (seS o)),(7,.cells (tyS x))])
    (fun k o=>(s.calls.drop k).foldl (B6g p x) o=C8r p s out x∧o.Sm) o1 ⟨hT,ho1⟩ sS (by simp [ble,A0h,prC]) ?_ ?_)
   ·intro o hI2;obtain⟨hI2,ho2⟩:=hI2;rw [List.drop_length,List.foldl_nil] at hI2;subst hI2;refine sK fun K4 u4=>?_
    (refine sQ B0t fun K z=>?_;simp -implicitDefEqProofs only [EV,Nat.reduceEqDiff,reduceCtorEq,B1h,B2x,Int.lt_irrefl,A1a];apply z;clear z K)
    refine AWp.ss rfl ?_;simp only [TB];refine u2 _ _ ?_;clear u4 K4 u2 K2;refine lT B0t ?_;exact⟨_,⟨hI,hnx⟩,sS,by simp [ble,A0h,prC]⟩
   ·intro k o c hcg hmem2 hdrop2 htake2 hlt2 hI2;obtain⟨hI2,ho2⟩:=hI2;rw [hdrop2,List.foldl_cons] at hI2;have hc:=hs.calls.2 c hmem2;have hnc:=D9m h hx ho2 hc;have hf:=A5v set c.name hsl;have him:=A3q p h.sm [] (by simp) (by simp) x c.on hx hc.on;simp only [show foR ([]:List Formal)=[] from rfl] at him;have hsg:E5b p x c=if A3j set c.name < 0 then none else match set[(A3j set c.name).toNat]? with
     | none=>none
     | some g=>if g.formals.length=c.targs.length∧A5x p [] x c.on=true then some g else none:=by unfold E5b;rw [hSET]
    refine sK fun K4 u4=>?_
    (refine sQ B0t fun K z=>?_;simp -implicitDefEqProofs only [EV,Nat.reduceEqDiff,reduceCtorEq,B1h,B2x,hlt2,A1a];apply z;clear z K)
    refine gI u4 ?_;clear u4 K4;refine AWp.seqM fun K4 u4 mK4=>?_;refine AWp.bb ?_
    (refine sV B0t fun K z=>?_;refine⟨by omega,_,A1s hcg,rfl,?_⟩;(try simp -implicitDefEqProofs only [EV,Nat.reduceAdd,Nat.reduceEqDiff,Nat.reduceBEq,Nat.reduceLeDiff,reduceCtorEq,C3z,caC]);apply z;clear z K)
    have skip:E5b p x c=none→K4 [(2,.box 2 0),(3,.box 3 0),(4,.box 4 0),(5,.box 5 0),(6,A0g j),(7,.box 7 0),(10,.d (.slice (siR set))),(11,A0g k)] [(2,.cells ((prC p).map .d)),(3,.cells (seS s)),(4,z38),(5,.cells (seS o)),(7,.cells (tyS x))]:=by
     intro hn;have hcs:B6g p x o c=o:=by unfold B6g;rw [hn]
     rw [hcs] at hI2 hnc;refine u4 _ _ ?_;refine lT B0t ?_;exact⟨o,⟨hI2,hnc⟩,sS,by simp [ble,A0h,prC]⟩
    unfold A3j at hsg;rcases A2w (fun s:Sig=>decide (s.name=c.name)) set with ⟨h1,_⟩ | ⟨n,g,h1,h2,_⟩
    ·rw [h1] at hsg hf;rw [if_pos (by decide)] at hsg;refine sC hf B0t ?_;refine sK fun K5 u5=>?_;refine dR B0t 19 ?_;refine AWp.tt rfl (AWp.xx ?_);simp only [TB];exact mK4 sS (by simp [ble,A0h,prC]) (skip hsg)
    have hn0:¬ (n:Int) < 0:=by omega
    have hgs:=hss g (List.mem_of_getElem? h2);rw [h1] at hsg hf;rw [if_neg hn0,Int.toNat_natCast,h2] at hsg;simp only at hsg;by_cases hln:g.formals.length=c.targs.length;rotate_left
    ·rw [if_neg fun hh=>hln hh.1] at hsg;have hln':¬ (g.formals.length:Int)=(c.targs.length:Int):=by omega
     refine sC hf B0t ?_;refine sK fun K5 u5=>?_
     (refine sG B0t [] 19 [] fun K z=>?_;refine ev1 hn0 ?_;refine⟨by omega,_,A0n h2,rfl,?_⟩;(try refine ev1 hln' ?_);apply z;clear z K)
     refine AWp.tt rfl (AWp.xx ?_);simp only [TB];exact mK4 sS (by simp [ble,A0h,prC]) (skip hsg)
    have hln':(g.formals.length:Int)=(c.targs.length:Int):=by omega
    cases hb:A5x p [] x c.on with
    | false =>
     rw [hb] at him;rw [if_neg fun hh=>by rw [hb] at hh;cases hh.2] at hsg;refine sC hf B0t ?_;refine sK fun K5 u5=>?_
     (refine sG B0t [] 19 [] fun K z=>?_;refine ev1 hn0 ?_;refine⟨by omega,_,A0n h2,rfl,?_⟩;(try refine ev1 hln' ?_);refine cc him ?_;apply z;clear z K)
     refine AWp.tt rfl (AWp.xx ?_);simp only [TB];exact mK4 sS (by simp [ble,A0h,prC]) (skip hsg)
    | true =>
     rw [hb] at him;rw [if_pos ⟨hln,hb⟩] at hsg;clear skip;have hcs:B6g p x o c=C4h p (C4d (B5m o (F6q g c)) (F5w g c)) x c:=by unfold B6g;rw [hsg]
     rw [hcs] at hI2 hnc;have hnm:=A1u g.formals hgs.formals.1;rw [show g.formals.map (fun x=>x.name)=A0d g.formals from rfl] at hnm;have hpl:=hgs.params.1;have hsub:=fun t ht=>A2j (A0d g.formals) c.targs hc.targs.2 t ht;have hres:=hgs.result.subst (vars:=A0d g.formals) hc.targs.2;refine sC hf B0t ?_;refine sK fun K5 u5=>?_
     (refine sG B0t [] 19 [] fun K z=>?_;refine ev1 hn0 ?_;refine⟨by omega,_,A0n h2,rfl,?_⟩;(try refine ev1 hln' ?_);refine cc him ?_;apply z;clear z K)
     refine kI u5 ?_;clear u5 K5
     (refine sV B0t fun K z=>?_;refine ci (A0n h2) ?_;refine cc hnm ?_;apply z;clear z K)
     refine kR B0t fun K5 u5=>?_;refine AWp.bb (AWp.ii g.params (X:=SetT) (fun i q=>[(2,.box 2 0),(3,.box 3 0),(4,.box 4 0),(5,.box 5 0),(6,A0g j),(7,.box 7 0),(10,.d (.slice (siR set))),(11,A0g k),(12,.box 12 0),(13,A0g n),(14,A1m (A0d g.formals)),(15,A0g i)])
      (fun i q=>[(2,.cells ((prC p).map .d)),(3,.cells (seS s)),(4,z38),(5,.cells (seS q)),(7,.cells (tyS x)),(12,.cells (caS c))])
      (fun i q=>B5m q ((g.params.drop i).map fun q=>q.type.subst (A0d g.formals) c.targs)=B5m o (F6q g c)∧q.Sm) o ⟨rfl,ho2⟩ sS (by simp [ble,A0h,prC]) ?_ ?_)
     rotate_left
     ·intro i q v hvg hmem3 hdrop3 htake3 hlt3 hI3;obtain⟨hI3,hq⟩:=hI3;have hv:=hgs.params.2 v hmem3;have hsv:=hsub v.type hv.type;have hvs:=hv.type.subst (vars:=A0d g.formals) hc.targs.2;have hput:=A6x q hq _ hvs;have hps:=B2n hq hvs;rw [hdrop3,List.map_cons] at hI3;unfold B5m at hI3;rw [List.foldl_cons] at hI3;generalize v.type.subst (A0d g.formals) c.targs=vt at *;generalize C4d q vt=q2 at *;refine sK fun K6 u6=>?_
      (refine sV B0t fun K z=>?_;refine⟨by omega,_,A0n h2,rfl,?_⟩;(try refine ev1 hlt3 ?_);apply z;clear z K)
      refine gI u6 ?_;clear u6 K6;refine sK fun K6 u6=>?_;refine AWp.bb ?_
      (refine lG B0t [] 14 [] fun K z=>?_;refine ev ?_;refine ci (A0n h2) ?_;refine ci (A0r hvg) ?_;refine cc hsv ?_;refine cc hput ?_;apply z;clear z K;try simp only [A0c,A0e])
      refine u6 _ _ ?_;clear u6 K6;refine lT B0t ?_;exact⟨q2,⟨hI3,hps⟩,sS,by simp [ble,A0h,prC]⟩
     intro q hI3;obtain⟨hI3,hq⟩:=hI3;rw [List.drop_length,List.map_nil] at hI3;rw [← hI3] at hI2 hnc;rw [show B5m q []=q from rfl] at hI2 hnc;have hput:=A6x q hq _ hres;have hps:=B2n hq hres;have hsr:=hsub g.result hgs.result;unfold F5w at hI2 hnc;generalize g.result.subst (A0d g.formals) c.targs=rt at *;have hbd:=E4d p h hle hsh _ hps x hx c hc;generalize C4d q rt=q2 at *;generalize C4h p q2 x c=q3 at *;refine sK fun K6 u6=>?_
     (refine sV B0t fun K z=>?_;refine⟨by omega,_,A0n h2,rfl,?_⟩;(try refine ev1 Int.lt_irrefl ?_);apply z;clear z K)
     refine AWp.ss rfl ?_;simp only [TB];refine u5 _ _ ?_;clear u6 K6 u5 K5
     (refine sG B0t [] 10 [] fun K z=>?_;refine ev ?_;refine ci (A0n h2) ?_;refine cc hsr ?_;refine cc hput ?_;apply z;clear z K)
     (refine lV B0t fun K z=>?_;refine cc hbd ?_;apply z;clear z K;try simp only [A0c,A0e])
     refine u4 _ _ ?_;clear mK4 u4 K4;refine lT B0t ?_;exact⟨q3,⟨hI2,hnc⟩,sS,by simp [ble,A0h,prC]⟩
  cases hi:A1w p x 1 with
  | false =>
   rw [hi] at hin;have hT:s.calls.foldl (B6g p x) out=C8r p s out x:=by unfold C8r;rw [hi];rfl
   refine sC hin B0t ?_;refine AWp.ff rfl (AWp.kk (mK3 sS (by simp [ble,A0h,prC]) (key out ho hT)))
  | true =>
   rw [hi] at hin;have hT:s.calls.foldl (B6g p x) (B5m out ((A1c p x).map (·.type)))=C8r p s out x:=by unfold C8r;rw [hi];rfl
   have hfl:=B3a p h.sm x hx hi;have hll:=A7g h.sm x;have hfs:=B2y h.sm hx;generalize A1c p x=fl at *;refine sC hin B0t ?_;refine AWp.tt rfl ?_;refine sC hfl B0t ?_;refine sR B0t ?_;refine AWp.bb (AWp.ii fl (X:=SetT) (fun i q=>[(2,.box 2 0),(3,.box 3 0),(4,.box 4 0),(5,.box 5 0),(6,A0g j),(7,.box 7 0),(8,.d (.slice (paR fl))),(9,A0g i)])
    (fun i q=>[(2,.cells ((prC p).map .d)),(3,.cells (seS s)),(4,z38),(5,.cells (seS q)),(7,.cells (tyS x))])
    (fun i q=>B5m q ((fl.drop i).map (·.type))=B5m out (fl.map (·.type))∧q.Sm) out ⟨rfl,ho⟩ sS (by simp [ble,A0h,prC]) ?_ ?_)
   rotate_left
   ·intro i q v hvg hmem3 hdrop3 htake3 hlt3 hI3;obtain⟨hI3,hq⟩:=hI3;have hv:=(hfs v hmem3).type;have hput:=A6x q hq _ hv;have hps:=B2n hq hv;rw [hdrop3,List.map_cons] at hI3;unfold B5m at hI3;rw [List.foldl_cons] at hI3;generalize C4d q v.type=q2 at *;refine kR1 hlt3 B0t fun K6 u6=>?_;refine gI u6 ?_;clear u6 K6;refine sK fun K6 u6=>?_;refine AWp.bb ?_
    (refine lG B0t [] 6 [] fun K z=>?_;refine ev ?_;refine ci (A0r hvg) ?_;refine cc hput ?_;apply z;clear z K;try simp only [A0c,A0e])
    refine u6 _ _ ?_;clear u6 K6;refine lT B0t ?_;exact⟨q2,⟨hI3,hps⟩,sS,by simp [ble,A0h,prC]⟩
   intro q hI3;obtain⟨hI3,hq⟩:=hI3;rw [List.drop_length,List.map_nil] at hI3;rw [← hI3] at hT;refine kR1 Int.lt_irrefl B0t fun K6 u6=>?_;refine AWp.ss rfl ?_;simp only [TB];exact mK3 sS (by simp [ble,A0h,prC]) (key q hq hT)
 intro out hI;obtain⟨hI,_⟩:=hI;rw [List.drop_length,List.foldl_nil] at hI;subst hI;refine kR1 Int.lt_irrefl B0t fun K2 u2=>?_;refine AWp.ss rfl ?_;simp only [TB];refine u1 _ _ ?_;refine sR B0t ?_;exact aR
set_option maxHeartbeats 1000000
set_option maxHeartbeats 4000000
abbrev E6k:SetT:=⟨[],[],false⟩
def A8x (p:Prog):Nat→SetT→Int→SetT × Bool
 | 0,_,_=>(E6k,false)
 | k+1,s,n=>if n=A4f s then (if B1n s=true then (E6k,false) else (s,true)) else if B1n s=true then (E6k,false) else A8x p k (B1k p s) (A4f s)
def B0s (p:Prog):SetT × Bool:=A8x p 64 (B0x p E6k p.main []) (-1)
theorem D9h {α:Type} {cmp:α→α→Int} {x:α}:∀ {l:List α} {done:Bool} {out R:List α},A6a cmp x l done out=some R→out.length+l.length≤R.length
 | [],done,out,R,h=>by rw [A6a] at h;cases h;cases done <;> simp
 | t::l,done,out,R,h=>by
  rw [A6a] at h;split at h
  ·cases h
  split at h <;> (have:=D9h h;simp at this ⊢;omega)
theorem E7b {α:Type} {cmp:α→α→Int} {x:α} (l:List α):l.length≤(D3k cmp l x).length:=by
 unfold D3k;cases h:A6a cmp x l false [] with
 | none=>exact Nat.le_refl _
 | some R=>have:=D9h h;simpa using this
theorem C7t (s:SetT)(x:Ty):A4f s≤A4f (C4d s x):=by
 unfold C4d;split
 ·exact Nat.le_refl _
 ·have:=E7b (cmp:=A7c) (x:=x) s.types;simp only [A4f];omega
theorem F9p (s:SetT)(x:CallT):A4f s≤A4f (C2o s x):=by
 unfold C2o;split
 ·exact Nat.le_refl _
 ·have:=E7b (cmp:=A2t) (x:=x) s.calls;simp only [A4f];omega
theorem B5g {α:Type} {f:SetT→α→SetT} (h:∀ s a,A4f s≤A4f (f s a)):∀ (l:List α)(s:SetT),A4f s≤A4f (l.foldl f s)
 | [],_=>Nat.le_refl _
 | a::l,s=>Nat.le_trans (h s a) (B5g h l _)
theorem F4h (p:Prog)(s:SetT)(e:Ex)(vars:List Param):A4f s≤A4f (B0x p s e vars):=by
 refine B5g (fun s e=>?_) _ _;have hc:∀ z,A4f s≤A4f (D1e s e z):=fun z=>by
  unfold D1e;split
  ·exact Nat.le_refl _
  ·exact Nat.le_trans (show A4f s≤_ from C7t { s with large:=s.large || z.2.large } z.1) (F9p _ _)
 unfold B4c;split
 ·exact C7t _ _
 split
 ·split
  ·exact Nat.le_refl _
  ·exact hc _
 ·exact Nat.le_refl _
theorem D9j (s:SetT)(l:List Ty):A4f s≤A4f (B5m s l):=B5g C7t _ _
theorem F4w (p:Prog)(s:SetT):A4f s≤A4f (B1k p s):=by
 refine B5g (fun o x=>?_) _ _;have h1:A4f o≤A4f (if A1w p x 1=true then B5m o ((A1c p x).map (·.type)) else o):=by
  split
  ·exact D9j _ _
  ·exact Nat.le_refl _
 refine Nat.le_trans h1 (B5g (fun o c=>?_) _ _);unfold B6g;split
 ·exact Nat.le_refl _
 ·rename_i g _;refine Nat.le_trans (Nat.le_trans (D9j o (F6q g c)) (C7t _ (F5w g c))) ?_;unfold C4h;split
  ·exact Nat.le_refl _
  split
  ·exact Nat.le_refl _
  ·exact F4h _ _ _ _
theorem C7c {s:SetT} (h:B1n s=false):A4f s≤60:=by unfold B1n at h;simp only [Bool.or_eq_false_iff,decide_eq_false_iff_not] at h;omega
theorem E1o {p:Prog} (h:p.Fit):∀ (k:Nat) {s:SetT} (n:Int),s.Sm→(A8x p k s n).1.Sm
 | 0,_,_,_=>⟨by simp [A8x],by simp [A8x]⟩
 | k+1,s,n,hs=>by
  have h0:SetT.Sm E6k:=⟨by simp,by simp⟩;rw [A8x];split
  ·split
   ·exact h0
   ·exact hs
  ·split
   ·exact h0
   ·exact E1o h k _ (C4v h hs)
theorem E6z {p:Prog} (h:p.Fit):(B0x p E6k p.main []).Sm:=C7w (vars:=[]) ⟨h.sm,by simp,by simp,by simp,by simp⟩ _ ⟨by simp,by simp⟩ fun y hy=>B5j (Q:=Ex.Sm) (fun e h x hx=>h.kids.2 x hx) _ h.sm.main y hy
theorem D8y {p:Prog} (h:p.Fit):(B0s p).1.Sm:=E1o h _ _ (E6z h)
abbrev fiV (z:SetT × Bool):SV:=.tuple [seV z.1,A0m z.2]
abbrev E2b:List Nat:=[0,1,2,3,4,5,14,16,24]
theorem E4i (p:Prog)(h:p.Fit)(hle:p.Le)(hsh:∀ d,d∈p.decls→d.kind=3→d.body.Shp)(hmn:p.main.Shp):A0a prog 19 [prV p] (fiV (B0s p)):=by
 have hms:=E6z h;have hN:=D9b p [] ⟨h.sm,by simp,by simp,by simp,by simp⟩ E6k ⟨by simp,by simp⟩ p.main h.sm.main hmn (by have:=hle.main.list;unfold sm;omega);simp only [show paR ([]:List Param)=[] from rfl] at hN;generalize hR:B0s p=R;unfold B0s at hR;generalize B0x p E6k p.main []=s0 at *;refine cB func19 ?_;refine sR E2b ?_;refine sC hN E2b ?_;refine kR E2b fun K1 u1=>?_;refine AWp.bb (AWp.loop (X:=Nat × SetT × Int) (fun z=>[(1,.box 1 0),(2,.box 2 0),(3,A0m false),(4,.box 4 0),(5,A0g z.2.2)]) (fun z=>[(1,.cells ((prC p).map .d)),(2,z38),(4,.cells (seS z.2.1))])
  (fun z=>A8x p z.1 z.2.1 z.2.2=R∧z.2.1.Sm∧z.2.2≤60∧(63:Int)≤z.1+z.2.2∧z.2.2≤A4f z.2.1) (fun z=>z.1) (64,s0,-1)
  ⟨hR,hms,by simp only;omega,by simp only;omega,by simp only;omega⟩ sS (by simp [ble,A0h,prC]) ?_)
 rintro⟨k,s,n⟩ ⟨hI,hs,h60,h63,hns⟩;simp only at hI hs h60 h63 hns ⊢;have hz:=E7a s hs;have hl:=F4z s hs;have hrd:=D6v p h hle hsh s hs;have hrs:=C4v h hs;have hrg:=F4w p s;obtain⟨k',rfl⟩:∃ k',k=k'+1:=⟨k - 1,by omega⟩;rw [A8x] at hI;generalize hzz:(A4f s:Nat)=zz at *;refine sK fun K2 u2=>?_;by_cases hn:n=(zz:Int)
 ·rw [if_pos hn] at hI;subst hn;refine sC hz E2b ?_;refine AWp.ss rfl ?_;simp only [TB];refine u1 _ _ ?_;clear u1 K1 u2 K2;refine sK fun K1 u1=>?_;cases hg:B1n s with
  | true =>rw [hg] at hl hI;rw [if_pos rfl] at hI;subst hI;refine sC hl E2b ?_;refine tI ?_;refine sR E2b ?_;exact aR
  | false =>rw [hg] at hl hI;rw [if_neg (by simp)] at hI;subst hI;refine sC hl E2b ?_;refine kI u1 ?_;clear u1 K1;refine sR E2b ?_;exact aR
 ·rw [if_neg hn] at hI
  (refine sV E2b fun K z=>?_;refine⟨_,.inl ⟨_,rfl,hz,rfl⟩,?_⟩;(try refine ev1 hn ?_);apply z;clear z K)
  refine gI u2 ?_;clear u2 K2;refine AWp.bb ?_;refine sK fun K2 u2=>?_;cases hg:B1n s with
  | true =>rw [hg] at hl hI;rw [if_pos rfl] at hI;subst hI;refine sC hl E2b ?_;refine tI ?_;refine sR E2b ?_;exact aR
  | false =>
   have hls:=C7c hg;rw [hg] at hl hI;rw [if_neg (by simp)] at hI;generalize B1k p s=s2 at *;refine sC hl E2b ?_;refine kI u2 ?_;clear u2 K2;refine sC hz E2b ?_
   (refine lV E2b fun K z=>?_;refine cc hrd ?_;apply z;clear z K;try simp only [A0c,A0e])
   exact⟨(k',s2,(zz:Int)),⟨hI,hrs,by simp only;omega,by simp only;omega,by simp only;omega⟩,by simp only;omega,sS,by simp [ble,A0h,prC]⟩
end Go.Abs
