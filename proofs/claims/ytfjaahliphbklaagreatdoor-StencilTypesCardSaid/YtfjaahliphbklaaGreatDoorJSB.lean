/- several texts in one -/
import Derived.Test.YtfjaahliphbklaaGreatDoorJFB
namespace Go.Abs
set_option linter.unusedSimpArgs false
set_option linter.unusedVariables false
open Go Go.Proofs Tryz
set_option maxRecDepth 100000
set_option maxHeartbeats 1000000
def B0h {α:Type} (p:α→Bool)(l:List α):Int:=match l.findIdx? p with
 | some i=>i
 | none=>-1
theorem A5t {α:Type} {p:α→Bool} {l:List α} (h:∀ x,x∈l→p x=false):B0h p l = -1:=by unfold B0h;rw [List.findIdx?_eq_none_iff.2 h]
theorem A5u {α:Type} {p:α→Bool} {l:List α} {j:Nat} {x:α} (hx:l[j]? = some x)(hp:p x=true)(h:∀ y,y∈l.take j→p y=false):B0h p l=j:=by
 unfold B0h;have:l.findIdx? p=some j:=by rw [List.findIdx?_eq_some_iff_getElem];obtain⟨hlt,he⟩:=List.getElem?_eq_some_iff.1 hx;refine⟨hlt,by rw [he];exact hp,?_⟩;intro i hi;have:=h l[i] (List.mem_take_iff_getElem.2 ⟨i,by omega,by simp⟩);simpa using this
 rw [this]
abbrev q1t:List Nat:=[0,1,4,5,7,8,9,16]
theorem D0k (f:FuncId)(caps:List SV)(hco:∀ x:Formal,A2e [] (foV x::caps)=some (foV x::caps))(p:Formal→Bool)(l:List Formal)(hl:l.length≤sm)(hs:∀ t,t∈l→A0a prog f (foV t::caps) (.d (.bool (p t)))) :
  A0a prog 211 [.d (.slice (foR l)),.clo f caps] (A0g (B0h p l)):=by
 refine cB func211 ?_;refine sR q1t ?_;refine kR q1t fun K1 u1=>?_;refine AWp.bb (AWp.ii l (X:=Unit) (fun j _=>[(0,.d (.slice (foR l))),(1,.clo f caps),(7,A0g l.length),(8,A0g j)]) (fun _ _=>[])
  (fun j _=>∀ y,y∈l.take j→p y=false) () (by simp) sS sB ?_ ?_)
 ·intro _ hI;rw [List.take_length] at hI;refine sR1 Int.lt_irrefl q1t ?_;refine AWp.stop rfl ?_;simp only [TB];refine u1 _ _ ?_;refine sR q1t ?_;rw [A5t hI];exact aR
 ·intro j _ d hd hmem dp tk hlt hI;refine sR1 hlt q1t ?_;refine AWp.goOn rfl ?_;refine sK fun K2 u2=>?_;refine AWp.bb ?_;refine sR q1t ?_
  (refine sV q1t fun K z=>?_;refine ci (A0v hd) ?_;refine⟨_,.inl ⟨_,hco d,hs d hmem,rfl⟩,?_⟩;(try refine ev ?_);apply z;clear z K)
  refine AWp.cond rfl (fun hc=>?_) (fun hc=>?_)
  ·refine sR q1t ?_;rw [A5u hd hc hI];exact aR
  ·refine AWp.kk (u2 _ _ ?_);clear u2 K2;refine lT q1t ?_;refine⟨(),?_,sS,sB⟩;rw [tk];intro y hy;rcases List.mem_append.1 hy with hy | hy
   ·exact hI y hy
   ·simp only [List.mem_cons,List.not_mem_nil,or_false] at hy;rw [hy];exact hc
abbrev q2t:List Nat:=[0,1,4,5,7,8,9,16]
theorem C9j (f:FuncId)(caps:List SV)(hco:∀ x:Sig,A2e [] (siV x::caps)=some (siV x::caps))(p:Sig→Bool)(l:List Sig)(hl:l.length≤sm)(hs:∀ t,t∈l→A0a prog f (siV t::caps) (.d (.bool (p t)))) :
  A0a prog 217 [.d (.slice (siR l)),.clo f caps] (A0g (B0h p l)):=by
 refine cB func217 ?_;refine sR q2t ?_;refine kR q2t fun K1 u1=>?_;refine AWp.bb (AWp.ii l (X:=Unit) (fun j _=>[(0,.d (.slice (siR l))),(1,.clo f caps),(7,A0g l.length),(8,A0g j)]) (fun _ _=>[])
  (fun j _=>∀ y,y∈l.take j→p y=false) () (by simp) sS sB ?_ ?_)
 ·intro _ hI;rw [List.take_length] at hI;refine sR1 Int.lt_irrefl q2t ?_;refine AWp.stop rfl ?_;simp only [TB];refine u1 _ _ ?_;refine sR q2t ?_;rw [A5t hI];exact aR
 ·intro j _ d hd hmem dp tk hlt hI;refine sR1 hlt q2t ?_;refine AWp.goOn rfl ?_;refine sK fun K2 u2=>?_;refine AWp.bb ?_;refine sR q2t ?_
  (refine sV q2t fun K z=>?_;refine ci (A0n hd) ?_;refine⟨_,.inl ⟨_,hco d,hs d hmem,rfl⟩,?_⟩;(try refine ev ?_);apply z;clear z K)
  refine AWp.cond rfl (fun hc=>?_) (fun hc=>?_)
  ·refine sR q2t ?_;rw [A5u hd hc hI];exact aR
  ·refine AWp.kk (u2 _ _ ?_);clear u2 K2;refine lT q2t ?_;refine⟨(),?_,sS,sB⟩;rw [tk];intro y hy;rcases List.mem_append.1 hy with hy | hy
   ·exact hI y hy
   ·simp only [List.mem_cons,List.not_mem_nil,or_false] at hy;rw [hy];exact hc
abbrev q3t:List Nat:=[0,2,3,5,6,7,8,9]
theorem B5f (l:List Formal)(hl:l.length≤sm):A0a prog 147 [.d (.slice (foR l))] (.d (.slice (A2x (l.map (·.name))))):=by
 refine cB func147 ?_;refine sR q3t ?_;refine sR q3t ?_;refine AWp.pp 3 1 3 rfl ?_;refine kR q3t fun K1 u1=>?_;refine AWp.bb (AWp.ii l (X:=Unit) (fun j _=>[(3,.acc 3),(6,.d (.slice (foR l))),(7,A0g l.length),(8,A0g j)]) (fun j _=>[(3,.rows 1 (A2x ((l.take j).map (·.name))))])
  (fun j _=>True) () trivial sS (by simp [ble,A0h,A2x]) ?_ ?_)
 ·intro _ hI;rw [List.take_length];refine sR1 Int.lt_irrefl q3t ?_;refine AWp.stop rfl ?_;simp only [TB];refine u1 _ _ ?_;refine sR q3t ?_;exact aR
 ·intro j _ d hd hmem dp tk hlt hI;rw [tk];refine sR1 hlt q3t ?_;refine AWp.goOn rfl ?_;refine sK fun K2 u2=>?_;refine AWp.bb ?_
  (refine sV q3t fun K z=>?_;refine ci (A0v hd) ?_;apply z;clear z K)
  (refine lV q3t fun K z=>?_;refine⟨by simp,by simp only [List.length_map,List.length_take];unfold lim sm at *;omega,?_⟩;(try refine ev ?_);apply z;clear z K;try simp only [A0c,A0e])
  refine u2 _ _ ?_;clear u2 K2;refine lT q3t ?_;exact⟨(),trivial,sS,by simp [ble,A0h,A2x]⟩
abbrev q4t:List Nat:=[0,2,3,4,8]
theorem A1u (l:List Formal)(hl:l.length≤sm):A0a prog 38 [.d (.slice (foR l))] (.d (.slice (A2x (l.map (·.name))))):=by
 refine cB func38 ?_;refine sR q4t ?_;refine sR q4t ?_;refine AWp.pp 3 1 3 rfl ?_;refine kR q4t fun K1 u1=>?_;refine AWp.bb (AWp.ii l (X:=Unit) (fun j _=>[(0,.d (.slice (foR l))),(3,.acc 3),(4,A0g j)]) (fun j _=>[(3,.rows 1 (A2x ((l.take j).map (·.name))))])
  (fun j _=>True) () trivial sS (by simp [ble,A0h,A2x]) ?_ ?_)
 ·intro _ hI;rw [List.take_length];refine kR1 Int.lt_irrefl q4t fun K2 u2=>?_;refine AWp.ss rfl ?_;simp only [TB];refine u1 _ _ ?_;refine sR q4t ?_;exact aR
 ·intro j _ d hd hmem dp tk hlt hI;rw [tk];refine kR1 hlt q4t fun K2 u2=>?_;refine gI u2 ?_;clear u2 K2;refine sK fun K2 u2=>?_;refine AWp.bb ?_
  (refine lV q4t fun K z=>?_;refine ci (A0v hd) ?_;refine⟨by simp,by simp only [List.length_map,List.length_take];unfold lim sm at *;omega,?_⟩;(try refine ev ?_);apply z;clear z K;try simp only [A0c,A0e])
  refine u2 _ _ ?_;clear u2 K2;refine lT q4t ?_;exact⟨(),trivial,sS,by simp [ble,A0h,A2x]⟩
theorem D6u:∀ a b:Str,(Op.bytesLess a b=true↔A2r a b = -1)∧(Op.bytesLess b a=true↔A2r a b=1)∧(A2r a b = -1∨A2r a b=0∨A2r a b=1)
 | [],[]=>by simp [Op.bytesLess,A2r]
 | [],_::_=>by simp [Op.bytesLess,A2r]
 | _::_,[]=>by simp [Op.bytesLess,A2r]
 | x::xs,y::ys=>by
  obtain⟨h1,h2,h3⟩:=D6u xs ys;simp only [Op.bytesLess,A2r,Bool.or_eq_true,Bool.and_eq_true,decide_eq_true_eq,beq_iff_eq];by_cases hxy:x < y
  ·have hne:¬ y < x:=fun h=>UInt8.lt_irrefl x (UInt8.lt_trans hxy h);have hne2:¬ y=x:=fun h=>by subst h;exact UInt8.lt_irrefl _ hxy
   simp [hxy,hne,hne2]
  ·by_cases hyx:y < x
   ·have hne2:¬ x=y:=fun h=>by subst h;exact UInt8.lt_irrefl _ hyx
    simp [hxy,hyx,hne2]
   ·have he:x=y:=by
     rcases Nat.lt_trichotomy x.toNat y.toNat with h | h | h
     ·exact absurd (UInt8.lt_iff_toNat_lt.2 h) hxy
     ·exact UInt8.toNat_inj.1 h
     ·exact absurd (UInt8.lt_iff_toNat_lt.2 h) hyx
    subst he;simp [UInt8.lt_irrefl,h1,h2,h3]
theorem C3u:∀ a:Str,A2r a a=0
 | []=>rfl
 | x::xs=>by rw [A2r,if_neg (UInt8.lt_irrefl x),if_neg (UInt8.lt_irrefl x)];exact C3u xs
theorem A3m:∀ {a b:Str},A2r a b=0↔a=b
 | [],[]=>by simp [A2r]
 | [],_::_=>by simp [A2r]
 | _::_,[]=>by simp [A2r]
 | x::xs,y::ys=>by
  rw [A2r];by_cases hxy:x < y
  ·have hne2:¬ x=y:=fun h=>by subst h;exact UInt8.lt_irrefl _ hxy
   simp [hxy,hne2]
  ·by_cases hyx:y < x
   ·have hne2:¬ x=y:=fun h=>by subst h;exact UInt8.lt_irrefl _ hyx
    simp [hxy,hyx,hne2]
   ·have he:x=y:=by
     rcases Nat.lt_trichotomy x.toNat y.toNat with h | h | h
     ·exact absurd (UInt8.lt_iff_toNat_lt.2 h) hxy
     ·exact UInt8.toNat_inj.1 h
     ·exact absurd (UInt8.lt_iff_toNat_lt.2 h) hyx
    subst he;simp [UInt8.lt_irrefl,A3m]
theorem E0p (a:Str):A0a prog 232 [A2d a] (A0m false):=by refine cB func232 ?_;refine sR [0,2] ?_;refine sR [0,2] ?_;exact aR
abbrev q5t:List Nat:=[0,1,4,5,6,11,12,13,16,19]
theorem C8t (a b:Str):A0a prog 204 [A2d a,A2d b] (A0g (A2r a b)):=by
 obtain⟨h1,h2,h3⟩:=D6u a b;refine cB func204 ?_;refine sR q5t ?_;refine sC (E0p a) q5t ?_;refine sC (E0p b) q5t ?_;refine kR q5t fun K1 u1=>?_;refine kI u1 ?_;clear u1 K1;refine kR q5t fun K1 u1=>?_;refine kI u1 ?_;clear u1 K1;refine kR q5t fun K1 u1=>?_;refine AWp.ifRetK rfl u1 (fun hc=>?_) (fun hc=>?_)
 ·refine sR q5t ?_;rw [h1.1 hc];exact aR
 clear u1 K1;refine kR q5t fun K1 u1=>?_;refine AWp.ifRetK rfl u1 (fun hc2=>?_) (fun hc2=>?_)
 ·refine sR q5t ?_;rw [h2.1 hc2];exact aR
 clear u1 K1;refine sR q5t ?_;have:A2r a b=0:=by
  rcases h3 with h | h | h
  ·rw [h1.2 h] at hc;simp at hc
  ·exact h
  ·rw [h2.2 h] at hc2;simp at hc2
 rw [this];exact aR
theorem B3n (a b:Str):A0a prog 144 [A2d a,A2d b] (A0g (A2r a b)):=by refine cB func144 ?_;refine sR [0,1,4] ?_;refine sC (C8t a b) [0,1,4] ?_;exact aR
abbrev q6t:List Nat:=[0,2,3,5,6,7,8,9,14]
theorem G4p (a b:Int):A0a prog 142 [.d (.slice [[.int .i64 a],[.int .i64 b]])] (A0g (if a≠0 then a else b)):=by
 refine cB func142 ?_;refine sR q6t ?_;refine sR q6t ?_;refine kR q6t fun K1 u1=>?_;refine AWp.bb (AWp.ii [a,b] (X:=Unit) (fun j _=>[(3,A0g 0),(6,.d (.slice [[.int .i64 a],[.int .i64 b]])),(7,A0g 2),(8,A0g j)]) (fun _ _=>[])
  (fun j _=>(1≤j→a=0)∧(2≤j→b=0)) () (by simp) sS sB ?_ ?_)
 ·intro _ hI;refine sR q6t ?_;refine AWp.stop rfl ?_;simp only [TB];refine u1 _ _ ?_;refine sR q6t ?_;obtain⟨h1,h2⟩:=hI;simp only [List.length_cons,List.length_nil] at h1 h2;rw [h1 (by omega),h2 (by omega)];exact aR
 ·intro j _ d hd hmem dp tk hlt hI;have hlt2:(j:Int) < 2:=by simpa using hlt
  have hg:([[.int .i64 a],[.int .i64 b]]:List (List D))[j]? = some [.int .i64 d]:=by
   match j,hd,hlt2 with
   | 0,hd,_=>simp at hd;subst hd;rfl
   | 1,hd,_=>simp at hd;subst hd;rfl
   | j+2,_,h=>omega
  refine sR1 hlt2 q6t ?_;refine AWp.goOn rfl ?_;refine sK fun K2 u2=>?_;refine AWp.bb ?_
  (refine sV q6t fun K z=>?_;refine ci hg ?_;apply z;clear z K)
  refine sR q6t ?_;refine AWp.cond rfl (fun hc=>?_) (fun hc=>?_)
  ·refine sR q6t ?_;have hv:(if a≠0 then a else b)=d:=by
    simp only [decide_eq_true_eq,] at hc
    match j,hd,hI with
    | 0,hd,_=>simp at hd;subst hd;rw [if_pos hc]
    | 1,hd,hI=>simp at hd;subst hd;rw [if_neg (by simp [hI.1 (by omega)])]
    | j+2,hd,_=>simp at hd
   rw [hv];exact aR
  ·refine AWp.kk (u2 _ _ ?_);clear u2 K2
   (refine lV q6t fun K z=>?_;refine cl ?_;apply z;clear z K;try simp only [A0c,])
   refine⟨(),?_,sS,sB⟩;simp only [decide_eq_false_iff_not,Decidable.not_not] at hc
   match j,hd,hI with
   | 0,hd,_=>simp at hd;subst hd;exact⟨fun _=>hc,by omega⟩
   | 1,hd,hI=>simp at hd;subst hd;exact⟨fun _=>hI.1 (by omega),fun _=>hc⟩
   | j+2,hd,_=>simp at hd
mutual
def A7c:Ty→Ty→Int
 | .mk n a _,u=>if A2r n u.name≠0 then A2r n u.name else A2c a u.args
def A2c:List Ty→List Ty→Int
 | [],[]=>0
 | [],_::_=>-1
 | _::_,[]=>1
 | x::xs,y::ys=>if A7c x y≠0 then A7c x y else A2c xs ys
end
theorem B0v (t u:Ty):A7c t u=if A2r t.name u.name≠0 then A2r t.name u.name else A2c t.args u.args:=by cases t with | mk n a p=>rw [A7c];rfl
def B2c (t u:Ty):Bool:=decide (A7c t u=0)
abbrev q7t:List Nat:=[0,1,2,6,7,8,9,10,11,12,13,14,21,31,38]
theorem B3q (f:FuncId)(l m:List Ty)(hl:l.length≤sm)(hf:∀ t,t∈l→∀ u,A0a prog f [tyV t,tyV u] (A0g (A7c t u))) :
  A0a prog 145 [A3s l,A3s m,.clo f []] (A0g (A2c l m)):=by
 refine cB func145 ?_;refine sR q7t ?_;refine kR q7t fun K1 u1=>?_;refine AWp.bb (AWp.ii l (X:=Unit) (fun j _=>[(0,A3s l),(1,A3s m),(2,.clo f []),(11,A3s l),(12,A0g l.length),(13,A0g j)]) (fun _ _=>[])
  (fun j _=>j≤m.length∧A2c (l.drop j) (m.drop j)=A2c l m) () (by simp) sS sB ?_ ?_)
 ·rintro _ ⟨hj,hI⟩;refine sR1 Int.lt_irrefl q7t ?_;refine AWp.stop rfl ?_;simp only [TB];refine u1 _ _ ?_;rw [List.drop_length] at hI;clear u1 K1;refine kR q7t fun K1 u1=>?_;refine AWp.ifRetK rfl u1 (fun hc=>?_) (fun hc=>?_)
  ·refine sR q7t ?_;have:A2c l m = -1:=by
    rw [← hI];have hc:l.length < m.length:=by simpa using hc
    rw [List.drop_eq_getElem_cons hc,A2c]
   rw [this];exact aR
  ·clear u1 K1;refine sR q7t ?_;have:A2c l m=0:=by
    rw [← hI];have hc:m.length≤l.length:=by simpa using hc
    rw [List.drop_eq_nil_of_le hc,A2c]
   rw [this];exact aR
 ·rintro j _ d hd hmem dp tk hlt ⟨hj,hI⟩;rw [dp] at hI;refine sR1 hlt q7t ?_;refine AWp.goOn rfl ?_;refine sK fun K2 u2=>?_;refine AWp.bb ?_
  (refine sV q7t fun K z=>?_;refine ci (A0w hd) ?_;apply z;clear z K)
  refine kR q7t fun K3 u3=>?_;refine AWp.ifRetK rfl u3 (fun hc=>?_) (fun hc=>?_)
  ·refine sR q7t ?_;have:A2c l m=1:=by
    rw [← hI];have hc:m.length≤j:=by simpa using hc
    rw [List.drop_eq_nil_of_le hc,A2c]
   rw [this];exact aR
  clear u3 K3;have hjm:j < m.length:=by simpa using hc
  obtain⟨e,he⟩:∃ e,m[j]? = some e:=⟨_,List.getElem?_eq_getElem hjm⟩;have hdm:m.drop j=e::m.drop (j+1):=by rw [List.drop_eq_getElem_cons hjm];rw [List.getElem?_eq_getElem hjm] at he;simp only [Option.some.injEq] at he;rw [he]
  rw [hdm,A2c] at hI
  (refine sV q7t fun K z=>?_;refine ci (A0w he) ?_;apply z;clear z K)
  refine sC (hf d hmem e) q7t ?_;refine sR q7t ?_;refine AWp.cond rfl (fun hc=>?_) (fun hc=>?_)
  ·refine sR q7t ?_;rw [if_pos (by simpa using hc)] at hI;rw [← hI];exact aR
  rw [if_neg (by simpa using hc)] at hI;refine AWp.kk (u2 _ _ ?_);clear u2 K2;refine lT q7t ?_;exact⟨(),⟨by omega,hI⟩,sS,sB⟩
theorem B4p:∀ (t:Ty),t.Sm→∀ u:Ty,A0a prog 143 [tyV t,tyV u] (A0g (A7c t u)):=by
 intro t
 induction t using Ty.induct with
 | h t ih =>
 intro hs u;rw [B0v];have hcf:=B3q 143 t.args u.args hs.len (fun x hx y=>ih x hx (hs.arg x hx) y);refine cB func143 ?_;refine sR [0,1,2,3,4] ?_
 (refine sG [0,1,2,3,4] [] 9 [] fun K z=>?_;refine ev ?_;refine cc (B3n t.name u.name) ?_;refine cc hcf ?_;refine cc (G4p _ _) ?_;apply z;clear z K)
 exact aR
theorem B9r (t u:Ty)(hs:t.Sm):A0a prog 137 [tyV t,tyV u] (A0m (B2c t u)):=by unfold B2c;refine cB func137 ?_;refine sR [0,1,2,3,4] ?_;refine sC (B4p t hs u) [0,1,2,3,4] ?_;exact aR
inductive Ty.Lm:Ty→Prop where
 | mk (n:Str) (a:List Ty) (p:Int):a.length≤sm→(∀ t,t∈a→Ty.Lm t)→Ty.Lm (.mk n a p)
theorem Ty.Lm.len {t:Ty} (h:t.Lm):t.args.length≤sm:=by cases h;assumption
theorem Ty.Lm.arg {t:Ty} (h:t.Lm):∀ u,u∈t.args→u.Lm:=by cases h;assumption
theorem Ty.Sm.lm:∀ {t:Ty},t.Sm→t.Lm:=fun h=>by induction h with | mk n a p _ h2 _ ih=>exact .mk n a p h2 ih
abbrev q8t:List Nat:=[0,1,2,3,4,5,6,11,28,43,51,58]
theorem B8i:∀ (t:Ty),t.Lm→∀ u:Ty,A0a prog 182 [tyV t,tyV u] (A0g (A7c t u)):=by
 intro t
 induction t using Ty.induct with
 | h t ih =>
 intro hs u;have hlen:=hs.len;rw [B0v];refine cB func182 ?_;refine sR q8t ?_;refine kR q8t fun K1 u1=>?_;refine AWp.ifRetK rfl u1 (fun hc=>?_) (fun hc=>?_)
 ·refine sC (A9f t.name u.name) q8t ?_;rw [if_pos (fun h=>(by simpa using hc:¬ t.name=u.name) (A3m.1 h))];exact aR
 clear u1 K1;have hnm:t.name=u.name:=by simpa using hc
 rw [if_neg (by rw [hnm];simp [C3u])];refine kR q8t fun K1 u1=>?_;have fin:∀ (j:Nat) sl bx,sle sl [(2,.box 2 0),(3,.box 3 0)]→ble bx [(2,.cells [.d (.str t.name),A3s t.args,A0g t.pos]),(3,.cells [.d (.str u.name),A3s u.args,A0g u.pos])]→j≤t.args.length→j≤u.args.length→(t.args.length=j∨u.args.length=j)→A2c (t.args.drop j) (u.args.drop j)=A2c t.args u.args→K1 sl bx:=by
  intro j sl bx h1 h2 hj1 hj2 hor hI;refine u1 _ _ (AWp.ww h1 h2 ?_);clear u1 K1;refine kR q8t fun K1 u1=>?_;refine AWp.ifRetK rfl u1 (fun hc=>?_) (fun hc=>?_)
  ·refine sR q8t ?_;have:A2c t.args u.args = -1:=by
    rw [← hI];have hc:t.args.length < u.args.length:=by simpa using hc
    have:t.args.length=j:=by omega
    rw [List.drop_eq_nil_of_le (by omega),List.drop_eq_getElem_cons (show j < u.args.length by omega),A2c]
   rw [this];exact aR
  clear u1 K1;refine kR q8t fun K1 u1=>?_;refine AWp.ifRetK rfl u1 (fun hc2=>?_) (fun hc2=>?_)
  ·refine sR q8t ?_;have:A2c t.args u.args=1:=by
    rw [← hI];have hc:u.args.length < t.args.length:=by simpa using hc2
    rw [List.drop_eq_getElem_cons (show j < t.args.length by omega),List.drop_eq_nil_of_le (show u.args.length≤j by omega),A2c]
   rw [this];exact aR
  clear u1 K1;refine sR q8t ?_;have:A2c t.args u.args=0:=by
   rw [← hI];have h1:u.args.length≤t.args.length:=by simpa using hc
   have h2:t.args.length≤u.args.length:=by simpa using hc2
   rw [List.drop_eq_nil_of_le (by omega),List.drop_eq_nil_of_le (by omega),A2c]
  rw [this];exact aR
 refine AWp.bb (AWp.ii t.args (X:=Unit) (fun j _=>[(2,.box 2 0),(3,.box 3 0),(5,A0g j)]) (fun _ _=>[(2,.cells [.d (.str t.name),A3s t.args,A0g t.pos]),(3,.cells [.d (.str u.name),A3s u.args,A0g u.pos])])
  (fun j _=>j≤u.args.length∧A2c (t.args.drop j) (u.args.drop j)=A2c t.args u.args) () (by simp) sS sB ?_ ?_)
 ·rintro _ ⟨hj,hI⟩;refine kR1 Int.lt_irrefl q8t fun K2 u2=>?_;refine AWp.ss rfl ?_;simp only [TB];exact fin t.args.length _ _ sS sB (Nat.le_refl _) hj (.inl rfl) hI
 ·rintro j _ d hd hmem dp tk hlt ⟨hj,hI⟩;refine sK fun K2 u2=>?_;by_cases hjm:(j:Int) < (u.args.length:Int)
  ·obtain⟨e,he⟩:∃ e,u.args[j]? = some e:=⟨_,List.getElem?_eq_getElem (by omega)⟩;have hdm:u.args.drop j=e::u.args.drop (j+1):=by
    rw [List.drop_eq_getElem_cons (by omega)];rw [List.getElem?_eq_getElem (by omega)] at he;simp only [Option.some.injEq] at he;rw [he]
   rw [dp,hdm,A2c] at hI;refine sR2 hlt hjm q8t ?_;refine gI u2 ?_;clear u2 K2;refine sK fun K2 u2=>?_;refine AWp.bb ?_
   (refine sG q8t [] 10 [] fun K z=>?_;refine ev ?_;refine ci (A0w hd) ?_;refine ci (A0w he) ?_;refine cc (ih d hmem (hs.arg d hmem) e) ?_;apply z;clear z K)
   refine sR q8t ?_;refine AWp.cond rfl (fun hc=>?_) (fun hc=>?_)
   ·refine sR q8t ?_;rw [if_pos (by simpa using hc)] at hI;rw [← hI];exact aR
   rw [if_neg (by simpa using hc)] at hI;refine AWp.kk (u2 _ _ ?_);clear u2 K2;refine lT q8t ?_;exact⟨(),⟨by omega,hI⟩,sS,sB⟩
  ·refine sR2 hlt hjm q8t ?_;refine AWp.ss rfl ?_;simp only [TB];exact fin j _ _ sS sB (by omega) hj (.inr (by omega)) hI
theorem B4a (t:Ty)(h:t.Sm)(u:Ty):A0a prog 182 [tyV t,tyV u] (A0g (A7c t u)):=B8i t h.lm u
theorem A9t (t u:Ty)(hs:t.Lm):A0a prog 127 [tyV t,tyV u] (A0m (B2c t u)):=by unfold B2c;refine cB func127 ?_;refine sR [0,1,2,3,4] ?_;refine sC (B8i t hs u) [0,1,2,3,4] ?_;exact aR
theorem F6j (t u:Ty)(hs:t.Sm):A0a prog 127 [tyV t,tyV u] (A0m (B2c t u)):=A9t t u hs.lm
abbrev exS (e:Ex):List SV:=[.d (.int .i64 e.kind),.d (.str e.name),.d (.str e.type.name),.d (.slice (tyR e.type.args)),.d (.int .i64 e.type.pos),.d (.slice (tyR e.targs)),.d (.slice (exR e.kids)),.d (.int .i64 e.pos)]
def A5w:List Ty→List Ty→Bool
 | [],[]=>true
 | x::xs,y::ys=>B2c x y && A5w xs ys
 | _,_=>false
theorem C5e:∀ {l m:List Ty},A5w l m=true→l.length=m.length
 | [],[],_=>rfl
 | x::xs,y::ys,h=>by simp only [A5w,Bool.and_eq_true] at h;simp [C5e h.2]
 | [],_::_,h=>by simp [A5w] at h
 | _::_,[],h=>by simp [A5w] at h
mutual
def D3r:Ex→Ex→Bool
 | .mk k n t a ks _,u=>decide (k=u.kind) && decide (n=u.name) && B2c t u.type && A5w a u.targs && A6h ks u.kids
def A6h:List Ex→List Ex→Bool
 | [],[]=>true
 | x::xs,y::ys=>D3r x y && A6h xs ys
 | _,_=>false
end
theorem E1x (e u:Ex):D3r e u=(decide (e.kind=u.kind) && decide (e.name=u.name) && B2c e.type u.type && A5w e.targs u.targs && A6h e.kids u.kids):=by cases e with | mk k n t a ks p=>rw [D3r];rfl
theorem C6q:∀ {l m:List Ex},A6h l m=true→l.length=m.length
 | [],[],_=>rfl
 | x::xs,y::ys,h=>by rw [A6h,Bool.and_eq_true] at h;simp [C6q h.2]
 | [],_::_,h=>by simp [A6h] at h
 | _::_,[],h=>by simp [A6h] at h
theorem A9v {α:Type} {l:List α} {j:Nat} (h:j < l.length):∃ e,l[j]? = some e∧l.drop j=e::l.drop (j+1):=⟨l[j],List.getElem?_eq_getElem h,List.drop_eq_getElem_cons h⟩
abbrev q9t:List Nat:=[0,1,4,5,10,14,26]
theorem D0o (l m:List Ty)(hl:l.length≤sm)(hs:∀ t,t∈l→t.Lm):A0a prog 128 [A3s l,A3s m] (A0m (A5w l m)):=by
 refine cB func128 ?_;refine sR q9t ?_;refine kR q9t fun K1 u1=>?_;refine AWp.ifRetK rfl u1 (fun hc=>?_) (fun hc=>?_)
 ·refine sR q9t ?_;have:A5w l m=false:=by
   cases h:A5w l m with
   | false=>rfl
   | true=>have:=C5e h;simp [this] at hc
  rw [this];exact aR
 clear u1 K1;have hlm:l.length=m.length:=by
  have:(l.length:Int)=m.length:=by simpa using hc
  omega
 refine kR q9t fun K1 u1=>?_;refine AWp.bb (AWp.ii l (X:=Unit) (fun j _=>[(0,A3s l),(1,A3s m),(5,A0g j)]) (fun _ _=>[])
  (fun j _=>A5w (l.drop j) (m.drop j)=A5w l m) () (by simp) sS sB ?_ ?_)
 ·intro _ hI;refine kR1 Int.lt_irrefl q9t fun K2 u2=>?_;refine AWp.ss rfl ?_;simp only [TB];refine u1 _ _ ?_;refine sR q9t ?_;rw [List.drop_length,hlm,List.drop_length] at hI;rw [← hI];exact aR
 ·intro j _ d hd hmem dp tk hlt hI;obtain⟨e,he,hdm⟩:=A9v (l:=m) (j:=j) (by omega);rw [dp,hdm,A5w] at hI;refine kR1 hlt q9t fun K2 u2=>?_;refine gI u2 ?_;clear u2 K2;refine sK fun K2 u2=>?_;refine AWp.bb ?_
  (refine sG q9t [] 8 [] fun K z=>?_;refine ev ?_;refine ci (A0w hd) ?_;refine ci (A0w he) ?_;refine cc (A9t d e (hs d hmem)) ?_;apply z;clear z K)
  refine AWp.cond rfl (fun hc=>?_) (fun hc=>?_)
  ·refine sR q9t ?_;simp only [Bool.not_eq_true'] at hc;rw [hc,Bool.false_and] at hI;rw [← hI];exact aR
  simp only [Bool.not_eq_false'] at hc;rw [hc,Bool.true_and] at hI;refine AWp.kk (u2 _ _ ?_);clear u2 K2;refine lT q9t ?_;exact⟨(),hI,sS,sB⟩
inductive Ex.Lm:Ex→Prop where
 | mk (k:Int) (n:Str) (t:Ty) (a:List Ty) (ks:List Ex) (p:Int):t.Lm→a.length≤sm→(∀ t,t∈a→t.Lm)→ks.length≤sm→(∀ e,e∈ks→Ex.Lm e)→Ex.Lm (.mk k n t a ks p)
theorem Ex.Lm.type {e:Ex} (h:e.Lm):e.type.Lm:=by cases h;assumption
theorem Ex.Lm.targs {e:Ex} (h:e.Lm):e.targs.length≤sm∧∀ t,t∈e.targs→t.Lm:=by cases h;exact⟨by assumption,by assumption⟩
theorem Ex.Lm.kids {e:Ex} (h:e.Lm):e.kids.length≤sm∧∀ t,t∈e.kids→t.Lm:=by cases h;exact⟨by assumption,by assumption⟩
theorem Ex.Sm.lm:∀ {e:Ex},e.Sm→e.Lm:=by
 intro e
 induction e using Ex.induct with
 | h e ih =>
 intro h;obtain⟨k,n,t,a,ks,p⟩:=e;exact .mk k n t a ks p h.type.lm h.targs.1 (fun u hu=>(h.targs.2 u hu).lm) h.kids.1 fun u hu=>ih u hu (h.kids.2 u hu)
abbrev D0q:List Nat:=[0,1,2,3,4,5,42,47,61]
theorem B4f:∀ (a:Ex),a.Lm→∀ b:Ex,A0a prog 55 [exV a,exV b] (A0m (D3r a b)):=by
 intro a
 induction a using Ex.induct with
 | h a ih =>
 intro hs b;have hkl:=hs.kids.1;have hst:=D0o a.targs b.targs hs.targs.1 hs.targs.2;have hsm:=A9t a.type b.type hs.type;rw [E1x];refine cB func55 ?_;refine sR D0q ?_;refine sK fun K1 u1=>?_;by_cases h1:a.kind=b.kind
 ·by_cases h2:a.name=b.name
  ·rcases Bool.eq_false_or_eq_true (B2c a.type b.type) with h3 | h3
   ·rw [h3] at hsm;rcases Bool.eq_false_or_eq_true (A5w a.targs b.targs) with h4 | h4
    ·rw [h4] at hst
     (refine sQ D0q fun K z=>?_;refine ev2 h1 h2 ?_;refine cc hsm ?_;refine cc hst ?_;apply z;clear z K)
     refine AWp.ifRetK rfl u1 (fun hc=>?_) (fun hc=>?_)
     ·refine sR D0q ?_;have:A6h a.kids b.kids=false:=by
       cases h:A6h a.kids b.kids with
       | false=>rfl
       | true=>have:=C6q h;simp [this] at hc
      rw [this,Bool.and_false];exact aR
     clear u1 K1;simp only [h1,h2,h3,h4,decide_true,Bool.true_and];have hlm:a.kids.length=b.kids.length:=by
      have:(a.kids.length:Int)=b.kids.length:=by simpa using hc
      omega
     refine kR D0q fun K1 u1=>?_;refine AWp.bb (AWp.ii a.kids (X:=Unit) (fun j _=>[(2,.box 2 0),(3,.box 3 0),(5,A0g j)]) (fun _ _=>[(2,.cells (exS a)),(3,.cells (exS b))])
      (fun j _=>A6h (a.kids.drop j) (b.kids.drop j)=A6h a.kids b.kids) () (by simp) sS (by simp [ble,A0h,h1,h2]) ?_ ?_)
     ·intro _ hI;refine kR1 Int.lt_irrefl D0q fun K2 u2=>?_;refine AWp.ss rfl ?_;simp only [TB];refine u1 _ _ ?_;refine sR D0q ?_;rw [List.drop_length,hlm,List.drop_length] at hI;rw [← hI,A6h];exact aR
     ·intro j _ d hd hmem dp tk hlt hI;obtain⟨e,he,hdm⟩:=A9v (l:=b.kids) (j:=j) (by omega);rw [dp,hdm,A6h] at hI;refine kR1 hlt D0q fun K2 u2=>?_;refine gI u2 ?_;clear u2 K2;refine sK fun K2 u2=>?_;refine AWp.bb ?_
      (refine sG D0q [] 10 [] fun K z=>?_;refine ev ?_;refine ci (A1h hd) ?_;refine ci (A1h he) ?_;refine cc (ih d hmem (hs.kids.2 d hmem) e) ?_;apply z;clear z K)
      refine AWp.cond rfl (fun hc=>?_) (fun hc=>?_)
      ·refine sR D0q ?_;simp only [Bool.not_eq_true'] at hc;rw [hc,Bool.false_and] at hI;rw [← hI];exact aR
      simp only [Bool.not_eq_false'] at hc;rw [hc,Bool.true_and] at hI;refine AWp.kk (u2 _ _ ?_);clear u2 K2;refine lT D0q ?_;exact⟨(),hI,sS,sB⟩
    ·rw [h4] at hst
     (refine sQ D0q fun K z=>?_;refine ev2 h1 h2 ?_;refine cc hsm ?_;refine cc hst ?_;apply z;clear z K)
     refine tI ?_;refine sR D0q ?_;simp only [h1,h2,h3,h4,decide_true,Bool.true_and,Bool.false_and];exact aR
   ·rw [h3] at hsm
    (refine sQ D0q fun K z=>?_;refine ev2 h1 h2 ?_;refine cc hsm ?_;apply z;clear z K)
    refine tI ?_;refine sR D0q ?_;simp only [h1,h2,h3,decide_true,Bool.true_and,Bool.false_and];exact aR
  ·refine sR2 h1 h2 D0q ?_;refine tI ?_;refine sR D0q ?_;simp only [h1,h2,decide_true,decide_false,Bool.true_and,Bool.false_and];exact aR
 ·refine sR1 h1 D0q ?_;refine tI ?_;refine sR D0q ?_;simp only [h1,decide_false,Bool.false_and];exact aR
theorem E6c (a:Ex)(h:a.Sm)(b:Ex):A0a prog 55 [exV a,exV b] (A0m (D3r a b)):=B4f a h.lm b
def A3u (env:List Formal)(t:Ty):Int:=if t.args.length=0 then B0h (fun f=>decide (f.name=t.name)) env else -1
abbrev F2y:List Nat:=[0,1,3,4,5,15,25]
theorem A6z (env:List Formal)(t:Ty)(hl:env.length≤sm):A0a prog 83 [.d (.slice (foR env)),tyV t] (A0g (A3u env t)):=by
 unfold A3u;refine cB func83 ?_;refine sR F2y ?_;refine kR F2y fun K1 u1=>?_;have fin:∀ sl bx,(if t.args.length=0 then B0h (fun f=>decide (f.name=t.name)) env else -1) = -1→K1 sl bx:=by intro sl bx h;refine u1 _ _ ?_;refine sR F2y ?_;rw [h];exact aR
 by_cases ha:t.args.length=0
 ·have ha':(t.args.length:Int)=0:=by omega
  refine AWp.bb (AWp.ii env (X:=Unit) (fun j _=>[(0,.d (.slice (foR env))),(3,.box 3 0),(5,A0g j)]) (fun _ _=>[(3,.cells [.d (.str t.name),A3s t.args,A0g t.pos])])
   (fun j _=>∀ y,y∈env.take j→(fun f:Formal=>decide (f.name=t.name)) y=false) () (by simp) sS sB ?_ ?_)
  ·intro _ hI;refine kR1 Int.lt_irrefl F2y fun K2 u2=>?_;refine AWp.ss rfl ?_;simp only [TB];rw [List.take_length] at hI;exact fin _ _ (by rw [if_pos ha,A5t hI])
  ·intro j _ d hd hmem dp tk hlt hI;refine kR2 hlt ha' F2y fun K2 u2=>?_;refine gI u2 ?_;clear u2 K2;refine sK fun K2 u2=>?_;refine AWp.bb ?_
   (refine sG F2y [] 7 [] fun K z=>?_;refine ev ?_;refine ci (A0v hd) ?_;apply z;clear z K)
   refine AWp.cond rfl (fun hc=>?_) (fun hc=>?_)
   ·refine sR F2y ?_;rw [if_pos ha,A5u hd hc hI];exact aR
   refine AWp.kk (u2 _ _ ?_);clear u2 K2;refine lT F2y ?_;refine⟨(),?_,sS,sB⟩;rw [tk];intro y hy;rcases List.mem_append.1 hy with hy | hy
   ·exact hI y hy
   ·simp only [List.mem_cons,List.not_mem_nil,or_false] at hy;rw [hy];exact hc
 ·have ha':¬ (t.args.length:Int)=0:=by omega
  refine AWp.bb (AWp.ii ([]:List Nat) (X:=Unit) (fun j _=>[(0,.d (.slice (foR env))),(3,.box 3 0),(5,A0g 0)]) (fun _ _=>[(3,.cells [.d (.str t.name),A3s t.args,A0g t.pos])])
   (fun j _=>True) () trivial sS sB ?_ ?_)
  ·intro _ hI;refine sK fun K2 u2=>?_;by_cases he:(0:Int) < (env.length:Int)
   ·refine sR2 ha' he F2y ?_;refine AWp.ss rfl ?_;simp only [TB];exact fin _ _ (by rw [if_neg ha])
   ·refine sR1 he F2y ?_;refine AWp.ss rfl ?_;simp only [TB];exact fin _ _ (by rw [if_neg ha])
  ·intro j _ d hd;simp at hd
theorem F2o (t:Ty)(x:Formal):A0a prog 210 [foV x,.dptr (tyC t) 0] (A0m (decide (x.name=t.name))):=by refine cB func210 ?_;refine sR [0,1,2,3] ?_;refine sR [0,1,2,3] ?_;exact aR
def A1i (env:List Formal)(t:Ty):Option Ty:=if A3u env t < 0 then none else (env[(A3u env t).toNat]?).map (·.bound)
def G3f:Option Ty→SV
 | some b=>.tuple [tyV b,A0m true]
 | none=>.tuple [tyV (.mk [] [] 0),A0m false]
theorem B2j {env:List Formal} {t:Ty} (h:¬ A3u env t < 0):∃ f,env[(A3u env t).toNat]? = some f∧(A3u env t).toNat < env.length∧t.args.length=0:=by
 unfold A3u B0h at h ⊢;by_cases ha:t.args.length=0
 ·simp only [if_pos ha] at h ⊢;cases hf:env.findIdx? (fun f=>decide (f.name=t.name)) with
  | none=>rw [hf] at h;simp at h
  | some i =>have:=(List.findIdx?_eq_some_iff_getElem.1 hf).1;simp only [Int.toNat_natCast];exact⟨env[i],List.getElem?_eq_getElem this,this,ha⟩
 ·simp only [if_neg ha] at h;omega
abbrev F7p:List Nat:=[0,1,3,4,5,6,7,19]
theorem D9t (env:List Formal)(t:Ty)(hl:env.length≤sm)(hs:∀ f,f∈env→f.Sm):A0a prog 152 [.d (.slice (foR env)),tyV t] (G3f (A1i env t)):=by
 have hix:=D0k 210 [.dptr (tyC t) 0] (fun x=>rfl) (fun f=>decide (f.name=t.name)) env hl (fun x _=>F2o t x);unfold A1i;have hget:=@B2j env t;have hfv:t.args.length=0→A3u env t=B0h (fun f=>decide (f.name=t.name)) env:=fun h=>by unfold A3u;rw [if_pos h]
 have hfv2:¬ t.args.length=0→A3u env t = -1:=fun h=>by unfold A3u;rw [if_neg h]
 generalize A3u env t=i at *;generalize B0h (fun f:Formal=>decide (f.name=t.name)) env=i' at *;refine cB func152 ?_;refine sR F7p ?_;refine sR F7p ?_;refine AWp.zz 3 rfl rfl ?_;refine AWp.ww (sl':=[(0,.d (.slice (foR env))),(3,.dptr (tyC t) 0),(4,.box 4 0),(6,.clo 210 [.dptr (tyC t) 0])]) (bx':=[(4,.cells [.d (.str []),.d .nil,.d (.int .i64 0)])])
  (by simp [B1e,SV.sub,SV.subL,sle,vle,A0k,tyC]) (by simp [A9n,BoxC.sub,SV.subL,SV.sub,ble,A0h,A0o]) ?_
 refine sC hix F7p ?_;refine sK fun K1 u1=>?_;by_cases ha:t.args.length=0
 ·obtain rfl:=hfv ha;have ha':¬ (0:Int) < (t.args.length:Int):=by omega
  refine sR1 ha' F7p ?_;refine AWp.ifRetK rfl u1 (fun hc=>?_) (fun hc=>?_)
  ·refine sR F7p ?_;rw [if_pos (by simpa using hc)];exact aR
  clear u1 K1;have hc':¬ i < 0:=by simpa using hc
  obtain⟨f,hf,hlt,_⟩:=hget hc';have hmem:=List.mem_of_getElem? hf;rw [if_neg hc',hf];have h0:0≤i:=by omega
  (refine sV F7p fun K z=>?_;refine ci (A0v hf) ?_;refine cc (B2r f.bound (hs f hmem).bound) ?_;apply z;clear z K)
  exact aR
 ·have ha':(0:Int) < (t.args.length:Int):=by omega
  rw [hfv2 ha];refine sR1 ha' F7p ?_;refine tI ?_;refine sR F7p ?_;exact aR
def A5f (p:Prog)(nm:Str):Option Decl:=p.decls.find? (fun d=>d.isT nm)
def A1f (p:Prog)(nm:Str):List Formal:=match A5f p nm with
 | some d=>d.formals
 | none=>[]
abbrev q1u:List Nat:=[0,1,2,4,5,10]
theorem A6o (p:Prog)(nm:Str):A0a prog 88 [prV p,A2d nm] (.d (.slice (foR (A1f p nm)))):=by
 refine A1p.bd (A1q.of func88 rfl (by decide)) fun hbd=>?_;have hok:=C0q hbd.1;have hl:=hok.decls.1;refine cB func88 ?_;refine sR q1u ?_;refine sC (B8c p nm) q1u ?_;refine sK fun K1 u1=>?_;rcases A6r nm p.decls 0 with ⟨h1,h2⟩ | ⟨k,d,h1,h2,h3⟩
 ·rw [h1];have hk:A1f p nm=[]:=by simp [A1f,A5f,h2]
  refine sR q1u ?_;refine tI ?_;refine sR q1u ?_;rw [hk];exact aR
 ·rw [h2];have hk:A1f p nm=d.formals:=by simp [A1f,A5f,h3]
  have hge:¬ ((0+k:Nat):Int) < 0:=by omega
  have hkl:((0+k:Nat):Int).toNat=k:=by omega
  refine sR q1u ?_;refine kI u1 ?_;clear u1 K1
  (refine sV q1u fun K z=>?_;refine ci (A0t h1) ?_;apply z;clear z K)
  rw [hk];exact aR
def A1w (p:Prog)(x:Ty)(k:Int):Bool:=decide (A1z p x.name=k) && decide ((A1f p x.name).length=x.args.length)
theorem A2o (p:Prog)(x:Ty)(k:Int):A0a prog 32 [prV p,tyV x,A0g k] (A0m (A1w p x k)):=by
 unfold A1w;have hf:=A6o p x.name;have hk:=B7e p x.name;generalize A1z p x.name=k' at *;generalize A1f p x.name=l at *;refine cB func32 ?_;refine sR [0,1,2,3,4,6] ?_;by_cases h1:k'=k
 ·have e1:((l.length:Int)=(x.args.length:Int))↔l.length=x.args.length:=by omega
  (refine sG [0,1,2,3,4,6] [] 15 [] fun K z=>?_;refine ev ?_;refine⟨_,.inl ⟨_,rfl,hk,rfl⟩,?_⟩;(try refine ev1 h1 ?_);refine cc hf ?_;apply z;clear z K)
  simp only [h1,e1,decide_true,Bool.true_and];exact aR
 ·(refine sG [0,1,2,3,4,6] [] 15 [] fun K z=>?_;refine ev ?_;refine⟨_,.inl ⟨_,rfl,hk,rfl⟩,?_⟩;(try refine ev1 h1 ?_);apply z;clear z K)
  simp only [h1,decide_false,Bool.false_and];exact aR
mutual
def G2j:Ex→Bool
 | .mk k _ _ _ ks _=>F8s ks && decide (k=3)
def F8s:List Ex→Bool
 | []=>true
 | e::es=>G2j e && F8s es
end
abbrev q2u:List Nat:=[0,1,4,5,9,18]
theorem A5v (l:List Sig)(m:Str)(hl:l.length≤sm):A0a prog 89 [.d (.slice (siR l)),A2d m] (A0g (B0h (fun s=>decide (s.name=m)) l)):=by
 refine cB func89 ?_;refine sR q2u ?_;refine kR q2u fun K1 u1=>?_;refine AWp.bb (AWp.ii l (X:=Unit) (fun j _=>[(0,.d (.slice (siR l))),(1,A2d m),(5,A0g j)]) (fun _ _=>[])
  (fun j _=>∀ y,y∈l.take j→(fun s:Sig=>decide (s.name=m)) y=false) () (by simp) sS sB ?_ ?_)
 ·intro _ hI;rw [List.take_length] at hI;refine kR1 Int.lt_irrefl q2u fun K2 u2=>?_;refine AWp.ss rfl ?_;simp only [TB];refine u1 _ _ ?_;refine sR q2u ?_;rw [A5t hI];exact aR
 ·intro j _ d hd hmem dp tk hlt hI;refine kR1 hlt q2u fun K2 u2=>?_;refine gI u2 ?_;clear u2 K2;refine sK fun K2 u2=>?_;refine AWp.bb ?_
  (refine sV q2u fun K z=>?_;refine ci (A0n hd) ?_;apply z;clear z K)
  refine AWp.cond rfl (fun hc=>?_) (fun hc=>?_)
  ·refine sR q2u ?_;rw [A5u hd hc hI];exact aR
  refine AWp.kk (u2 _ _ ?_);clear u2 K2;refine lT q2u ?_;refine⟨(),?_,sS,sB⟩;rw [tk];intro y hy;rcases List.mem_append.1 hy with hy | hy
  ·exact hI y hy
  ·simp only [List.mem_cons,List.not_mem_nil,or_false] at hy;rw [hy];exact hc
theorem Inv.recell {C:Ctx} {S:Nat→Prop} {w:World} {β:A0y} {bx:A0b} {b:Nat} {cs cs':List SV} (h:Inv C S w β bx)(hb:(b,BoxC.cells cs)∈bx)(hr:∀ vs,A3e S w β cs vs→A3e S w β cs' vs) :
  Inv C S w β ((b,.cells cs')::A0o b bx):=by
 have hmem:∀ k c,(k,c)∈(b,BoxC.cells cs')::A0o b bx→(k=b∧c=.cells cs')∨(k≠b∧(k,c)∈bx):=by
  intro k c hk;rcases List.mem_cons.1 hk with he | hk
  ·simp only [Prod.mk.injEq] at he;exact .inl he
  ·exact .inr (A0f.1 hk)
 exact { h with
  box:=fun k c hk=>by
   rcases hmem k c hk with ⟨rfl,rfl⟩ | ⟨_,hk⟩
   ·obtain⟨b',ty,vs,h1,h2,h3⟩:=h.box _ _ hb;exact⟨b',ty,vs,h1,h2,hr vs h3⟩
   ·exact h.box k c hk
  priv:=fun k c hk=>by
   rcases hmem k c hk with ⟨rfl,rfl⟩ | ⟨_,hk⟩
   ·exact h.priv _ _ hb
   ·exact h.priv k c hk
  inj:=fun k c k' c' hk hk' b' h1 h2=>by
   rcases hmem k c hk with ⟨e1,e2⟩ | ⟨hn,hm⟩ <;> rcases hmem k' c' hk' with ⟨e3,e4⟩ | ⟨hn',hm'⟩
   ·rw [e1,e2,e3,e4];exact⟨rfl,rfl⟩
   ·rw [e1] at h1;exact absurd (h.inj _ _ _ _ hb hm' b' h1 h2).1.symm hn'
   ·rw [e3] at h2;exact absurd (h.inj _ _ _ _ hm hb b' h1 h2).1 hn
   ·exact h.inj _ _ _ _ hm hm' b' h1 h2
  one:=fun k Y st k' Y' st' hk hk'=>by
   rcases hmem _ _ hk with ⟨_,e2⟩ | ⟨_,hm⟩
   ·cases e2
   ·rcases hmem _ _ hk' with ⟨_,e4⟩ | ⟨_,hm'⟩
    ·cases e4
    ·exact h.one _ _ _ _ _ _ hm hm'
  frn:=fun k Y st hk=>by
   rcases hmem _ _ hk with ⟨_,e2⟩ | ⟨_,hm⟩
   ·cases e2
   ·have hold:∀ k' c',(k',c')∈(b,BoxC.cells cs')::A0o b bx→∃ y,(k',y)∈bx:=fun k' c' hk'=>by
     rcases hmem _ _ hk' with ⟨rfl,_⟩ | ⟨_,hm'⟩
     ·exact⟨_,hb⟩
     ·exact⟨_,hm'⟩
    obtain⟨h1,h2,h3,h4,B,h5,h6⟩:=h.frn k Y st hm;exact⟨h1,h2,h3,fun k' c' hk'=>(hold k' c' hk').elim fun y hy=>h4 k' y hy,B,h5,fun b' hb'=>⟨(h6 b' hb').1,(h6 b' hb').2.1,(h6 b' hb').2.2.1,fun k' c' hk'=>(hold k' c' hk').elim fun y hy=>(h6 b' hb').2.2.2 k' y hy⟩⟩ }
theorem AWp.promoteBox {ro:Option Nat} {P:Program} {n:Nat} {Q:Exit→SL→A0b→Prop} {sl:SL} {bx:A0b} {c:Code} (k sz b i:Nat) {cs:List SV} (hb:A0h bx b=some (.cells cs))(hi:cs[i]? = some (.d .nil))(hbk:b≠k)
  (h:AWp ro P n c Q (B0z k sl) ((b,.cells ((cs.map (A4u k)).set i (.acc k)))::A0o b ((k,.rows sz [])::A2p k (A0o k bx)))) (hkf:k≤999999:=by decide):AWp ro P n c Q sl bx:=by
 intro C S w β a hs;obtain⟨h1,h2⟩:=hs.inv.setNew (k:=k) (w':=w) (c:=.rows sz []) { base:=none,sz:=sz } hkf (by simp) (fun _ _ _=>rfl) rfl rfl rfl (Nat.le_refl _) (fun _=>B5u);have hmem:(b,BoxC.cells (cs.map (A4u k)))∈(k,BoxC.rows sz [])::A2p k (A0o k bx):=by
  refine List.mem_cons_of_mem _ ?_;have:∀ {l:A0b} {x:BoxC},(b,x)∈l→(b,x.purge k)∈A2p k l:=by
   intro l
   induction l with
   | nil=>intro x hx;simp at hx
   | cons p l ih =>
    intro x hx;obtain⟨q,y⟩:=p;rcases List.mem_cons.1 hx with he | hx
    ·simp only [Prod.mk.injEq] at he;obtain⟨rfl,rfl⟩:=he;exact List.mem_cons_self ..
    ·exact List.mem_cons_of_mem _ (ih hx)
  exact this (A0f.2 ⟨hbk,A0j hb⟩)
 have h3:=h1.recell (cs':=(cs.map (A4u k)).set i (.acc k)) hmem (by
  intro vs hr;refine⟨by simpa using hr.1,?_⟩;intro j x v hx hv;rw [List.getElem?_set] at hx;split at hx
  ·rename_i hij;subst hij;split at hx
   ·simp only [Option.some.injEq] at hx;subst hx;have:=hr.2 i (.d .nil) v (by simp [hi,A4u,SV.has]) hv;cases this with
    | d _ _ hq =>cases hq;have:=RepV.acc (S:=S) (w:=w) (β:=upd β k { base:=none,sz:=sz }) k;rw [A0x] at this;exact this
   ·simp at hx
  ·exact hr.2 j x v hx hv)
 refine h C S w _ a ⟨h3,hs.size,hs.defers,?_⟩;intro u;rw [A5q];exact (hs.slot u).purge h2
abbrev q3u:List Nat:=[0,1,2,3,6,7,8,9,10,20,29,33,53,67]
theorem C5j (vars:List Str)(args:List Ty)(hC:∀ (i:Nat)(u:Ty),args[i]? = some u→A0a prog 90 [tyV u,A1m [],A3s []] (tyV u)):∀ t:Ty,t.Sm→A0a prog 90 [tyV t,A1m vars,A3s args] (tyV (t.subst vars args)):=by
 intro t
 induction t using Ty.induct with
 | h t ih =>
 intro hsm;have hlen:=hsm.len;refine A1p.bd (A1q.of func90 rfl (by decide)) fun hbd=>?_;have hv:=(C1a hbd.2.1).1;have heqn:=A4n vars args t;refine cB func90 ?_;refine sR q3u ?_;refine kR q3u fun K1 u1=>?_;have fin:(t.args.length=0∧0≤A1b t.name vars 0∧A1b t.name vars 0 < args.length)=False→∀ sl bx,sle sl [(1,A1m vars),(2,A3s args),(3,.box 3 0),(6,.box 6 0)] →
   ble bx [(3,.cells [.d (.str t.name),A3s t.args,A0g t.pos]),(6,.cells [.d (.str []),.d .nil,.d (.int .i64 0)])]→K1 sl bx:=by
  intro hc sl bx h1 h2;refine u1 _ _ (AWp.ww h1 h2 ?_);clear u1 K1;rw [if_neg (by rw [hc];exact id)] at heqn;refine sR q3u ?_;refine AWp.promoteBox 67 3 9 1 rfl rfl (by decide) ?_;refine kR q3u fun K1 u1=>?_;refine AWp.bb (AWp.ii t.args (X:=Unit) (fun j _=>[(1,A1m vars),(2,A3s args),(3,.box 3 0),(6,.box 6 0),(9,.box 9 0),(10,A0g j)])
   (fun j _=>[(3,.cells [.d (.str t.name),A3s t.args,A0g t.pos]),(6,.cells [.d (.str []),.d .nil,.d (.int .i64 0)]),(9,.cells [.d (.str t.name),.acc 67,A0g t.pos]),(67,.rows 3 (tyR ((t.args.take j).map (Ty.subst vars args))))])
   (fun j _=>True) () trivial sS (by simp [ble,A0h,A1o]) ?_ ?_)
  ·intro _ _;rw [List.take_length];refine kR1 Int.lt_irrefl q3u fun K2 u2=>?_;refine AWp.ss rfl ?_;simp only [TB];refine u1 _ _ ?_;refine sR q3u ?_;rw [heqn];exact aR
  ·intro j _ d hd hmem dp tk hlt _;rw [tk];refine kR1 hlt q3u fun K2 u2=>?_;refine gI u2 ?_;clear u2 K2;refine sK fun K2 u2=>?_;refine AWp.bb ?_
   (refine lG q3u [] 11 [] fun K z=>?_;refine ev ?_;refine ci (A0w hd) ?_;refine cc (ih d hmem (hsm.arg d hmem)) ?_;refine⟨by simp,by simp only [List.length_map,List.length_take];unfold lim sm at *;omega,?_⟩;(try refine ev ?_);apply z;clear z K;try simp only [A0c,A0e])
   refine u2 _ _ ?_;clear u2 K2
   (refine lV q3u fun K z=>?_;refine cl ?_;apply z;clear z K;try simp only [A0c,])
   exact⟨(),trivial,sS,by simp [ble,A0h,A1o,tyC]⟩
 by_cases ha:t.args.length=0
 ·have ha':(t.args.length:Int)=0:=by omega
  refine AWp.bb (AWp.ii vars (X:=Unit) (fun j _=>[(1,A1m vars),(2,A3s args),(3,.box 3 0),(6,.box 6 0),(7,A0g j)])
   (fun _ _=>[(3,.cells [.d (.str t.name),A3s t.args,A0g t.pos]),(6,.cells [.d (.str []),.d .nil,.d (.int .i64 0)])])
   (fun j _=>A1b t.name (vars.drop j) j=A1b t.name vars 0) () rfl sS sB ?_ ?_)
  ·intro _ hI;refine kR1 Int.lt_irrefl q3u fun K2 u2=>?_;refine AWp.ss rfl ?_;simp only [TB];rw [List.drop_length,A1b] at hI;exact fin (by rw [← hI];simp) _ _ sS sB
  ·intro j _ d hd hmem dp tk hlt hI;rw [dp,A1b] at hI;refine kR2 hlt ha' q3u fun K2 u2=>?_;refine gI u2 ?_;clear u2 K2;refine sK fun K2 u2=>?_;refine AWp.bb ?_
   (refine sG q3u [] 6 [] fun K z=>?_;refine ev ?_;refine ci (A2b hd) ?_;apply z;clear z K)
   refine AWp.cond rfl (fun hc=>?_) (fun hc=>?_)
   ·have hn:d=t.name:=by simpa using hc
    rw [if_pos hn.symm] at hI;rw [← hI] at heqn;have e0:(0:Int)≤(j:Int):=by omega
    refine kR q3u fun K3 u3=>?_;refine AWp.ifRetK rfl u3 (fun hc2=>?_) (fun hc2=>?_)
    ·have hge:¬ (j:Int) < (args.length:Int):=by
      have:=hc2;simp only [decide_eq_true_eq] at this;omega
     rw [if_neg (fun h=>hge h.2.2),List.eq_nil_of_length_eq_zero ha] at heqn;refine sR q3u ?_;rw [heqn,show t.args=[] from List.eq_nil_of_length_eq_zero ha];exact aR
    clear u3 K3;have hlt2:(j:Int) < (args.length:Int):=by have:=hc2;simp only [decide_eq_false_iff_not] at this;omega
    rw [if_pos ⟨ha,e0,hlt2⟩] at heqn;have hx:args[j]? = some args[j]:=List.getElem?_eq_getElem (by omega);rw [Int.toNat_natCast,hx,Option.getD_some] at heqn;generalize args[j]=u at *
    (refine sV q3u fun K z=>?_;refine ci (A0w hx) ?_;refine cc (hC _ u hx) ?_;apply z;clear z K)
    refine sR q3u ?_;refine sR q3u ?_;rw [heqn];exact aR
   ·have hn:¬ d=t.name:=by simpa using hc
    rw [if_neg (fun h=>hn h.symm)] at hI;refine AWp.kk (u2 _ _ ?_);clear u2 K2
    (refine lV q3u fun K z=>?_;refine cl ?_;apply z;clear z K;try simp only [A0c,])
    exact⟨(),hI,sS,sB⟩
 ·have ha':¬ (t.args.length:Int)=0:=by omega
  have hno:(t.args.length=0∧0≤A1b t.name vars 0∧A1b t.name vars 0 < args.length)=False:=by simp [ha]
  refine AWp.bb (AWp.ii ([]:List Nat) (X:=Unit) (fun j _=>[(1,A1m vars),(2,A3s args),(3,.box 3 0),(6,.box 6 0),(7,A0g 0)])
   (fun _ _=>[(3,.cells [.d (.str t.name),A3s t.args,A0g t.pos]),(6,.cells [.d (.str []),.d .nil,.d (.int .i64 0)])])
   (fun j _=>True) () trivial sS sB ?_ ?_)
  ·intro _ _;refine sK fun K2 u2=>?_;by_cases he:(0:Int) < (vars.length:Int)
   ·refine sR2 ha' he q3u ?_;refine AWp.ss rfl ?_;simp only [TB];exact fin hno _ _ sS sB
   ·refine sR1 he q3u ?_;refine AWp.ss rfl ?_;simp only [TB];exact fin hno _ _ sS sB
  ·intro j _ d hd;simp at hd
theorem F0j (t:Ty)(h:t.Sm):A0a prog 90 [tyV t,A1m [],A3s []] (tyV t):=by have:=C5j [] [] (by simp) t h;rw [A9u] at this;exact this
theorem A2j (vars:List Str)(args:List Ty)(ha:∀ u,u∈args→u.Sm)(t:Ty)(h:t.Sm):A0a prog 90 [tyV t,A1m vars,A3s args] (tyV (t.subst vars args)) :=
 C5j vars args (fun i u hu=>F0j u (ha u (List.mem_of_getElem? hu))) t h
abbrev q4u:List Nat:=[0,1,2,6,7,8,12]
theorem G1k (vars:List Str)(args:List Ty)(ha:∀ u,u∈args→u.Sm)(l:List Ty)(hl:l.length≤sm)(hs:∀ t,t∈l→t.Sm) :
  A0a prog 94 [A3s l,A1m vars,A3s args] (A3s (l.map (Ty.subst vars args))):=by
 refine cB func94 ?_;refine sR q4u ?_;refine sR q4u ?_;refine AWp.pp 7 3 7 rfl ?_;refine kR q4u fun K1 u1=>?_;refine AWp.bb (AWp.ii l (X:=Unit) (fun j _=>[(0,A3s l),(1,A1m vars),(2,A3s args),(7,.acc 7),(8,A0g j)]) (fun j _=>[(7,.rows 3 (tyR ((l.take j).map (Ty.subst vars args))))])
  (fun j _=>True) () trivial sS (by simp [ble,A0h,A1o]) ?_ ?_)
 ·intro _ hI;rw [List.take_length];refine kR1 Int.lt_irrefl q4u fun K2 u2=>?_;refine AWp.ss rfl ?_;simp only [TB];refine u1 _ _ ?_;refine sR q4u ?_;exact aR
 ·intro j _ d hd hmem dp tk hlt hI;rw [tk];refine kR1 hlt q4u fun K2 u2=>?_;refine gI u2 ?_;clear u2 K2;refine sK fun K2 u2=>?_;refine AWp.bb ?_
  (refine lV q4u fun K z=>?_;refine ci (A0w hd) ?_;refine cc (A2j vars args ha d (hs d hmem)) ?_;refine⟨by simp,by simp only [List.length_map,List.length_take];unfold lim sm at *;omega,?_⟩;(try refine ev ?_);apply z;clear z K;try simp only [A0c,A0e])
  refine u2 _ _ ?_;clear u2 K2;refine lT q4u ?_;exact⟨(),trivial,sS,by simp [ble,A0h,A1o,tyC]⟩
end Go.Abs
