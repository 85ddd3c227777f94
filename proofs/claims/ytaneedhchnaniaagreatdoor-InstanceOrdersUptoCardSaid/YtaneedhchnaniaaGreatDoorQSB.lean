/- several texts in one -/
import Derived.Test.YtaneedhchnaniaaGreatDoorQFB
namespace Go.Abs
set_option linter.unusedSimpArgs false
set_option linter.unusedVariables false
open Go Go.Proofs Tryz
set_option maxRecDepth 100000
set_option maxHeartbeats 1000000
def idxF {α:Type} (p:α→Bool)(l:List α):Int:=match l.findIdx? p with
 | some i=>i
 | none=>-1
theorem idxF_none {α:Type} {p:α→Bool} {l:List α} (h:∀ x,x∈l→p x=false):idxF p l = -1:=by
 unfold idxF
 rw [List.findIdx?_eq_none_iff.2 h]
theorem idxF_some {α:Type} {p:α→Bool} {l:List α} {j:Nat} {x:α} (hx:l[j]? = some x)(hp:p x=true)(h:∀ y,y∈l.take j→p y=false):idxF p l=j:=by
 unfold idxF
 have:l.findIdx? p=some j:=by
  rw [List.findIdx?_eq_some_iff_getElem]
  obtain⟨hlt,he⟩:=List.getElem?_eq_some_iff.1 hx
  refine⟨hlt,by rw [he];exact hp,?_⟩
  intro i hi
  have:=h l[i] (List.mem_take_iff_getElem.2 ⟨i,by omega,by simp⟩)
  simpa using this
 rw [this]
abbrev q1B:List Nat:=[0,1,4,5,7,8,9,16]
theorem ok_IndexFuncF (f:FuncId)(caps:List SV)(hco:∀ x:Formal,coerceL [] (foV x::caps)=some (foV x::caps))(p:Formal→Bool)(l:List Formal)(hl:l.length≤sm)(hs:∀ t,t∈l→CallOK prog f (foV t::caps) (.d (.bool (p t)))) :
  CallOK prog 265 [.d (.slice (foR l)),.clo f caps] (intV (idxF p l)):=by
 refine cB func265 ?_
 refine sR q1B ?_
 refine kR q1B fun K1 u1=>?_
 refine AWp.block (AWp.forIdx l (X:=Unit) (fun j _=>[(0,.d (.slice (foR l))),(1,.clo f caps),(7,intV l.length),(8,intV j)]) (fun _ _=>[])
  (fun j _=>∀ y,y∈l.take j→p y=false) () (by simp) sS sB ?_ ?_)
 ·intro _ hI
  rw [List.take_length] at hI
  refine sR1 Int.lt_irrefl q1B ?_
  refine AWp.stop rfl ?_
  simp only [thenA,blockA,if_true]
  refine u1 _ _ ?_
  refine sR q1B ?_
  rw [idxF_none hI]
  exact aR
 ·intro j _ d hd hmem dp tk hlt hI
  refine sR1 hlt q1B ?_
  refine AWp.goOn rfl ?_
  refine sK fun K2 u2=>?_
  refine AWp.block ?_
  refine sR q1B ?_
  (refine sV q1B fun K z=>?_;refine ci (foR_get hd) ?_;refine⟨_,.inl ⟨_,hco d,hs d hmem,rfl⟩,?_⟩;(try refine ev ?_);apply z;clear z K)
  refine AWp.cond rfl (fun hc=>?_) (fun hc=>?_)
  ·refine sR q1B ?_
   rw [idxF_some hd hc hI]
   exact aR
  ·refine AWp.skip (u2 _ _ ?_)
   clear u2 K2
   refine lT q1B ?_
   refine⟨(),?_,sS,sB⟩
   rw [tk]
   intro y hy
   rcases List.mem_append.1 hy with hy | hy
   ·exact hI y hy
   ·simp only [List.mem_cons,List.not_mem_nil,or_false] at hy
    rw [hy];exact hc
abbrev q2B:List Nat:=[0,1,4,5,7,8,9,16]
theorem ok_IndexFuncS (f:FuncId)(caps:List SV)(hco:∀ x:Sig,coerceL [] (siV x::caps)=some (siV x::caps))(p:Sig→Bool)(l:List Sig)(hl:l.length≤sm)(hs:∀ t,t∈l→CallOK prog f (siV t::caps) (.d (.bool (p t)))) :
  CallOK prog 182 [.d (.slice (siR l)),.clo f caps] (intV (idxF p l)):=by
 refine cB func182 ?_
 refine sR q2B ?_
 refine kR q2B fun K1 u1=>?_
 refine AWp.block (AWp.forIdx l (X:=Unit) (fun j _=>[(0,.d (.slice (siR l))),(1,.clo f caps),(7,intV l.length),(8,intV j)]) (fun _ _=>[])
  (fun j _=>∀ y,y∈l.take j→p y=false) () (by simp) sS sB ?_ ?_)
 ·intro _ hI
  rw [List.take_length] at hI
  refine sR1 Int.lt_irrefl q2B ?_
  refine AWp.stop rfl ?_
  simp only [thenA,blockA,if_true]
  refine u1 _ _ ?_
  refine sR q2B ?_
  rw [idxF_none hI]
  exact aR
 ·intro j _ d hd hmem dp tk hlt hI
  refine sR1 hlt q2B ?_
  refine AWp.goOn rfl ?_
  refine sK fun K2 u2=>?_
  refine AWp.block ?_
  refine sR q2B ?_
  (refine sV q2B fun K z=>?_;refine ci (siR_get hd) ?_;refine⟨_,.inl ⟨_,hco d,hs d hmem,rfl⟩,?_⟩;(try refine ev ?_);apply z;clear z K)
  refine AWp.cond rfl (fun hc=>?_) (fun hc=>?_)
  ·refine sR q2B ?_
   rw [idxF_some hd hc hI]
   exact aR
  ·refine AWp.skip (u2 _ _ ?_)
   clear u2 K2
   refine lT q2B ?_
   refine⟨(),?_,sS,sB⟩
   rw [tk]
   intro y hy
   rcases List.mem_append.1 hy with hy | hy
   ·exact hI y hy
   ·simp only [List.mem_cons,List.not_mem_nil,or_false] at hy
    rw [hy];exact hc
abbrev q3B:List Nat:=[0,2,3,5,6,7,8,9]
theorem ok_Names (l:List Formal)(hl:l.length≤sm):CallOK prog 189 [.d (.slice (foR l))] (.d (.slice (strR (l.map (·.name))))):=by
 refine cB func189 ?_
 refine sR q3B ?_
 refine sR q3B ?_
 refine AWp.promote 3 1 3 rfl ?_
 refine kR q3B fun K1 u1=>?_
 refine AWp.block (AWp.forIdx l (X:=Unit) (fun j _=>[(3,.acc 3),(6,.d (.slice (foR l))),(7,intV l.length),(8,intV j)]) (fun j _=>[(3,.rows 1 (strR ((l.take j).map (·.name))))])
  (fun j _=>True) () trivial sS (by simp [ble,bget,strR]) ?_ ?_)
 ·intro _ hI
  rw [List.take_length]
  refine sR1 Int.lt_irrefl q3B ?_
  refine AWp.stop rfl ?_
  simp only [thenA,blockA,if_true]
  refine u1 _ _ ?_
  refine sR q3B ?_
  exact aR
 ·intro j _ d hd hmem dp tk hlt hI
  rw [tk]
  refine sR1 hlt q3B ?_
  refine AWp.goOn rfl ?_
  refine sK fun K2 u2=>?_
  refine AWp.block ?_
  (refine sV q3B fun K z=>?_;refine ci (foR_get hd) ?_;apply z;clear z K)
  (refine lV q3B fun K z=>?_;refine⟨by simp,by simp only [List.length_map,List.length_take];unfold lim sm at *;omega,?_⟩;(try refine ev ?_);apply z;clear z K;try simp only [thenA,blockA])
  refine u2 _ _ ?_
  clear u2 K2
  refine lT q3B ?_
  exact⟨(),trivial,sS,by simp [ble,bget,strR]⟩
theorem bl_cmpS:∀ a b:Str,(Op.bytesLess a b=true↔cmpS a b = -1)∧(Op.bytesLess b a=true↔cmpS a b=1)∧(cmpS a b = -1∨cmpS a b=0∨cmpS a b=1)
 | [],[]=>by simp [Op.bytesLess,cmpS]
 | [],_::_=>by simp [Op.bytesLess,cmpS]
 | _::_,[]=>by simp [Op.bytesLess,cmpS]
 | x::xs,y::ys=>by
  obtain⟨h1,h2,h3⟩:=bl_cmpS xs ys
  simp only [Op.bytesLess,cmpS,Bool.or_eq_true,Bool.and_eq_true,decide_eq_true_eq,beq_iff_eq]
  by_cases hxy:x < y
  ·have hne:¬ y < x:=fun h=>UInt8.lt_irrefl x (UInt8.lt_trans hxy h)
   have hne2:¬ y=x:=fun h=>by subst h;exact UInt8.lt_irrefl _ hxy
   simp [hxy,hne,hne2]
  ·by_cases hyx:y < x
   ·have hne2:¬ x=y:=fun h=>by subst h;exact UInt8.lt_irrefl _ hyx
    simp [hxy,hyx,hne2]
   ·have he:x=y:=by
     rcases Nat.lt_trichotomy x.toNat y.toNat with h | h | h
     ·exact absurd (UInt8.lt_iff_toNat_lt.2 h) hxy
     ·exact UInt8.toNat_inj.1 h
     ·exact absurd (UInt8.lt_iff_toNat_lt.2 h) hyx
    subst he
    simp [UInt8.lt_irrefl,h1,h2,h3]
theorem cmpS_refl:∀ a:Str,cmpS a a=0
 | []=>rfl
 | x::xs=>by rw [cmpS,if_neg (UInt8.lt_irrefl x),if_neg (UInt8.lt_irrefl x)];exact cmpS_refl xs
theorem cmpS_zero:∀ {a b:Str},cmpS a b=0↔a=b
 | [],[]=>by simp [cmpS]
 | [],_::_=>by simp [cmpS]
 | _::_,[]=>by simp [cmpS]
 | x::xs,y::ys=>by
  rw [cmpS]
  by_cases hxy:x < y
  ·have hne2:¬ x=y:=fun h=>by subst h;exact UInt8.lt_irrefl _ hxy
   simp [hxy,hne2]
  ·by_cases hyx:y < x
   ·have hne2:¬ x=y:=fun h=>by subst h;exact UInt8.lt_irrefl _ hyx
    simp [hxy,hyx,hne2]
   ·have he:x=y:=by
     rcases Nat.lt_trichotomy x.toNat y.toNat with h | h | h
     ·exact absurd (UInt8.lt_iff_toNat_lt.2 h) hxy
     ·exact UInt8.toNat_inj.1 h
     ·exact absurd (UInt8.lt_iff_toNat_lt.2 h) hyx
    subst he
    simp [UInt8.lt_irrefl,cmpS_zero]
theorem ok_isNaN (a:Str):CallOK prog 131 [strV a] (boolV false):=by
 refine cB func131 ?_
 refine sR [0,2] ?_
 refine sR [0,2] ?_
 exact aR
abbrev q4B:List Nat:=[0,1,4,5,6,11,12,13,16,19]
theorem ok_cmpCompare (a b:Str):CallOK prog 69 [strV a,strV b] (intV (cmpS a b)):=by
 obtain⟨h1,h2,h3⟩:=bl_cmpS a b
 refine cB func69 ?_
 refine sR q4B ?_
 refine sC (ok_isNaN a) q4B ?_
 refine sC (ok_isNaN b) q4B ?_
 refine kR q4B fun K1 u1=>?_
 refine kI u1 ?_
 clear u1 K1
 refine kR q4B fun K1 u1=>?_
 refine kI u1 ?_
 clear u1 K1
 refine kR q4B fun K1 u1=>?_
 refine AWp.ifRetK rfl u1 (fun hc=>?_) (fun hc=>?_)
 ·refine sR q4B ?_
  rw [h1.1 hc]
  exact aR
 clear u1 K1
 refine kR q4B fun K1 u1=>?_
 refine AWp.ifRetK rfl u1 (fun hc2=>?_) (fun hc2=>?_)
 ·refine sR q4B ?_
  rw [h2.1 hc2]
  exact aR
 clear u1 K1
 refine sR q4B ?_
 have:cmpS a b=0:=by
  rcases h3 with h | h | h
  ·rw [h1.2 h] at hc;simp at hc
  ·exact h
  ·rw [h2.2 h] at hc2;simp at hc2
 rw [this]
 exact aR
theorem ok_nameCompare (a b:Str):CallOK prog 26 [strV a,strV b] (intV (cmpS a b)):=by
 refine cB func26 ?_
 refine sR [0,1,4] ?_
 refine sC (ok_cmpCompare a b) [0,1,4] ?_
 exact aR
abbrev q5B:List Nat:=[0,2,3,5,6,7,8,9,14]
theorem ok_Or (a b:Int):CallOK prog 24 [.d (.slice [[.int .i64 a],[.int .i64 b]])] (intV (if a≠0 then a else b)):=by
 refine cB func24 ?_
 refine sR q5B ?_
 refine sR q5B ?_
 refine kR q5B fun K1 u1=>?_
 refine AWp.block (AWp.forIdx [a,b] (X:=Unit) (fun j _=>[(3,intV 0),(6,.d (.slice [[.int .i64 a],[.int .i64 b]])),(7,intV 2),(8,intV j)]) (fun _ _=>[])
  (fun j _=>(1≤j→a=0)∧(2≤j→b=0)) () (by simp) sS sB ?_ ?_)
 ·intro _ hI
  refine sR q5B ?_
  refine AWp.stop rfl ?_
  simp only [thenA,blockA,if_true]
  refine u1 _ _ ?_
  refine sR q5B ?_
  obtain⟨h1,h2⟩:=hI
  simp only [List.length_cons,List.length_nil] at h1 h2
  rw [h1 (by omega),h2 (by omega)]
  exact aR
 ·intro j _ d hd hmem dp tk hlt hI
  have hlt2:(j:Int) < 2:=by simpa using hlt
  have hg:([[.int .i64 a],[.int .i64 b]]:List (List D))[j]? = some [.int .i64 d]:=by
   match j,hd,hlt2 with
   | 0,hd,_=>simp at hd;subst hd;rfl
   | 1,hd,_=>simp at hd;subst hd;rfl
   | j+2,_,h=>omega
  refine sR1 hlt2 q5B ?_
  refine AWp.goOn rfl ?_
  refine sK fun K2 u2=>?_
  refine AWp.block ?_
  (refine sV q5B fun K z=>?_;refine ci hg ?_;apply z;clear z K)
  refine sR q5B ?_
  refine AWp.cond rfl (fun hc=>?_) (fun hc=>?_)
  ·refine sR q5B ?_
   have hv:(if a≠0 then a else b)=d:=by
    simp only [decide_eq_true_eq,] at hc
    match j,hd,hI with
    | 0,hd,_=>simp at hd;subst hd;rw [if_pos hc]
    | 1,hd,hI=>simp at hd;subst hd;rw [if_neg (by simp [hI.1 (by omega)])]
    | j+2,hd,_=>simp at hd
   rw [hv]
   exact aR
  ·refine AWp.skip (u2 _ _ ?_)
   clear u2 K2
   (refine lV q5B fun K z=>?_;refine cl ?_;apply z;clear z K;try simp only [thenA,])
   refine⟨(),?_,sS,sB⟩
   simp only [decide_eq_false_iff_not,Decidable.not_not] at hc
   match j,hd,hI with
   | 0,hd,_=>simp at hd;subst hd;exact⟨fun _=>hc,by omega⟩
   | 1,hd,hI=>simp at hd;subst hd;exact⟨fun _=>hI.1 (by omega),fun _=>hc⟩
   | j+2,hd,_=>simp at hd
mutual
def cmpT:Ty→Ty→Int
 | .mk n a _,u=>if cmpS n u.name≠0 then cmpS n u.name else cmpTL a u.args
def cmpTL:List Ty→List Ty→Int
 | [],[]=>0
 | [],_::_=>-1
 | _::_,[]=>1
 | x::xs,y::ys=>if cmpT x y≠0 then cmpT x y else cmpTL xs ys
end
theorem cmpT_eq (t u:Ty):cmpT t u=if cmpS t.name u.name≠0 then cmpS t.name u.name else cmpTL t.args u.args:=by
 cases t with | mk n a p=>rw [cmpT];rfl
def sameT (t u:Ty):Bool:=decide (cmpT t u=0)
abbrev q6B:List Nat:=[0,1,2,6,7,8,9,10,11,12,13,14,21,31,38]
theorem ok_CompareFunc (f:FuncId)(l m:List Ty)(hl:l.length≤sm)(hf:∀ t,t∈l→∀ u,CallOK prog f [tyV t,tyV u] (intV (cmpT t u))) :
  CallOK prog 27 [tysV l,tysV m,.clo f []] (intV (cmpTL l m)):=by
 refine cB func27 ?_
 refine sR q6B ?_
 refine kR q6B fun K1 u1=>?_
 refine AWp.block (AWp.forIdx l (X:=Unit) (fun j _=>[(0,tysV l),(1,tysV m),(2,.clo f []),(11,tysV l),(12,intV l.length),(13,intV j)]) (fun _ _=>[])
  (fun j _=>j≤m.length∧cmpTL (l.drop j) (m.drop j)=cmpTL l m) () (by simp) sS sB ?_ ?_)
 ·rintro _ ⟨hj,hI⟩
  refine sR1 Int.lt_irrefl q6B ?_
  refine AWp.stop rfl ?_
  simp only [thenA,blockA,if_true]
  refine u1 _ _ ?_
  rw [List.drop_length] at hI
  clear u1 K1
  refine kR q6B fun K1 u1=>?_
  refine AWp.ifRetK rfl u1 (fun hc=>?_) (fun hc=>?_)
  ·refine sR q6B ?_
   have:cmpTL l m = -1:=by
    rw [← hI]
    have hc:l.length < m.length:=by simpa using hc
    rw [List.drop_eq_getElem_cons hc,cmpTL]
   rw [this]
   exact aR
  ·clear u1 K1
   refine sR q6B ?_
   have:cmpTL l m=0:=by
    rw [← hI]
    have hc:m.length≤l.length:=by simpa using hc
    rw [List.drop_eq_nil_of_le hc,cmpTL]
   rw [this]
   exact aR
 ·rintro j _ d hd hmem dp tk hlt ⟨hj,hI⟩
  rw [dp] at hI
  refine sR1 hlt q6B ?_
  refine AWp.goOn rfl ?_
  refine sK fun K2 u2=>?_
  refine AWp.block ?_
  (refine sV q6B fun K z=>?_;refine ci (tyR_get hd) ?_;apply z;clear z K)
  refine kR q6B fun K3 u3=>?_
  refine AWp.ifRetK rfl u3 (fun hc=>?_) (fun hc=>?_)
  ·refine sR q6B ?_
   have:cmpTL l m=1:=by
    rw [← hI]
    have hc:m.length≤j:=by simpa using hc
    rw [List.drop_eq_nil_of_le hc,cmpTL]
   rw [this]
   exact aR
  clear u3 K3
  have hjm:j < m.length:=by simpa using hc
  obtain⟨e,he⟩:∃ e,m[j]? = some e:=⟨_,List.getElem?_eq_getElem hjm⟩
  have hdm:m.drop j=e::m.drop (j+1):=by
   rw [List.drop_eq_getElem_cons hjm]
   rw [List.getElem?_eq_getElem hjm] at he
   simp only [Option.some.injEq] at he
   rw [he]
  rw [hdm,cmpTL] at hI
  (refine sV q6B fun K z=>?_;refine ci (tyR_get he) ?_;apply z;clear z K)
  refine sC (hf d hmem e) q6B ?_
  refine sR q6B ?_
  refine AWp.cond rfl (fun hc=>?_) (fun hc=>?_)
  ·refine sR q6B ?_
   rw [if_pos (by simpa using hc)] at hI
   rw [← hI]
   exact aR
  rw [if_neg (by simpa using hc)] at hI
  refine AWp.skip (u2 _ _ ?_)
  clear u2 K2
  refine lT q6B ?_
  exact⟨(),⟨by omega,hI⟩,sS,sB⟩
theorem ok_TCompare:∀ (t:Ty),t.Sm→∀ u:Ty,CallOK prog 25 [tyV t,tyV u] (intV (cmpT t u)):=by
 intro t
 induction t using Ty.induct with
 | h t ih =>
 intro hs u
 rw [cmpT_eq]
 have hcf:=ok_CompareFunc 25 t.args u.args hs.len (fun x hx y=>ih x hx (hs.arg x hx) y)
 refine cB func25 ?_
 refine sR [0,1,2,3,4] ?_
 (refine sG [0,1,2,3,4] [] 9 [] fun K z=>?_;refine ev ?_;refine cc (ok_nameCompare t.name u.name) ?_;refine cc hcf ?_;refine cc (ok_Or _ _) ?_;apply z;clear z K)
 exact aR
theorem ok_TSame (t u:Ty)(hs:t.Sm):CallOK prog 31 [tyV t,tyV u] (boolV (sameT t u)):=by
 unfold sameT
 refine cB func31 ?_
 refine sR [0,1,2,3,4] ?_
 refine sC (ok_TCompare t hs u) [0,1,2,3,4] ?_
 exact aR
inductive Ty.Lm:Ty→Prop where
 | mk (n:Str) (a:List Ty) (p:Int):a.length≤sm→(∀ t,t∈a→Ty.Lm t)→Ty.Lm (.mk n a p)
theorem Ty.Lm.len {t:Ty} (h:t.Lm):t.args.length≤sm:=by cases h;assumption
theorem Ty.Lm.arg {t:Ty} (h:t.Lm):∀ u,u∈t.args→u.Lm:=by cases h;assumption
theorem Ty.Sm.lm:∀ {t:Ty},t.Sm→t.Lm:=fun h=>by
 induction h with | mk n a p _ h2 _ ih=>exact .mk n a p h2 ih
abbrev q7B:List Nat:=[0,1,2,3,4,5,6,11,28,43,51,58]
theorem ok_RCompareL:∀ (t:Ty),t.Lm→∀ u:Ty,CallOK prog 23 [tyV t,tyV u] (intV (cmpT t u)):=by
 intro t
 induction t using Ty.induct with
 | h t ih =>
 intro hs u
 have hlen:=hs.len
 rw [cmpT_eq]
 refine cB func23 ?_
 refine sR q7B ?_
 refine kR q7B fun K1 u1=>?_
 refine AWp.ifRetK rfl u1 (fun hc=>?_) (fun hc=>?_)
 ·refine sC (ok_Compare t.name u.name) q7B ?_
  rw [if_pos (fun h=>(by simpa using hc:¬ t.name=u.name) (cmpS_zero.1 h))]
  exact aR
 clear u1 K1
 have hnm:t.name=u.name:=by simpa using hc
 rw [if_neg (by rw [hnm];simp [cmpS_refl])]
 refine kR q7B fun K1 u1=>?_
 have fin:∀ (j:Nat) sl bx,sle sl [(2,.box 2 0),(3,.box 3 0)]→ble bx [(2,.cells [.d (.str t.name),tysV t.args,intV t.pos]),(3,.cells [.d (.str u.name),tysV u.args,intV u.pos])]→j≤t.args.length→j≤u.args.length→(t.args.length=j∨u.args.length=j)→cmpTL (t.args.drop j) (u.args.drop j)=cmpTL t.args u.args→K1 sl bx:=by
  intro j sl bx h1 h2 hj1 hj2 hor hI
  refine u1 _ _ (AWp.weaken h1 h2 ?_)
  clear u1 K1
  refine kR q7B fun K1 u1=>?_
  refine AWp.ifRetK rfl u1 (fun hc=>?_) (fun hc=>?_)
  ·refine sR q7B ?_
   have:cmpTL t.args u.args = -1:=by
    rw [← hI]
    have hc:t.args.length < u.args.length:=by simpa using hc
    have:t.args.length=j:=by omega
    rw [List.drop_eq_nil_of_le (by omega),List.drop_eq_getElem_cons (show j < u.args.length by omega),cmpTL]
   rw [this]
   exact aR
  clear u1 K1
  refine kR q7B fun K1 u1=>?_
  refine AWp.ifRetK rfl u1 (fun hc2=>?_) (fun hc2=>?_)
  ·refine sR q7B ?_
   have:cmpTL t.args u.args=1:=by
    rw [← hI]
    have hc:u.args.length < t.args.length:=by simpa using hc2
    rw [List.drop_eq_getElem_cons (show j < t.args.length by omega),List.drop_eq_nil_of_le (show u.args.length≤j by omega),cmpTL]
   rw [this]
   exact aR
  clear u1 K1
  refine sR q7B ?_
  have:cmpTL t.args u.args=0:=by
   rw [← hI]
   have h1:u.args.length≤t.args.length:=by simpa using hc
   have h2:t.args.length≤u.args.length:=by simpa using hc2
   rw [List.drop_eq_nil_of_le (by omega),List.drop_eq_nil_of_le (by omega),cmpTL]
  rw [this]
  exact aR
 refine AWp.block (AWp.forIdx t.args (X:=Unit) (fun j _=>[(2,.box 2 0),(3,.box 3 0),(5,intV j)]) (fun _ _=>[(2,.cells [.d (.str t.name),tysV t.args,intV t.pos]),(3,.cells [.d (.str u.name),tysV u.args,intV u.pos])])
  (fun j _=>j≤u.args.length∧cmpTL (t.args.drop j) (u.args.drop j)=cmpTL t.args u.args) () (by simp) sS sB ?_ ?_)
 ·rintro _ ⟨hj,hI⟩
  refine kR1 Int.lt_irrefl q7B fun K2 u2=>?_
  refine AWp.stopK rfl ?_
  simp only [thenA,blockA,if_true]
  exact fin t.args.length _ _ sS sB (Nat.le_refl _) hj (.inl rfl) hI
 ·rintro j _ d hd hmem dp tk hlt ⟨hj,hI⟩
  refine sK fun K2 u2=>?_
  by_cases hjm:(j:Int) < (u.args.length:Int)
  ·obtain⟨e,he⟩:∃ e,u.args[j]? = some e:=⟨_,List.getElem?_eq_getElem (by omega)⟩
   have hdm:u.args.drop j=e::u.args.drop (j+1):=by
    rw [List.drop_eq_getElem_cons (by omega)]
    rw [List.getElem?_eq_getElem (by omega)] at he
    simp only [Option.some.injEq] at he
    rw [he]
   rw [dp,hdm,cmpTL] at hI
   refine sR2 hlt hjm q7B ?_
   refine gI u2 ?_
   clear u2 K2
   refine sK fun K2 u2=>?_
   refine AWp.block ?_
   (refine sG q7B [] 10 [] fun K z=>?_;refine ev ?_;refine ci (tyR_get hd) ?_;refine ci (tyR_get he) ?_;refine cc (ih d hmem (hs.arg d hmem) e) ?_;apply z;clear z K)
   refine sR q7B ?_
   refine AWp.cond rfl (fun hc=>?_) (fun hc=>?_)
   ·refine sR q7B ?_
    rw [if_pos (by simpa using hc)] at hI
    rw [← hI]
    exact aR
   rw [if_neg (by simpa using hc)] at hI
   refine AWp.skip (u2 _ _ ?_)
   clear u2 K2
   refine lT q7B ?_
   exact⟨(),⟨by omega,hI⟩,sS,sB⟩
  ·refine sR2 hlt hjm q7B ?_
   refine AWp.stopK rfl ?_
   simp only [thenA,blockA,if_true]
   exact fin j _ _ sS sB (by omega) hj (.inr (by omega)) hI
theorem ok_RCompare (t:Ty)(h:t.Sm)(u:Ty):CallOK prog 23 [tyV t,tyV u] (intV (cmpT t u)):=ok_RCompareL t h.lm u
theorem ok_RSameL (t u:Ty)(hs:t.Lm):CallOK prog 7 [tyV t,tyV u] (boolV (sameT t u)):=by
 unfold sameT
 refine cB func7 ?_
 refine sR [0,1,2,3,4] ?_
 refine sC (ok_RCompareL t hs u) [0,1,2,3,4] ?_
 exact aR
theorem ok_RSame (t u:Ty)(hs:t.Sm):CallOK prog 7 [tyV t,tyV u] (boolV (sameT t u)):=ok_RSameL t u hs.lm
abbrev exS (e:Ex):List SV:=[.d (.int .i64 e.kind),.d (.str e.name),.d (.str e.type.name),.d (.slice (tyR e.type.args)),.d (.int .i64 e.type.pos),.d (.slice (tyR e.targs)),.d (.slice (exR e.kids)),.d (.int .i64 e.pos)]
def sameTL:List Ty→List Ty→Bool
 | [],[]=>true
 | x::xs,y::ys=>sameT x y && sameTL xs ys
 | _,_=>false
mutual
def sameE:Ex→Ex→Bool
 | .mk k n t a ks _,u=>decide (k=u.kind) && decide (n=u.name) && sameT t u.type && sameTL a u.targs && sameEL ks u.kids
def sameEL:List Ex→List Ex→Bool
 | [],[]=>true
 | x::xs,y::ys=>sameE x y && sameEL xs ys
 | _,_=>false
end
theorem drop_get {α:Type} {l:List α} {j:Nat} (h:j < l.length):∃ e,l[j]? = some e∧l.drop j=e::l.drop (j+1):=⟨l[j],List.getElem?_eq_getElem h,List.drop_eq_getElem_cons h⟩
inductive Ex.Lm:Ex→Prop where
 | mk (k:Int) (n:Str) (t:Ty) (a:List Ty) (ks:List Ex) (p:Int):t.Lm→a.length≤sm→(∀ t,t∈a→t.Lm)→ks.length≤sm→(∀ e,e∈ks→Ex.Lm e)→Ex.Lm (.mk k n t a ks p)
theorem Ex.Lm.type {e:Ex} (h:e.Lm):e.type.Lm:=by cases h;assumption
theorem Ex.Lm.targs {e:Ex} (h:e.Lm):e.targs.length≤sm∧∀ t,t∈e.targs→t.Lm:=by cases h;exact⟨by assumption,by assumption⟩
theorem Ex.Lm.kids {e:Ex} (h:e.Lm):e.kids.length≤sm∧∀ t,t∈e.kids→t.Lm:=by cases h;exact⟨by assumption,by assumption⟩
theorem Ex.Sm.lm:∀ {e:Ex},e.Sm→e.Lm:=by
 intro e
 induction e using Ex.induct with
 | h e ih =>
 intro h
 obtain⟨k,n,t,a,ks,p⟩:=e
 exact .mk k n t a ks p h.type.lm h.targs.1 (fun u hu=>(h.targs.2 u hu).lm) h.kids.1 fun u hu=>ih u hu (h.kids.2 u hu)
def findV (env:List Formal)(t:Ty):Int:=if t.args.length=0 then idxF (fun f=>decide (f.name=t.name)) env else -1
theorem ok_BoundC (t:Ty)(x:Formal):CallOK prog 264 [foV x,.dptr (tyC t) 0] (boolV (decide (x.name=t.name))):=by
 refine cB func264 ?_
 refine sR [0,1,2,3] ?_
 refine sR [0,1,2,3] ?_
 exact aR
def boundV (env:List Formal)(t:Ty):Option Ty:=if findV env t < 0 then none else (env[(findV env t).toNat]?).map (·.bound)
def bndV:Option Ty→SV
 | some b=>.tuple [tyV b,boolV true]
 | none=>.tuple [tyV (.mk [] [] 0),boolV false]
theorem findV_get {env:List Formal} {t:Ty} (h:¬ findV env t < 0):∃ f,env[(findV env t).toNat]? = some f∧(findV env t).toNat < env.length∧t.args.length=0:=by
 unfold findV idxF at h ⊢
 by_cases ha:t.args.length=0
 ·simp only [if_pos ha] at h ⊢
  cases hf:env.findIdx? (fun f=>decide (f.name=t.name)) with
  | none=>rw [hf] at h;simp at h
  | some i =>
   have:=(List.findIdx?_eq_some_iff_getElem.1 hf).1
   simp only [Int.toNat_natCast]
   exact⟨env[i],List.getElem?_eq_getElem this,this,ha⟩
 ·simp only [if_neg ha] at h;omega
abbrev q8B:List Nat:=[0,1,3,4,5,6,7,19]
theorem ok_Bound (env:List Formal)(t:Ty)(hl:env.length≤sm)(hs:∀ f,f∈env→f.Sm):CallOK prog 194 [.d (.slice (foR env)),tyV t] (bndV (boundV env t)):=by
 have hix:=ok_IndexFuncF 264 [.dptr (tyC t) 0] (fun x=>rfl) (fun f=>decide (f.name=t.name)) env hl (fun x _=>ok_BoundC t x)
 unfold boundV
 have hget:=findV_get (env:=env) (t:=t)
 have hfv:t.args.length=0→findV env t=idxF (fun f=>decide (f.name=t.name)) env:=fun h=>by unfold findV;rw [if_pos h]
 have hfv2:¬ t.args.length=0→findV env t = -1:=fun h=>by unfold findV;rw [if_neg h]
 generalize findV env t=i at *
 generalize idxF (fun f:Formal=>decide (f.name=t.name)) env=i' at *
 refine cB func194 ?_
 refine sR q8B ?_
 refine sR q8B ?_
 refine AWp.freeze 3 rfl rfl ?_
 refine AWp.weaken (sl':=[(0,.d (.slice (foR env))),(3,.dptr (tyC t) 0),(4,.box 4 0),(6,.clo 264 [.dptr (tyC t) 0])]) (bx':=[(4,.cells [.d (.str []),.d .nil,.d (.int .i64 0)])])
  (by simp [subSl,SV.sub,SV.subL,sle,vle,sget,tyC]) (by simp [subBx,BoxC.sub,SV.subL,SV.sub,ble,bget,berase]) ?_
 refine sC hix q8B ?_
 refine sK fun K1 u1=>?_
 by_cases ha:t.args.length=0
 ·obtain rfl:=hfv ha
  have ha':¬ (0:Int) < (t.args.length:Int):=by omega
  refine sR1 ha' q8B ?_
  refine AWp.ifRetK rfl u1 (fun hc=>?_) (fun hc=>?_)
  ·refine sR q8B ?_
   rw [if_pos (by simpa using hc)]
   exact aR
  clear u1 K1
  have hc':¬ i < 0:=by simpa using hc
  obtain⟨f,hf,hlt,_⟩:=hget hc'
  have hmem:=List.mem_of_getElem? hf
  rw [if_neg hc',hf]
  have h0:0≤i:=by omega
  (refine sV q8B fun K z=>?_;refine ci (foR_get hf) ?_;refine cc (ok_Clone f.bound (hs f hmem).bound) ?_;apply z;clear z K)
  exact aR
 ·have ha':(0:Int) < (t.args.length:Int):=by omega
  rw [hfv2 ha]
  refine sR1 ha' q8B ?_
  refine tI ?_
  refine sR q8B ?_
  exact aR
def declT (p:Prog)(nm:Str):Option Decl:=p.decls.find? (fun d=>d.isT nm)
def formalsT (p:Prog)(nm:Str):List Formal:=match declT p nm with
 | some d=>d.formals
 | none=>[]
def instB (p:Prog)(x:Ty)(k:Int):Bool:=decide (kindOf p x.name=k) && decide ((formalsT p x.name).length=x.args.length)
mutual
def isVal:Ex→Bool
 | .mk k _ _ _ ks _=>isValL ks && decide (k=3)
def isValL:List Ex→Bool
 | []=>true
 | e::es=>isVal e && isValL es
end
theorem Inv.recell {C:Ctx} {S:Nat→Prop} {w:World} {β:Names} {bx:Boxes} {b:Nat} {cs cs':List SV} (h:Inv C S w β bx)(hb:(b,BoxC.cells cs)∈bx)(hr:∀ vs,RepL S w β cs vs→RepL S w β cs' vs) :
  Inv C S w β ((b,.cells cs')::berase b bx):=by
 have hmem:∀ k c,(k,c)∈(b,BoxC.cells cs')::berase b bx→(k=b∧c=.cells cs')∨(k≠b∧(k,c)∈bx):=by
  intro k c hk
  rcases List.mem_cons.1 hk with he | hk
  ·simp only [Prod.mk.injEq] at he;exact .inl he
  ·exact .inr (mem_berase.1 hk)
 exact { h with
  box:=fun k c hk=>by
   rcases hmem k c hk with ⟨rfl,rfl⟩ | ⟨_,hk⟩
   ·obtain⟨b',ty,vs,h1,h2,h3⟩:=h.box _ _ hb
    exact⟨b',ty,vs,h1,h2,hr vs h3⟩
   ·exact h.box k c hk
  priv:=fun k c hk=>by
   rcases hmem k c hk with ⟨rfl,rfl⟩ | ⟨_,hk⟩
   ·exact h.priv _ _ hb
   ·exact h.priv k c hk
  inj:=fun k c k' c' hk hk' b' h1 h2=>by
   rcases hmem k c hk with ⟨e1,e2⟩ | ⟨hn,hm⟩ <;> rcases hmem k' c' hk' with ⟨e3,e4⟩ | ⟨hn',hm'⟩
   ·rw [e1,e2,e3,e4];exact⟨rfl,rfl⟩
   ·rw [e1] at h1;exact absurd (h.inj _ _ _ _ hb hm' b' h1 h2).1.symm hn'
   ·rw [e3] at h2;exact absurd (h.inj _ _ _ _ hm hb b' h1 h2).1 hn
   ·exact h.inj _ _ _ _ hm hm' b' h1 h2
  one:=fun k Y st k' Y' st' hk hk'=>by
   rcases hmem _ _ hk with ⟨_,e2⟩ | ⟨_,hm⟩
   ·cases e2
   ·rcases hmem _ _ hk' with ⟨_,e4⟩ | ⟨_,hm'⟩
    ·cases e4
    ·exact h.one _ _ _ _ _ _ hm hm'
  frn:=fun k Y st hk=>by
   rcases hmem _ _ hk with ⟨_,e2⟩ | ⟨_,hm⟩
   ·cases e2
   ·have hold:∀ k' c',(k',c')∈(b,BoxC.cells cs')::berase b bx→∃ y,(k',y)∈bx:=fun k' c' hk'=>by
     rcases hmem _ _ hk' with ⟨rfl,_⟩ | ⟨_,hm'⟩
     ·exact⟨_,hb⟩
     ·exact⟨_,hm'⟩
    obtain⟨h1,h2,h3,h4,B,h5,h6⟩:=h.frn k Y st hm
    exact⟨h1,h2,h3,fun k' c' hk'=>(hold k' c' hk').elim fun y hy=>h4 k' y hy,B,h5,fun b' hb'=>⟨(h6 b' hb').1,(h6 b' hb').2.1,(h6 b' hb').2.2.1,fun k' c' hk'=>(hold k' c' hk').elim fun y hy=>(h6 b' hb').2.2.2 k' y hy⟩⟩ }
theorem AWp.promoteBox {ro:Option Nat} {P:Program} {n:Nat} {Q:Exit→SL→Boxes→Prop} {sl:SL} {bx:Boxes} {c:Code} (k sz b i:Nat) {cs:List SV} (hb:bget bx b=some (.cells cs))(hi:cs[i]? = some (.d .nil))(hbk:b≠k)
  (h:AWp ro P n c Q (purge1 k sl) ((b,.cells ((cs.map (spurge k)).set i (.acc k)))::berase b ((k,.rows sz [])::bpurge k (berase k bx)))) (hkf:k≤999999:=by decide):AWp ro P n c Q sl bx:=by
 intro C S w β a hs
 obtain⟨h1,h2⟩:=hs.inv.setNew (k:=k) (w':=w) (c:=.rows sz []) { base:=none,sz:=sz } hkf (by simp) (fun _ _ _=>rfl) rfl rfl rfl (Nat.le_refl _) (fun _=>boxOK_nil)
 have hmem:(b,BoxC.cells (cs.map (spurge k)))∈(k,BoxC.rows sz [])::bpurge k (berase k bx):=by
  refine List.mem_cons_of_mem _ ?_
  have:∀ {l:Boxes} {x:BoxC},(b,x)∈l→(b,x.purge k)∈bpurge k l:=by
   intro l
   induction l with
   | nil=>intro x hx;simp at hx
   | cons p l ih =>
    intro x hx
    obtain⟨q,y⟩:=p
    rcases List.mem_cons.1 hx with he | hx
    ·simp only [Prod.mk.injEq] at he;obtain⟨rfl,rfl⟩:=he;exact List.mem_cons_self ..
    ·exact List.mem_cons_of_mem _ (ih hx)
  exact this (mem_berase.2 ⟨hbk,mem_of_bget hb⟩)
 have h3:=h1.recell (cs':=(cs.map (spurge k)).set i (.acc k)) hmem (by
  intro vs hr
  refine⟨by simpa using hr.1,?_⟩
  intro j x v hx hv
  rw [List.getElem?_set] at hx
  split at hx
  ·rename_i hij
   subst hij
   split at hx
   ·simp only [Option.some.injEq] at hx;subst hx
    have:=hr.2 i (.d .nil) v (by simp [hi,spurge,SV.has]) hv
    cases this with
    | d _ _ hq =>
     cases hq
     have:=RepV.acc (S:=S) (w:=w) (β:=upd β k { base:=none,sz:=sz }) k
     rw [upd_same] at this
     exact this
   ·simp at hx
  ·exact hr.2 j x v hx hv)
 refine h C S w _ a ⟨h3,hs.size,hs.defers,?_⟩
 intro u
 rw [sget_purge1]
 exact (hs.slot u).purge h2
end Go.Abs
