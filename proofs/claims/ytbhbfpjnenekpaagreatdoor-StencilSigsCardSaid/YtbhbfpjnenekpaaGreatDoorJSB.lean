/- several texts in one -/
import Derived.Test.YtbhbfpjnenekpaaGreatDoorJFB
namespace Go.Abs
set_option linter.unusedSimpArgs false
set_option linter.unusedVariables false
open Go Go.Proofs Tryz
set_option maxRecDepth 100000
set_option maxHeartbeats 1000000
def idxF {α:Type} (p:α→Bool)(l:List α):Int:=match l.findIdx? p with
 | some i=>i
 | none=>-1
theorem idxF_none {α:Type} {p:α→Bool} {l:List α} (h:∀ x,x∈l→p x=false):idxF p l = -1:=by
 unfold idxF
 rw [List.findIdx?_eq_none_iff.2 h]
theorem idxF_some {α:Type} {p:α→Bool} {l:List α} {j:Nat} {x:α} (hx:l[j]? = some x)(hp:p x=true)(h:∀ y,y∈l.take j→p y=false):idxF p l=j:=by
 unfold idxF
 have:l.findIdx? p=some j:=by
  rw [List.findIdx?_eq_some_iff_getElem]
  obtain⟨hlt,he⟩:=List.getElem?_eq_some_iff.1 hx
  refine⟨hlt,by rw [he];exact hp,?_⟩
  intro i hi
  have:=h l[i] (List.mem_take_iff_getElem.2 ⟨i,by omega,by simp⟩)
  simpa using this
 rw [this]
abbrev q1t:List Nat:=[0,1,4,5,7,8,9,16]
theorem ok_IndexFuncF (f:FuncId)(caps:List SV)(hco:∀ x:Formal,coerceL [] (foV x::caps)=some (foV x::caps))(p:Formal→Bool)(l:List Formal)(hl:l.length≤sm)(hs:∀ t,t∈l→CallOK prog f (foV t::caps) (.d (.bool (p t)))) :
  CallOK prog 248 [.d (.slice (foR l)),.clo f caps] (intV (idxF p l)):=by
 refine cB func248 ?_
 refine sR q1t ?_
 refine kR q1t fun K1 u1=>?_
 refine AWp.block (AWp.forIdx l (X:=Unit) (fun j _=>[(0,.d (.slice (foR l))),(1,.clo f caps),(7,intV l.length),(8,intV j)]) (fun _ _=>[])
  (fun j _=>∀ y,y∈l.take j→p y=false) () (by simp) sS (by simp [ble,bget,exC,tyC,foC,paC,siC,deC,prC]) ?_ ?_)
 ·intro _ hI
  rw [List.take_length] at hI
  refine sR1 Int.lt_irrefl q1t ?_
  refine AWp.stop rfl ?_
  simp only [thenA,blockA,if_true]
  refine u1 _ _ ?_
  refine sR q1t ?_
  rw [idxF_none hI]
  exact aR
 ·intro j _ d hd hmem dp tk hlt hI
  refine sR1 hlt q1t ?_
  refine AWp.goOn rfl ?_
  refine sK fun K2 u2=>?_
  refine AWp.block ?_
  refine sR q1t ?_
  (refine sV q1t fun K z=>?_;refine ci (foR_get hd) ?_;refine⟨_,.inl ⟨_,hco d,hs d hmem,rfl⟩,?_⟩;(try refine ev ?_);apply z;clear z K)
  refine AWp.cond rfl (fun hc=>?_) (fun hc=>?_)
  ·refine sR q1t ?_
   rw [idxF_some hd hc hI]
   exact aR
  ·refine AWp.skip (u2 _ _ ?_)
   clear u2 K2
   (refine lV q1t fun K z=>?_;refine cl ?_;apply z;clear z K;try simp only [thenA,blockA,if_true])
   refine⟨(),?_,sS,(by simp [ble,bget,exC,tyC,foC,paC,siC,deC,prC])⟩
   rw [tk]
   intro y hy
   rcases List.mem_append.1 hy with hy | hy
   ·exact hI y hy
   ·simp only [List.mem_cons,List.not_mem_nil,or_false] at hy
    rw [hy];exact hc
abbrev q2t:List Nat:=[0,1,4,5,7,8,9,16]
theorem ok_IndexFuncS (f:FuncId)(caps:List SV)(hco:∀ x:Sig,coerceL [] (siV x::caps)=some (siV x::caps))(p:Sig→Bool)(l:List Sig)(hl:l.length≤sm)(hs:∀ t,t∈l→CallOK prog f (siV t::caps) (.d (.bool (p t)))) :
  CallOK prog 217 [.d (.slice (siR l)),.clo f caps] (intV (idxF p l)):=by
 refine cB func217 ?_
 refine sR q2t ?_
 refine kR q2t fun K1 u1=>?_
 refine AWp.block (AWp.forIdx l (X:=Unit) (fun j _=>[(0,.d (.slice (siR l))),(1,.clo f caps),(7,intV l.length),(8,intV j)]) (fun _ _=>[])
  (fun j _=>∀ y,y∈l.take j→p y=false) () (by simp) sS (by simp [ble,bget,exC,tyC,foC,paC,siC,deC,prC]) ?_ ?_)
 ·intro _ hI
  rw [List.take_length] at hI
  refine sR1 Int.lt_irrefl q2t ?_
  refine AWp.stop rfl ?_
  simp only [thenA,blockA,if_true]
  refine u1 _ _ ?_
  refine sR q2t ?_
  rw [idxF_none hI]
  exact aR
 ·intro j _ d hd hmem dp tk hlt hI
  refine sR1 hlt q2t ?_
  refine AWp.goOn rfl ?_
  refine sK fun K2 u2=>?_
  refine AWp.block ?_
  refine sR q2t ?_
  (refine sV q2t fun K z=>?_;refine ci (siR_get hd) ?_;refine⟨_,.inl ⟨_,hco d,hs d hmem,rfl⟩,?_⟩;(try refine ev ?_);apply z;clear z K)
  refine AWp.cond rfl (fun hc=>?_) (fun hc=>?_)
  ·refine sR q2t ?_
   rw [idxF_some hd hc hI]
   exact aR
  ·refine AWp.skip (u2 _ _ ?_)
   clear u2 K2
   (refine lV q2t fun K z=>?_;refine cl ?_;apply z;clear z K;try simp only [thenA,blockA,if_true])
   refine⟨(),?_,sS,(by simp [ble,bget,exC,tyC,foC,paC,siC,deC,prC])⟩
   rw [tk]
   intro y hy
   rcases List.mem_append.1 hy with hy | hy
   ·exact hI y hy
   ·simp only [List.mem_cons,List.not_mem_nil,or_false] at hy
    rw [hy];exact hc
abbrev q3t:List Nat:=[0,2,3,5,6,7,8,9]
theorem ok_Names (l:List Formal)(hl:l.length≤sm):CallOK prog 162 [.d (.slice (foR l))] (.d (.slice (strR (l.map (·.name))))):=by
 refine cB func162 ?_
 refine sR q3t ?_
 refine sR q3t ?_
 refine AWp.promote 3 1 3 rfl ?_
 refine kR q3t fun K1 u1=>?_
 refine AWp.block (AWp.forIdx l (X:=Unit) (fun j _=>[(3,.acc 3),(6,.d (.slice (foR l))),(7,intV l.length),(8,intV j)]) (fun j _=>[(3,.rows 1 (strR ((l.take j).map (·.name))))])
  (fun j _=>True) () trivial sS (by simp [ble,bget,strR]) ?_ ?_)
 ·intro _ hI
  rw [List.take_length]
  refine sR1 Int.lt_irrefl q3t ?_
  refine AWp.stop rfl ?_
  simp only [thenA,blockA,if_true]
  refine u1 _ _ ?_
  refine sR q3t ?_
  exact aR
 ·intro j _ d hd hmem dp tk hlt hI
  rw [tk]
  refine sR1 hlt q3t ?_
  refine AWp.goOn rfl ?_
  refine sK fun K2 u2=>?_
  refine AWp.block ?_
  (refine sV q3t fun K z=>?_;refine ci (foR_get hd) ?_;apply z;clear z K)
  (refine lV q3t fun K z=>?_;refine⟨by simp,by simp only [List.length_map,List.length_take];unfold lim sm at *;omega,?_⟩;(try refine ev ?_);apply z;clear z K;try simp only [thenA,blockA,if_true])
  refine u2 _ _ ?_
  clear u2 K2
  (refine lV q3t fun K z=>?_;refine cl ?_;apply z;clear z K;try simp only [thenA,blockA,if_true])
  exact⟨(),trivial,sS,by simp [ble,bget,strR]⟩
abbrev q4t:List Nat:=[0,2,3,4,8]
theorem ok_RefNames (l:List Formal)(hl:l.length≤sm):CallOK prog 44 [.d (.slice (foR l))] (.d (.slice (strR (l.map (·.name))))):=by
 refine cB func44 ?_
 refine sR q4t ?_
 refine sR q4t ?_
 refine AWp.promote 3 1 3 rfl ?_
 refine kR q4t fun K1 u1=>?_
 refine AWp.block (AWp.forIdx l (X:=Unit) (fun j _=>[(0,.d (.slice (foR l))),(3,.acc 3),(4,intV j)]) (fun j _=>[(3,.rows 1 (strR ((l.take j).map (·.name))))])
  (fun j _=>True) () trivial sS (by simp [ble,bget,strR]) ?_ ?_)
 ·intro _ hI
  rw [List.take_length]
  refine kR1 Int.lt_irrefl q4t fun K2 u2=>?_
  refine AWp.stopK rfl ?_
  simp only [thenA,blockA,if_true]
  refine u1 _ _ ?_
  refine sR q4t ?_
  exact aR
 ·intro j _ d hd hmem dp tk hlt hI
  rw [tk]
  refine kR1 hlt q4t fun K2 u2=>?_
  refine gI u2 ?_
  clear u2 K2
  refine sK fun K2 u2=>?_
  refine AWp.block ?_
  (refine lV q4t fun K z=>?_;refine ci (foR_get hd) ?_;refine⟨by simp,by simp only [List.length_map,List.length_take];unfold lim sm at *;omega,?_⟩;(try refine ev ?_);apply z;clear z K;try simp only [thenA,blockA,if_true])
  refine u2 _ _ ?_
  clear u2 K2
  (refine lV q4t fun K z=>?_;refine cl ?_;apply z;clear z K;try simp only [thenA,blockA,if_true])
  exact⟨(),trivial,sS,by simp [ble,bget,strR]⟩
theorem bl_cmpS:∀ a b:Str,(Op.bytesLess a b=true↔cmpS a b = -1)∧(Op.bytesLess b a=true↔cmpS a b=1)∧(cmpS a b = -1∨cmpS a b=0∨cmpS a b=1)
 | [],[]=>by simp [Op.bytesLess,cmpS]
 | [],_::_=>by simp [Op.bytesLess,cmpS]
 | _::_,[]=>by simp [Op.bytesLess,cmpS]
 | x::xs,y::ys=>by
  obtain⟨h1,h2,h3⟩:=bl_cmpS xs ys
  simp only [Op.bytesLess,cmpS,Bool.or_eq_true,Bool.and_eq_true,decide_eq_true_eq,beq_iff_eq]
  by_cases hxy:x < y
  ·have hne:¬ y < x:=fun h=>UInt8.lt_irrefl x (UInt8.lt_trans hxy h)
   have hne2:¬ y=x:=fun h=>by subst h;exact UInt8.lt_irrefl _ hxy
   simp [hxy,hne,hne2]
  ·by_cases hyx:y < x
   ·have hne2:¬ x=y:=fun h=>by subst h;exact UInt8.lt_irrefl _ hyx
    simp [hxy,hyx,hne2]
   ·have he:x=y:=by
     rcases Nat.lt_trichotomy x.toNat y.toNat with h | h | h
     ·exact absurd (UInt8.lt_iff_toNat_lt.2 h) hxy
     ·exact UInt8.toNat_inj.1 h
     ·exact absurd (UInt8.lt_iff_toNat_lt.2 h) hyx
    subst he
    simp [UInt8.lt_irrefl,h1,h2,h3]
theorem cmpS_refl:∀ a:Str,cmpS a a=0
 | []=>rfl
 | x::xs=>by rw [cmpS,if_neg (UInt8.lt_irrefl x),if_neg (UInt8.lt_irrefl x)];exact cmpS_refl xs
theorem cmpS_zero:∀ {a b:Str},cmpS a b=0↔a=b
 | [],[]=>by simp [cmpS]
 | [],_::_=>by simp [cmpS]
 | _::_,[]=>by simp [cmpS]
 | x::xs,y::ys=>by
  rw [cmpS]
  by_cases hxy:x < y
  ·have hne2:¬ x=y:=fun h=>by subst h;exact UInt8.lt_irrefl _ hxy
   simp [hxy,hne2]
  ·by_cases hyx:y < x
   ·have hne2:¬ x=y:=fun h=>by subst h;exact UInt8.lt_irrefl _ hyx
    simp [hxy,hyx,hne2]
   ·have he:x=y:=by
     rcases Nat.lt_trichotomy x.toNat y.toNat with h | h | h
     ·exact absurd (UInt8.lt_iff_toNat_lt.2 h) hxy
     ·exact UInt8.toNat_inj.1 h
     ·exact absurd (UInt8.lt_iff_toNat_lt.2 h) hyx
    subst he
    simp [UInt8.lt_irrefl,cmpS_zero]
mutual
def cmpT:Ty→Ty→Int
 | .mk n a _,u=>if cmpS n u.name≠0 then cmpS n u.name else cmpTL a u.args
def cmpTL:List Ty→List Ty→Int
 | [],[]=>0
 | [],_::_=>-1
 | _::_,[]=>1
 | x::xs,y::ys=>if cmpT x y≠0 then cmpT x y else cmpTL xs ys
end
theorem cmpT_eq (t u:Ty):cmpT t u=if cmpS t.name u.name≠0 then cmpS t.name u.name else cmpTL t.args u.args:=by
 cases t with | mk n a p=>rw [cmpT];rfl
def sameT (t u:Ty):Bool:=decide (cmpT t u=0)
inductive Ty.Lm:Ty→Prop where
 | mk (n:Str) (a:List Ty) (p:Int):a.length≤sm→(∀ t,t∈a→Ty.Lm t)→Ty.Lm (.mk n a p)
theorem Ty.Lm.len {t:Ty} (h:t.Lm):t.args.length≤sm:=by cases h;assumption
theorem Ty.Lm.arg {t:Ty} (h:t.Lm):∀ u,u∈t.args→u.Lm:=by cases h;assumption
theorem Ty.Sm.lm:∀ {t:Ty},t.Sm→t.Lm:=fun h=>by
 induction h with | mk n a p _ h2 _ ih=>exact .mk n a p h2 ih
abbrev q5t:List Nat:=[0,1,2,3,4,5,6,11,28,43,51,58]
theorem ok_RCompareL:∀ (t:Ty),t.Lm→∀ u:Ty,CallOK prog 102 [tyV t,tyV u] (intV (cmpT t u)):=by
 intro t
 induction t using Ty.induct with
 | h t ih =>
 intro hs u
 have hlen:=hs.len
 rw [cmpT_eq]
 refine cB func102 ?_
 refine sR q5t ?_
 refine kR q5t fun K1 u1=>?_
 refine AWp.ifRetK rfl u1 (fun hc=>?_) (fun hc=>?_)
 ·refine sC (ok_Compare t.name u.name) q5t ?_
  rw [if_pos (fun h=>(by simpa using hc:¬ t.name=u.name) (cmpS_zero.1 h))]
  exact aR
 clear u1 K1
 have hnm:t.name=u.name:=by simpa using hc
 rw [if_neg (by rw [hnm];simp [cmpS_refl])]
 refine kR q5t fun K1 u1=>?_
 have fin:∀ (j:Nat) sl bx,sle sl [(2,.box 2 0),(3,.box 3 0)]→ble bx [(2,.cells [.d (.str t.name),tysV t.args,intV t.pos]),(3,.cells [.d (.str u.name),tysV u.args,intV u.pos])]→j≤t.args.length→j≤u.args.length→(t.args.length=j∨u.args.length=j)→cmpTL (t.args.drop j) (u.args.drop j)=cmpTL t.args u.args→K1 sl bx:=by
  intro j sl bx h1 h2 hj1 hj2 hor hI
  refine u1 _ _ (AWp.weaken h1 h2 ?_)
  clear u1 K1
  refine kR q5t fun K1 u1=>?_
  refine AWp.ifRetK rfl u1 (fun hc=>?_) (fun hc=>?_)
  ·refine sR q5t ?_
   have:cmpTL t.args u.args = -1:=by
    rw [← hI]
    have hc:t.args.length < u.args.length:=by simpa using hc
    have:t.args.length=j:=by omega
    rw [List.drop_eq_nil_of_le (by omega),List.drop_eq_getElem_cons (show j < u.args.length by omega),cmpTL]
   rw [this]
   exact aR
  clear u1 K1
  refine kR q5t fun K1 u1=>?_
  refine AWp.ifRetK rfl u1 (fun hc2=>?_) (fun hc2=>?_)
  ·refine sR q5t ?_
   have:cmpTL t.args u.args=1:=by
    rw [← hI]
    have hc:u.args.length < t.args.length:=by simpa using hc2
    rw [List.drop_eq_getElem_cons (show j < t.args.length by omega),List.drop_eq_nil_of_le (show u.args.length≤j by omega),cmpTL]
   rw [this]
   exact aR
  clear u1 K1
  refine sR q5t ?_
  have:cmpTL t.args u.args=0:=by
   rw [← hI]
   have h1:u.args.length≤t.args.length:=by simpa using hc
   have h2:t.args.length≤u.args.length:=by simpa using hc2
   rw [List.drop_eq_nil_of_le (by omega),List.drop_eq_nil_of_le (by omega),cmpTL]
  rw [this]
  exact aR
 refine AWp.block (AWp.forIdx t.args (X:=Unit) (fun j _=>[(2,.box 2 0),(3,.box 3 0),(5,intV j)]) (fun _ _=>[(2,.cells [.d (.str t.name),tysV t.args,intV t.pos]),(3,.cells [.d (.str u.name),tysV u.args,intV u.pos])])
  (fun j _=>j≤u.args.length∧cmpTL (t.args.drop j) (u.args.drop j)=cmpTL t.args u.args) () (by simp) sS (by simp [ble,bget,exC,tyC,foC,paC,siC,deC,prC]) ?_ ?_)
 ·rintro _ ⟨hj,hI⟩
  refine kR1 Int.lt_irrefl q5t fun K2 u2=>?_
  refine AWp.stopK rfl ?_
  simp only [thenA,blockA,if_true]
  exact fin t.args.length _ _ sS (by simp [ble,bget,exC,tyC,foC,paC,siC,deC,prC]) (Nat.le_refl _) hj (.inl rfl) hI
 ·rintro j _ d hd hmem dp tk hlt ⟨hj,hI⟩
  refine sK fun K2 u2=>?_
  by_cases hjm:(j:Int) < (u.args.length:Int)
  ·obtain⟨e,he⟩:∃ e,u.args[j]? = some e:=⟨_,List.getElem?_eq_getElem (by omega)⟩
   have hdm:u.args.drop j=e::u.args.drop (j+1):=by
    rw [List.drop_eq_getElem_cons (by omega)]
    rw [List.getElem?_eq_getElem (by omega)] at he
    simp only [Option.some.injEq] at he
    rw [he]
   rw [dp,hdm,cmpTL] at hI
   refine sR2 hlt hjm q5t ?_
   refine gI u2 ?_
   clear u2 K2
   refine sK fun K2 u2=>?_
   refine AWp.block ?_
   (refine sG q5t [] 10 [] fun K z=>?_;refine ev ?_;refine ci (tyR_get hd) ?_;refine ci (tyR_get he) ?_;refine cc (ih d hmem (hs.arg d hmem) e) ?_;apply z;clear z K)
   refine sR q5t ?_
   refine AWp.cond rfl (fun hc=>?_) (fun hc=>?_)
   ·refine sR q5t ?_
    rw [if_pos (by simpa using hc)] at hI
    rw [← hI]
    exact aR
   rw [if_neg (by simpa using hc)] at hI
   refine AWp.skip (u2 _ _ ?_)
   clear u2 K2
   (refine lV q5t fun K z=>?_;refine cl ?_;apply z;clear z K;try simp only [thenA,blockA,if_true])
   exact⟨(),⟨by omega,hI⟩,sS,(by simp [ble,bget,exC,tyC,foC,paC,siC,deC,prC])⟩
  ·refine sR2 hlt hjm q5t ?_
   refine AWp.stopK rfl ?_
   simp only [thenA,blockA,if_true]
   exact fin j _ _ sS (by simp [ble,bget,exC,tyC,foC,paC,siC,deC,prC]) (by omega) hj (.inr (by omega)) hI
theorem ok_RSameL (t u:Ty)(hs:t.Lm):CallOK prog 51 [tyV t,tyV u] (boolV (sameT t u)):=by
 unfold sameT
 refine cB func51 ?_
 refine sR [0,1,2,3,4] ?_
 refine sC (ok_RCompareL t hs u) [0,1,2,3,4] ?_
 exact aR
theorem ok_RSame (t u:Ty)(hs:t.Sm):CallOK prog 51 [tyV t,tyV u] (boolV (sameT t u)):=ok_RSameL t u hs.lm
abbrev exS (e:Ex):List SV:=[.d (.int .i64 e.kind),.d (.str e.name),.d (.str e.type.name),.d (.slice (tyR e.type.args)),.d (.int .i64 e.type.pos),.d (.slice (tyR e.targs)),.d (.slice (exR e.kids)),.d (.int .i64 e.pos)]
def sameTL:List Ty→List Ty→Bool
 | [],[]=>true
 | x::xs,y::ys=>sameT x y && sameTL xs ys
 | _,_=>false
theorem sameTL_len:∀ {l m:List Ty},sameTL l m=true→l.length=m.length
 | [],[],_=>rfl
 | x::xs,y::ys,h=>by
  simp only [sameTL,Bool.and_eq_true] at h
  simp [sameTL_len h.2]
 | [],_::_,h=>by simp [sameTL] at h
 | _::_,[],h=>by simp [sameTL] at h
mutual
def sameE:Ex→Ex→Bool
 | .mk k n t a ks _,u=>decide (k=u.kind) && decide (n=u.name) && sameT t u.type && sameTL a u.targs && sameEL ks u.kids
def sameEL:List Ex→List Ex→Bool
 | [],[]=>true
 | x::xs,y::ys=>sameE x y && sameEL xs ys
 | _,_=>false
end
theorem sameE_eq (e u:Ex):sameE e u=(decide (e.kind=u.kind) && decide (e.name=u.name) && sameT e.type u.type && sameTL e.targs u.targs && sameEL e.kids u.kids):=by
 cases e with | mk k n t a ks p=>rw [sameE];rfl
theorem sameEL_len:∀ {l m:List Ex},sameEL l m=true→l.length=m.length
 | [],[],_=>rfl
 | x::xs,y::ys,h=>by
  rw [sameEL,Bool.and_eq_true] at h
  simp [sameEL_len h.2]
 | [],_::_,h=>by simp [sameEL] at h
 | _::_,[],h=>by simp [sameEL] at h
theorem drop_get {α:Type} {l:List α} {j:Nat} (h:j < l.length):∃ e,l[j]? = some e∧l.drop j=e::l.drop (j+1):=⟨l[j],List.getElem?_eq_getElem h,List.drop_eq_getElem_cons h⟩
abbrev q6t:List Nat:=[0,1,4,5,10,14,26]
theorem ok_sameTypesL (l m:List Ty)(hl:l.length≤sm)(hs:∀ t,t∈l→t.Lm):CallOK prog 133 [tysV l,tysV m] (boolV (sameTL l m)):=by
 refine cB func133 ?_
 refine sR q6t ?_
 refine kR q6t fun K1 u1=>?_
 refine AWp.ifRetK rfl u1 (fun hc=>?_) (fun hc=>?_)
 ·refine sR q6t ?_
  have:sameTL l m=false:=by
   cases h:sameTL l m with
   | false=>rfl
   | true=>have:=sameTL_len h;simp [this] at hc
  rw [this]
  exact aR
 clear u1 K1
 have hlm:l.length=m.length:=by
  have:(l.length:Int)=m.length:=by simpa using hc
  omega
 refine kR q6t fun K1 u1=>?_
 refine AWp.block (AWp.forIdx l (X:=Unit) (fun j _=>[(0,tysV l),(1,tysV m),(5,intV j)]) (fun _ _=>[])
  (fun j _=>sameTL (l.drop j) (m.drop j)=sameTL l m) () (by simp) sS (by simp [ble,bget,exC,tyC,foC,paC,siC,deC,prC]) ?_ ?_)
 ·intro _ hI
  refine kR1 Int.lt_irrefl q6t fun K2 u2=>?_
  refine AWp.stopK rfl ?_
  simp only [thenA,blockA,if_true]
  refine u1 _ _ ?_
  refine sR q6t ?_
  rw [List.drop_length,hlm,List.drop_length] at hI
  rw [← hI]
  exact aR
 ·intro j _ d hd hmem dp tk hlt hI
  obtain⟨e,he,hdm⟩:=drop_get (l:=m) (j:=j) (by omega)
  rw [dp,hdm,sameTL] at hI
  refine kR1 hlt q6t fun K2 u2=>?_
  refine gI u2 ?_
  clear u2 K2
  refine sK fun K2 u2=>?_
  refine AWp.block ?_
  (refine sG q6t [] 8 [] fun K z=>?_;refine ev ?_;refine ci (tyR_get hd) ?_;refine ci (tyR_get he) ?_;refine cc (ok_RSameL d e (hs d hmem)) ?_;apply z;clear z K)
  refine AWp.cond rfl (fun hc=>?_) (fun hc=>?_)
  ·refine sR q6t ?_
   simp only [Bool.not_eq_true'] at hc
   rw [hc,Bool.false_and] at hI
   rw [← hI]
   exact aR
  simp only [Bool.not_eq_false'] at hc
  rw [hc,Bool.true_and] at hI
  refine AWp.skip (u2 _ _ ?_)
  clear u2 K2
  (refine lV q6t fun K z=>?_;refine cl ?_;apply z;clear z K;try simp only [thenA,blockA,if_true])
  exact⟨(),hI,sS,(by simp [ble,bget,exC,tyC,foC,paC,siC,deC,prC])⟩
inductive Ex.Lm:Ex→Prop where
 | mk (k:Int) (n:Str) (t:Ty) (a:List Ty) (ks:List Ex) (p:Int):t.Lm→a.length≤sm→(∀ t,t∈a→t.Lm)→ks.length≤sm→(∀ e,e∈ks→Ex.Lm e)→Ex.Lm (.mk k n t a ks p)
theorem Ex.Lm.type {e:Ex} (h:e.Lm):e.type.Lm:=by cases h;assumption
theorem Ex.Lm.targs {e:Ex} (h:e.Lm):e.targs.length≤sm∧∀ t,t∈e.targs→t.Lm:=by cases h;exact⟨by assumption,by assumption⟩
theorem Ex.Lm.kids {e:Ex} (h:e.Lm):e.kids.length≤sm∧∀ t,t∈e.kids→t.Lm:=by cases h;exact⟨by assumption,by assumption⟩
theorem Ex.Sm.lm:∀ {e:Ex},e.Sm→e.Lm:=by
 intro e
 induction e using Ex.induct with
 | h e ih =>
 intro h
 obtain⟨k,n,t,a,ks,p⟩:=e
 exact .mk k n t a ks p h.type.lm h.targs.1 (fun u hu=>(h.targs.2 u hu).lm) h.kids.1 fun u hu=>ih u hu (h.kids.2 u hu)
abbrev q7t:List Nat:=[0,1,2,3,4,5,42,47,61]
theorem ok_RefSameL:∀ (a:Ex),a.Lm→∀ b:Ex,CallOK prog 70 [exV a,exV b] (boolV (sameE a b)):=by
 intro a
 induction a using Ex.induct with
 | h a ih =>
 intro hs b
 have hkl:=hs.kids.1
 have hst:=ok_sameTypesL a.targs b.targs hs.targs.1 hs.targs.2
 have hsm:=ok_RSameL a.type b.type hs.type
 rw [sameE_eq]
 refine cB func70 ?_
 refine sR q7t ?_
 refine sK fun K1 u1=>?_
 by_cases h1:a.kind=b.kind
 ·by_cases h2:a.name=b.name
  ·rcases Bool.eq_false_or_eq_true (sameT a.type b.type) with h3 | h3
   ·rw [h3] at hsm
    rcases Bool.eq_false_or_eq_true (sameTL a.targs b.targs) with h4 | h4
    ·rw [h4] at hst
     (refine sQ q7t fun K z=>?_;refine ev2 h1 h2 ?_;refine⟨_,.inl ⟨_,rfl,hsm,rfl⟩,?_⟩;(try refine ev2 h1 h2 ?_);refine⟨_,.inl ⟨_,rfl,hst,rfl⟩,?_⟩;(try refine ev2 h1 h2 ?_);apply z;clear z K)
     refine AWp.ifRetK rfl u1 (fun hc=>?_) (fun hc=>?_)
     ·refine sR q7t ?_
      have:sameEL a.kids b.kids=false:=by
       cases h:sameEL a.kids b.kids with
       | false=>rfl
       | true=>have:=sameEL_len h;simp [this] at hc
      rw [this,Bool.and_false]
      exact aR
     clear u1 K1
     simp only [h1,h2,h3,h4,decide_true,Bool.true_and]
     have hlm:a.kids.length=b.kids.length:=by
      have:(a.kids.length:Int)=b.kids.length:=by simpa using hc
      omega
     refine kR q7t fun K1 u1=>?_
     refine AWp.block (AWp.forIdx a.kids (X:=Unit) (fun j _=>[(2,.box 2 0),(3,.box 3 0),(5,intV j)]) (fun _ _=>[(2,.cells (exS a)),(3,.cells (exS b))])
      (fun j _=>sameEL (a.kids.drop j) (b.kids.drop j)=sameEL a.kids b.kids) () (by simp) sS (by simp [ble,bget,h1,h2]) ?_ ?_)
     ·intro _ hI
      refine kR1 Int.lt_irrefl q7t fun K2 u2=>?_
      refine AWp.stopK rfl ?_
      simp only [thenA,blockA,if_true]
      refine u1 _ _ ?_
      refine sR q7t ?_
      rw [List.drop_length,hlm,List.drop_length] at hI
      rw [← hI,sameEL]
      exact aR
     ·intro j _ d hd hmem dp tk hlt hI
      obtain⟨e,he,hdm⟩:=drop_get (l:=b.kids) (j:=j) (by omega)
      rw [dp,hdm,sameEL] at hI
      refine kR1 hlt q7t fun K2 u2=>?_
      refine gI u2 ?_
      clear u2 K2
      refine sK fun K2 u2=>?_
      refine AWp.block ?_
      (refine sG q7t [] 10 [] fun K z=>?_;refine ev ?_;refine ci (exR_get hd) ?_;refine ci (exR_get he) ?_;refine cc (ih d hmem (hs.kids.2 d hmem) e) ?_;apply z;clear z K)
      refine AWp.cond rfl (fun hc=>?_) (fun hc=>?_)
      ·refine sR q7t ?_
       simp only [Bool.not_eq_true'] at hc
       rw [hc,Bool.false_and] at hI
       rw [← hI]
       exact aR
      simp only [Bool.not_eq_false'] at hc
      rw [hc,Bool.true_and] at hI
      refine AWp.skip (u2 _ _ ?_)
      clear u2 K2
      (refine lV q7t fun K z=>?_;refine cl ?_;apply z;clear z K;try simp only [thenA,blockA,if_true])
      exact⟨(),hI,sS,(by simp [ble,bget,exC,tyC,foC,paC,siC,deC,prC])⟩
    ·rw [h4] at hst
     (refine sQ q7t fun K z=>?_;refine ev2 h1 h2 ?_;refine⟨_,.inl ⟨_,rfl,hsm,rfl⟩,?_⟩;(try refine ev2 h1 h2 ?_);refine⟨_,.inl ⟨_,rfl,hst,rfl⟩,?_⟩;(try refine ev2 h1 h2 ?_);apply z;clear z K)
     refine tI ?_
     refine sR q7t ?_
     simp only [h1,h2,h3,h4,decide_true,Bool.true_and,Bool.false_and]
     exact aR
   ·rw [h3] at hsm
    (refine sQ q7t fun K z=>?_;refine ev2 h1 h2 ?_;refine⟨_,.inl ⟨_,rfl,hsm,rfl⟩,?_⟩;(try refine ev2 h1 h2 ?_);apply z;clear z K)
    refine tI ?_
    refine sR q7t ?_
    simp only [h1,h2,h3,decide_true,Bool.true_and,Bool.false_and]
    exact aR
  ·refine sR2 h1 h2 q7t ?_
   refine tI ?_
   refine sR q7t ?_
   simp only [h1,h2,decide_true,decide_false,Bool.true_and,Bool.false_and]
   exact aR
 ·refine sR1 h1 q7t ?_
  refine tI ?_
  refine sR q7t ?_
  simp only [h1,decide_false,Bool.false_and]
  exact aR
theorem ok_RefSame (a:Ex)(h:a.Sm)(b:Ex):CallOK prog 70 [exV a,exV b] (boolV (sameE a b)):=ok_RefSameL a h.lm b
def findV (env:List Formal)(t:Ty):Int:=if t.args.length=0 then idxF (fun f=>decide (f.name=t.name)) env else -1
abbrev q8t:List Nat:=[0,1,3,4,5,15,25]
theorem ok_RefFind (env:List Formal)(t:Ty)(hl:env.length≤sm):CallOK prog 96 [.d (.slice (foR env)),tyV t] (intV (findV env t)):=by
 unfold findV
 refine cB func96 ?_
 refine sR q8t ?_
 refine kR q8t fun K1 u1=>?_
 have fin:∀ sl bx,(if t.args.length=0 then idxF (fun f=>decide (f.name=t.name)) env else -1) = -1→K1 sl bx:=by
  intro sl bx h
  refine u1 _ _ ?_
  refine sR q8t ?_
  rw [h]
  exact aR
 by_cases ha:t.args.length=0
 ·have ha':(t.args.length:Int)=0:=by omega
  refine AWp.block (AWp.forIdx env (X:=Unit) (fun j _=>[(0,.d (.slice (foR env))),(3,.box 3 0),(5,intV j)]) (fun _ _=>[(3,.cells [.d (.str t.name),tysV t.args,intV t.pos])])
   (fun j _=>∀ y,y∈env.take j→(fun f:Formal=>decide (f.name=t.name)) y=false) () (by simp) sS (by simp [ble,bget,exC,tyC,foC,paC,siC,deC,prC]) ?_ ?_)
  ·intro _ hI
   refine kR1 Int.lt_irrefl q8t fun K2 u2=>?_
   refine AWp.stopK rfl ?_
   simp only [thenA,blockA,if_true]
   rw [List.take_length] at hI
   exact fin _ _ (by rw [if_pos ha,idxF_none hI])
  ·intro j _ d hd hmem dp tk hlt hI
   refine kR2 hlt ha' q8t fun K2 u2=>?_
   refine gI u2 ?_
   clear u2 K2
   refine sK fun K2 u2=>?_
   refine AWp.block ?_
   (refine sG q8t [] 7 [] fun K z=>?_;refine ev ?_;refine ci (foR_get hd) ?_;apply z;clear z K)
   refine AWp.cond rfl (fun hc=>?_) (fun hc=>?_)
   ·refine sR q8t ?_
    rw [if_pos ha,idxF_some hd hc hI]
    exact aR
   refine AWp.skip (u2 _ _ ?_)
   clear u2 K2
   (refine lV q8t fun K z=>?_;refine cl ?_;apply z;clear z K;try simp only [thenA,blockA,if_true])
   refine⟨(),?_,sS,(by simp [ble,bget,exC,tyC,foC,paC,siC,deC,prC])⟩
   rw [tk]
   intro y hy
   rcases List.mem_append.1 hy with hy | hy
   ·exact hI y hy
   ·simp only [List.mem_cons,List.not_mem_nil,or_false] at hy
    rw [hy];exact hc
 ·have ha':¬ (t.args.length:Int)=0:=by omega
  refine AWp.block (AWp.forIdx ([]:List Nat) (X:=Unit) (fun j _=>[(0,.d (.slice (foR env))),(3,.box 3 0),(5,intV 0)]) (fun _ _=>[(3,.cells [.d (.str t.name),tysV t.args,intV t.pos])])
   (fun j _=>True) () trivial sS (by simp [ble,bget,exC,tyC,foC,paC,siC,deC,prC]) ?_ ?_)
  ·intro _ hI
   refine sK fun K2 u2=>?_
   by_cases he:(0:Int) < (env.length:Int)
   ·refine sR2 ha' he q8t ?_
    refine AWp.stopK rfl ?_
    simp only [thenA,blockA,if_true]
    exact fin _ _ (by rw [if_neg ha])
   ·refine sR2 ha' he q8t ?_
    refine AWp.stopK rfl ?_
    simp only [thenA,blockA,if_true]
    exact fin _ _ (by rw [if_neg ha])
  ·intro j _ d hd
   simp at hd
theorem ok_BoundC (t:Ty)(x:Formal):CallOK prog 247 [foV x,.dptr (tyC t) 0] (boolV (decide (x.name=t.name))):=by
 refine cB func247 ?_
 refine sR [0,1,2,3] ?_
 refine sR [0,1,2,3] ?_
 exact aR
def boundV (env:List Formal)(t:Ty):Option Ty:=if findV env t < 0 then none else (env[(findV env t).toNat]?).map (·.bound)
def bndV:Option Ty→SV
 | some b=>.tuple [tyV b,boolV true]
 | none=>.tuple [tyV (.mk [] [] 0),boolV false]
theorem findV_get {env:List Formal} {t:Ty} (h:¬ findV env t < 0):∃ f,env[(findV env t).toNat]? = some f∧(findV env t).toNat < env.length∧t.args.length=0:=by
 unfold findV idxF at h ⊢
 by_cases ha:t.args.length=0
 ·simp only [if_pos ha] at h ⊢
  cases hf:env.findIdx? (fun f=>decide (f.name=t.name)) with
  | none=>rw [hf] at h;simp at h
  | some i =>
   have:=(List.findIdx?_eq_some_iff_getElem.1 hf).1
   simp only [Int.toNat_natCast]
   exact⟨env[i],List.getElem?_eq_getElem this,this,ha⟩
 ·simp only [if_neg ha] at h;omega
abbrev q9t:List Nat:=[0,1,3,4,5,6,7,19]
theorem ok_Bound (env:List Formal)(t:Ty)(hl:env.length≤sm)(hs:∀ f,f∈env→f.Sm):CallOK prog 185 [.d (.slice (foR env)),tyV t] (bndV (boundV env t)):=by
 have hix:=ok_IndexFuncF 247 [.dptr (tyC t) 0] (fun x=>rfl) (fun f=>decide (f.name=t.name)) env hl (fun x _=>ok_BoundC t x)
 unfold boundV
 have hget:=@findV_get env t
 have hfv:t.args.length=0→findV env t=idxF (fun f=>decide (f.name=t.name)) env:=fun h=>by unfold findV;rw [if_pos h]
 have hfv2:¬ t.args.length=0→findV env t = -1:=fun h=>by unfold findV;rw [if_neg h]
 generalize findV env t=i at *
 generalize idxF (fun f:Formal=>decide (f.name=t.name)) env=i' at *
 refine cB func185 ?_
 refine sR q9t ?_
 refine sR q9t ?_
 refine AWp.freeze 3 rfl rfl ?_
 refine AWp.weaken (sl':=[(0,.d (.slice (foR env))),(3,.dptr (tyC t) 0),(4,.box 4 0),(6,.clo 247 [.dptr (tyC t) 0])]) (bx':=[(4,.cells [.d (.str []),.d .nil,.d (.int .i64 0)])])
  (by simp [subSl,SV.sub,SV.subL,sle,vle,sget,tyC]) (by simp [subBx,BoxC.sub,SV.subL,SV.sub,ble,bget,berase]) ?_
 refine sC hix q9t ?_
 refine sK fun K1 u1=>?_
 by_cases ha:t.args.length=0
 ·obtain rfl:=hfv ha
  have ha':¬ (0:Int) < (t.args.length:Int):=by omega
  refine sR1 ha' q9t ?_
  refine AWp.ifRetK rfl u1 (fun hc=>?_) (fun hc=>?_)
  ·refine sR q9t ?_
   rw [if_pos (by simpa using hc)]
   exact aR
  clear u1 K1
  have hc':¬ i < 0:=by simpa using hc
  obtain⟨f,hf,hlt,_⟩:=hget hc'
  have hmem:=List.mem_of_getElem? hf
  rw [if_neg hc',hf]
  have h0:0≤i:=by omega
  (refine sV q9t fun K z=>?_;refine ci (foR_get hf) ?_;refine cc (ok_Clone f.bound (hs f hmem).bound) ?_;apply z;clear z K)
  exact aR
 ·have ha':(0:Int) < (t.args.length:Int):=by omega
  rw [hfv2 ha]
  refine sR1 ha' q9t ?_
  refine tI ?_
  refine sR q9t ?_
  exact aR
def declT (p:Prog)(nm:Str):Option Decl:=p.decls.find? (fun d=>d.isT nm)
def formalsT (p:Prog)(nm:Str):List Formal:=match declT p nm with
 | some d=>d.formals
 | none=>[]
abbrev q1u:List Nat:=[0,1,2,4,5,10]
theorem ok_RefFormals (p:Prog)(nm:Str):CallOK prog 122 [prV p,strV nm] (.d (.slice (foR (formalsT p nm)))):=by
 refine CallB.bd (Enters.of func122 rfl (by decide)) fun hbd=>?_
 have hok:=prog_ok hbd.1
 have hl:=hok.decls.1
 refine cB func122 ?_
 refine sR q1u ?_
 refine sC (ok_Find p nm) q1u ?_
 refine sK fun K1 u1=>?_
 rcases findD_find nm p.decls 0 with ⟨h1,h2⟩ | ⟨k,d,h1,h2,h3⟩
 ·rw [h1]
  have hk:formalsT p nm=[]:=by simp [formalsT,declT,h2]
  refine sR q1u ?_
  refine tI ?_
  refine sR q1u ?_
  rw [hk]
  exact aR
 ·rw [h2]
  have hk:formalsT p nm=d.formals:=by simp [formalsT,declT,h3]
  have hge:¬ ((0+k:Nat):Int) < 0:=by omega
  have hkl:((0+k:Nat):Int).toNat=k:=by omega
  refine sR1 hge q1u ?_
  refine kI u1 ?_
  clear u1 K1
  (refine sQ q1u fun K z=>?_;refine ev1 hkl ?_;refine⟨by omega,_,deR_get h1,rfl,?_⟩;(try refine ev1 hkl ?_);apply z;clear z K)
  rw [hk]
  exact aR
def instB (p:Prog)(x:Ty)(k:Int):Bool:=decide (kindOf p x.name=k) && decide ((formalsT p x.name).length=x.args.length)
theorem ok_RefInstance (p:Prog)(x:Ty)(k:Int):CallOK prog 61 [prV p,tyV x,intV k] (boolV (instB p x k)):=by
 unfold instB
 have hf:=ok_RefFormals p x.name
 have hk:=ok_Kind p x.name
 generalize kindOf p x.name=k' at *
 generalize formalsT p x.name=l at *
 refine cB func61 ?_
 refine sR [0,1,2,3,4,6] ?_
 by_cases h1:k'=k
 ·have e1:((l.length:Int)=(x.args.length:Int))↔l.length=x.args.length:=by omega
  (refine sG [0,1,2,3,4,6] [] 15 [] fun K z=>?_;refine ev1 h1 ?_;refine⟨_,.inl ⟨_,rfl,hk,rfl⟩,?_⟩;(try refine ev1 h1 ?_);refine⟨_,.inl ⟨_,rfl,hf,rfl⟩,?_⟩;(try refine ev1 h1 ?_);apply z;clear z K)
  simp only [h1,e1,decide_true,Bool.true_and]
  exact aR
 ·(refine sG [0,1,2,3,4,6] [] 15 [] fun K z=>?_;refine ev1 h1 ?_;refine⟨_,.inl ⟨_,rfl,hk,rfl⟩,?_⟩;(try refine ev1 h1 ?_);apply z;clear z K)
  simp only [h1,decide_false,Bool.false_and]
  exact aR
mutual
def isVal:Ex→Bool
 | .mk k _ _ _ ks _=>isValL ks && decide (k=3)
def isValL:List Ex→Bool
 | []=>true
 | e::es=>isVal e && isValL es
end
abbrev q2u:List Nat:=[0,1,4,5,9,18]
theorem ok_RefFind12 (l:List Sig)(m:Str)(hl:l.length≤sm):CallOK prog 43 [.d (.slice (siR l)),strV m] (intV (idxF (fun s=>decide (s.name=m)) l)):=by
 refine cB func43 ?_
 refine sR q2u ?_
 refine kR q2u fun K1 u1=>?_
 refine AWp.block (AWp.forIdx l (X:=Unit) (fun j _=>[(0,.d (.slice (siR l))),(1,strV m),(5,intV j)]) (fun _ _=>[])
  (fun j _=>∀ y,y∈l.take j→(fun s:Sig=>decide (s.name=m)) y=false) () (by simp) sS (by simp [ble,bget,exC,tyC,foC,paC,siC,deC,prC]) ?_ ?_)
 ·intro _ hI
  rw [List.take_length] at hI
  refine kR1 Int.lt_irrefl q2u fun K2 u2=>?_
  refine AWp.stopK rfl ?_
  simp only [thenA,blockA,if_true]
  refine u1 _ _ ?_
  refine sR q2u ?_
  rw [idxF_none hI]
  exact aR
 ·intro j _ d hd hmem dp tk hlt hI
  refine kR1 hlt q2u fun K2 u2=>?_
  refine gI u2 ?_
  clear u2 K2
  refine sK fun K2 u2=>?_
  refine AWp.block ?_
  (refine sV q2u fun K z=>?_;refine ci (siR_get hd) ?_;apply z;clear z K)
  refine AWp.cond rfl (fun hc=>?_) (fun hc=>?_)
  ·refine sR q2u ?_
   rw [idxF_some hd hc hI]
   exact aR
  refine AWp.skip (u2 _ _ ?_)
  clear u2 K2
  (refine lV q2u fun K z=>?_;refine cl ?_;apply z;clear z K;try simp only [thenA,blockA,if_true])
  refine⟨(),?_,sS,(by simp [ble,bget,exC,tyC,foC,paC,siC,deC,prC])⟩
  rw [tk]
  intro y hy
  rcases List.mem_append.1 hy with hy | hy
  ·exact hI y hy
  ·simp only [List.mem_cons,List.not_mem_nil,or_false] at hy
   rw [hy];exact hc
theorem Inv.recell {C:Ctx} {S:Nat→Prop} {w:World} {β:Names} {bx:Boxes} {b:Nat} {cs cs':List SV} (h:Inv C S w β bx)(hb:(b,BoxC.cells cs)∈bx)(hr:∀ vs,RepL S w β cs vs→RepL S w β cs' vs) :
  Inv C S w β ((b,.cells cs')::berase b bx):=by
 have hmem:∀ k c,(k,c)∈(b,BoxC.cells cs')::berase b bx→(k=b∧c=.cells cs')∨(k≠b∧(k,c)∈bx):=by
  intro k c hk
  rcases List.mem_cons.1 hk with he | hk
  ·simp only [Prod.mk.injEq] at he;exact .inl he
  ·exact .inr (mem_berase.1 hk)
 exact { h with
  box:=fun k c hk=>by
   rcases hmem k c hk with ⟨rfl,rfl⟩ | ⟨_,hk⟩
   ·obtain⟨b',ty,vs,h1,h2,h3⟩:=h.box _ _ hb
    exact⟨b',ty,vs,h1,h2,hr vs h3⟩
   ·exact h.box k c hk
  priv:=fun k c hk=>by
   rcases hmem k c hk with ⟨rfl,rfl⟩ | ⟨_,hk⟩
   ·exact h.priv _ _ hb
   ·exact h.priv k c hk
  inj:=fun k c k' c' hk hk' b' h1 h2=>by
   rcases hmem k c hk with ⟨e1,e2⟩ | ⟨hn,hm⟩ <;> rcases hmem k' c' hk' with ⟨e3,e4⟩ | ⟨hn',hm'⟩
   ·rw [e1,e2,e3,e4];exact⟨rfl,rfl⟩
   ·rw [e1] at h1;exact absurd (h.inj _ _ _ _ hb hm' b' h1 h2).1.symm hn'
   ·rw [e3] at h2;exact absurd (h.inj _ _ _ _ hm hb b' h1 h2).1 hn
   ·exact h.inj _ _ _ _ hm hm' b' h1 h2
  one:=fun k Y st k' Y' st' hk hk'=>by
   rcases hmem _ _ hk with ⟨_,e2⟩ | ⟨_,hm⟩
   ·cases e2
   ·rcases hmem _ _ hk' with ⟨_,e4⟩ | ⟨_,hm'⟩
    ·cases e4
    ·exact h.one _ _ _ _ _ _ hm hm'
  frn:=fun k Y st hk=>by
   rcases hmem _ _ hk with ⟨_,e2⟩ | ⟨_,hm⟩
   ·cases e2
   ·have hold:∀ k' c',(k',c')∈(b,BoxC.cells cs')::berase b bx→∃ y,(k',y)∈bx:=fun k' c' hk'=>by
     rcases hmem _ _ hk' with ⟨rfl,_⟩ | ⟨_,hm'⟩
     ·exact⟨_,hb⟩
     ·exact⟨_,hm'⟩
    obtain⟨h1,h2,h3,h4,B,h5,h6⟩:=h.frn k Y st hm
    exact⟨h1,h2,h3,fun k' c' hk'=>(hold k' c' hk').elim fun y hy=>h4 k' y hy,B,h5,fun b' hb'=>⟨(h6 b' hb').1,(h6 b' hb').2.1,(h6 b' hb').2.2.1,fun k' c' hk'=>(hold k' c' hk').elim fun y hy=>(h6 b' hb').2.2.2 k' y hy⟩⟩ }
theorem AWp.promoteBox {ro:Option Nat} {P:Program} {n:Nat} {Q:Exit→SL→Boxes→Prop} {sl:SL} {bx:Boxes} {c:Code} (k sz b i:Nat) {cs:List SV} (hb:bget bx b=some (.cells cs))(hi:cs[i]? = some (.d .nil))(hbk:b≠k)
  (h:AWp ro P n c Q (purge1 k sl) ((b,.cells ((cs.map (spurge k)).set i (.acc k)))::berase b ((k,.rows sz [])::bpurge k (berase k bx)))) (hkf:k≤999999:=by decide):AWp ro P n c Q sl bx:=by
 intro C S w β a hs
 obtain⟨h1,h2⟩:=hs.inv.setNew (k:=k) (w':=w) (c:=.rows sz []) { base:=none,sz:=sz } hkf (by simp) (fun _ _ _=>rfl) rfl rfl rfl (Nat.le_refl _) (fun _=>boxOK_nil)
 have hmem:(b,BoxC.cells (cs.map (spurge k)))∈(k,BoxC.rows sz [])::bpurge k (berase k bx):=by
  refine List.mem_cons_of_mem _ ?_
  have:∀ {l:Boxes} {x:BoxC},(b,x)∈l→(b,x.purge k)∈bpurge k l:=by
   intro l
   induction l with
   | nil=>intro x hx;simp at hx
   | cons p l ih =>
    intro x hx
    obtain⟨q,y⟩:=p
    rcases List.mem_cons.1 hx with he | hx
    ·simp only [Prod.mk.injEq] at he;obtain⟨rfl,rfl⟩:=he;exact List.mem_cons_self ..
    ·exact List.mem_cons_of_mem _ (ih hx)
  exact this (mem_berase.2 ⟨hbk,mem_of_bget hb⟩)
 have h3:=h1.recell (cs':=(cs.map (spurge k)).set i (.acc k)) hmem (by
  intro vs hr
  refine⟨by simpa using hr.1,?_⟩
  intro j x v hx hv
  rw [List.getElem?_set] at hx
  split at hx
  ·rename_i hij
   subst hij
   split at hx
   ·simp only [Option.some.injEq] at hx;subst hx
    have:=hr.2 i (.d .nil) v (by simp [hi,spurge,SV.has]) hv
    cases this with
    | d _ _ hq =>
     cases hq
     have:=RepV.acc (S:=S) (w:=w) (β:=upd β k { base:=none,sz:=sz }) k
     rw [upd_same] at this
     exact this
   ·simp at hx
  ·exact hr.2 j x v hx hv)
 refine h C S w _ a ⟨h3,hs.size,hs.defers,?_⟩
 intro u
 rw [sget_purge1]
 exact (hs.slot u).purge h2
abbrev q3u:List Nat:=[0,1,2,3,6,7,8,9,10,20,29,33,53,67]
theorem ok_RSubstG (vars:List Str)(args:List Ty)(hC:∀ (i:Nat)(u:Ty),args[i]? = some u→CallOK prog 47 [tyV u,strsV [],tysV []] (tyV u)):∀ t:Ty,t.Sm→CallOK prog 47 [tyV t,strsV vars,tysV args] (tyV (t.subst vars args)):=by
 intro t
 induction t using Ty.induct with
 | h t ih =>
 intro hsm
 have hlen:=hsm.len
 refine CallB.bd (Enters.of func47 rfl (by decide)) fun hbd=>?_
 have hv:=(strs_ok hbd.2.1).1
 have heqn:=subst_eq vars args t
 refine cB func47 ?_
 refine sR q3u ?_
 refine kR q3u fun K1 u1=>?_
 have fin:(t.args.length=0∧0≤indexS t.name vars 0∧indexS t.name vars 0 < args.length)=False→∀ sl bx,sle sl [(1,strsV vars),(2,tysV args),(3,.box 3 0),(6,.box 6 0)] →
   ble bx [(3,.cells [.d (.str t.name),tysV t.args,intV t.pos]),(6,.cells [.d (.str []),.d .nil,.d (.int .i64 0)])]→K1 sl bx:=by
  intro hc sl bx h1 h2
  refine u1 _ _ (AWp.weaken h1 h2 ?_)
  clear u1 K1
  rw [if_neg (by rw [hc];exact id)] at heqn
  refine sR q3u ?_
  refine AWp.promoteBox 67 3 9 1 rfl rfl (by decide) ?_
  refine kR q3u fun K1 u1=>?_
  refine AWp.block (AWp.forIdx t.args (X:=Unit) (fun j _=>[(1,strsV vars),(2,tysV args),(3,.box 3 0),(6,.box 6 0),(9,.box 9 0),(10,intV j)])
   (fun j _=>[(3,.cells [.d (.str t.name),tysV t.args,intV t.pos]),(6,.cells [.d (.str []),.d .nil,.d (.int .i64 0)]),(9,.cells [.d (.str t.name),.acc 67,intV t.pos]),(67,.rows 3 (tyR ((t.args.take j).map (Ty.subst vars args))))])
   (fun j _=>True) () trivial sS (by simp [ble,bget,berase,tyR_map]) ?_ ?_)
  ·intro _ _
   rw [List.take_length]
   refine kR1 Int.lt_irrefl q3u fun K2 u2=>?_
   refine AWp.stopK rfl ?_
   simp only [thenA,blockA,if_true]
   refine u1 _ _ ?_
   refine sR q3u ?_
   rw [heqn]
   exact aR
  ·intro j _ d hd hmem dp tk hlt _
   rw [tk]
   refine kR1 hlt q3u fun K2 u2=>?_
   refine gI u2 ?_
   clear u2 K2
   refine sK fun K2 u2=>?_
   refine AWp.block ?_
   (refine lG q3u [] 11 [] fun K z=>?_;refine ev ?_;refine ci (tyR_get hd) ?_;refine cc (ih d hmem (hsm.arg d hmem)) ?_;refine⟨by simp,by simp only [List.length_map,List.length_take];unfold lim sm at *;omega,?_⟩;(try refine ev ?_);apply z;clear z K;try simp only [thenA,blockA,if_true])
   refine u2 _ _ ?_
   clear u2 K2
   (refine lV q3u fun K z=>?_;refine cl ?_;apply z;clear z K;try simp only [thenA,blockA,if_true])
   exact⟨(),trivial,sS,by simp [ble,bget,tyR_map,tyC]⟩
 by_cases ha:t.args.length=0
 ·have ha':(t.args.length:Int)=0:=by omega
  refine AWp.block (AWp.forIdx vars (X:=Unit) (fun j _=>[(1,strsV vars),(2,tysV args),(3,.box 3 0),(6,.box 6 0),(7,intV j)])
   (fun _ _=>[(3,.cells [.d (.str t.name),tysV t.args,intV t.pos]),(6,.cells [.d (.str []),.d .nil,.d (.int .i64 0)])])
   (fun j _=>indexS t.name (vars.drop j) j=indexS t.name vars 0) () rfl sS (by simp [ble,bget,exC,tyC,foC,paC,siC,deC,prC]) ?_ ?_)
  ·intro _ hI
   refine kR1 Int.lt_irrefl q3u fun K2 u2=>?_
   refine AWp.stopK rfl ?_
   simp only [thenA,blockA,if_true]
   rw [List.drop_length,indexS] at hI
   exact fin (by rw [← hI];simp) _ _ sS (by simp [ble,bget,exC,tyC,foC,paC,siC,deC,prC])
  ·intro j _ d hd hmem dp tk hlt hI
   rw [dp,indexS] at hI
   refine kR2 hlt ha' q3u fun K2 u2=>?_
   refine gI u2 ?_
   clear u2 K2
   refine sK fun K2 u2=>?_
   refine AWp.block ?_
   (refine sG q3u [] 6 [] fun K z=>?_;refine ev ?_;refine ci (strR_get hd) ?_;apply z;clear z K)
   refine AWp.cond rfl (fun hc=>?_) (fun hc=>?_)
   ·have hn:d=t.name:=by simpa using hc
    rw [if_pos hn.symm] at hI
    rw [← hI] at heqn
    have e0:(0:Int)≤(j:Int):=by omega
    refine kR q3u fun K3 u3=>?_
    refine AWp.ifRetK rfl u3 (fun hc2=>?_) (fun hc2=>?_)
    ·have hge:¬ (j:Int) < (args.length:Int):=by
      have:=hc2
      simp only [ge_iff_le,decide_eq_true_eq] at this
      omega
     rw [if_neg (fun h=>hge h.2.2),List.eq_nil_of_length_eq_zero ha] at heqn
     refine sR q3u ?_
     rw [heqn,show t.args=[] from List.eq_nil_of_length_eq_zero ha]
     exact aR
    clear u3 K3
    have hlt2:(j:Int) < (args.length:Int):=by
     have:=hc2
     simp only [ge_iff_le,decide_eq_false_iff_not] at this
     omega
    rw [if_pos ⟨ha,e0,hlt2⟩] at heqn
    have hx:args[j]? = some args[j]:=List.getElem?_eq_getElem (by omega)
    rw [Int.toNat_natCast,hx,Option.getD_some] at heqn
    generalize args[j]=u at *
    (refine sV q3u fun K z=>?_;refine ci (tyR_get hx) ?_;refine cc (hC _ u hx) ?_;apply z;clear z K)
    refine sR q3u ?_
    refine sR q3u ?_
    rw [heqn]
    exact aR
   ·have hn:¬ d=t.name:=by simpa using hc
    rw [if_neg (fun h=>hn h.symm)] at hI
    refine AWp.skip (u2 _ _ ?_)
    clear u2 K2
    (refine lV q3u fun K z=>?_;refine cl ?_;apply z;clear z K;try simp only [thenA,blockA,if_true])
    exact⟨(),hI,sS,(by simp [ble,bget,exC,tyC,foC,paC,siC,deC,prC])⟩
 ·have ha':¬ (t.args.length:Int)=0:=by omega
  have hno:(t.args.length=0∧0≤indexS t.name vars 0∧indexS t.name vars 0 < args.length)=False:=by simp [ha]
  refine AWp.block (AWp.forIdx ([]:List Nat) (X:=Unit) (fun j _=>[(1,strsV vars),(2,tysV args),(3,.box 3 0),(6,.box 6 0),(7,intV 0)])
   (fun _ _=>[(3,.cells [.d (.str t.name),tysV t.args,intV t.pos]),(6,.cells [.d (.str []),.d .nil,.d (.int .i64 0)])])
   (fun j _=>True) () trivial sS (by simp [ble,bget,exC,tyC,foC,paC,siC,deC,prC]) ?_ ?_)
  ·intro _ _
   refine sK fun K2 u2=>?_
   by_cases he:(0:Int) < (vars.length:Int)
   ·refine sR2 ha' he q3u ?_
    refine AWp.stopK rfl ?_
    simp only [thenA,blockA,if_true]
    exact fin hno _ _ sS (by simp [ble,bget,exC,tyC,foC,paC,siC,deC,prC])
   ·refine sR2 ha' he q3u ?_
    refine AWp.stopK rfl ?_
    simp only [thenA,blockA,if_true]
    exact fin hno _ _ sS (by simp [ble,bget,exC,tyC,foC,paC,siC,deC,prC])
  ·intro j _ d hd
   simp at hd
theorem ok_RClone (t:Ty)(h:t.Sm):CallOK prog 47 [tyV t,strsV [],tysV []] (tyV t):=by
 have:=ok_RSubstG [] [] (by simp) t h
 rw [subst_nil] at this
 exact this
theorem ok_RSubst (vars:List Str)(args:List Ty)(ha:∀ u,u∈args→u.Sm)(t:Ty)(h:t.Sm):CallOK prog 47 [tyV t,strsV vars,tysV args] (tyV (t.subst vars args)) :=
 ok_RSubstG vars args (fun i u hu=>ok_RClone u (ha u (List.mem_of_getElem? hu))) t h
end Go.Abs
