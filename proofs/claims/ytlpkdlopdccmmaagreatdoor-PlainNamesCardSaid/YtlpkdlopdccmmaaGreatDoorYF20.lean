/- table.Program -/
import Derived.Test.YtlpkdlopdccmmaaGreatDoorYS47
import Derived.Test.YtlpkdlopdccmmaaGreatDoorYAb4
namespace Go.Abs
set_option linter.unusedSimpArgs false
set_option linter.unusedVariables false
open Go Go.Proofs Tryz
set_option maxRecDepth 100000
set_option maxHeartbeats 1000000
theorem ok_TProgram (p:Prog)(h:p.Sm):CallOK prog 121 [.dptr (tabC p) 0] (prV p):=by
 refine cB func121 ?_
 refine sR [0,2,4] ?_
 refine kR [0,2,4] fun K1 u1=>?_
 refine AWp.condF rfl (AWp.skip (u1 _ _ ?_))
 clear u1 K1
 (refine sQ [0,2,4] fun K hK=>?_;simp -implicitDefEqProofs only [EV,Nat.reduceAdd,Nat.reduceEqDiff,Nat.reduceLeDiff,reduceCtorEq,TF30,TF139,tabC])
 refine⟨prV p,.inl ⟨_,rfl,ok_PClone p h,rfl⟩,?_⟩
 refine ev ?_
 (apply hK;clear hK K)
 exact aR
theorem key9 (s:Str)(h:s.length≤lim):KeyAt prog 9 (.str s):=by
 have hu:prog.underlying 9=some .string:=TF9.2.2.2.2.1
 refine⟨rfl,by simp [D.kv,D.lit,Lit.value,Value.formed,hu],?_⟩
 simp [D.kv,D.lit,D.lits,Lit.value,Value.cells,Program.keyLits,hu,ByteArray.size]
 unfold lim at h;unfold maxLen;omega
mutual
def Ty.gather (p:Prog):Ty→List (D × D)→List (D × D)
 | .mk n a _,m=>if kindOf p n=1 then Ty.gatherL p a (kput (.str n) (.bool true) m) else m
def Ty.gatherL (p:Prog):List Ty→List (D × D)→List (D × D)
 | [],m=>m
 | t::ts,m=>Ty.gatherL p ts (t.gather p m)
end
theorem Ty.gather_eq (p:Prog)(t:Ty)(m:List (D × D)):t.gather p m=if kindOf p t.name=1 then Ty.gatherL p t.args (kput (.str t.name) (.bool true) m) else m:=by cases t;rfl
theorem Ty.Sm.nameL {t:Ty} (h:t.Sm):t.name.length≤lim:=Nat.le_trans h.name (by decide)
mutual
theorem gather_keys {p:Prog}:∀ (t:Ty),t.Sm→∀ {m:List (D × D)},(∀ kv,kv∈m→KeyAt prog 9 kv.1)→∀ kv,kv∈t.gather p m→KeyAt prog 9 kv.1
 | .mk n a q,ht,m,hm=>by
  simp only [Ty.gather]
  split
  ·exact gatherL_keys a ht.arg (kput_keys hm (key9 n ht.nameL))
  ·exact hm
theorem gatherL_keys {p:Prog}:∀ (l:List Ty),(∀ t,t∈l→t.Sm)→∀ {m:List (D × D)},(∀ kv,kv∈m→KeyAt prog 9 kv.1)→∀ kv,kv∈Ty.gatherL p l m→KeyAt prog 9 kv.1
 | [],_,_,hm=>hm
 | t::ts,h,_,hm=>gatherL_keys ts (fun u hu=>h u (by simp [hu])) (gather_keys t (h t (by simp)) hm)
end
abbrev q1zx:List Nat:=[0,1,2,4,7,12,17,18,19,20,1000000]
theorem ok_gather (p:Prog)(h:p.Sm):∀ (t:Ty),t.Sm→∀ m,(∀ kv,kv∈m→KeyAt prog 9 kv.1) →
  CallB prog 292 [.dptr (tabC p) 0,tyV t,.mp 1000000] [(1000000,.map m)] (.tuple []) [(1000000,.map (t.gather p m))]:=by
 intro t
 induction t using Ty.induct with
 | h t ih =>
 intro ht m hm
 refine CallB.bd (Enters.of func292 rfl (by decide)) fun hbd=>?_
 have hok:=ty_ok hbd.2.1
 have hl:=ht.len
 have heqn:=Ty.gather_eq p t m
 refine bB func292 ?_
 refine sR q1zx ?_
 refine kC (ok_TKind p h t.name) q1zx fun K1 u1=>?_
 refine AWp.ifRetK rfl u1 (fun hc=>?_) (fun hc=>?_)
 ·rw [if_neg (by simpa using hc)] at heqn
  rw [heqn]
  exact AWp.ret ⟨_,by rw [results292];rfl,.inr rfl,by simp [ble,bget]⟩
 rw [if_pos (by simpa using hc)] at heqn
 clear hc
 have hk9:=key9 t.name hok.name
 (refine sV q1zx fun K z=>?_;refine⟨hm,hk9,?_⟩;(try refine ev ?_);apply z;clear z K)
 refine sR q1zx ?_
 refine AWp.block (AWp.forIdx t.args (fun j _=>[(0,.dptr (tabC p) 0),(2,.mp 1000000),(17,tysV t.args),(18,intV t.args.length),(19,intV j)]) (fun _ m'=>[(1000000,.map m')])
  (fun j m'=>(∀ kv,kv∈m'→KeyAt prog 9 kv.1)∧Ty.gatherL p (t.args.drop j) m'=t.gather p m) (kput (.str t.name) (.bool true) m) ⟨kput_keys hm hk9,by rw [heqn];rfl⟩ sS sB ?_ ?_)
 ·rintro m' ⟨h1,h2⟩
  rw [List.drop_length,Ty.gatherL] at h2
  refine sR1 Int.lt_irrefl q1zx ?_
  refine AWp.stop rfl ?_
  rw [← h2]
  simp only [thenA,blockA,if_true]
  exact⟨_,by rw [results292];rfl,.inr rfl,by simp [ble,bget]⟩
 ·rintro j m' x hx hmem dp _ hlt ⟨h1,h2⟩
  rw [dp,Ty.gatherL] at h2
  refine sR1 hlt q1zx ?_
  refine AWp.goOn rfl ?_
  refine sK fun K1 u1=>?_
  refine AWp.block ?_
  (refine sV q1zx fun K z=>?_;refine ci (tyR_get hx) ?_;apply z;clear z K)
  (refine lV q1zx fun K z=>?_;refine⟨_,_,_,rfl,(by rfl),ih x hmem (ht.arg x hmem) m' h1,(by rfl),?_⟩;(try refine ev ?_);apply z;clear z K;try simp only [thenA,blockA])
  refine u1 _ _ ?_
  clear u1 K1
  refine lT q1zx ?_
  exact⟨x.gather p m',⟨gather_keys x (ht.arg x hmem) h1,h2⟩,sS,sB⟩
def fieldsF (p:Prog)(nm:Str):List Decl→List Param
 | []=>[]
 | d::ds=>if d.kind=1∧d.name=nm∧kindOf p nm=1 then d.fields else fieldsF p nm ds
abbrev q1Ax:List Nat:=[0,1,4,6,9,10,11,12,29]
theorem ok_fields (p:Prog)(h:p.Sm)(nm:Str):CallOK prog 291 [.dptr (tabC p) 0,strV nm] (.d (.slice (paR (fieldsF p nm p.decls)))):=by
 have hlen:=h.decls.1
 refine cB func291 ?_
 refine sR q1Ax ?_
 refine kC (ok_TProgram p h) q1Ax fun K1 u1=>?_
 refine AWp.block (AWp.forIdx p.decls (X:=Unit) (fun j _=>[(0,.dptr (tabC p) 0),(1,strV nm),(9,.d (.slice (deR p.decls))),(10,intV p.decls.length),(11,intV j)]) (fun _ _=>[])
  (fun j _=>fieldsF p nm (p.decls.drop j)=fieldsF p nm p.decls) () rfl sS sB ?_ ?_)
 ·intro _ hI
  rw [List.drop_length,fieldsF] at hI
  refine sR1 Int.lt_irrefl q1Ax ?_
  refine AWp.stop rfl ?_
  simp only [thenA,blockA,if_true]
  refine u1 _ _ ?_
  refine sR q1Ax ?_
  rw [← hI]
  exact aR
 ·intro j _ d hd hmem dp _ hlt hI
  rw [dp,fieldsF] at hI
  refine sR1 hlt q1Ax ?_
  refine AWp.goOn rfl ?_
  refine sK fun K2 u2=>?_
  refine AWp.block ?_
  (refine sV q1Ax fun K z=>?_;refine ci (deR_get hd) ?_;apply z;clear z K)
  have nxt:¬ (d.kind=1∧d.name=nm∧kindOf p nm=1)→∀ sl bx,sle sl [(0,.dptr (tabC p) 0),(1,strV nm),(9,.d (.slice (deR p.decls))),(10,intV p.decls.length),(11,intV j)]→K2 sl bx:=by
   intro hn sl bx hs
   rw [if_neg hn] at hI
   refine u2 _ _ (AWp.weaken (bx':=[]) hs trivial ?_)
   clear u2 K2
   refine lT q1Ax ?_
   exact⟨(),hI,sS,sB⟩
  have hcase:(d.kind=1∧d.name=nm)∨¬ d.kind=1∨(d.kind=1∧¬ d.name=nm):=by
   by_cases h1:d.kind=1 <;> by_cases h2:d.name=nm <;> simp [h1,h2]
  rcases hcase with ⟨h1,h2⟩ | h1 | ⟨h1,h2⟩
  ·(refine sQ q1Ax fun K z=>?_;refine ev2 h1 h2 ?_;refine cc (ok_TKind p h nm) ?_;apply z;clear z K)
   refine AWp.cond rfl (fun hc=>?_) (fun hc=>?_)
   ·rw [if_pos ⟨h1,h2,by simpa using hc⟩] at hI
    refine sR q1Ax ?_
    rw [← hI]
    exact aR
   ·refine AWp.skip (nxt (by rintro⟨_,_,h3⟩;simp [h3] at hc) _ _ sS)
  ·refine sR1 h1 q1Ax ?_
   refine AWp.condF rfl (AWp.skip (nxt (by simp [h1]) _ _ sS))
  ·refine sR2 h1 h2 q1Ax ?_
   refine AWp.condF rfl (AWp.skip (nxt (by simp [h2]) _ _ sS))
def gatherF (p:Prog):List Param→List (D × D)→List (D × D)
 | [],m=>m
 | f::fs,m=>gatherF p fs (f.type.gather p m)
def contM (p:Prog)(nm:Str):List (D × D):=gatherF p (fieldsF p nm p.decls) []
theorem fieldsF_sm {p:Prog} {nm:Str}:∀ {ds:List Decl},(∀ d,d∈ds→d.Sm)→(fieldsF p nm ds).length≤sm∧∀ f,f∈fieldsF p nm ds→f.Sm
 | [],_=>by simp [fieldsF]
 | d::ds,h=>by
  simp only [fieldsF]
  split
  ·exact (h d (by simp)).fields
  ·exact fieldsF_sm fun x hx=>h x (by simp [hx])
abbrev q2Ax:List Nat:=[0,1,4,5,7,8,11,12,13,14]
theorem ok_contains (p:Prog)(h:p.Sm)(nm:Str):CallOK prog 277 [.dptr (tabC p) 0,strV nm] (.d (.map (contM p nm))):=by
 obtain⟨hlen,hsm⟩:=fieldsF_sm (p:=p) (nm:=nm) h.decls.2
 have hfd:=ok_fields p h nm
 unfold contM
 generalize fieldsF p nm p.decls=L at *
 refine cB func277 ?_
 refine sR q2Ax ?_
 refine sR q2Ax ?_
 refine kC hfd q2Ax fun K1 u1=>?_
 refine AWp.block (AWp.forIdx L (fun j _=>[(0,.dptr (tabC p) 0),(5,.mp 8),(11,.d (.slice (paR L))),(12,intV L.length),(13,intV j)]) (fun _ m=>[(8,.map m)])
  (fun j m=>(∀ kv,kv∈m→KeyAt prog 9 kv.1)∧gatherF p (L.drop j) m=gatherF p L []) [] ⟨by simp,rfl⟩ sS sB ?_ ?_)
 ·rintro m ⟨_,hI⟩
  rw [List.drop_length,gatherF] at hI
  refine sR1 Int.lt_irrefl q2Ax ?_
  refine AWp.stop rfl ?_
  simp only [thenA,blockA,if_true]
  refine u1 _ _ ?_
  refine sR q2Ax ?_
  rw [← hI]
  exact aR
 ·rintro j m f hf hmem dp _ hlt ⟨hm,hI⟩
  rw [dp,gatherF] at hI
  refine sR1 hlt q2Ax ?_
  refine AWp.goOn rfl ?_
  refine sK fun K2 u2=>?_
  refine AWp.block ?_
  (refine sV q2Ax fun K z=>?_;refine ci (paR_get hf) ?_;apply z;clear z K)
  (refine lV q2Ax fun K z=>?_;refine⟨_,_,_,rfl,(by rfl),ok_gather p h f.type (hsm f hmem).type m hm,(by rfl),?_⟩;(try refine ev ?_);apply z;clear z K;try simp only [thenA,blockA])
  refine u2 _ _ ?_
  clear u2 K2
  refine lT q2Ax ?_
  exact⟨_,⟨gather_keys f.type (hsm f hmem).type hm,hI⟩,sS,sB⟩
theorem ok_isNaN1 (s:Str):CallOK prog 221 [strV s] (boolV false):=by
 refine cB func221 ?_
 refine sR [0,2] ?_
 refine sR [0,2] ?_
 exact aR
theorem ok_isNaN2 (s:Str):CallOK prog 276 [strV s] (boolV false):=by
 refine cB func276 ?_
 refine sR [0,2] ?_
 refine sR [0,2] ?_
 exact aR
theorem ok_Less (a b:Str):CallOK prog 275 [strV a,strV b] (boolV (Op.bytesLess a b)):=by
 refine cB func275 ?_
 refine sR [0,1,4] ?_
 refine sC (ok_isNaN1 a) [0,1,4] ?_
 exact aR
abbrev q1Bx:List Nat:=[0,1,4,5,10,12,13,14,24]
theorem ok_Equal (a b:List Str):CallOK prog 13 [strsV a,strsV b] (boolV (decide (a=b))):=by
 refine CallB.bd (Enters.of func13 rfl (by decide)) fun hbd=>?_
 have hla:=(strs_ok hbd.1).1
 have hlb:=(strs_ok hbd.2.1).1
 refine cB func13 ?_
 refine sR q1Bx ?_
 refine kR q1Bx fun K1 u1=>?_
 refine AWp.ifRetK rfl u1 (fun hc=>?_) (fun hc=>?_)
 ·have hn:¬ a=b:=by rintro rfl;simp at hc
  refine sR q1Bx ?_
  rw [decide_eq_false hn]
  exact aR
 have hl:a.length=b.length:=by simp at hc;omega
 clear u1 K1
 refine kR q1Bx fun K1 u1=>?_
 refine AWp.block (AWp.forIdx a (X:=Unit) (fun j _=>[(0,strsV a),(1,strsV b),(12,intV a.length),(13,intV j)]) (fun _ _=>[]) (fun j _=>a.take j=b.take j) () (by simp) sS sB ?_ ?_)
 ·intro _ hI
  rw [List.take_length,hl,List.take_length] at hI
  refine sR1 Int.lt_irrefl q1Bx ?_
  refine AWp.stop rfl ?_
  simp only [thenA,blockA,if_true]
  refine u1 _ _ ?_
  refine sR q1Bx ?_
  rw [decide_eq_true hI]
  exact aR
 ·intro j _ x hx hmem _ tk hlt hI
  have hy:b[j]? = some b[j]:=List.getElem?_eq_getElem (by omega)
  have htb:b.take (j+1)=b.take j++[b[j]]:=List.take_succ_eq_append_getElem (by omega)
  generalize b[j]=y at *
  refine sR1 hlt q1Bx ?_
  refine AWp.goOn rfl ?_
  refine sK fun K2 u2=>?_
  refine AWp.block ?_
  refine sR q1Bx ?_
  (refine sG q1Bx [] 8 [] fun K z=>?_;refine ev ?_;refine ci (strR_get hx) ?_;refine ci (strR_get hy) ?_;apply z;clear z K)
  refine AWp.cond rfl (fun hc=>?_) (fun hc=>?_)
  ·have hn:¬ a=b:=by
    rintro rfl
    rw [hx] at hy
    simp only [Option.some.injEq] at hy
    subst hy
    simp at hc
   refine sR q1Bx ?_
   rw [decide_eq_false hn]
   exact aR
  ·refine AWp.skip ?_
   simp only [thenA,blockA]
   refine u2 _ _ ?_
   clear u2 K2
   (refine lV q1Bx fun K z=>?_;refine⟨by first | (unfold InR;omega) | (simp only [InR,lim] at *;omega),?_⟩;(try refine ev ?_);apply z;clear z K;try simp only [thenA,])
   exact⟨(),by rw [tk,htb,hI,show x=y by simpa using hc],sS,sB⟩
theorem bl_lt:∀ {a b:Str},Op.bytesLess a b=true↔a < b
 | [],[]=>by simp [Op.bytesLess]
 | [],_::_=>by simp [Op.bytesLess]
 | _::_,[]=>by simp [Op.bytesLess]
 | x::a,y::b=>by
  have ih:=bl_lt (a:=a) (b:=b)
  simp only [Op.bytesLess,Bool.or_eq_true,Bool.and_eq_true,decide_eq_true_eq,beq_iff_eq,ih,List.cons_lt_cons_iff]
theorem lt_tr {a b c:Str} (h:a < b)(k:b < c):a < c:=List.lt_trans h k
theorem lt_irr (a:Str):¬ a < a:=List.lt_irrefl a
theorem lt_tot {a b:Str} (h:¬ a < b)(k:¬ b < a):a=b:=List.le_antisymm (List.not_lt.1 k) (List.not_lt.1 h)
def Asc (l:List Str):Prop:=l.Pairwise fun a b=>a < b
theorem Asc.get {l:List Str} (h:Asc l) {i j:Nat} {a b:Str} (ha:l[i]? = some a)(hb:l[j]? = some b)(hij:i < j):a < b:=by
 obtain⟨h1,rfl⟩:=List.getElem?_eq_some_iff.1 ha
 obtain⟨h2,rfl⟩:=List.getElem?_eq_some_iff.1 hb
 exact List.pairwise_iff_getElem.1 h i j h1 h2 hij
def cntLt (s:Str)(l:List Str):Nat:=(l.takeWhile fun x=>decide (x < s)).length
theorem cntLt_is (s:Str):∀ (l:List Str)(i:Nat),i≤l.length→(∀ k x,k < i→l[k]? = some x→x < s)→(∀ x,l[i]? = some x→¬ x < s)→cntLt s l=i
 | [],i,h,_,_=>by simp at h;subst h;rfl
 | y::l,0,_,_,h2=>by simp [cntLt,h2 y rfl]
 | y::l,i+1,h,h1,h2=>by
  have:=cntLt_is s l i (by simpa using h) (fun k x hk hx=>h1 (k+1) x (by omega) (by simpa using hx)) (fun x hx=>h2 x (by simpa using hx))
  have hy:y < s:=h1 0 y (by omega) rfl
  unfold cntLt at *
  simp [hy,this]
theorem mid_u {m n:Nat} (h:m+n < 281474976710656):IntKind.i64.wrap ((IntKind.u64.wrap ((m:Int)+n)).fdiv (2 ^ min 1 IntKind.u64.bits))=(((m+n) / 2:Nat):Int):=by
 have h1:IntKind.u64.wrap ((m:Int)+n)=((m+n:Nat):Int):=by
  unfold IntKind.wrap
  simp [IntKind.signed,IntKind.bits]
  omega
 rw [h1]
 have h2:(2:Int) ^ min 1 IntKind.u64.bits=2:=by decide
 rw [h2]
 have h3:(((m+n:Nat):Int)).fdiv 2=(((m+n) / 2:Nat):Int):=by
  rw [Int.fdiv_eq_ediv_of_nonneg _ (by omega)];rfl
 rw [h3]
 exact wrap_i64 (by first | (unfold InR;omega) | (simp only [InR,sm,lim] at *;omega))
abbrev q2Bx:List Nat:=[0,1,4,5,6,7,8,9,15,27]
theorem ok_BS (l:List Str)(s:Str)(ha:Asc l):CallOK prog 245 [strsV l,strV s] (.tuple [intV (cntLt s l),boolV (decide (s∈l))]):=by
 refine CallB.bd (Enters.of func245 rfl (by decide)) fun hbd=>?_
 have hl:=(strs_ok hbd.1).1
 refine cB func245 ?_
 refine sR q2Bx ?_
 refine sR q2Bx ?_
 refine sR q2Bx ?_
 refine sK fun K1 u1=>?_
 refine AWp.block (AWp.loop (X:=Nat × Nat) (fun x=>[(0,strsV l),(1,strV s),(6,intV l.length),(7,intV x.1),(8,intV x.2)]) (fun _=>[])
  (fun x=>x.1≤x.2∧x.2≤l.length∧(∀ k y,k < x.1→l[k]? = some y→y < s)∧(∀ k y,x.2≤k→l[k]? = some y→¬ y < s)) (fun x=>x.2 - x.1) (0,l.length) ?_ ?_ ?_ ?_)
 ·refine⟨by simp,by simp,by simp,?_⟩
  intro k y hk hy
  have:=(List.getElem?_eq_some_iff.1 hy).1
  omega
 ·exact sS
 ·exact sB
 rintro⟨i,j⟩ ⟨h1,h2,h3,h4⟩
 simp only at h1 h2 h3 h4
 by_cases hlt:(i:Int) < (j:Int)
 ·refine kR1 hlt q2Bx fun K2 u2=>?_
  refine gI u2 ?_
  clear u2 K2
  refine AWp.block ?_
  have hlim:i+j < 281474976710656:=by unfold lim at hl;omega
  have hmj:(i+j) / 2 < j:=by omega
  have hmi:i≤(i+j) / 2:=by omega
  (refine sQ q2Bx fun K z=>?_;simp -implicitDefEqProofs only [EV,Nat.reduceEqDiff,Int.reduceLE,Int.reduceToNat,reduceCtorEq,TF3,TF200,mid_u hlim];refine⟨by first | (unfold InR;omega) | (simp only [InR,sm,lim] at *;omega),?_⟩;(try simp -implicitDefEqProofs only [EV,forall_const,implies_true,Nat.reduceAdd,Nat.reduceEqDiff,Nat.reduceBEq,Nat.reduceLeDiff,Nat.reduceSub,Nat.reduceMul,Int.reduceEq,Int.reduceLT,Int.reduceLE,Int.reduceSub,Int.reduceAdd,Int.reduceToNat,reduceCtorEq,Int.reduceNeg,TF3,TF4,TF9,TF42,TF200,mid_u hlim]);apply z;clear z K)
  generalize (i+j) / 2=m at *
  have hy:l[m]? = some l[m]:=List.getElem?_eq_getElem (by omega)
  generalize l[m]=y at *
  (refine sV q2Bx fun K z=>?_;refine ci (strR_get hy) ?_;refine cc (ok_Less y s) ?_;apply z;clear z K)
  refine AWp.cond rfl (fun hc=>?_) (fun hc=>?_)
  ·rw [bl_lt] at hc
   (refine lV q2Bx fun K z=>?_;refine cl ?_;apply z;clear z K;try simp only [thenA,blockA])
   refine⟨(m+1,j),⟨by simp only;omega,h2,?_,h4⟩,by simp only;omega,sS,sB⟩
   intro k x hk hx
   by_cases hkm:k=m
   ·subst hkm;rw [hx] at hy;simp only [Option.some.injEq] at hy;subst hy;exact hc
   ·exact lt_tr (ha.get hx hy (by simp only at hk;omega)) hc
  ·have hc:¬ y < s:=by rw [← bl_lt];simp [hc]
   (refine lV q2Bx fun K z=>?_;apply z;clear z K;try simp only [thenA,blockA])
   refine⟨(i,m),⟨hmi,by simp only;omega,h3,?_⟩,by simp only;omega,sS,sB⟩
   intro k x hk hx hxs
   by_cases hkm:k=m
   ·subst hkm;rw [hx] at hy;simp only [Option.some.injEq] at hy;subst hy;exact hc hxs
   ·exact hc (lt_tr (ha.get hy hx (by simp only at hk;omega)) hxs)
 ·have hij:i=j:=by omega
  subst hij
  have hcnt:=cntLt_is s l i h2 h3 (fun x hx=>h4 i x (Nat.le_refl _) hx)
  refine kR1 hlt q2Bx fun K2 u2=>?_
  refine AWp.stopK rfl ?_
  simp only [thenA,blockA,if_true]
  refine u1 _ _ ?_
  clear u1 K1 u2 K2
  rw [hcnt]
  by_cases hi:(i:Int) < (l.length:Int)
  ·have hy:l[i]? = some l[i]:=List.getElem?_eq_getElem (by omega)
   have hmem:=List.getElem_mem (h:=show i < l.length by omega)
   generalize l[i]=y at *
   by_cases hys:y=s
   ·subst hys
    (refine sQ q2Bx fun K z=>?_;refine ev1 hi ?_;refine ci (strR_get hy) ?_;apply z;clear z K)
    rw [decide_eq_true hmem]
    exact aR
   ·have hns:¬ s∈l:=by
     intro hm
     obtain⟨k,hk⟩:=List.mem_iff_getElem?.1 hm
     by_cases hki:k < i
     ·exact lt_irr _ (h3 k s hki hk)
     ·by_cases hke:k=i
      ·subst hke;rw [hk] at hy;simp only [Option.some.injEq] at hy;exact hys hy.symm
      ·exact h4 i y (Nat.le_refl _) hy (ha.get hy hk (by omega))
    (refine sQ q2Bx fun K z=>?_;refine ev1 hi ?_;refine⟨by omega,_,strR_get hy,rfl,?_⟩;(try refine ev1 hys ?_);refine ci (strR_get hy) ?_;refine cc (ok_isNaN2 y) ?_;apply z;clear z K)
    rw [decide_eq_false hns]
    exact aR
  ·have hns:¬ s∈l:=by
    intro hm
    obtain⟨k,hk⟩:=List.mem_iff_getElem?.1 hm
    have:=(List.getElem?_eq_some_iff.1 hk).1
    exact lt_irr _ (h3 k s (by omega) hk)
   refine sR1 hi q2Bx ?_
   rw [decide_eq_false hns]
   exact aR
def setD (l:List Str):List (D × D):=l.map fun s=>(.str s,.bool true)
def addS (l:List Str)(s:Str):List Str:=if s∈l then l else l++[s]
def sortS (l:List Str):List Str:=l.mergeSort fun a b=>decide (a≤b)
theorem kfind_setD (s:Str):∀ (l:List Str)(i:Nat),(s∈l→∃ j,l[j]? = some s∧kfind (D.str s).lits (setD l) i=some (i+j,.bool true))∧(s ∉ l→kfind (D.str s).lits (setD l) i=none)
 | [],i=>by simp [setD,kfind]
 | x::l,i=>by
  have ih:=kfind_setD s l (i+1)
  have he:setD (x::l)=(.str x,.bool true)::setD l:=rfl
  rw [he]
  simp only [kfind]
  by_cases hx:s=x
  ·subst hx
   refine⟨fun _=>⟨0,rfl,by simp⟩,fun h=>absurd (List.mem_cons_self ..) h⟩
  ·have hne:¬ (D.str s).lits=(D.str x).lits:=by simp [D.lits,D.lit,hx]
   rw [if_neg hne]
   refine⟨fun h=>?_,fun h=>ih.2 fun h'=>h (by simp [h'])⟩
   obtain⟨j,h1,h2⟩:=ih.1 ((List.mem_cons.1 h).resolve_left hx)
   exact⟨j+1,by simpa using h1,by rw [h2];congr 2;omega⟩
theorem kput_setD (s:Str)(l:List Str):kput (.str s) (.bool true) (setD l)=setD (addS l s):=by
 unfold kput addS
 by_cases h:s∈l
 ·obtain⟨j,h1,h2⟩:=(kfind_setD s l 0).1 h
  rw [h2,if_pos h]
  have hj:=(List.getElem?_eq_some_iff.1 h1).1
  have hjs:l[j]=s:=(List.getElem?_eq_some_iff.1 h1).2
  simp only [Nat.zero_add]
  apply List.ext_getElem?
  intro k
  by_cases hk:k=j
  ·subst hk
   rw [List.getElem?_set_self (by simpa [setD] using hj)]
   simp [setD,h1]
  ·rw [List.getElem?_set_ne (by omega)]
 ·rw [(kfind_setD s l 0).2 h,if_neg h]
  simp [setD]
theorem look_setD (s:Str)(l:List Str):lookV (.str s) (setD l) (.d (.bool false))=boolV (decide (s∈l)):=by
 unfold lookV
 by_cases h:s∈l
 ·obtain⟨j,h1,h2⟩:=(kfind_setD s l 0).1 h
  rw [h2];simp [ofD,h]
 ·rw [(kfind_setD s l 0).2 h];simp [h]
theorem addS_nodup {l:List Str} (s:Str)(h:l.Nodup):(addS l s).Nodup:=by
 unfold addS
 split
 ·exact h
 ·rename_i hs
  rw [List.nodup_append]
  exact⟨h,by simp,by rintro a ha b hb rfl;simp at hb;subst hb;exact hs ha⟩
theorem mem_addS {l:List Str} {s x:Str}:x∈addS l s↔x=s∨x∈l:=by
 unfold addS
 split
 ·constructor
  ·exact .inr
  ·rintro (rfl | h)
   ·assumption
   ·exact h
 ·simp [or_comm]
mutual
def Ty.gatherN (p:Prog):Ty→List Str→List Str
 | .mk n a _,m=>if kindOf p n=1 then Ty.gatherNL p a (addS m n) else m
def Ty.gatherNL (p:Prog):List Ty→List Str→List Str
 | [],m=>m
 | t::ts,m=>Ty.gatherNL p ts (t.gatherN p m)
end
mutual
theorem gather_set (p:Prog):∀ (t:Ty)(l:List Str),t.gather p (setD l)=setD (t.gatherN p l)
 | .mk n a _,l=>by
  simp only [Ty.gather,Ty.gatherN]
  split
  ·rw [kput_setD,gatherL_set p a]
  ·rfl
theorem gatherL_set (p:Prog):∀ (ts:List Ty)(l:List Str),Ty.gatherL p ts (setD l)=setD (Ty.gatherNL p ts l)
 | [],l=>rfl
 | t::ts,l=>by simp only [Ty.gatherL,Ty.gatherNL];rw [gather_set p t,gatherL_set p ts]
end
def gatherFN (p:Prog):List Param→List Str→List Str
 | [],m=>m
 | f::fs,m=>gatherFN p fs (f.type.gatherN p m)
theorem gatherF_set (p:Prog):∀ (fs:List Param)(l:List Str),gatherF p fs (setD l)=setD (gatherFN p fs l)
 | [],l=>rfl
 | f::fs,l=>by simp only [gatherF,gatherFN];rw [gather_set p f.type,gatherF_set p fs]
def contN (p:Prog)(nm:Str):List Str:=gatherFN p (fieldsF p nm p.decls) []
theorem contM_set (p:Prog)(nm:Str):contM p nm=setD (contN p nm):=gatherF_set p _ []
theorem Win.add {p:Prog} {l:List Str} {s:Str} (h:Win p l)(hs:kindOf p s=1):Win p (addS l s) :=
 ⟨addS_nodup s h.nodup,fun x hx=>by
  rcases mem_addS.1 hx with rfl | hx
  ·exact hs
  ·exact h.isS x hx⟩
mutual
theorem Win.gather {p:Prog}:∀ (t:Ty) {l:List Str},Win p l→Win p (t.gatherN p l)
 | .mk n a q,l,h=>by
  simp only [Ty.gatherN]
  split
  ·exact Win.gatherL a (h.add (by assumption))
  ·exact h
theorem Win.gatherL {p:Prog}:∀ (ts:List Ty) {l:List Str},Win p l→Win p (Ty.gatherNL p ts l)
 | [],_,h=>h
 | t::ts,_,h=>Win.gatherL ts (Win.gather t h)
end
theorem Win.gatherF {p:Prog}:∀ (fs:List Param) {l:List Str},Win p l→Win p (gatherFN p fs l)
 | [],_,h=>h
 | t::ts,_,h=>Win.gatherF ts (Win.gather t.type h)
theorem Win.contN (p:Prog)(nm:Str):Win p (contN p nm):=Win.gatherF _ (Win.nil p)
theorem sortS_perm (l:List Str):(sortS l).Perm l:=List.mergeSort_perm ..
theorem mem_sortS {l:List Str} {x:Str}:x∈sortS l↔x∈l:=(sortS_perm l).mem_iff
theorem sortS_len (l:List Str):(sortS l).length=l.length:=(sortS_perm l).length_eq
def SortedOK:Prop:=∀ l:List Str,l.Nodup→l.length≤sm→(∀ s,s∈l→s.length≤lim)→CallB prog 278 [.d (.map (setD l))] [] (.acc 0) [(0,.rows 1 (strR (sortS l)))]
theorem Win.names {p:Prog} (h:p.Sm) {l:List Str} (hw:Win p l):∀ s,s∈l→s.length≤lim:=by
 intro s hs
 obtain⟨d,hd,rfl⟩:=List.mem_map.1 (kindOf_mem (hw.isS s hs))
 exact Nat.le_trans (h.decls.2 d hd).name (by decide)
theorem SortedOK.win {p:Prog} (hs:SortedOK)(h:p.Sm) {l:List Str} (hw:Win p l):CallB prog 278 [.d (.map (setD l))] [] (.acc 0) [(0,.rows 1 (strR (sortS l)))] :=
 hs l hw.nodup (Nat.le_trans hw.len h.decls.1) (hw.names h)
def reachL (p:Prog):Nat→List Str→List Str→List Str
 | 0,_,out=>out
 | _+1,[],out=>out
 | n+1,s::op,out=>if s∈out then reachL p n op out else reachL p n (op++sortS (contN p s)) (addS out s)
def muR (N:Nat)(op out:List Str):Nat:=(N - out.length)*(N+1)+op.length
def reachN (p:Prog)(nm:Str):List Str:=reachL p (muR p.decls.length (sortS (contN p nm)) []) (sortS (contN p nm)) []
theorem muR_add {p:Prog} {s:Str} {op out:List Str} (hw:Win p (addS out s))(hs:s ∉ out):muR p.decls.length (op++sortS (contN p s)) (addS out s) < muR p.decls.length (s::op) out:=by
 have h1:=hw.len
 have h2:(addS out s).length=out.length+1:=by simp [addS,hs]
 have h3:=(Win.contN p s).len
 unfold muR
 rw [List.length_append,sortS_len,h2]
 rw [h2] at h1
 generalize p.decls.length=N at *
 obtain⟨q,hq⟩:∃ q,N=out.length+1+q:=⟨N - (out.length+1),by omega⟩
 rw [show N - (out.length+1)=q by omega,show N - out.length=q+1 by omega,Nat.add_mul]
 simp only [List.length_cons]
 omega
theorem strR_cons (s:Str)(l:List Str):strR (s::l)=[.str s]::strR l:=rfl
theorem setD_keys {l:List Str} (h:∀ s,s∈l→s.length≤lim):∀ kv,kv∈setD l→KeyAt prog 9 kv.1:=by
 intro kv hkv
 obtain⟨s,hs,rfl⟩:=List.mem_map.1 hkv
 exact key9 s (h s hs)
abbrev q1Dx:List Nat:=[0,1,2,4,5,6,7,8,11,15,18,26]
theorem ok_CReach (hs:SortedOK)(p:Prog)(h:p.Sm)(nm:Str):CallOK prog 246 [prV p,strV nm] (strsV (sortS (reachN p nm))):=by
 have hc:=fun s=>ok_contains p h s
 simp only [contM_set] at hc
 have hN:=h.decls.1
 refine cB func246 ?_
 refine sR q1Dx ?_
 refine sC (ok_New p h) q1Dx ?_
 refine sR q1Dx ?_
 (refine AWp.seqR q1Dx [15] (by decide +kernel) fun K z=>?_;refine ev ?_;refine cc (hc nm) ?_;refine⟨_,_,_,_,_,rfl,hs.win h (Win.contN p nm),?_⟩;(try refine ev ?_);apply z;clear z K)
 refine sK fun K1 u1=>?_
 refine AWp.block (AWp.loop (X:=Nat × List Str × List Str) (fun x=>[(5,.dptr (tabC p) 0),(6,.mp 11),(7,.acc 15)]) (fun x=>[(11,.map (setD x.2.2)),(15,.rows 1 (strR x.2.1))])
  (fun x=>Win p x.2.2∧(∀ s,s∈x.2.1→kindOf p s=1)∧muR p.decls.length x.2.1 x.2.2≤x.1∧x.1≤p.decls.length*(p.decls.length+1)+p.decls.length∧reachL p x.1 x.2.1 x.2.2=reachN p nm) (fun x=>x.1)
  (muR p.decls.length (sortS (contN p nm)) [],sortS (contN p nm),[]) ?_ ?_ ?_ ?_)
 ·refine⟨Win.nil p,fun s hs'=>(Win.contN p nm).isS s (mem_sortS.1 hs'),Nat.le_refl _,?_,rfl⟩
  have:=(Win.contN p nm).len
  simp only [muR,List.length_nil,sortS_len,Nat.sub_zero]
  omega
 ·exact sS
 ·simp [ble,bget,setD]
 rintro⟨n,op,out⟩ ⟨hw,hk,hmu,hn,hI⟩
 simp only at hw hk hmu hn hI
 cases op with
 | nil =>
  have hI:out=reachN p nm:=by rw [← hI];cases n <;> rfl
  refine sK fun K2 u2=>?_
  (refine sQ q1Dx fun K z=>?_;simp -implicitDefEqProofs only [EV,Nat.reduceEqDiff,reduceCtorEq,TF42,strR];apply z;clear z K)
  refine AWp.stopK rfl ?_
  simp only [thenA,blockA,if_true]
  refine u1 _ _ ?_
  clear u1 K1 u2 K2
  subst hI
  refine AWp.publishMap 11 rfl ?_
  refine sC ((hs.win h hw).pub) q1Dx ?_
  exact aR
 | cons s op =>
  have hpos:0 < n:=by simp only [muR,List.length_cons] at hmu;omega
  obtain⟨n,rfl⟩:∃ m,n=m+1:=⟨n - 1,by omega⟩
  rw [reachL] at hI
  have hks:=hk s (by simp)
  have hnames:=hw.names h
  have hsl:=hw.add (s:=s) hks |>.names h s (mem_addS.2 (.inl rfl))
  have hk9:=key9 s hsl
  have hkeys:=setD_keys hnames
  have hgt:0 < ((op.length+1:Nat):Int):=by omega
  refine kR1 hgt q1Dx fun K2 u2=>?_
  refine gI u2 ?_
  clear u2 K2
  refine AWp.block ?_
  (refine sQ q1Dx fun K z=>?_;simp -implicitDefEqProofs only [EV,Nat.reduceEqDiff,Int.reduceLE,Int.reduceToNat,reduceCtorEq,TF9,TF42,strR_cons];refine⟨by omega,?_⟩;(try simp -implicitDefEqProofs only [EV,forall_const,implies_true,Nat.reduceAdd,Nat.reduceEqDiff,Nat.reduceBEq,Nat.reduceLeDiff,Nat.reduceSub,Nat.reduceMul,Int.reduceEq,Int.reduceLT,Int.reduceLE,Int.reduceSub,Int.reduceAdd,Int.reduceToNat,reduceCtorEq,Int.reduceNeg,TF3,TF4,TF9,TF30,TF42,TF297,strR_cons]);apply z;clear z K)
  (refine sV q1Dx fun K z=>?_;refine⟨by omega,?_⟩;(try simp -implicitDefEqProofs only [EV,forall_const,implies_true,Nat.reduceAdd,Nat.reduceEqDiff,Nat.reduceBEq,Nat.reduceLeDiff,Nat.reduceSub,Nat.reduceMul,Int.reduceEq,Int.reduceLT,Int.reduceLE,Int.reduceSub,Int.reduceAdd,Int.reduceToNat,reduceCtorEq,Int.reduceNeg,TF3,TF4,TF9,TF30,TF42,TF297,strR_len,List.drop_one,List.tail_cons]);apply z;clear z K)
  refine sK fun K3 u3=>?_
  (refine sQ q1Dx fun K z=>?_;simp -implicitDefEqProofs only [EV,Nat.reduceEqDiff,reduceCtorEq,TF297,look_setD];refine⟨hkeys,hk9,?_⟩;(try simp -implicitDefEqProofs only [EV,forall_const,implies_true,Nat.reduceAdd,Nat.reduceEqDiff,Nat.reduceBEq,Nat.reduceLeDiff,Nat.reduceSub,Nat.reduceMul,Int.reduceEq,Int.reduceLT,Int.reduceLE,Int.reduceSub,Int.reduceAdd,Int.reduceToNat,reduceCtorEq,Int.reduceNeg,TF3,TF4,TF9,TF30,TF42,TF297,look_setD]);apply z;clear z K)
  by_cases hin:s∈out
  ·rw [if_pos hin] at hI
   refine AWp.condT (by simp [opnd,sget,hin]) (AWp.exit ?_)
   simp only [thenA,blockA,if_true]
   refine⟨(n,op,out),⟨hw,fun x hx=>hk x (by simp [hx]),?_,by simp only;omega,hI⟩,by simp only;omega,sS,sB⟩
   simp only [muR,List.length_cons] at hmu ⊢
   omega
  ·rw [if_neg hin] at hI
   refine AWp.condF (by simp [opnd,sget,hin]) (AWp.skip (u3 _ _ ?_))
   clear u3 K3
   have hmu2:=muR_add (hw.add hks) hin (op:=op)
   have hlen:(op++sortS (contN p s)).length≤sm*(sm+1)+sm:=by
    have h1:(op++sortS (contN p s)).length≤muR p.decls.length (op++sortS (contN p s)) (addS out s):=by unfold muR;omega
    have h2:p.decls.length*(p.decls.length+1)≤sm*(sm+1):=Nat.mul_le_mul hN (by omega)
    omega
   (refine sQ q1Dx fun K z=>?_;simp -implicitDefEqProofs only [EV,Nat.reduceEqDiff,reduceCtorEq,TF297,kput_setD];refine⟨hkeys,hk9,?_⟩;(try simp -implicitDefEqProofs only [EV,forall_const,implies_true,Nat.reduceAdd,Nat.reduceEqDiff,Nat.reduceBEq,Nat.reduceLeDiff,Nat.reduceSub,Nat.reduceMul,Int.reduceEq,Int.reduceLT,Int.reduceLE,Int.reduceSub,Int.reduceAdd,Int.reduceToNat,reduceCtorEq,Int.reduceNeg,TF3,TF4,TF9,TF30,TF42,TF297,kput_setD]);apply z;clear z K)
   (refine lV q1Dx fun K z=>?_;refine cc (hc s) ?_;refine cc ((hs.win h (Win.contN p s)).pub) ?_;refine⟨strR_row _,by rw [List.length_append] at hlen;simp only [sm,lim] at *;omega,?_⟩;(try simp -implicitDefEqProofs only [EV,forall_const,implies_true,Nat.reduceAdd,Nat.reduceEqDiff,Nat.reduceBEq,Nat.reduceLeDiff,Nat.reduceSub,Nat.reduceMul,Int.reduceEq,Int.reduceLT,Int.reduceLE,Int.reduceSub,Int.reduceAdd,Int.reduceToNat,reduceCtorEq,Int.reduceNeg,TF3,TF4,TF9,TF30,TF42,TF297,strR_len]);apply z;clear z K;try simp only [thenA,blockA])
   refine⟨(n,op++sortS (contN p s),addS out s),⟨hw.add hks,?_,by simp only;omega,by simp only;omega,hI⟩,by simp only;omega,sS,by simp [ble,bget,strR_append]⟩
   intro x hx
   rcases List.mem_append.1 hx with hx | hx
   ·exact hk x (by simp [hx])
   ·exact (Win.contN p s).isS x (mem_sortS.1 hx)
theorem reachL_win {p:Prog}:∀ (n:Nat) {op out:List Str},Win p out→(∀ s,s∈op→kindOf p s=1)→Win p (reachL p n op out)
 | 0,_,_,h,_=>h
 | _+1,[],_,h,_=>h
 | n+1,s::op,out,h,hk=>by
  simp only [reachL]
  split
  ·exact reachL_win n h fun x hx=>hk x (by simp [hx])
  ·refine reachL_win n (h.add (hk s (by simp))) fun x hx=>?_
   rcases List.mem_append.1 hx with hx | hx
   ·exact hk x (by simp [hx])
   ·exact (Win.contN p s).isS x (mem_sortS.1 hx)
theorem reachN_win (p:Prog)(nm:Str):Win p (reachN p nm):=reachL_win _ (Win.nil p) fun s hs=>(Win.contN p nm).isS s (mem_sortS.1 hs)
theorem sortS_asc {l:List Str} (h:l.Nodup):Asc (sortS l):=by
 have h1:(sortS l).Nodup:=(sortS_perm l).nodup_iff.2 h
 have h2:(sortS l).Pairwise fun a b=>decide (a≤b)=true:=List.pairwise_mergeSort (fun a b c h k=>by simp only [decide_eq_true_eq] at *;exact List.le_trans h k) (fun a b=>by
  simp only [Bool.or_eq_true,decide_eq_true_eq];exact List.le_total a b) l
 refine (h2.and h1).imp ?_
 rintro a b ⟨h3,h4⟩
 simp only [decide_eq_true_eq] at h3
 exact Classical.byContradiction fun hc=>h4 (List.le_antisymm h3 (List.not_lt.1 hc))
theorem ok_CRec (hs:SortedOK)(p:Prog)(h:p.Sm)(nm:Str):CallOK prog 189 [prV p,strV nm] (boolV (decide (nm∈reachN p nm))):=by
 have hb:=ok_BS (sortS (reachN p nm)) nm (sortS_asc (reachN_win p nm).nodup)
 have hd:decide (nm∈sortS (reachN p nm))=decide (nm∈reachN p nm):=by simp [mem_sortS]
 rw [hd] at hb
 refine cB func189 ?_
 refine sR [0,1,2,4,6] ?_
 (refine sV [0,1,2,4,6] fun K z=>?_;refine cc (ok_CReach hs p h nm) ?_;refine cc hb ?_;apply z;clear z K)
 refine sR [0,1,2,4,6] ?_
 exact aR
end Go.Abs
