/- several texts in one -/
import Derived.Test.YtaneedhchnaniaaGreatDoorQFA
namespace Go.Abs
set_option maxRecDepth 100000
set_option maxHeartbeats 1000000
set_option linter.unusedSimpArgs false
set_option linter.unusedVariables false
open Go Go.Proofs Tryz
mutual
def Ty.structs (p:Prog):Ty→List Str→List Str
 | .mk n a _,acc=>if kindOf p n=1 then Ty.structsL p a (putS acc n) else acc
def Ty.structsL (p:Prog):List Ty→List Str→List Str
 | [],acc=>acc
 | t::ts,acc=>Ty.structsL p ts (t.structs p acc)
end
structure Win (p:Prog)(l:List Str):Prop where
 nodup:l.Nodup
 isS:∀ s,s∈l→kindOf p s=1
theorem kindOf_mem {p:Prog} {s:Str} (h:kindOf p s=1):s∈p.decls.map Decl.name:=by
 unfold kindOf at h
 split at h
 ·rename_i d hd
  have h1:=List.mem_of_find?_eq_some hd
  have h2:=List.find?_some hd
  simp only [Decl.isT,Bool.and_eq_true,decide_eq_true_eq] at h2
  exact List.mem_map.2 ⟨d,h1,h2.2⟩
 ·simp at h
theorem nodup_len {α:Type} [DecidableEq α]:∀ {l m:List α},l.Nodup→(∀ x,x∈l→x∈m)→l.length≤m.length
 | [],_,_,_=>by simp
 | x::l,m,h,hs=>by
  have hx:=hs x (by simp)
  obtain⟨h1,h2⟩:=List.nodup_cons.1 h
  have h3:l.length≤(m.erase x).length:=nodup_len h2 fun y hy=>(List.mem_erase_of_ne (by rintro rfl;exact h1 hy)).2 (hs y (by simp [hy]))
  rw [List.length_erase_of_mem hx] at h3
  have:=List.length_pos_of_mem hx
  simp only [List.length_cons];omega
theorem Win.len {p:Prog} {l:List Str} (h:Win p l):l.length≤p.decls.length:=by
 have:=nodup_len h.nodup fun s hs=>kindOf_mem (h.isS s hs)
 simpa using this
theorem Win.nil (p:Prog):Win p []:=⟨by simp,by simp⟩
theorem mem_ins {s x:Str}:∀ {l:List Str},x∈ins s l↔x=s∨x∈l
 | []=>by simp [ins]
 | y::ys=>by
  simp only [ins]
  split
  ·simp
  ·simp only [List.mem_cons,mem_ins]
   constructor
   ·rintro (h | h | h) <;> simp [h]
   ·rintro (h | h | h) <;> simp [h]
theorem mem_putS {s x:Str} {l:List Str}:x∈putS l s↔x=s∨x∈l:=by
 unfold putS
 split
 ·constructor
  ·exact .inr
  ·rintro (rfl | h)
   ·assumption
   ·exact h
 ·exact mem_ins
theorem ins_perm (s:Str):∀ l:List Str,(ins s l).Perm (s::l)
 | []=>.refl _
 | y::ys=>by
  simp only [ins]
  split
  ·exact .refl _
  ·exact ((ins_perm s ys).cons y).trans (.swap s y ys)
theorem nodup_putS {s:Str} {l:List Str} (h:l.Nodup):(putS l s).Nodup:=by
 unfold putS
 split
 ·exact h
 ·rename_i hs
  rw [(ins_perm s l).nodup_iff]
  exact List.nodup_cons.2 ⟨hs,h⟩
theorem Win.put {p:Prog} {l:List Str} {s:Str} (h:Win p l)(hs:kindOf p s=1):Win p (putS l s) :=
 ⟨nodup_putS h.nodup,fun x hx=>by
  rcases mem_putS.1 hx with rfl | hx
  ·exact hs
  ·exact h.isS x hx⟩
mutual
theorem Win.structs {p:Prog}:∀ (t:Ty) {l:List Str},Win p l→Win p (t.structs p l)
 | .mk n a q,l,h=>by
  simp only [Ty.structs]
  split
  ·exact Win.structsL a (h.put (by assumption))
  ·exact h
theorem Win.structsL {p:Prog}:∀ (ts:List Ty) {l:List Str},Win p l→Win p (Ty.structsL p ts l)
 | [],_,h=>h
 | t::ts,_,h=>Win.structsL ts (Win.structs t h)
end
def fieldsS (p:Prog):List Param→List Str→List Str
 | [],acc=>acc
 | f::fs,acc=>fieldsS p fs (f.type.structs p acc)
def contS (p:Prog)(nm:Str)(acc:List Str):List Str:=match p.decls.find? (fun d=>d.isT nm) with
 | some d=>if d.kind=1 then fieldsS p d.fields acc else acc
 | none=>acc
theorem Win.fields {p:Prog}:∀ (fs:List Param) {l:List Str},Win p l→Win p (fieldsS p fs l)
 | [],_,h=>h
 | t::ts,_,h=>Win.fields ts (Win.structs t.type h)
theorem Win.cont {p:Prog} {l:List Str} (nm:Str)(h:Win p l):Win p (contS p nm l):=by
 unfold contS
 split
 ·split
  ·exact h.fields _
  ·exact h
 ·exact h
def roundS (p:Prog):List Nat→List Str→List Str
 | [],r=>r
 | i::is,r=>roundS p is (contS p (r[i]?.getD []) r)
theorem Win.round {p:Prog}:∀ (is:List Nat) {l:List Str},Win p l→Win p (roundS p is l)
 | [],_,h=>h
 | _::is,_,h=>Win.round is (h.cont _)
def indexS (s:Str):List Str→Nat→Int
 | [],_=>-1
 | x::xs,i=>if s=x then i else indexS s xs (i+1)
abbrev q1A:List Nat:=[0,1,4,5,7,8,9,16]
theorem ok_Index (l:List Str)(s:Str):CallOK prog 199 [strsV l,strV s] (intV (indexS s l 0)):=by
 refine CallB.bd (Enters.of func199 rfl (by decide)) fun hbd=>?_
 have hl:=(strs_ok hbd.1).1
 refine cB func199 ?_
 refine sR q1A ?_
 refine sK fun K1 u1=>?_
 have fin:∀ sl bx,indexS s l 0 = -1→K1 sl bx:=by
  intro sl bx h1
  refine u1 _ _ (AWp.weaken (sl':=[]) (bx':=[]) trivial trivial ?_)
  clear u1 K1
  refine sR q1A ?_
  rw [h1]
  exact aR
 refine sR q1A ?_
 refine AWp.block (AWp.loop (X:=Nat) (fun x=>[(8,intV x),(7,intV l.length),(0,strsV l),(1,strV s)]) (fun _=>[])
  (fun x=>x≤l.length∧indexS s (l.drop x) x=indexS s l 0) (fun x=>l.length - x) 0 ?_ ?_ ?_ ?_)
 ·exact⟨by simp,by simp⟩
 ·exact sS
 ·exact sB
 rintro j ⟨hj,heq⟩
 by_cases hlt:(j:Int) < (l.length:Int)
 ·have hlt':j < l.length:=by omega
  have hy:l[j]? = some l[j]:=List.getElem?_eq_getElem hlt'
  have dp:l.drop j=l[j]::l.drop (j+1):=List.drop_eq_getElem_cons hlt'
  generalize l[j]=y at *
  rw [dp,indexS] at heq
  refine sR1 hlt q1A ?_
  refine sK fun K2 u2=>?_
  refine AWp.condT rfl (AWp.skip (u2 _ _ ?_))
  clear u2 K2
  refine sK fun K2 u2=>?_
  refine AWp.block ?_
  refine sR q1A ?_
  by_cases hn:s=y
  ·rw [if_pos hn] at heq
   (refine sQ q1A fun K hK=>?_;refine ev1 hn ?_)
   refine⟨by omega,_,strR_get hy,rfl,?_⟩
   refine ev ?_
   (apply hK;clear hK K)
   refine AWp.condT rfl ?_
   refine sR q1A ?_
   rw [← heq]
   exact aR
  ·rw [if_neg hn] at heq
   (refine sQ q1A fun K hK=>?_;refine ev ?_)
   refine⟨by omega,_,strR_get hy,rfl,?_⟩
   refine ev1 hn ?_
   (apply hK;clear hK K)
   refine AWp.condF rfl (AWp.skip ?_)
   simp only [thenA,blockA]
   refine u2 _ _ ?_
   clear u2 K2
   (refine lQ q1A fun K hK=>?_;refine ev ?_)
   refine⟨by unfold InR;unfold lim at *;omega,?_⟩
   (apply hK;clear hK K;try simp only [thenA,])
   exact⟨j+1,⟨by omega,heq⟩,by omega,by simp [sle,vle,sget],sB⟩
 ·refine sR1 hlt q1A ?_
  refine sK fun K2 u2=>?_
  refine AWp.condF rfl (AWp.exit ?_)
  simp only [thenA,blockA,if_true]
  rw [List.drop_eq_nil_of_le (by omega)] at heq
  exact fin _ _ heq.symm
def sm:Nat:=1000000
inductive Ty.Sm:Ty→Prop where
 | mk (n:Str) (a:List Ty) (p:Int):n.length≤sm→a.length≤sm→(∀ t,t∈a→Ty.Sm t)→Ty.Sm (.mk n a p)
theorem Ty.Sm.name {t:Ty} (h:t.Sm):t.name.length≤sm:=by cases h;assumption
theorem Ty.Sm.len {t:Ty} (h:t.Sm):t.args.length≤sm:=by cases h;assumption
theorem Ty.Sm.arg {t:Ty} (h:t.Sm):∀ u,u∈t.args→u.Sm:=by cases h;assumption
abbrev q2A:List Nat:=[0,1,2,6,7,9,10,11,12,13]
theorem ok_All (g:Ty→Ty)(vars:List Str)(args:List Ty)(l:List Ty)(hl:l.length≤sm)(hs:∀ t,t∈l→CallOK prog 128 [tyV t,strsV vars,tysV args] (tyV (g t))) :
  CallOK prog 65 [tysV l,strsV vars,tysV args] (tysV (l.map g)):=by
 refine cB func65 ?_
 refine sR q2A ?_
 refine sR q2A ?_
 refine AWp.promote 7 3 7 rfl ?_
 refine sK fun K1 u1=>?_
 have fin:∀ sl bx,sle sl [(7,.acc 7)]→ble bx [(7,.rows 3 (tyR (l.map g)))]→K1 sl bx:=by
  intro sl bx h1 h2
  refine u1 _ _ (AWp.weaken h1 h2 ?_)
  clear u1 K1
  refine sR q2A ?_
  exact aR
 refine sR q2A ?_
 refine AWp.block (AWp.loop (X:=Nat) (fun x=>[(12,intV x),(11,intV l.length),(10,tysV l),(1,strsV vars),(2,tysV args),(7,.acc 7)]) (fun x=>[(7,.rows 3 (tyR ((l.take x).map g)))])
  (fun x=>x≤l.length) (fun x=>l.length - x) 0 ?_ ?_ ?_ ?_)
 ·simp
 ·exact sS
 ·simp [ble,bget,tyR_nil]
 rintro j hj
 by_cases hlt:(j:Int) < (l.length:Int)
 ·have hlt':j < l.length:=by omega
  have hy:l[j]? = some l[j]:=List.getElem?_eq_getElem hlt'
  have hmem:l[j]∈l:=List.getElem_mem hlt'
  have tk:l.take (j+1)=l.take j++[l[j]]:=List.take_succ_eq_append_getElem hlt'
  generalize l[j]=y at *
  refine sR1 hlt q2A ?_
  refine sK fun K2 u2=>?_
  refine AWp.condT rfl (AWp.skip (u2 _ _ ?_))
  clear u2 K2
  refine sK fun K2 u2=>?_
  refine AWp.block ?_
  (refine sQ q2A fun K hK=>?_;refine ev ?_)
  refine⟨by omega,tyC y,tyR_get hy,rfl,?_⟩
  refine ev ?_
  (apply hK;clear hK K)
  (refine lQ q2A fun K hK=>?_;refine ev ?_)
  refine⟨tyV (g y),.inl ⟨_,rfl,hs y hmem,rfl⟩,?_⟩
  refine ev ?_
  refine⟨by simp,by rw [List.length_map,List.length_take];unfold lim sm at *;omega,?_⟩
  (apply hK;clear hK K;try simp only [thenA,blockA])
  refine u2 _ _ ?_
  clear u2 K2
  (refine lQ q2A fun K hK=>?_;refine ev ?_)
  refine⟨by unfold InR;unfold sm at *;omega,?_⟩
  (apply hK;clear hK K;try simp only [thenA,])
  refine⟨j+1,by omega,by omega,by simp [sle,vle,sget],?_⟩
  rw [tk]
  simp [ble,bget,tyR_map,tyC]
 ·refine sR1 hlt q2A ?_
  refine sK fun K2 u2=>?_
  refine AWp.condF rfl (AWp.exit ?_)
  simp only [thenA,blockA,if_true]
  rw [List.take_of_length_le (by omega)]
  exact fin _ _ sS sB
mutual
def Ty.subst (vars:List Str)(args:List Ty):Ty→Ty
 | .mk n a p=>if a.length=0∧0≤indexS n vars 0∧indexS n vars 0 < args.length then .mk (args[(indexS n vars 0).toNat]?.getD default).name (args[(indexS n vars 0).toNat]?.getD default).args p else .mk n (Ty.substL vars args a) p
def Ty.substL (vars:List Str)(args:List Ty):List Ty→List Ty
 | []=>[]
 | t::ts=>t.subst vars args::Ty.substL vars args ts
end
theorem substL_map (vars:List Str)(args:List Ty):∀ l,Ty.substL vars args l=l.map (Ty.subst vars args)
 | []=>by rw [Ty.substL];rfl
 | t::ts=>by rw [Ty.substL,substL_map vars args ts];rfl
theorem subst_eq (vars:List Str)(args:List Ty)(t:Ty):t.subst vars args=if t.args.length=0∧0≤indexS t.name vars 0∧indexS t.name vars 0 < args.length then .mk (args[(indexS t.name vars 0).toNat]?.getD default).name (args[(indexS t.name vars 0).toNat]?.getD default).args t.pos else .mk t.name (t.args.map (Ty.subst vars args)) t.pos:=by
 cases t with
 | mk n a p=>rw [Ty.subst,substL_map];rfl
theorem subst_nil:∀ t:Ty,t.subst [] []=t:=by
 intro t
 induction t using Ty.induct with
 | h t ih =>
 rw [subst_eq,if_neg (by simp [indexS]),List.map_congr_left ih]
 cases t;simp [Ty.name,Ty.args,Ty.pos]
abbrev q3A:List Nat:=[0,1,2,3,6,7,8,26]
theorem ok_SubstG (vars:List Str)(args:List Ty)(hC:∀ (i:Nat)(u:Ty),args[i]? = some u→CallOK prog 64 [tyV u] (tyV u)):∀ t:Ty,t.Sm→CallOK prog 128 [tyV t,strsV vars,tysV args] (tyV (t.subst vars args)):=by
 intro t
 induction t using Ty.induct with
 | h t ih =>
 intro hsm
 refine CallB.bd (Enters.of func128 rfl (by decide)) fun hbd=>?_
 have hv:=(strs_ok hbd.2.1).1
 have ha:=(tys_ok hbd.2.2.1).1
 have heqn:=subst_eq vars args t
 have hall:=ok_All (Ty.subst vars args) vars args t.args hsm.len (fun u hu=>ih u hu (hsm.arg u hu))
 refine cB func128 ?_
 refine sR q3A ?_
 refine kC (ok_Index vars t.name) q3A fun K1 u1=>?_
 generalize indexS t.name vars 0=i at *
 have fin:(t.args.length=0∧0≤i∧i < args.length)=False→∀ sl bx,sle sl [(1,strsV vars),(2,tysV args),(3,.box 3 0),(6,.box 6 0)]→ble bx [(3,.cells ((tyC t).map .d)),(6,.cells [.d (.str []),.d .nil,.d (.int .i64 0)])]→K1 sl bx:=by
  intro hc sl bx h1 h2
  refine u1 _ _ (AWp.weaken h1 h2 ?_)
  clear u1 K1
  rw [if_neg (by rw [hc];exact id)] at heqn
  refine sC hall q3A ?_
  refine sR q3A ?_
  rw [heqn]
  exact aR
 by_cases h1:(t.args.length:Int)=0
 ·by_cases h2:0≤i
  ·by_cases h3:i < (args.length:Int)
   ·rw [if_pos ⟨by omega,h2,h3⟩] at heqn
    have hx:args[i.toNat]? = some args[i.toNat]:=List.getElem?_eq_getElem (by omega)
    rw [hx,Option.getD_some] at heqn
    generalize args[i.toNat]=u at *
    refine sR3 h1 h2 h3 q3A ?_
    refine AWp.condT rfl ?_
    (refine sQ q3A fun K hK=>?_;refine ev ?_)
    refine⟨h2,tyC u,tyR_get hx,rfl,?_⟩
    refine ev ?_
    refine⟨tyV u,.inl ⟨_,rfl,hC _ u hx,rfl⟩,?_⟩
    refine ev ?_
    (apply hK;clear hK K)
    refine sR q3A ?_
    refine sR q3A ?_
    rw [heqn]
    exact aR
   ·refine sR3 h1 h2 h3 q3A ?_
    refine AWp.condF rfl (AWp.skip ?_)
    exact fin (by simp [h3]) _ _ sS (by simp [ble,bget,tyC,])
  ·refine sR2 h1 h2 q3A ?_
   refine AWp.condF rfl (AWp.skip ?_)
   exact fin (by simp [h2]) _ _ sS (by simp [ble,bget,tyC,])
 ·refine sR1 h1 q3A ?_
  refine AWp.condF rfl (AWp.skip ?_)
  exact fin (by simp only [eq_iff_iff,iff_false];omega) _ _ sS (by simp [ble,bget,tyC,])
theorem ok_Clone (t:Ty)(h:t.Sm):CallOK prog 64 [tyV t] (tyV t):=by
 refine cB func64 ?_
 refine sR [0,1,2] ?_
 (refine sQ [0,1,2] fun K hK=>?_;simp -implicitDefEqProofs only [EV,Nat.reduceAdd,Nat.reduceEqDiff,reduceCtorEq,TF24])
 have hs:=ok_SubstG [] [] (by simp) t h
 rw [subst_nil] at hs
 refine⟨tyV t,.inl ⟨_,rfl,hs,rfl⟩,?_⟩
 refine ev ?_
 (apply hK;clear hK K)
 exact aR
theorem ok_Subst (vars:List Str)(args:List Ty)(ha:∀ u,u∈args→u.Sm)(t:Ty)(h:t.Sm):CallOK prog 128 [tyV t,strsV vars,tysV args] (tyV (t.subst vars args)) :=
 ok_SubstG vars args (fun i u hu=>ok_Clone u (ha u (List.mem_iff_getElem?.2 ⟨i,hu⟩))) t h
inductive Ex.Sm:Ex→Prop where
 | mk (k:Int) (n:Str) (t:Ty) (a:List Ty) (ks:List Ex) (p:Int):n.length≤sm→t.Sm→a.length≤sm→(∀ t,t∈a→t.Sm)→ks.length≤sm→(∀ e,e∈ks→Ex.Sm e)→Ex.Sm (.mk k n t a ks p)
theorem Ex.Sm.name {e:Ex} (h:e.Sm):e.name.length≤sm:=by cases h;assumption
theorem Ex.Sm.type {e:Ex} (h:e.Sm):e.type.Sm:=by cases h;assumption
theorem Ex.Sm.targs {e:Ex} (h:e.Sm):e.targs.length≤sm∧∀ t,t∈e.targs→t.Sm:=by cases h;exact⟨by assumption,by assumption⟩
theorem Ex.Sm.kids {e:Ex} (h:e.Sm):e.kids.length≤sm∧∀ t,t∈e.kids→t.Sm:=by cases h;exact⟨by assumption,by assumption⟩
def Ex.sub1 (vars:List Str)(args:List Ty)(e:Ex):Ex:=.mk e.kind e.name (e.type.subst vars args) (e.targs.map (Ty.subst vars args)) e.kids e.pos
theorem ok_Sub1 (vars:List Str)(args:List Ty)(ha:∀ u,u∈args→u.Sm)(e:Ex)(ht:e.type.Sm)(hl:e.targs.length≤sm)(hta:∀ t,t∈e.targs→t.Sm) :
  CallOK prog 239 [exV e,.dptr [.slice (strR vars)] 0,.dptr [.slice (tyR args)] 0] (exV (e.sub1 vars args)):=by
 refine cB func239 ?_
 refine sR [0,1,2,3,4] ?_
 (refine sG [0,1,2,3,4] [] 11 [] fun K hK=>?_;refine ev ?_)
 refine⟨tyV (e.type.subst vars args),.inl ⟨_,rfl,ok_Subst vars args ha e.type ht,rfl⟩,?_⟩
 refine ev ?_
 refine⟨tysV (e.targs.map (Ty.subst vars args)),.inl ⟨_,rfl,ok_All (Ty.subst vars args) vars args e.targs hl (fun t h=>ok_Subst vars args ha t (hta t h)),rfl⟩,?_⟩
 refine ev ?_
 (apply hK;clear hK K)
 refine sR [0,1,2,3,4] ?_
 exact aR
mutual
theorem SV.sub_closed (k:Nat)(f:Rep1):∀ {x:SV},x.closed=true→x.sub k f=x
 | .undef,_=>rfl
 | .d _,_=>rfl
 | .dptr _ _,_=>rfl
 | .agg cs,h=>by simp only [SV.closed] at h;simp only [SV.sub,SV.subL_closed k f h]
 | .tuple cs,h=>by simp only [SV.closed] at h;simp only [SV.sub,SV.subL_closed k f h]
 | .clo _ cs,h=>by simp only [SV.closed] at h;simp only [SV.sub,SV.subL_closed k f h]
 | .vptr cs _,h=>by simp only [SV.closed] at h;simp only [SV.sub,SV.subL_closed k f h]
 | .box _ _,h=>by simp [SV.closed] at h
 | .acc _,h=>by simp [SV.closed] at h
 | .aptr _ _ _,h=>by simp [SV.closed] at h
 | .mp _,h=>by simp [SV.closed] at h
 | .yld _,h=>rfl
theorem SV.subL_closed (k:Nat)(f:Rep1):∀ {xs:List SV},SV.closedAll xs=true→SV.subL k f xs=xs
 | [],_=>rfl
 | c::cs,h=>by
  simp only [SV.closedAll,Bool.and_eq_true] at h
  simp only [SV.subL,SV.sub_closed k f h.1,SV.subL_closed k f h.2]
end
def Ex.kidded (e:Ex)(ks:List Ex):Ex:=.mk e.kind e.name e.type e.targs ks e.pos
mutual
def Ex.mapped (g:Ex→Ex):Ex→Ex
 | .mk k n t a ks p=>g (.mk k n t a (Ex.mappedL g ks) p)
def Ex.mappedL (g:Ex→Ex):List Ex→List Ex
 | []=>[]
 | e::es=>e.mapped g::Ex.mappedL g es
end
theorem mappedL_map (g:Ex→Ex):∀ l,Ex.mappedL g l=l.map (Ex.mapped g)
 | []=>by rw [Ex.mappedL];rfl
 | t::ts=>by rw [Ex.mappedL,mappedL_map g ts];rfl
theorem mapped_eq (g:Ex→Ex)(e:Ex):e.mapped g=g (e.kidded (e.kids.map (Ex.mapped g))):=by
 cases e with
 | mk k n t a ks p=>rw [Ex.mapped,mappedL_map];rfl
abbrev q4A:List Nat:=[0,1,2,4,5,7,9,10,11,12]
theorem ok_mapped (f:FuncId)(caps:List SV)(hco:coerceL [] caps=some caps)(hcl:SV.closedAll caps=true)(g:Ex→Ex)
  (hg:∀ (e:Ex) (ks:List Ex),e.Sm→CallOK prog f (exV (e.kidded ks)::caps) (exV (g (e.kidded ks)))) :
  ∀ e:Ex,e.Sm→CallOK prog 238 [exV e,.clo f caps] (exV (e.mapped g)):=by
 intro e
 induction e using Ex.induct with
 | h e ih =>
 intro hsm
 have heqn:=mapped_eq g e
 have hl:=hsm.kids.1
 have hh:∀ k,SV.hasAny k caps=false:=fun k=>SV.not_hasAny_of_closed k hcl
 have hff:(false=true)=False:=by simp
 rw [heqn]
 refine cB func238 ?_
 refine sR1 hh q4A ?_
 refine sR q4A ?_
 refine AWp.promote 5 8 5 rfl ?_
 simp only [purge1,spurge,SV.has,hh,Bool.false_eq_true,if_false]
 refine sK fun K1 u1=>?_
 have fin:∀ sl bx,sle sl [(1,.clo f caps),(2,.box 2 0),(4,.box 4 0),(5,.acc 5)] →
   ble bx [(5,.rows 8 (exR (e.kids.map (Ex.mapped g)))),(2,.cells ((exC e).map .d)),(4,.cells [.d (.int .i64 0),.d (.str []),.d (.str []),.d .nil,.d (.int .i64 0),.d .nil,.d .nil,.d (.int .i64 0)])]→K1 sl bx:=by
  intro sl bx h1 h2
  refine u1 _ _ (AWp.weaken h1 h2 ?_)
  clear u1 K1 h1 h2
  refine AWp.publish 5 rfl ?_
  refine AWp.weaken (sl':=[(1,.clo f caps),(2,.box 2 0),(4,.box 4 0),(5,.d (.slice (exR (e.kids.map (Ex.mapped g)))))])
   (bx':=[(2,.cells ((exC e).map .d)),(4,.cells [.d (.int .i64 0),.d (.str []),.d (.str []),.d .nil,.d (.int .i64 0),.d .nil,.d .nil,.d (.int .i64 0)])])
   (by simp [subSl,SV.sub,sle,vle,sget,SV.subL_closed _ _ hcl]) (by simp [subBx,BoxC.sub,SV.subL,SV.sub,ble,bget,berase,exC]) ?_
  refine sR q4A ?_
  (refine sQ q4A fun K hK=>?_;refine ev1 hco ?_)
  refine⟨exV (g (e.kidded (e.kids.map (Ex.mapped g)))),.inl ⟨_,rfl,hg e _ hsm,rfl⟩,?_⟩
  refine ev ?_
  (apply hK;clear hK K)
  exact aR
 refine sR q4A ?_
 refine AWp.block (AWp.loop (X:=Nat) (fun x=>[(11,intV x),(10,intV e.kids.length),(9,.d (.slice (exR e.kids))),(1,.clo f caps),(2,.box 2 0),(4,.box 4 0),(5,.acc 5)])
  (fun x=>[(5,.rows 8 (exR ((e.kids.take x).map (Ex.mapped g)))),(2,.cells ((exC e).map .d)),(4,.cells [.d (.int .i64 0),.d (.str []),.d (.str []),.d .nil,.d (.int .i64 0),.d .nil,.d .nil,.d (.int .i64 0)])])
  (fun x=>x≤e.kids.length) (fun x=>e.kids.length - x) 0 ?_ ?_ ?_ ?_)
 ·simp
 ·exact sS
 ·simp [ble,bget,exR_nil,exC]
 rintro j hj
 by_cases hlt:(j:Int) < (e.kids.length:Int)
 ·have hlt':j < e.kids.length:=by omega
  have hy:e.kids[j]? = some e.kids[j]:=List.getElem?_eq_getElem hlt'
  have hmem:e.kids[j]∈e.kids:=List.getElem_mem hlt'
  have tk:e.kids.take (j+1)=e.kids.take j++[e.kids[j]]:=List.take_succ_eq_append_getElem hlt'
  generalize e.kids[j]=y at *
  refine sR1 hlt q4A ?_
  refine sK fun K2 u2=>?_
  refine AWp.condT rfl (AWp.skip (u2 _ _ ?_))
  clear u2 K2
  refine sK fun K2 u2=>?_
  refine AWp.block ?_
  (refine sQ q4A fun K hK=>?_;refine ev ?_)
  refine⟨by omega,exC y,exR_get hy,rfl,?_⟩
  refine ev1 hh ?_
  (apply hK;clear hK K)
  (refine lQ q4A fun K hK=>?_;refine ev2 hco hh ?_)
  refine⟨exV (y.mapped g),.inl ⟨_,rfl,ih y hmem (hsm.kids.2 y hmem),rfl⟩,?_⟩
  refine ev ?_
  refine⟨by simp,by rw [List.length_map,List.length_take];unfold lim sm at *;omega,?_⟩
  (apply hK;clear hK K;try simp only [thenA,blockA])
  refine u2 _ _ ?_
  clear u2 K2
  (refine lQ q4A fun K hK=>?_;refine ev ?_)
  refine⟨by unfold InR;unfold sm at *;omega,?_⟩
  (apply hK;clear hK K;try simp only [thenA,])
  refine⟨j+1,by omega,by omega,by simp [sle,vle,sget],?_⟩
  rw [tk]
  simp [ble,bget,exR_map,exC]
 ·refine sR1 hlt q4A ?_
  refine sK fun K2 u2=>?_
  refine AWp.condF rfl (AWp.exit ?_)
  simp only [thenA,blockA,if_true]
  rw [List.take_of_length_le (by omega)]
  exact fin _ _ sS (by simp [ble,bget,exC,])
def Ex.subst (vars:List Str)(args:List Ty):Ex→Ex:=Ex.mapped (Ex.sub1 vars args)
theorem ok_ESubst (vars:List Str)(args:List Ty)(ha:∀ u,u∈args→u.Sm)(e:Ex)(he:e.Sm):CallOK prog 169 [exV e,strsV vars,tysV args] (exV (e.subst vars args)):=by
 have hm:=ok_mapped 239 [.dptr [.slice (strR vars)] 0,.dptr [.slice (tyR args)] 0] rfl rfl (Ex.sub1 vars args)
  (fun e ks h=>ok_Sub1 vars args ha (e.kidded ks) h.type h.targs.1 h.targs.2) e he
 refine cB func169 ?_
 refine sR [0,1,2,3,4,5,6] ?_
 refine AWp.freeze 4 rfl rfl ?_
 refine AWp.freeze 5 rfl rfl ?_
 refine AWp.weaken (sl':=[(3,.box 3 0),(4,.dptr [.slice (strR vars)] 0),(5,.dptr [.slice (tyR args)] 0),(6,.box 6 0)])
  (bx':=[(3,.cells ((exC e).map .d)),(6,.cells [.d (.int .i64 0),.d (.str []),.d (.str []),.d .nil,.d (.int .i64 0),.d .nil,.d .nil,.d (.int .i64 0)])])
  (by simp [subSl,SV.sub,SV.subL,sle,vle,sget]) (by simp [subBx,BoxC.sub,SV.subL,SV.sub,ble,bget,berase,exC]) ?_
 refine sC hm [0,1,2,3,4,5,6] ?_
 exact aR
theorem esubst_nil:∀ e:Ex,e.subst [] []=e:=by
 intro e
 induction e using Ex.induct with
 | h e ih =>
 have h1:e.kids.map (Ex.mapped (Ex.sub1 [] []))=e.kids:=by
  have:=List.map_congr_left (f:=Ex.mapped (Ex.sub1 [] [])) (g:=id) ih
  rw [this];simp
 have h2:∀ l:List Ty,l.map (Ty.subst [] [])=l:=fun l=>by rw [List.map_congr_left (g:=id) fun t _=>subst_nil t];simp
 show Ex.mapped (Ex.sub1 [] []) e=e
 rw [mapped_eq,h1]
 cases e
 simp [Ex.sub1,Ex.kidded,Ex.kind,Ex.name,Ex.type,Ex.targs,Ex.kids,Ex.pos,subst_nil,h2]
theorem ok_EClone (e:Ex)(h:e.Sm):CallOK prog 86 [exV e] (exV e):=by
 refine cB func86 ?_
 refine sR [0,1,2] ?_
 (refine sQ [0,1,2] fun K hK=>?_;simp -implicitDefEqProofs only [EV,Nat.reduceAdd,Nat.reduceEqDiff,reduceCtorEq,TF41])
 have hs:=ok_ESubst [] [] (by simp) e h
 rw [esubst_nil] at hs
 refine⟨exV e,.inl ⟨_,rfl,hs,rfl⟩,?_⟩
 refine ev ?_
 (apply hK;clear hK K)
 exact aR
structure Formal.Sm (f:Formal):Prop where
 name:f.name.length≤sm
 bound:f.bound.Sm
structure Param.Sm (f:Param):Prop where
 name:f.name.length≤sm
 type:f.type.Sm
structure Sig.Sm (s:Sig):Prop where
 name:s.name.length≤sm
 formals:s.formals.length≤sm∧∀ t,t∈s.formals→t.Sm
 params:s.params.length≤sm∧∀ t,t∈s.params→t.Sm
 result:s.result.Sm
structure Decl.Sm (d:Decl):Prop where
 name:d.name.length≤sm
 formals:d.formals.length≤sm∧∀ t,t∈d.formals→t.Sm
 fields:d.fields.length≤sm∧∀ t,t∈d.fields→t.Sm
 sigs:d.sigs.length≤sm∧∀ t,t∈d.sigs→t.Sm
 recv:d.recv.length≤sm
 vars:d.vars.length≤sm∧∀ t,t∈d.vars→t.length≤sm
 sig:d.sig.Sm
 body:d.body.Sm
structure Prog.Sm (p:Prog):Prop where
 decls:p.decls.length≤sm∧∀ t,t∈p.decls→t.Sm
 main:p.main.Sm
theorem ok_cloneFormal (x:Formal)(h:x.Sm):CallOK prog 243 [foV x] (foV x):=by
 refine cB func243 ?_
 refine sR [0,1,2] ?_
 refine sC (ok_Clone x.bound h.bound) [0,1,2] ?_
 refine sR [0,1,2] ?_
 exact aR
theorem ok_cloneParam (x:Param)(h:x.Sm):CallOK prog 245 [paV x] (paV x):=by
 refine cB func245 ?_
 refine sR [0,1,2] ?_
 refine sC (ok_Clone x.type h.type) [0,1,2] ?_
 refine sR [0,1,2] ?_
 exact aR
abbrev q5A:List Nat:=[0,1,4,5,7,8,9,10,11]
theorem ok_copiesF (f:FuncId)(l:List Formal)(hl:l.length≤sm)(hs:∀ t,t∈l→CallOK prog f [foV t] (foV t)) :
  CallOK prog 242 [.d (.slice (foR l)),.clo f []] (.d (.slice (foR l))):=by
 refine cB func242 ?_
 refine sR q5A ?_
 refine sR q5A ?_
 refine AWp.promote 5 5 5 rfl ?_
 refine sK fun K1 u1=>?_
 have fin:∀ sl bx,sle sl [(5,.acc 5)]→ble bx [(5,.rows 5 (foR l))]→K1 sl bx:=by
  intro sl bx h1 h2
  refine u1 _ _ (AWp.weaken h1 h2 ?_)
  clear u1 K1
  refine sR q5A ?_
  exact aR
 refine sR q5A ?_
 refine AWp.block (AWp.loop (X:=Nat) (fun x=>[(10,intV x),(9,intV l.length),(8,.d (.slice (foR l))),(1,.clo f []),(5,.acc 5)]) (fun x=>[(5,.rows 5 (foR (l.take x)))])
  (fun x=>x≤l.length) (fun x=>l.length - x) 0 ?_ ?_ ?_ ?_)
 ·simp
 ·exact sS
 ·simp [ble,bget,foR]
 rintro j hj
 by_cases hlt:(j:Int) < (l.length:Int)
 ·have hlt':j < l.length:=by omega
  have hy:l[j]? = some l[j]:=List.getElem?_eq_getElem hlt'
  have hmem:l[j]∈l:=List.getElem_mem hlt'
  have tk:l.take (j+1)=l.take j++[l[j]]:=List.take_succ_eq_append_getElem hlt'
  generalize l[j]=y at *
  refine sR1 hlt q5A ?_
  refine sK fun K2 u2=>?_
  refine AWp.condT rfl (AWp.skip (u2 _ _ ?_))
  clear u2 K2
  refine sK fun K2 u2=>?_
  refine AWp.block ?_
  (refine sQ q5A fun K hK=>?_;refine ev ?_)
  refine⟨by omega,foC y,foR_get hy,rfl,?_⟩
  refine ev ?_
  (apply hK;clear hK K)
  (refine lQ q5A fun K hK=>?_;refine ev ?_)
  refine⟨foV y,.inl ⟨_,rfl,hs y hmem,rfl⟩,?_⟩
  refine ev ?_
  refine⟨by simp,by rw [List.length_take];unfold lim sm at *;omega,?_⟩
  (apply hK;clear hK K;try simp only [thenA,blockA])
  refine u2 _ _ ?_
  clear u2 K2
  (refine lQ q5A fun K hK=>?_;refine ev ?_)
  refine⟨by unfold InR;unfold sm at *;omega,?_⟩
  (apply hK;clear hK K;try simp only [thenA,])
  refine⟨j+1,by omega,by omega,by simp [sle,vle,sget],?_⟩
  rw [tk]
  simp [ble,bget,foR,foC]
 ·refine sR1 hlt q5A ?_
  refine sK fun K2 u2=>?_
  refine AWp.condF rfl (AWp.exit ?_)
  simp only [thenA,blockA,if_true]
  rw [List.take_of_length_le (by omega)]
  exact fin _ _ sS sB
abbrev q6A:List Nat:=[0,1,4,5,7,8,9,10,11]
theorem ok_copiesP (f:FuncId)(l:List Param)(hl:l.length≤sm)(hs:∀ t,t∈l→CallOK prog f [paV t] (paV t)) :
  CallOK prog 244 [.d (.slice (paR l)),.clo f []] (.d (.slice (paR l))):=by
 refine cB func244 ?_
 refine sR q6A ?_
 refine sR q6A ?_
 refine AWp.promote 5 5 5 rfl ?_
 refine sK fun K1 u1=>?_
 have fin:∀ sl bx,sle sl [(5,.acc 5)]→ble bx [(5,.rows 5 (paR l))]→K1 sl bx:=by
  intro sl bx h1 h2
  refine u1 _ _ (AWp.weaken h1 h2 ?_)
  clear u1 K1
  refine sR q6A ?_
  exact aR
 refine sR q6A ?_
 refine AWp.block (AWp.loop (X:=Nat) (fun x=>[(10,intV x),(9,intV l.length),(8,.d (.slice (paR l))),(1,.clo f []),(5,.acc 5)]) (fun x=>[(5,.rows 5 (paR (l.take x)))])
  (fun x=>x≤l.length) (fun x=>l.length - x) 0 ?_ ?_ ?_ ?_)
 ·simp
 ·exact sS
 ·simp [ble,bget,paR]
 rintro j hj
 by_cases hlt:(j:Int) < (l.length:Int)
 ·have hlt':j < l.length:=by omega
  have hy:l[j]? = some l[j]:=List.getElem?_eq_getElem hlt'
  have hmem:l[j]∈l:=List.getElem_mem hlt'
  have tk:l.take (j+1)=l.take j++[l[j]]:=List.take_succ_eq_append_getElem hlt'
  generalize l[j]=y at *
  refine sR1 hlt q6A ?_
  refine sK fun K2 u2=>?_
  refine AWp.condT rfl (AWp.skip (u2 _ _ ?_))
  clear u2 K2
  refine sK fun K2 u2=>?_
  refine AWp.block ?_
  (refine sQ q6A fun K hK=>?_;refine ev ?_)
  refine⟨by omega,paC y,paR_get hy,rfl,?_⟩
  refine ev ?_
  (apply hK;clear hK K)
  (refine lQ q6A fun K hK=>?_;refine ev ?_)
  refine⟨paV y,.inl ⟨_,rfl,hs y hmem,rfl⟩,?_⟩
  refine ev ?_
  refine⟨by simp,by rw [List.length_take];unfold lim sm at *;omega,?_⟩
  (apply hK;clear hK K;try simp only [thenA,blockA])
  refine u2 _ _ ?_
  clear u2 K2
  (refine lQ q6A fun K hK=>?_;refine ev ?_)
  refine⟨by unfold InR;unfold sm at *;omega,?_⟩
  (apply hK;clear hK K;try simp only [thenA,])
  refine⟨j+1,by omega,by omega,by simp [sle,vle,sget],?_⟩
  rw [tk]
  simp [ble,bget,paR,paC]
 ·refine sR1 hlt q6A ?_
  refine sK fun K2 u2=>?_
  refine AWp.condF rfl (AWp.exit ?_)
  simp only [thenA,blockA,if_true]
  rw [List.take_of_length_le (by omega)]
  exact fin _ _ sS sB
abbrev q7A:List Nat:=[0,1,4,5,7,8,9,10,11]
theorem ok_copiesS (f:FuncId)(l:List Sig)(hl:l.length≤sm)(hs:∀ t,t∈l→CallOK prog f [siV t] (siV t)) :
  CallOK prog 246 [.d (.slice (siR l)),.clo f []] (.d (.slice (siR l))):=by
 refine cB func246 ?_
 refine sR q7A ?_
 refine sR q7A ?_
 refine AWp.promote 5 7 5 rfl ?_
 refine sK fun K1 u1=>?_
 have fin:∀ sl bx,sle sl [(5,.acc 5)]→ble bx [(5,.rows 7 (siR l))]→K1 sl bx:=by
  intro sl bx h1 h2
  refine u1 _ _ (AWp.weaken h1 h2 ?_)
  clear u1 K1
  refine sR q7A ?_
  exact aR
 refine sR q7A ?_
 refine AWp.block (AWp.loop (X:=Nat) (fun x=>[(10,intV x),(9,intV l.length),(8,.d (.slice (siR l))),(1,.clo f []),(5,.acc 5)]) (fun x=>[(5,.rows 7 (siR (l.take x)))])
  (fun x=>x≤l.length) (fun x=>l.length - x) 0 ?_ ?_ ?_ ?_)
 ·simp
 ·exact sS
 ·simp [ble,bget,siR]
 rintro j hj
 by_cases hlt:(j:Int) < (l.length:Int)
 ·have hlt':j < l.length:=by omega
  have hy:l[j]? = some l[j]:=List.getElem?_eq_getElem hlt'
  have hmem:l[j]∈l:=List.getElem_mem hlt'
  have tk:l.take (j+1)=l.take j++[l[j]]:=List.take_succ_eq_append_getElem hlt'
  generalize l[j]=y at *
  refine sR1 hlt q7A ?_
  refine sK fun K2 u2=>?_
  refine AWp.condT rfl (AWp.skip (u2 _ _ ?_))
  clear u2 K2
  refine sK fun K2 u2=>?_
  refine AWp.block ?_
  (refine sQ q7A fun K hK=>?_;refine ev ?_)
  refine⟨by omega,siC y,siR_get hy,rfl,?_⟩
  refine ev ?_
  (apply hK;clear hK K)
  (refine lQ q7A fun K hK=>?_;refine ev ?_)
  refine⟨siV y,.inl ⟨_,rfl,hs y hmem,rfl⟩,?_⟩
  refine ev ?_
  refine⟨by simp,by rw [List.length_take];unfold lim sm at *;omega,?_⟩
  (apply hK;clear hK K;try simp only [thenA,blockA])
  refine u2 _ _ ?_
  clear u2 K2
  (refine lQ q7A fun K hK=>?_;refine ev ?_)
  refine⟨by unfold InR;unfold sm at *;omega,?_⟩
  (apply hK;clear hK K;try simp only [thenA,])
  refine⟨j+1,by omega,by omega,by simp [sle,vle,sget],?_⟩
  rw [tk]
  simp [ble,bget,siR,siC]
 ·refine sR1 hlt q7A ?_
  refine sK fun K2 u2=>?_
  refine AWp.condF rfl (AWp.exit ?_)
  simp only [thenA,blockA,if_true]
  rw [List.take_of_length_le (by omega)]
  exact fin _ _ sS sB
abbrev q8A:List Nat:=[0,1,4,5,7,8,9,10,11]
theorem ok_copiesD (f:FuncId)(l:List Decl)(hl:l.length≤sm)(hs:∀ t,t∈l→CallOK prog f [deV t] (deV t)) :
  CallOK prog 183 [.d (.slice (deR l)),.clo f []] (.d (.slice (deR l))):=by
 refine cB func183 ?_
 refine sR q8A ?_
 refine sR q8A ?_
 refine AWp.promote 5 23 5 rfl ?_
 refine sK fun K1 u1=>?_
 have fin:∀ sl bx,sle sl [(5,.acc 5)]→ble bx [(5,.rows 23 (deR l))]→K1 sl bx:=by
  intro sl bx h1 h2
  refine u1 _ _ (AWp.weaken h1 h2 ?_)
  clear u1 K1
  refine sR q8A ?_
  exact aR
 refine sR q8A ?_
 refine AWp.block (AWp.loop (X:=Nat) (fun x=>[(10,intV x),(9,intV l.length),(8,.d (.slice (deR l))),(1,.clo f []),(5,.acc 5)]) (fun x=>[(5,.rows 23 (deR (l.take x)))])
  (fun x=>x≤l.length) (fun x=>l.length - x) 0 ?_ ?_ ?_ ?_)
 ·simp
 ·exact sS
 ·simp [ble,bget,deR]
 rintro j hj
 by_cases hlt:(j:Int) < (l.length:Int)
 ·have hlt':j < l.length:=by omega
  have hy:l[j]? = some l[j]:=List.getElem?_eq_getElem hlt'
  have hmem:l[j]∈l:=List.getElem_mem hlt'
  have tk:l.take (j+1)=l.take j++[l[j]]:=List.take_succ_eq_append_getElem hlt'
  generalize l[j]=y at *
  refine sR1 hlt q8A ?_
  refine sK fun K2 u2=>?_
  refine AWp.condT rfl (AWp.skip (u2 _ _ ?_))
  clear u2 K2
  refine sK fun K2 u2=>?_
  refine AWp.block ?_
  (refine sQ q8A fun K hK=>?_;refine ev ?_)
  refine⟨by omega,deC y,deR_get hy,rfl,?_⟩
  refine ev ?_
  (apply hK;clear hK K)
  (refine lQ q8A fun K hK=>?_;refine ev ?_)
  refine⟨deV y,.inl ⟨_,rfl,hs y hmem,rfl⟩,?_⟩
  refine ev ?_
  refine⟨by simp,by rw [List.length_take];unfold lim sm at *;omega,?_⟩
  (apply hK;clear hK K;try simp only [thenA,blockA])
  refine u2 _ _ ?_
  clear u2 K2
  (refine lQ q8A fun K hK=>?_;refine ev ?_)
  refine⟨by unfold InR;unfold sm at *;omega,?_⟩
  (apply hK;clear hK K;try simp only [thenA,])
  refine⟨j+1,by omega,by omega,by simp [sle,vle,sget],?_⟩
  rw [tk]
  simp [ble,bget,deR,deC]
 ·refine sR1 hlt q8A ?_
  refine sK fun K2 u2=>?_
  refine AWp.condF rfl (AWp.exit ?_)
  simp only [thenA,blockA,if_true]
  rw [List.take_of_length_le (by omega)]
  exact fin _ _ sS sB
theorem AWp.splitNil {ro:Option Nat} {P:Program} {n:Nat} {c:Code} {Q:Exit→SL→Boxes→Prop} {sl:SL} {bx:Boxes} (t:Nat)(hd:sget sl t=.d (.slice []))(h1:AWp ro P n c Q ((t,.d .nil)::sl) bx)(h2:AWp ro P n c Q ((t,.d .emp)::sl) bx):AWp ro P n c Q sl bx:=by
 intro C S w β a hs
 have hr:=hs.slot t
 rw [hd] at hr
 have hc:=hr.inv_d
 generalize hv:a.tmps.getD t undef=v at hc
 have go:∀ x:SV,RepV S w β x v→St C n S w β a ((t,x)::sl) bx:=fun x hx=>⟨hs.inv,hs.size,hs.defers,fun u=>by
  simp only [sget]
  split
  ·rename_i he;subst he;rw [hv];exact hx
  ·exact hs.slot u⟩
 cases hc with
 | slice0 a cap hac =>
  cases a with
  | none=>have:=hac rfl;subst this;exact h1 C S w β _ (go _ (.d _ _ .nil))
  | some b=>exact h2 C S w β _ (go _ (.d _ _ (.emp b cap)))
 | slice _ b off cap sz=>exact h2 C S w β _ (go _ (.d _ _ (.emp _ cap)))
theorem ok_SClone (l:List Str)(hl:l.length≤sm):CallOK prog 217 [strsV l] (strsV l):=by
 refine cB func217 ?_
 refine sR [0,2,4] ?_
 cases l with
 | nil =>
  refine AWp.splitNil 0 rfl ?_ ?_
  ·refine kR [0,2,4] fun K1 u1=>?_
   refine AWp.condT rfl ?_
   refine sR [0,2,4] ?_
   exact aR
  ·refine kR [0,2,4] fun K1 u1=>?_
   refine AWp.condF rfl (AWp.skip (u1 _ _ ?_))
   clear u1 K1
   (refine AWp.seqR [0,2,4,5] [5] (by decide +kernel) fun K z=>?_;refine ev ?_;apply z;clear z K)
   exact aR
 | cons x l =>
  have e:strR (x::l)=[.str x]::strR l:=rfl
  refine sK fun K1 u1=>?_
  (refine sQ [0,2,4] fun K z=>?_;simp -implicitDefEqProofs only [EV,Nat.reduceEqDiff,reduceCtorEq,TF57,e,sliceNil];apply z;clear z K)
  refine AWp.condF rfl (AWp.skip (u1 _ _ ?_))
  clear u1 K1
  have hrow:=strR_row (x::l)
  rw [e] at hrow
  simp only [List.length_cons] at hl
  (refine AWp.seqR [0,2,4,5] [5] (by decide +kernel) fun K hK=>?_;refine ev ?_)
  refine⟨hrow,by unfold lim sm at *;omega,?_⟩
  (apply hK;clear hK K)
  rw [← e]
  exact aR
theorem ok_cloneSig (x:Sig)(h:x.Sm):CallOK prog 247 [siV x] (siV x):=by
 refine cB func247 ?_
 refine sR [0,1,2] ?_
 (refine sG [0,1,2] [] 10 [] fun K hK=>?_;refine ev ?_)
 refine⟨.d (.slice (foR x.formals)),.inl ⟨_,rfl,ok_copiesF _ _ h.formals.1 fun t ht=>ok_cloneFormal t (h.formals.2 t ht),rfl⟩,?_⟩
 refine ev ?_
 refine⟨.d (.slice (paR x.params)),.inl ⟨_,rfl,ok_copiesP _ _ h.params.1 fun t ht=>ok_cloneParam t (h.params.2 t ht),rfl⟩,?_⟩
 refine ev ?_
 refine⟨tyV x.result,.inl ⟨_,rfl,ok_Clone x.result h.result,rfl⟩,?_⟩
 refine ev ?_
 (apply hK;clear hK K)
 refine sR [0,1,2] ?_
 exact aR
theorem ok_cloneDecl (x:Decl)(h:x.Sm):CallOK prog 184 [deV x] (deV x):=by
 refine cB func184 ?_
 refine sR [0,1,2] ?_
 (refine sG [0,1,2] [] 10 [] fun K hK=>?_;refine ev ?_)
 refine⟨.d (.slice (foR x.formals)),.inl ⟨_,rfl,ok_copiesF _ _ h.formals.1 fun t ht=>ok_cloneFormal t (h.formals.2 t ht),rfl⟩,?_⟩
 refine ev ?_
 refine⟨.d (.slice (paR x.fields)),.inl ⟨_,rfl,ok_copiesP _ _ h.fields.1 fun t ht=>ok_cloneParam t (h.fields.2 t ht),rfl⟩,?_⟩
 refine ev ?_
 refine⟨.d (.slice (siR x.sigs)),.inl ⟨_,rfl,ok_copiesS _ _ h.sigs.1 fun t ht=>ok_cloneSig t (h.sigs.2 t ht),rfl⟩,?_⟩
 refine ev ?_
 (apply hK;clear hK K)
 (refine sG [0,1,2] [] 10 [] fun K hK=>?_;refine ev ?_)
 refine⟨strsV x.vars,.inl ⟨_,rfl,ok_SClone _ h.vars.1,rfl⟩,?_⟩
 refine ev ?_
 refine⟨siV x.sig,.inl ⟨_,rfl,ok_cloneSig _ h.sig,rfl⟩,?_⟩
 refine ev ?_
 refine⟨exV x.body,.inl ⟨_,rfl,ok_EClone _ h.body,rfl⟩,?_⟩
 refine ev ?_
 (apply hK;clear hK K)
 refine sR [0,1,2] ?_
 exact aR
theorem ok_PClone (p:Prog)(h:p.Sm):CallOK prog 109 [prV p] (prV p):=by
 refine cB func109 ?_
 refine sR [0,1,2] ?_
 (refine sG [0,1,2] [] 5 [] fun K hK=>?_;refine ev ?_)
 refine⟨.d (.slice (deR p.decls)),.inl ⟨_,rfl,ok_copiesD _ _ h.decls.1 fun t ht=>ok_cloneDecl t (h.decls.2 t ht),rfl⟩,?_⟩
 refine ev ?_
 refine⟨exV p.main,.inl ⟨_,rfl,ok_EClone _ h.main,rfl⟩,?_⟩
 refine ev ?_
 (apply hK;clear hK K)
 exact aR
end Go.Abs
