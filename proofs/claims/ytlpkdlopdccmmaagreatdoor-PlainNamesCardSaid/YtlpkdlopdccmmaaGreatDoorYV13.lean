/- plain: Methods, Implements, Unused; castingsref24: Methods, Unused; types.Names -/
import Derived.Test.YtlpkdlopdccmmaaGreatDoorYV08
import Derived.Test.YtlpkdlopdccmmaaGreatDoorYS25
import Derived.Test.YtlpkdlopdccmmaaGreatDoorYS49
import Derived.Test.YtlpkdlopdccmmaaGreatDoorYV04
import Derived.Test.YtlpkdlopdccmmaaGreatDoorYS77
import Derived.Test.YtlpkdlopdccmmaaGreatDoorYAb11
import Derived.Test.YtlpkdlopdccmmaaGreatDoorYF20
import Derived.Test.YtlpkdlopdccmmaaGreatDoorYS28
namespace Go.Abs
set_option maxHeartbeats 1000000
set_option linter.unusedSimpArgs false
set_option linter.unusedVariables false
open Go Go.Proofs Tryz
set_option maxRecDepth 100000
set_option maxHeartbeats 4000000
theorem ok_named (s:Str):CallOK prog 35 [strV s] (tyV (.mk s [] 0)):=by
 refine cB func35 ?_
 refine sR [0,2] ?_
 refine sR [0,2] ?_
 exact aR
def methN (p:Prog)(s:Str):List Str:=(setT p [] (.mk s [] 0)).map (·.name)
theorem named_Sm {s:Str} (hs:s.length≤sm):(Ty.mk s [] 0).Sm:=.mk _ _ _ hs (by simp) (by simp)
abbrev q1sx:List Nat:=[0,1,2,4,5,7,12,13,14,15]
theorem ok_plMethods (p:Prog)(h:p.Sm)(s:Str)(hs:s.length≤sm):CallOK prog 14 [prV p,strV s] (strsV (methN p s)):=by
 have h1:=ok_New p h
 have h2:=ok_named s
 have h3:=ok_Set p h [] (by simp) (by simp) (.mk s [] 0) (named_Sm hs)
 have hl:=setT_len h [] (.mk s [] 0)
 unfold methN
 generalize setT p [] (.mk s [] 0)=l at *
 refine cB func14 ?_
 refine sR q1sx ?_
 refine sR q1sx ?_
 refine AWp.promote 5 1 5 rfl ?_
 refine sK fun K1 u1=>?_
 (refine sV q1sx fun K z=>?_;refine cc h1 ?_;refine cc h2 ?_;refine cc h3 ?_;apply z;clear z K)
 refine AWp.block (AWp.forIdx l (X:=Unit) (fun j _=>[(5,.acc 5),(12,.d (.slice (siR l))),(13,intV l.length),(14,intV j)]) (fun j _=>[(5,.rows 1 (strR ((l.take j).map (·.name))))])
  (fun _ _=>True) () trivial sS (by simp [ble,bget,strR]) ?_ ?_)
 rotate_left
 ·intro j _ u hu hmem dp tk hlt _
  rw [tk]
  refine sR1 hlt q1sx ?_
  refine AWp.goOn rfl ?_
  refine sK fun K2 u2=>?_
  refine AWp.block ?_
  (refine sV q1sx fun K z=>?_;refine ci (siR_get hu) ?_;apply z;clear z K)
  (refine lV q1sx fun K z=>?_;refine⟨by simp,by (try simp only [List.length_map,List.length_take]);unfold lim sm at *;omega,?_⟩;(try refine ev ?_);apply z;clear z K;try simp only [thenA,blockA])
  refine u2 _ _ ?_
  clear u2 K2
  refine lT q1sx ?_
  exact⟨(),trivial,sS,by simp [ble,bget,strR]⟩
 intro _ _
 rw [List.take_length]
 refine sR1 Int.lt_irrefl q1sx ?_
 refine AWp.stop rfl ?_
 simp only [thenA,blockA,if_true]
 refine u1 _ _ ?_
 clear u1 K1
 refine sR q1sx ?_
 exact aR
abbrev q2sx:List Nat:=[0,1,2,4,5,6,7,15]
theorem ok_refMethods (p:Prog)(h:p.Sm)(s:Str)(hs:s.length≤sm):CallOK prog 15 [prV p,strV s] (strsV (methN p s)):=by
 have h3:=ok_RSet p h [] (by simp) (by simp) (.mk s [] 0) (named_Sm hs)
 have hl:=setT_len h [] (.mk s [] 0)
 unfold methN
 generalize setT p [] (.mk s [] 0)=l at *
 refine cB func15 ?_
 refine sR q2sx ?_
 refine sR q2sx ?_
 refine AWp.promote 5 1 5 rfl ?_
 refine sC h3 q2sx ?_
 refine kR q2sx fun K1 u1=>?_
 refine AWp.block (AWp.forIdx l (X:=Unit) (fun j _=>[(5,.acc 5),(6,.d (.slice (siR l))),(7,intV j)]) (fun j _=>[(5,.rows 1 (strR ((l.take j).map (·.name))))])
  (fun _ _=>True) () trivial sS (by simp [ble,bget,strR]) ?_ ?_)
 rotate_left
 ·intro j _ u hu hmem dp tk hlt _
  rw [tk]
  refine kR1 hlt q2sx fun K2 u2=>?_
  refine gI u2 ?_
  clear u2 K2
  refine sK fun K2 u2=>?_
  refine AWp.block ?_
  (refine lV q2sx fun K z=>?_;refine ci (siR_get hu) ?_;refine⟨by simp,by (try simp only [List.length_map,List.length_take]);unfold lim sm at *;omega,?_⟩;(try refine ev ?_);apply z;clear z K;try simp only [thenA,blockA])
  refine u2 _ _ ?_
  clear u2 K2
  refine lT q2sx ?_
  exact⟨(),trivial,sS,by simp [ble,bget,strR]⟩
 intro _ _
 rw [List.take_length]
 refine kR1 Int.lt_irrefl q2sx fun K2 u2=>?_
 refine AWp.stopK rfl ?_
 simp only [thenA,blockA,if_true]
 refine u1 _ _ ?_
 clear u2 K2 u1 K1
 refine sR q2sx ?_
 exact aR
theorem ok_plImplements (p:Prog)(h:p.Sm)(a b:Str)(ha:a.length≤sm)(hb:b.length≤sm):CallOK prog 16 [prV p,strV a,strV b] (boolV (implB p [] (.mk a [] 0) (.mk b [] 0))):=by
 have h1:=ok_New p h
 have h2:=ok_named a
 have h3:=ok_named b
 have h4:=ok_Implements p h [] (by simp) (by simp) _ _ (named_Sm ha) (named_Sm hb)
 generalize implB p [] (.mk a [] 0) (.mk b [] 0)=z at *
 refine cB func16 ?_
 refine sR [0,1,2,3,6] ?_
 (refine sV [0,1,2,3,6] fun K z=>?_;refine cc h1 ?_;refine cc h2 ?_;refine cc h3 ?_;refine cc h4 ?_;apply z;clear z K)
 exact aR
structure FitN (Y:Yld)(j:Nat)(l:List Str):Prop where
 P:Y.P=prog
 N:j+l.length≤Y.N
 at_:∀ i s,l[i]? = some s→Y.xs (j+i)=strV s∧Y.go (j+i)=true
theorem FitN.left {Y:Yld} {j:Nat} {l m:List Str} (h:FitN Y j (l++m)):FitN Y j l where
 P:=h.P
 N:=by have:=h.N;rw [List.length_append] at this;omega
 at_:=fun i e he=>h.at_ i e (by rw [List.getElem?_append_left (List.getElem?_eq_some_iff.1 he).1];exact he)
theorem FitN.right {Y:Yld} {j:Nat} {l m:List Str} (h:FitN Y j (l++m)):FitN Y (j+l.length) m where
 P:=h.P
 N:=by have:=h.N;rw [List.length_append] at this;omega
 at_:=fun i e he=>by
  have:=h.at_ (l.length+i) e (by rw [List.getElem?_append_right (by omega)];simpa using he)
  rw [Nat.add_assoc];exact this
abbrev q3sx:List Nat:=[0,1,4,5,7,8,9,16,1000000]
theorem ok_IndexN (f:FuncId)(caps:List SV)(hco:∀ x:Ty,coerceL [] (tyV x::caps)=some (tyV x::caps))(Y:Yld)(l:List Ty)(hl:l.length≤lim)(j0:Nat)(hfit:FitN Y j0 (Ty.namesL l))
  (hc:∀ e,e∈l→∀ j,FitN Y j e.names→CallB prog f (tyV e::caps) [(1000000,.ghost Y (some j))] (boolV false) [(1000000,.ghost Y (some (j+e.names.length)))]) :
  CallB prog 237 [.d (.slice (tyR l)),.clo f caps] [(1000000,.ghost Y (some j0))] (intV (-1)) [(1000000,.ghost Y (some (j0+(Ty.namesL l).length)))]:=by
 refine bB func237 ?_
 refine sR q3sx ?_
 refine kR q3sx fun K1 u1=>?_
 refine AWp.block (AWp.forIdx l (X:=Unit) (fun j _=>[(0,.d (.slice (tyR l))),(1,.clo f caps),(7,intV l.length),(8,intV j)]) (fun j _=>[(1000000,.ghost Y (some (j0+(Ty.namesL (l.take j)).length)))])
  (fun _ _=>True) () trivial sS (by simp [ble,bget,Ty.namesL]) ?_ ?_)
 ·intro _ _
  rw [List.take_length]
  refine sR1 Int.lt_irrefl q3sx ?_
  refine AWp.stop rfl ?_
  simp only [thenA,blockA,if_true]
  refine u1 _ _ ?_
  refine sR q3sx ?_
  exact AWp.ret ⟨_,by rw [results237];rfl,.inr rfl,by simp [ble,bget]⟩
 ·intro j _ d hd hmem dp tk hlt _
  have hfd:FitN Y (j0+(Ty.namesL (l.take j)).length) d.names:=by
   have hl2:l=l.take j++(d::l.drop (j+1)):=by rw [← dp,List.take_append_drop]
   rw [hl2,Ty.namesL_append,Ty.namesL] at hfit
   exact hfit.right.left
  have hcd:=hc d hmem _ hfd
  refine sR1 hlt q3sx ?_
  refine AWp.goOn rfl ?_
  refine sK fun K2 u2=>?_
  refine AWp.block ?_
  refine sR q3sx ?_
  (refine AWp.seqR q3sx [700016] (by decide +kernel) fun K z=>?_;refine ev ?_;refine ci (tyR_get hd) ?_;refine⟨_,_,_,hco d,hcd,rfl,?_⟩;(try refine ev ?_);apply z;clear z K)
  refine AWp.condF rfl (AWp.skip (u2 _ _ ?_))
  clear u2 K2
  (refine lV q3sx fun K z=>?_;refine⟨by first | (unfold InR;omega) | (simp only [InR,lim] at *;omega),?_⟩;(try refine ev ?_);apply z;clear z K;try simp only [thenA,])
  refine⟨(),trivial,sS,?_⟩
  rw [tk,Ty.namesL_append,show Ty.namesL [d]=d.names by simp [Ty.namesL],List.length_append,← Nat.add_assoc]
  simp [ble,bget]
theorem ok_ContainsN (f:FuncId)(caps:List SV)(hcc:coerceL [] caps=some caps)(hco:∀ x:Ty,coerceL [] (tyV x::caps)=some (tyV x::caps))(Y:Yld)(l:List Ty)(hl:l.length≤lim)(j0:Nat)(hfit:FitN Y j0 (Ty.namesL l))
  (hc:∀ e,e∈l→∀ j,FitN Y j e.names→CallB prog f (tyV e::caps) [(1000000,.ghost Y (some j))] (boolV false) [(1000000,.ghost Y (some (j+e.names.length)))]) :
  CallB prog 165 [.d (.slice (tyR l)),.clo f caps] [(1000000,.ghost Y (some j0))] (boolV false) [(1000000,.ghost Y (some (j0+(Ty.namesL l).length)))]:=by
 have h:=ok_IndexN f caps hco Y l hl j0 hfit hc
 refine bB func165 ?_
 refine sR [0,1,4,1000000] ?_
 (refine AWp.seqR [0,1,4,1000000] [700007] (by decide +kernel) fun K z=>?_;refine ev ?_;refine⟨_,_,_,(by rw [hcc]),h,rfl,?_⟩;(try refine ev ?_);apply z;clear z K)
 exact AWp.ret ⟨_,by rw [results165];rfl,.inr rfl,by simp [ble,bget]⟩
abbrev q4sx:List Nat:=[0,1,2,3,4,5,10,1000000]
theorem ok_visitN (Y:Yld):∀ (e:Ty)(j:Nat),FitN Y j e.names→CallB prog 107 [tyV e,.yld Y.l] [(1000000,.ghost Y (some j))] (boolV true) [(1000000,.ghost Y (some (j+e.names.length)))]:=by
 intro e
 induction e using Ty.induct with
 | h e ih =>
 intro j hfit
 refine CallB.bd (Enters.of func107 rfl (by decide)) fun hbd=>?_
 have hkl:=(ty_ok hbd.1).len
 have hP:=hfit.P
 have h0:=hfit.at_ 0 e.name (by rw [Ty.names_eq];rfl)
 have hN:j < Y.N:=by have:=hfit.N;rw [Ty.names_eq,List.length_cons] at this;omega
 rw [Nat.add_zero] at h0
 have hv1:∀ k,k∈e.args→∀ i,FitN Y i k.names→CallB prog 164 [tyV k,.vptr [.yld Y.l] 0] [(1000000,.ghost Y (some i))] (boolV false) [(1000000,.ghost Y (some (i+k.names.length)))]:=by
  intro k hk i hi
  have:=ih k hk i hi
  refine bB func164 ?_
  refine sR [0,1,2,3,1000000] ?_
  (refine AWp.seqR [0,1,2,3,1000000] [700006] (by decide +kernel) fun K z=>?_;refine ev ?_;refine⟨_,_,_,rfl,this,rfl,?_⟩;(try refine ev ?_);apply z;clear z K)
  exact AWp.ret ⟨_,by rw [results164];rfl,.inr rfl,by simp [ble,bget]⟩
 have hfk:FitN Y (j+1) (Ty.namesL e.args):=by
  have:=hfit
  rw [Ty.names_eq,show e.name::Ty.namesL e.args=[e.name]++Ty.namesL e.args from rfl] at this
  exact this.right
 have hcf:=ok_ContainsN 164 [.vptr [.yld Y.l] 0] rfl (fun _=>rfl) Y e.args hkl (j+1) hfk hv1
 have haft:j+e.names.length=j+1+(Ty.namesL e.args).length:=by rw [Ty.names_eq,List.length_cons];omega
 rw [haft]
 have hgo:Y.go j=true:=h0.2
 have hnx:Y.next j=some (j+1):=by unfold Yld.next;rw [if_pos hgo]
 generalize j+1+(Ty.namesL e.args).length=st at *
 refine bB func107 ?_
 refine sR q4sx ?_
 refine sK fun K1 u1=>?_
 (refine AWp.seqR q4sx [700009] (by decide +kernel) fun K z=>?_;refine ev2 hgo hnx ?_;refine⟨_,rfl,hP,hN,h0.1,?_⟩;(try refine ev2 hgo hnx ?_);apply z;clear z K)
 refine kI u1 ?_
 clear u1 K1
 refine AWp.freezeV 3 rfl rfl (wk [(2,.box 2 0),(3,.vptr [.yld Y.l] 0),(4,.d (.bool false))] [(2,.cells (tyS e)),(1000000,.ghost Y (some (j+1)))] ?_)
 refine sR q4sx ?_
 (refine AWp.seqR q4sx [700015] (by decide +kernel) fun K z=>?_;refine ev ?_;refine⟨_,_,_,rfl,hcf,rfl,?_⟩;(try refine ev ?_);apply z;clear z K)
 exact AWp.ret ⟨_,by rw [results107];rfl,.inr rfl,by simp [ble,bget]⟩
theorem ok_TNames (e:Ty):CallB prog 42 [tyV e] [] (.clo 106 [.dptr (tyC e) 0]) []:=by
 refine bB func42 ?_
 refine sR [0,1,2] ?_
 refine AWp.freeze 1 rfl rfl ?_
 refine sR [0,1,2] ?_
 exact AWp.ret ⟨_,by rw [results42];rfl,.inr rfl,by simp [ble]⟩
theorem ok_TNames1 (e:Ty)(Y:Yld)(hY:FitN Y 0 e.names):CallB prog 106 [.yld Y.l,.dptr (tyC e) 0] [(1000000,.ghost Y (some 0))] (.tuple []) [(1000000,.ghost Y (some e.names.length))]:=by
 have hv:=ok_visitN Y e 0 hY
 rw [Nat.zero_add] at hv
 refine bB func106 ?_
 (refine AWp.lastR [0,1,1000000] [700005] (by decide +kernel) fun K z=>?_;refine ev ?_;refine⟨_,_,_,rfl,hv,rfl,?_⟩;(try refine ev ?_);apply z;clear z K;try simp only [thenA,blockA,if_true])
 exact⟨_,by rw [results106];rfl,.inr rfl,by simp [ble,bget]⟩
def declN (l:List Decl):List Str:=l.foldl (fun m d=>addN m d.name) []
theorem declN_append (l:List Decl)(d:Decl):declN (l++[d])=addN (declN l) d.name:=by simp [declN]
theorem mem_declF (l:List Decl)(s:Str):∀ m:List Str,s∈l.foldl (fun m d=>addN m d.name) m↔s∈m∨∃ y,y∈l∧y.name=s:=by
 induction l with
 | nil=>simp
 | cons a l ih =>
  intro m
  rw [List.foldl_cons,ih,mem_addN]
  simp only [List.mem_cons]
  constructor
  ·rintro ((rfl | h) | ⟨y,h1,h2⟩)
   ·exact .inr ⟨a,.inl rfl,rfl⟩
   ·exact .inl h
   ·exact .inr ⟨y,.inr h1,h2⟩
  ·rintro (h | ⟨y,rfl | h1,h2⟩)
   ·exact .inl (.inr h)
   ·exact .inl (.inl h2.symm)
   ·exact .inr ⟨y,h1,h2⟩
theorem mem_declN (l:List Decl)(s:Str):s∈declN l↔∃ y,y∈l∧y.name=s:=by unfold declN;rw [mem_declF];simp
theorem addN_nodup {m:List Str} (h:m.Nodup)(s:Str):(addN m s).Nodup:=by
 unfold addN
 split
 ·exact h
 ·rename_i hs
  rw [List.nodup_append]
  exact⟨h,by simp,fun a ha b hb=>by simp at hb;subst hb;exact fun he=>hs (he ▸ ha)⟩
theorem declF_nodup (l:List Decl):∀ m:List Str,m.Nodup→(l.foldl (fun m d=>addN m d.name) m).Nodup:=by
 induction l with
 | nil=>intro m h;exact h
 | cons a l ih=>intro m h;exact ih _ (addN_nodup h _)
def dels (l ds:List Str):List Str:=ds.foldl List.erase l
theorem dels_append (l a b:List Str):dels l (a++b)=dels (dels l a) b:=by simp [dels]
theorem mem_dels:∀ (ds:List Str) {l:List Str} {s:Str},l.Nodup→(s∈dels l ds↔s∈l∧s ∉ ds)
 | [],l,s,h=>by simp [dels]
 | d::ds,l,s,h=>by
  rw [show dels l (d::ds)=dels (l.erase d) ds from rfl,mem_dels ds (h.erase d),h.mem_erase_iff]
  simp only [List.mem_cons,not_or]
  constructor
  ·rintro⟨⟨a,b⟩,c⟩;exact⟨b,a,c⟩
  ·rintro⟨b,a,c⟩;exact⟨⟨a,b⟩,c⟩
theorem dels_sub:∀ (ds:List Str) {l:List Str} {s:Str},s∈dels l ds→s∈l
 | [],l,s,h=>h
 | d::ds,l,s,h=>List.mem_of_mem_erase (dels_sub ds h)
theorem kdel_nmD (s:Str)(l:List Str):kdel (.str s) (nmD l)=nmD (l.erase s):=by
 unfold kdel
 have key:∀ (l:List Str) (i:Nat),(s ∉ l→kfind (D.str s).lits (nmD l) i=none)∧(s∈l→∃ j v,kfind (D.str s).lits (nmD l) i=some (i+j,v)∧(nmD l).eraseIdx j=nmD (l.erase s)):=by
  intro l
  induction l with
  | nil=>intro i;simp [nmD,kfind]
  | cons x l ih =>
   intro i
   have he:nmD (x::l)=(.str x,.bool true)::nmD l:=rfl
   rw [he]
   simp only [kfind]
   by_cases hx:s=x
   ·subst hx
    refine⟨fun h=>absurd (List.mem_cons_self ..) h,fun _=>⟨0,_,by rw [if_pos rfl];rfl,by simp [List.erase_cons_head]⟩⟩
   ·have hne:¬ (D.str s).lits=(D.str x).lits:=by simp [D.lits,D.lit,hx]
    rw [if_neg hne]
    obtain⟨i1,i2⟩:=ih (i+1)
    refine⟨fun h=>i1 fun h'=>h (by simp [h']),fun h=>?_⟩
    obtain⟨j,v,h1,h2⟩:=i2 ((List.mem_cons.1 h).resolve_left hx)
    refine⟨j+1,v,by rw [h1];congr 2;omega,?_⟩
    rw [List.eraseIdx_cons_succ,h2,List.erase_cons_tail (by simpa using Ne.symm hx)]
    rfl
 by_cases h:s∈l
 ·obtain⟨j,v,h1,h2⟩:=(key l 0).2 h
  rw [h1]
  simp only [Nat.zero_add]
  exact h2
 ·rw [(key l 0).1 h,List.erase_of_not_mem h]
def methodN (l:List Decl):List Str:=l.flatMap fun d=>if d.kind=3 then [d.name] else []
def usedN (p:Prog):List Str:=Ty.namesL (typesP p)++methodN p.decls
def unusedL (u:List Str)(l:List Decl):List Str:=l.flatMap fun d=>if d.name∈u then [] else [d.name]
def unusedN (p:Prog):List Str:=unusedL (usedN p) p.decls
theorem unusedL_len (u:List Str)(l:List Decl):(unusedL u l).length≤l.length:=by
 have:=flat_len (fun d:Decl=>if d.name∈u then [] else [d.name]) 1 l fun x _=>by split <;> simp
 unfold unusedL;omega
theorem methodN_len (l:List Decl):(methodN l).length≤l.length:=by
 have:=flat_len (fun d:Decl=>if d.kind=3 then [d.name] else []) 1 l fun x _=>by split <;> simp
 unfold methodN;omega
mutual
theorem Ty.Sm.names:∀ {t:Ty},t.Sm→∀ s,s∈t.names→s.length≤sm
 | .mk n a p,h,s,hs=>by
  rw [Ty.names,List.mem_cons] at hs
  rcases hs with rfl | hs
  ·exact h.name
  ·exact Ty.Sm.namesL (fun t ht=>h.arg t ht) s hs
theorem Ty.Sm.namesL:∀ {l:List Ty},(∀ t,t∈l→t.Sm)→∀ s,s∈Ty.namesL l→s.length≤sm
 | [],_,s,hs=>by simp [Ty.namesL] at hs
 | t::l,h,s,hs=>by
  rw [Ty.namesL,List.mem_append] at hs
  rcases hs with hs | hs
  ·exact Ty.Sm.names (h t (by simp)) s hs
  ·exact Ty.Sm.namesL (fun t ht=>h t (by simp [ht])) s hs
end
abbrev q5sx:List Nat:=[0,1,2,3,5,7,8,10,11,13,14,16,17,18,19,27,28,29,30,34,35,40,41,42,43,48,54,55,56,57,63,2000001,2000003,2000014]
theorem ok_plUnused (p:Prog)(hp:p.Le)(h:p.Sm):CallOK prog 18 [prV p] (strsV (unusedN p)):=by
 have h1:=ok_dclTypes p hp h
 have htl:=typesP_len hp
 have htS:=typesP_Sm h
 have hpl:=hp.declsL
 have hU:∀ u,u=usedN p→strsV (unusedL u p.decls)=strsV (unusedN p):=fun u hu=>by rw [hu];rfl
 have hkt:keyT prog 9=true:=by kernel_rfl
 have hT:=underlying82
 have hdn:∀ j s,s∈declN (p.decls.take j)→s.length≤sm:=fun j s hs=>by
  obtain⟨y,hy,rfl⟩:=(mem_declN _ _).1 hs
  exact (h.decls.2 y (List.mem_of_mem_take hy)).name
 have hnd:(declN p.decls).Nodup:=declF_nodup _ _ (by simp)
 have hL0:∀ s,s∈declN p.decls→s.length≤lim:=fun s hs=>by
  obtain⟨y,hy,rfl⟩:=(mem_declN _ _).1 hs
  exact Nat.le_trans (h.decls.2 y hy).name (by decide)
 have hks0:∀ ds,∀ kv,kv∈nmD (dels (declN p.decls) ds)→KeyAt prog 9 kv.1:=fun ds=>nmD_keys fun s hs=>hL0 s (dels_sub ds hs)
 have hin0:∀ (d:Decl),d∈p.decls→∀ ds,(d.name∈dels (declN p.decls) ds↔d.name ∉ ds):=fun d hd ds=>by
  rw [mem_dels ds hnd]
  exact⟨fun h=>h.2,fun h=>⟨(mem_declN _ _).2 ⟨d,hd,rfl⟩,h⟩⟩
 unfold unusedN usedN at *
 generalize typesP p=tl at *
 refine cB func18 ?_
 refine sR q5sx ?_
 refine sR q5sx ?_
 refine kR q5sx fun K1 u1=>?_
 refine AWp.block (AWp.forIdx p.decls (X:=Unit) (fun j _=>[(1,.box 1 0),(3,.box 3 0),(16,.d (.slice (deR p.decls))),(17,intV p.decls.length),(18,intV j)]) (fun j _=>[(1,.cells ((prC p).map .d)),(3,.cells [.mp 14]),(14,.map (nmD (declN (p.decls.take j))))])
  (fun _ _=>True) () trivial sS (by simp [ble,bget,prC,declN,nmD]) ?_ ?_)
 rotate_left
 ·intro j _ d hd hmem dp tk hlt _
  have hk:KeyAt prog 9 (.str d.name):=keyS _ (Nat.le_trans (h.decls.2 d hmem).name (by decide))
  have hks:∀ kv,kv∈nmD (declN (p.decls.take j))→KeyAt prog 9 kv.1:=nmD_keys fun s hs=>Nat.le_trans (hdn j s hs) (by decide)
  rw [tk,declN_append]
  generalize declN (p.decls.take j)=L at *
  refine sR1 hlt q5sx ?_
  refine AWp.goOn rfl ?_
  refine sK fun K2 u2=>?_
  refine AWp.block ?_
  (refine sV q5sx fun K z=>?_;refine ci (deR_get hd) ?_;apply z;clear z K)
  (refine lQ q5sx fun K z=>?_;simp -implicitDefEqProofs only [EV,Nat.reduceEqDiff,reduceCtorEq,TF9,TF53,TF82,kput_nmD];refine⟨hks,hk,?_⟩;(try simp -implicitDefEqProofs only [EV,forall_const,implies_true,Nat.reduceAdd,Nat.reduceEqDiff,Nat.reduceBEq,Nat.reduceLeDiff,Nat.reduceSub,Nat.reduceMul,Int.reduceEq,Int.reduceLT,Int.reduceLE,Int.reduceSub,Int.reduceAdd,Int.reduceToNat,reduceCtorEq,Int.reduceNeg,TF3,TF4,TF9,TF22,TF23,TF25,TF30,TF42,TF53,TF82,kput_nmD]);apply z;clear z K;try simp only [thenA,blockA])
  refine u2 _ _ ?_
  clear u2 K2
  (refine lV q5sx fun K z=>?_;refine cl ?_;apply z;clear z K;try simp only [thenA,])
  exact⟨(),trivial,sS,by simp [ble,bget,prC]⟩
 intro _ _
 rw [List.take_length]
 refine sR1 Int.lt_irrefl q5sx ?_
 refine AWp.stop rfl ?_
 simp only [thenA,blockA,if_true]
 refine u1 _ _ ?_
 clear u1 K1
 generalize declN p.decls=L at *
 refine kC h1 q5sx fun K1 u1=>?_
 refine AWp.block (AWp.forIdx tl (X:=Unit) (fun j _=>[(1,.box 1 0),(3,.box 3 0),(27,.d (.slice (tyR tl))),(28,intV tl.length),(29,intV j)]) (fun j _=>[(1,.cells ((prC p).map .d)),(3,.cells [.mp 14]),(14,.map (nmD (dels L (Ty.namesL (tl.take j)))))])
  (fun _ _=>True) () trivial sS (by simp [ble,bget,prC,dels,Ty.namesL]) ?_ ?_)
 rotate_left
 ·intro j _ t ht hmem dp tk hlt _
  have hN:=ok_TNames t
  have hts:=htS t hmem
  rw [tk,Ty.namesL_append,show Ty.namesL [t]=t.names by simp [Ty.namesL]]
  have hks1:∀ i,∀ kv,kv∈nmD (dels L (Ty.namesL (tl.take j)++t.names.take i))→KeyAt prog 9 kv.1:=fun i=>hks0 _
  generalize Ty.namesL (tl.take j)=A at *
  refine sR1 hlt q5sx ?_
  refine AWp.goOn rfl ?_
  refine sK fun K2 u2=>?_
  refine AWp.block ?_
  (refine sV q5sx fun K z=>?_;refine ci (tyR_get ht) ?_;apply z;clear z K)
  refine sC hN q5sx ?_
  refine AWp.block (AWp.rangeFunc (caps:=[.dptr (tyC t) 0]) (caps':=[.dptr (tyC t) 0]) (f:=106) (r:=.tuple []) (N:=t.names.length) (xs:=fun i=>strV ((t.names[i]?).getD [])) (go:=fun _=>true) (jump:=.ret) (ks:=[2000001,2000003,2000014]) (slR:=[(1,.box 2000001 0),(3,.box 2000003 0),(27,.d (.slice (tyR tl))),(28,intV tl.length),(29,intV j)])
   (mb:=fun st=>match st with | some i=>[(2000001,.cells ((prC p).map .d)),(2000003,.cells [.mp 2000014]),(2000014,.map (nmD (dels L (A++t.names.take i))))] | none=>[]) (st:=some t.names.length) ⟨⟨_,rfl⟩,by decide,by decide,rfl,fun st=>by cases st <;> rfl,by decide,fun _=>rfl,?_⟩ (fun st=>by cases st <;> simp) rfl rfl ?_ ⟨.inr (.inl rfl),.inr (.inl rfl),.inr (.inl rfl),.inr (.inl rfl),.inr (.inl rfl),trivial⟩ ⟨rfl,rfl,by rw [List.take_zero,List.append_nil];rfl,trivial⟩ ?_ ?_)
  ·intro i hi hgo l
   have hx:=List.getElem?_eq_getElem hi
   have htk:t.names.take (i+1)=t.names.take i++[t.names[i]]:=by rw [List.take_succ_eq_append_getElem hi]
   have hsl:=hts.names t.names[i] (List.getElem_mem hi)
   have hks:=hks1 i
   have hst:dels L (A++t.names.take (i+1))=(dels L (A++t.names.take i)).erase t.names[i]:=by
    rw [htk,← List.append_assoc,dels_append _ (A++t.names.take i)];rfl
   generalize t.names[i]=s at *
   have hk:KeyAt prog 9 (.str s):=keyS _ (Nat.le_trans hsl (by decide))
   simp only [hx,Option.getD_some,]
   generalize dels L (A++t.names.take i)=M at *
   (refine lV q5sx fun K z=>?_;apply z;clear z K;try simp only [thenA,])
   refine⟨rfl,?_⟩
   refine AWp.block ?_
   (refine lV q5sx fun K z=>?_;refine⟨_,_,_,opB_delete (k:=2000014) rfl (mem_of_bget rfl) hT hkt rfl hk hks,?_⟩;(try simp -implicitDefEqProofs only [EV,Nat.reduceEqDiff,reduceCtorEq,kdel_nmD]);apply z;clear z K;try simp only [blockA])
   exact⟨rfl,rfl,rfl,by rw [hst];rfl,trivial⟩
  ·intro Y hP hN hxs hg
   refine ok_TNames1 t Y ⟨hP,by rw [hN];omega,fun i x hx=>?_⟩
   rw [hxs,hg]
   simp [hx]
  ·intro i hi _
   obtain rfl:=Option.some.inj hi
   simp only [thenA,blockA]
   refine u2 _ _ ?_
   clear u2 K2
   refine AWp.weaken (sl':=[(1,.box 1 0),(3,.box 3 0),(27,.d (.slice (tyR tl))),(28,intV tl.length),(29,intV j)]) (bx':=[(1,.cells ((prC p).map .d)),(3,.cells [.mp 14]),(14,.map (nmD (dels L (A++t.names))))]) ⟨.inr (.inl rfl),.inr (.inl rfl),.inr (.inl rfl),.inr (.inl rfl),.inr (.inl rfl),trivial⟩ ⟨rfl,rfl,by rw [List.take_length];rfl,trivial⟩ ?_
   (refine lV q5sx fun K z=>?_;refine cl ?_;apply z;clear z K;try simp only [thenA,])
   exact⟨(),trivial,sS,by simp [ble,bget,prC]⟩
  ·intro hi
   cases hi
 intro _ _
 rw [List.take_length]
 refine sR1 Int.lt_irrefl q5sx ?_
 refine AWp.stop rfl ?_
 simp only [thenA,blockA,if_true]
 refine u1 _ _ ?_
 clear u1 K1
 generalize Ty.namesL tl=A at *
 refine kR q5sx fun K1 u1=>?_
 refine AWp.block (AWp.forIdx p.decls (X:=Unit) (fun j _=>[(1,.box 1 0),(3,.box 3 0),(40,.d (.slice (deR p.decls))),(41,intV p.decls.length),(42,intV j)]) (fun j _=>[(1,.cells ((prC p).map .d)),(3,.cells [.mp 14]),(14,.map (nmD (dels L (A++methodN (p.decls.take j)))))])
  (fun _ _=>True) () trivial sS (by simp [ble,bget,prC,methodN]) ?_ ?_)
 rotate_left
 ·intro j _ d hd hmem dp tk hlt _
  have hk:KeyAt prog 9 (.str d.name):=keyS _ (Nat.le_trans (h.decls.2 d hmem).name (by decide))
  have hks:=hks0 (A++methodN (p.decls.take j))
  rw [tk,show methodN (p.decls.take j++[d])=methodN (p.decls.take j)++(if d.kind=3 then [d.name] else []) by simp [methodN],← List.append_assoc,dels_append _ (A++_)]
  generalize dels L (A++methodN (p.decls.take j))=M at *
  refine sR1 hlt q5sx ?_
  refine AWp.goOn rfl ?_
  refine sK fun K2 u2=>?_
  refine AWp.block ?_
  (refine sV q5sx fun K z=>?_;refine ci (deR_get hd) ?_;apply z;clear z K)
  by_cases k3:d.kind=3
  ·have d3:=decide_eq_true k3
   rw [if_pos k3,show dels M [d.name]=M.erase d.name from rfl]
   refine sR1 d3 q5sx ?_
   refine AWp.condT rfl ?_
   (refine lV q5sx fun K z=>?_;refine⟨_,_,_,opB_delete (k:=14) rfl (mem_of_bget rfl) hT hkt rfl hk hks,?_⟩;(try simp -implicitDefEqProofs only [EV,Nat.reduceEqDiff,reduceCtorEq,kdel_nmD]);apply z;clear z K;try simp only [thenA,blockA])
   refine u2 _ _ ?_
   clear u2 K2
   (refine lV q5sx fun K z=>?_;refine cl ?_;apply z;clear z K;try simp only [thenA,])
   exact⟨(),trivial,sS,by simp [k3,dels,ble,bget,prC]⟩
  ·rw [if_neg k3,show dels M []=M from rfl]
   refine sR1 k3 q5sx ?_
   refine AWp.condF rfl (AWp.skip (u2 _ _ ?_))
   clear u2 K2
   (refine lV q5sx fun K z=>?_;refine cl ?_;apply z;clear z K;try simp only [thenA,])
   exact⟨(),trivial,sS,by simp [k3,dels,ble,bget,prC]⟩
 intro _ _
 rw [List.take_length]
 refine sR1 Int.lt_irrefl q5sx ?_
 refine AWp.stop rfl ?_
 simp only [thenA,blockA,if_true]
 refine u1 _ _ ?_
 clear u1 K1
 generalize A++methodN p.decls=U at *
 have hks:=hks0 U
 have hinU:=fun d hd=>hin0 d hd U
 generalize dels L U=M at *
 refine sR q5sx ?_
 refine AWp.promote 11 1 11 rfl ?_
 refine kR q5sx fun K1 u1=>?_
 refine AWp.block (AWp.forIdx p.decls (X:=Unit) (fun j _=>[(1,.box 1 0),(3,.box 3 0),(11,.acc 11),(54,.d (.slice (deR p.decls))),(55,intV p.decls.length),(56,intV j)]) (fun j _=>[(1,.cells ((prC p).map .d)),(3,.cells [.mp 14]),(14,.map (nmD M)),(11,.rows 1 (strR (unusedL U (p.decls.take j))))])
  (fun _ _=>True) () trivial sS (by simp [ble,bget,prC,unusedL,strR]) ?_ ?_)
 rotate_left
 ·intro j _ d hd hmem dp tk hlt _
  have hk:KeyAt prog 9 (.str d.name):=keyS _ (Nat.le_trans (h.decls.2 d hmem).name (by decide))
  have hiu:=hinU d hmem
  have hul:=unusedL_len U (p.decls.take j)
  rw [tk,show unusedL U (p.decls.take j++[d])=unusedL U (p.decls.take j)++(if d.name∈U then [] else [d.name]) by simp [unusedL]]
  have hul2:(unusedL U (p.decls.take j)).length≤2000:=by rw [List.length_take] at hul;omega
  generalize unusedL U (p.decls.take j)=B at *
  refine sR1 hlt q5sx ?_
  refine AWp.goOn rfl ?_
  refine sK fun K2 u2=>?_
  refine AWp.block ?_
  (refine sV q5sx fun K z=>?_;refine ci (deR_get hd) ?_;apply z;clear z K)
  (refine sQ q5sx fun K z=>?_;simp -implicitDefEqProofs only [EV,Nat.reduceEqDiff,reduceCtorEq,TF9,TF53,TF82,look_nmD];refine⟨hks,hk,?_⟩;(try simp -implicitDefEqProofs only [EV,forall_const,implies_true,Nat.reduceAdd,Nat.reduceEqDiff,Nat.reduceBEq,Nat.reduceLeDiff,Nat.reduceSub,Nat.reduceMul,Int.reduceEq,Int.reduceLT,Int.reduceLE,Int.reduceSub,Int.reduceAdd,Int.reduceToNat,reduceCtorEq,Int.reduceNeg,TF3,TF4,TF9,TF22,TF23,TF25,TF30,TF42,TF53,TF82,look_nmD]);apply z;clear z K)
  by_cases hu:d.name∈U
  ·rw [if_pos hu,List.append_nil,decide_eq_false (fun hm=>hiu.1 hm hu)]
   refine AWp.condF rfl (AWp.skip (u2 _ _ ?_))
   clear u2 K2
   (refine lV q5sx fun K z=>?_;refine cl ?_;apply z;clear z K;try simp only [thenA,])
   exact⟨(),trivial,sS,by simp [hu,ble,bget,prC]⟩
  ·rw [if_neg hu,decide_eq_true (hiu.2 hu)]
   refine AWp.condT rfl ?_
   (refine lV q5sx fun K z=>?_;refine⟨by simp,by (try simp only [strR,List.length_map]);unfold lim;omega,?_⟩;(try refine ev ?_);apply z;clear z K;try simp only [thenA,blockA])
   refine u2 _ _ ?_
   clear u2 K2
   (refine lV q5sx fun K z=>?_;refine cl ?_;apply z;clear z K;try simp only [thenA,])
   exact⟨(),trivial,sS,by simp [hu,ble,bget,prC,strR]⟩
 intro _ _
 rw [List.take_length]
 refine sR1 Int.lt_irrefl q5sx ?_
 refine AWp.stop rfl ?_
 simp only [thenA,blockA,if_true]
 refine u1 _ _ ?_
 clear u1 K1
 refine sR q5sx ?_
 exact aR
theorem namesL_mem_len {l:List Ty} (h:∀ t,t∈l→t.names.length≤2000):(Ty.namesL l).length≤l.length*2000:=by
 induction l with
 | nil=>simp [Ty.namesL]
 | cons t l ih =>
  rw [Ty.namesL,List.length_append,List.length_cons,Nat.succ_mul]
  have:=ih fun t ht=>h t (by simp [ht])
  have:=h t (by simp)
  omega
abbrev q6sx:List Nat:=[0,1,2,3,4,5,6,7,8,14,28,37,51,62]
theorem ok_refUnused (p:Prog)(hp:p.Le)(h:p.Sm)(hn:∀ t,t∈typesP p→t.names.length≤2000)(htl:(typesP p).length≤2406002600):CallOK prog 19 [prV p] (strsV (unusedN p)):=by
 have h1:=ok_RTypes p hp
 have hpl:=hp.declsL
 have hnl:∀ j,(Ty.namesL ((typesP p).take j)).length≤4812005200000:=fun j=>by
  have h1:=namesL_mem_len (l:=(typesP p).take j) fun t ht=>hn t (List.mem_of_mem_take ht)
  have h2:((typesP p).take j).length*2000≤2406002600*2000:=Nat.mul_le_mul_right _ (by rw [List.length_take];omega)
  omega
 unfold unusedN usedN
 generalize typesP p=tl at *
 refine cB func19 ?_
 refine sR q6sx ?_
 refine sR q6sx ?_
 refine AWp.promote 3 1 3 rfl ?_
 refine sC h1 q6sx ?_
 refine kR q6sx fun K1 u1=>?_
 refine AWp.block (AWp.forIdx tl (X:=Unit) (fun j _=>[(1,.box 1 0),(3,.acc 3),(4,.d (.slice (tyR tl))),(5,intV j)]) (fun j _=>[(1,.cells ((prC p).map .d)),(3,.rows 1 (strR (Ty.namesL (tl.take j))))])
  (fun _ _=>True) () trivial sS (by simp [ble,bget,prC,strR,Ty.namesL]) ?_ ?_)
 rotate_left
 ·intro j _ t ht hmem dp tk hlt _
  have hl:=ok_List04 t (by have:=hn t hmem;unfold sm;omega)
  have hj:=hnl j
  have htn:=hn t hmem
  rw [tk,Ty.namesL_append,show Ty.namesL [t]=t.names by simp [Ty.namesL]]
  generalize Ty.namesL (tl.take j)=A at *
  generalize t.names=B at *
  refine kR1 hlt q6sx fun K2 u2=>?_
  refine gI u2 ?_
  clear u2 K2
  refine sK fun K2 u2=>?_
  refine AWp.block ?_
  (refine lV q6sx fun K z=>?_;refine ci (tyR_get ht) ?_;refine cc hl ?_;refine⟨strR_row _,by (try simp only [strR,List.length_map]);unfold lim;omega,?_⟩;(try refine ev ?_);apply z;clear z K;try simp only [thenA,blockA])
  refine u2 _ _ ?_
  clear u2 K2
  (refine lV q6sx fun K z=>?_;refine cl ?_;apply z;clear z K;try simp only [thenA,])
  exact⟨(),trivial,sS,by simp [ble,bget,prC,strR]⟩
 intro _ _
 have hj:=hnl tl.length
 rw [List.take_length] at hj ⊢
 refine kR1 Int.lt_irrefl q6sx fun K2 u2=>?_
 refine AWp.stopK rfl ?_
 simp only [thenA,blockA,if_true]
 refine u1 _ _ ?_
 clear u2 K2 u1 K1
 generalize Ty.namesL tl=A at *
 refine kR q6sx fun K1 u1=>?_
 refine AWp.block (AWp.forIdx p.decls (X:=Unit) (fun j _=>[(1,.box 1 0),(3,.acc 3),(6,intV j)]) (fun j _=>[(1,.cells ((prC p).map .d)),(3,.rows 1 (strR (A++methodN (p.decls.take j))))])
  (fun _ _=>True) () trivial sS (by simp [ble,bget,prC,strR,methodN]) ?_ ?_)
 rotate_left
 ·intro j _ d hd hmem dp tk hlt _
  have hml:=methodN_len (p.decls.take j)
  have hml2:(methodN (p.decls.take j)).length≤2000:=by rw [List.length_take] at hml;omega
  rw [tk,show methodN (p.decls.take j++[d])=methodN (p.decls.take j)++(if d.kind=3 then [d.name] else []) by simp [methodN],← List.append_assoc]
  generalize methodN (p.decls.take j)=B at *
  refine kR1 hlt q6sx fun K2 u2=>?_
  refine gI u2 ?_
  clear u2 K2
  refine sK fun K2 u2=>?_
  refine AWp.block ?_
  by_cases k3:d.kind=3
  ·have d3:=decide_eq_true k3
   rw [if_pos k3]
   (refine sV q6sx fun K z=>?_;refine⟨by omega,_,deR_get hd,rfl,?_⟩;(try refine ev1 d3 ?_);apply z;clear z K)
   refine AWp.condT rfl ?_
   (refine lV q6sx fun K z=>?_;refine ci (deR_get hd) ?_;refine⟨by simp,by (try simp only [List.length_append]);unfold lim;omega,?_⟩;(try refine ev ?_);apply z;clear z K;try simp only [thenA,blockA])
   refine u2 _ _ ?_
   clear u2 K2
   (refine lV q6sx fun K z=>?_;refine cl ?_;apply z;clear z K;try simp only [thenA,])
   exact⟨(),trivial,sS,by simp [k3,ble,bget,prC,strR]⟩
  ·rw [if_neg k3,List.append_nil]
   (refine sV q6sx fun K z=>?_;refine⟨by omega,_,deR_get hd,rfl,?_⟩;(try refine ev1 k3 ?_);apply z;clear z K)
   refine AWp.condF rfl (AWp.skip (u2 _ _ ?_))
   clear u2 K2
   (refine lV q6sx fun K z=>?_;refine cl ?_;apply z;clear z K;try simp only [thenA,])
   exact⟨(),trivial,sS,by simp [k3,ble,bget,prC,strR]⟩
 intro _ _
 rw [List.take_length]
 refine kR1 Int.lt_irrefl q6sx fun K2 u2=>?_
 refine AWp.stopK rfl ?_
 simp only [thenA,blockA,if_true]
 refine u1 _ _ ?_
 clear u2 K2 u1 K1
 generalize A++methodN p.decls=U at *
 (refine AWp.publish 3 rfl (wk [(1,.box 1 0),(3,strsV U)] [(1,.cells ((prC p).map .d))] ?_))
 refine sR q6sx ?_
 refine AWp.promote 7 1 7 rfl ?_
 refine kR q6sx fun K1 u1=>?_
 refine AWp.block (AWp.forIdx p.decls (X:=Unit) (fun j _=>[(1,.box 1 0),(3,strsV U),(7,.acc 7),(8,intV j)]) (fun j _=>[(1,.cells ((prC p).map .d)),(7,.rows 1 (strR (unusedL U (p.decls.take j))))])
  (fun _ _=>True) () trivial sS (by simp [ble,bget,prC,strR,unusedL]) ?_ ?_)
 rotate_left
 ·intro j _ d hd hmem dp tk hlt _
  have hc:=ok_In U d.name
  have hul:=unusedL_len U (p.decls.take j)
  rw [tk,show unusedL U (p.decls.take j++[d])=unusedL U (p.decls.take j)++(if d.name∈U then [] else [d.name]) by simp [unusedL]]
  have hul2:(unusedL U (p.decls.take j)).length≤2000:=by rw [List.length_take] at hul;omega
  generalize unusedL U (p.decls.take j)=B at *
  refine kR1 hlt q6sx fun K2 u2=>?_
  refine gI u2 ?_
  clear u2 K2
  refine sK fun K2 u2=>?_
  refine AWp.block ?_
  by_cases hu:d.name∈U
  ·rw [decide_eq_true hu] at hc
   rw [if_pos hu,List.append_nil]
   (refine sV q6sx fun K z=>?_;refine ci (deR_get hd) ?_;refine cc hc ?_;apply z;clear z K)
   refine AWp.condF rfl (AWp.skip (u2 _ _ ?_))
   clear u2 K2
   (refine lV q6sx fun K z=>?_;refine cl ?_;apply z;clear z K;try simp only [thenA,])
   exact⟨(),trivial,sS,by simp [hu,ble,bget,prC,strR]⟩
  ·rw [decide_eq_false hu] at hc
   rw [if_neg hu]
   (refine sV q6sx fun K z=>?_;refine ci (deR_get hd) ?_;refine cc hc ?_;apply z;clear z K)
   refine AWp.condT rfl ?_
   (refine lV q6sx fun K z=>?_;refine ci (deR_get hd) ?_;refine⟨by simp,by (try simp only [strR,List.length_map]);unfold lim;omega,?_⟩;(try refine ev ?_);apply z;clear z K;try simp only [thenA,blockA])
   refine u2 _ _ ?_
   clear u2 K2
   (refine lV q6sx fun K z=>?_;refine cl ?_;apply z;clear z K;try simp only [thenA,])
   exact⟨(),trivial,sS,by simp [hu,ble,bget,prC,strR]⟩
 intro _ _
 rw [List.take_length]
 refine kR1 Int.lt_irrefl q6sx fun K2 u2=>?_
 refine AWp.stopK rfl ?_
 simp only [thenA,blockA,if_true]
 refine u1 _ _ ?_
 clear u2 K2 u1 K1
 refine sR q6sx ?_
 exact aR
set_option maxHeartbeats 1000000
def TCtx.loose (c:TCtx):TCtx:=⟨c.p,false,c.env,c.vars⟩
theorem fits_loose (c:TCtx)(w:Ty)(e:Ex)(z:Ty × Res):fitsT c.loose w e z=fitsT c w e z:=rfl
theorem kids_loose {c:TCtx}:∀ (ws:List Ty)(es:List Ex)(zs ys:List (Ty × Res)),zs.length=ys.length→(∀ (i:Nat)(z y:Ty × Res),zs[i]? = some z→ys[i]? = some y→z.2.bad=false→y=z) →
  (kidsT c ws es zs).bad=false→kidsT c.loose ws es ys=kidsT c ws es zs
 | [],es,zs,ys,_,_,_=>by cases es <;> cases zs <;> cases ys <;> simp [kidsT]
 | _::_,[],zs,ys,_,_,_=>by cases zs <;> cases ys <;> simp [kidsT]
 | _::_,_::_,[],[],_,_,_=>by simp [kidsT]
 | _::_,_::_,[],_::_,h,_,_=>by simp at h
 | _::_,_::_,_::_,[],h,_,_=>by simp at h
 | w::ws,e::es,z::zs,y::ys,hl,h,hb=>by
  rw [kidsT] at hb
  by_cases hf:(fitsT c w e z).bad=true
  ·rw [if_pos hf] at hb;rw [hf] at hb;cases hb
  ·rw [if_neg hf] at hb
   have hz:z.2.bad=false:=by
    cases hz:z.2.bad with
    | false=>rfl
    | true =>
     exfalso
     apply hf
     unfold fitsT
     rw [if_neg (by rw [hz];simp)]
     exact hz
   have hy:=h 0 z y rfl rfl hz
   subst hy
   rw [kidsT,kidsT,fits_loose]
   rw [if_neg hf,if_neg hf]
   exact kids_loose ws es zs ys (by simpa using hl) (fun i a b h1 h2=>h (i+1) a b (by simpa using h1) (by simpa using h2)) hb
theorem found_bad {z:Ty × Res} (h:(foundT z).2.bad=false):z.2.bad=false:=by
 unfold foundT at h
 split at h
 ·cases h
 ·exact h
theorem strict_loose (c:TCtx):∀ e:Ex,(typeE c e).2.bad=false→typeE c.loose e=typeE c e:=by
 intro e
 induction e using Ex.induct with | _ e ih=>?_
 intro hb
 rw [typeE_eq] at hb
 rw [typeE_eq,typeE_eq]
 have hk:∀ (l:List Ex),(∀ x,x∈l→x∈e.kids)→∀ (i:Nat) (z y:Ty × Res),(l.map (typeE c))[i]? = some z→(l.map (typeE c.loose))[i]? = some y→z.2.bad=false→y=z:=by
  intro l hl i z y h1 h2 h3
  rw [List.getElem?_map,Option.map_eq_some_iff] at h1 h2
  obtain⟨a,ha,rfl⟩:=h1
  obtain⟨b,hb,rfl⟩:=h2
  rw [ha] at hb;cases hb
  exact ih a (hl a (List.mem_of_getElem? ha)) h3
 unfold typeN at hb ⊢
 by_cases k1:e.kind=1
 ·rw [if_pos k1,if_pos k1];rfl
 rw [if_neg k1] at hb
 rw [if_neg k1,if_neg k1]
 by_cases k3:e.kind=3
 ·rw [if_pos k3] at hb
  rw [if_pos k3,if_pos k3]
  unfold litT at hb ⊢
  show (match chk c.p c.env e.type with
   | some q=>noT q
   | none=>if structT c e.type=false∨(fieldsT c.p e.type).length≠e.kids.length then noT e.pos else (e.type,kidsT c.loose ((fieldsT c.p e.type).map (fun x:Param=>x.type)) e.kids (e.kids.map (typeE c.loose))))=_
  cases hc:chk c.p c.env e.type with
  | some q=>rfl
  | none =>
   rw [hc] at hb
   simp only at hb ⊢
   split at hb
   ·cases hb
   ·rename_i hn
    rw [if_neg hn,if_neg hn,kids_loose _ _ _ _ (by simp) (hk e.kids fun _ h=>h) hb]
 rw [if_neg k3] at hb
 rw [if_neg k3,if_neg k3]
 by_cases k2:e.kind≠2∧e.kind≠4∧e.kind≠5
 ·rw [if_pos k2] at hb;cases hb
 rw [if_neg k2] at hb
 rw [if_neg k2,if_neg k2]
 cases hks:e.kids with
 | nil=>rfl
 | cons v vs =>
  rw [hks] at hb
  simp only [List.map_cons] at hb ⊢
  by_cases hv:(typeE c v).2.bad=true
  ·rw [if_pos hv] at hb;rw [hv] at hb;cases hb
  rw [if_neg hv] at hb
  rw [ih v (by rw [hks];simp) (by simpa using hv)]
  rw [if_neg hv,if_neg hv]
  by_cases e2:e.kind=2
  ·rw [if_pos e2] at hb
   rw [if_pos e2,if_pos e2]
   unfold callT at hb ⊢
   show (match sigT c e (typeE c v).1 with
    | .inl q=>noT q
    | .inr s=>foundT (s.result.subst (fnames s.formals) e.targs,kidsT c.loose (parTs s e.targs) e.kids.tail (vs.map (typeE c.loose))))=_
   cases hs:sigT c e (typeE c v).1 with
   | inl q=>rfl
   | inr s =>
    rw [hs] at hb
    simp only at hb ⊢
    rw [kids_loose _ _ _ _ (by simp) (hk vs fun x hx=>by rw [hks];exact List.mem_cons_of_mem _ hx) (found_bad hb)]
  rw [if_neg e2] at hb
  rw [if_neg e2,if_neg e2]
  by_cases e4:e.kind=4
  ·rw [if_pos e4,if_pos e4];rfl
  rw [if_neg e4] at hb
  rw [if_neg e4,if_neg e4]
  unfold assertT at hb ⊢
  show (match chk c.p c.env e.type with
   | some q=>noT q
   | none=>if false=true∧possT c (typeE c v).1 e.type=false then noT e.pos else (e.type,(typeE c v).2))=_
  cases hc:chk c.p c.env e.type with
  | some q=>rfl
  | none =>
   rw [hc] at hb
   simp only at hb ⊢
   split at hb
   ·cases hb
   ·rename_i hn
    rw [if_neg hn,if_neg (by simp)]
theorem body_loose (p:Prog)(d:Decl)(h:(bodyT p true d).bad=false):bodyT p false d=bodyT p true d:=by
 unfold bodyT at h ⊢
 by_cases k3:d.kind=3
 ·rw [if_pos k3] at h
  rw [if_pos k3,if_pos k3]
  have hz:(typeE (scopeT p true d) d.body).2.bad=false:=by
   cases hz:(typeE (scopeT p true d) d.body).2.bad with
   | false=>rfl
   | true =>
    exfalso
    unfold fitsT at h
    rw [if_neg (by rw [hz];simp),hz] at h
    cases h
  rw [← strict_loose _ _ hz];rfl
 ·rw [if_neg k3,if_neg k3]
theorem progL_loose (p:Prog):∀ (l:List Decl)(i:Nat),(progL p true l i).bad=false→progL p false l i=progL p true l i
 | [],i,h=>by
  rw [progL] at h
  rw [progL,progL]
  exact congrArg Prod.snd (strict_loose ⟨p,true,[],[]⟩ p.main h)
 | d::ds,i,h=>by
  rw [progL] at h
  rw [progL,progL]
  cases hh:headR p i d with
  | some q=>rfl
  | none =>
   rw [hh] at h
   simp only at h ⊢
   split at h
   ·rename_i hb;rw [hb] at h;cases h
   ·rename_i hb
    have hb':(bodyT p true d).bad=false:=by simpa using hb
    rw [body_loose p d hb',if_neg hb,if_neg hb]
    exact progL_loose p ds (i+1) h
theorem progT_loose (p:Prog)(h:(progT p true).bad=false):(progT p false).bad=false:=by
 have:progT p false=progT p true:=progL_loose p p.decls 0 h
 rw [this];exact h
theorem agree_fits {c:TCtx} {w:Ty} {e:Ex} {z:Ty × Res} {y:TO} (h:Agree z y):((fitsT c w e z).large=true∧(fitsT c w e z).bad=true)∨fitsT c w e z=resO (fitsI c w e y):=by
 unfold fitsT fitsI
 rcases h with ⟨h1,h2⟩ | ⟨h1,⟨h2,h3⟩ | ⟨h2,h3,h4⟩⟩
 ·rw [if_neg (by rw [h2];simp)];exact .inl ⟨h1,h2⟩
 ·rw [if_neg (by rw [h2];simp),h3]
  obtain⟨x,⟨a,b,d⟩⟩:=z
  simp only at h1 h2 ⊢
  rw [h1,h2];exact .inr rfl
 ·subst h4
  obtain⟨x,⟨a,b,d⟩⟩:=z
  simp only at h1 h2 h3 ⊢
  subst h1;subst h2;subst h3
  cases hi:implB c.p c.env x w with
  | false=>exact .inr (by simp [resO,badR])
  | true=>exact .inr (by simp [resO,res0])
def bodyI (p:Prog)(d:Decl):Option Int:=if d.kind=3 then fitsI (scopeT p false d) d.sig.result d.body (typeI (scopeT p false d) d.body) else none
def progIL (p:Prog):List Decl→Nat→Option Int
 | [],_=>(typeI ⟨p,false,[],[]⟩ p.main).2
 | d::ds,i=>match headI p i with
  | some q=>some q
  | none=>match bodyI p d with
   | some q=>some q
   | none=>progIL p ds (i+1)
def progI (p:Prog):Option Int:=progIL p p.decls 0
theorem body_same (p:Prog)(d:Decl):((bodyT p false d).large=true∧(bodyT p false d).bad=true)∨bodyT p false d=resO (bodyI p d):=by
 unfold bodyT bodyI
 by_cases k3:d.kind=3
 ·rw [if_pos k3,if_pos k3];exact agree_fits (agree_typed _ _)
 ·rw [if_neg k3,if_neg k3];exact .inr rfl
theorem progIL_same (p:Prog)(hp:p.decls.length≤100000):∀ (l:List Decl)(i:Nat),l=p.decls.drop i→((progL p false l i).large=true∧(progL p false l i).bad=true)∨progL p false l i=resO (progIL p l i)
 | [],i,_=>by
  rw [progL,progIL]
  have h:=agree_typed ⟨p,false,[],[]⟩ p.main
  generalize typeE ⟨p,false,[],[]⟩ p.main=z at *
  generalize typeI ⟨p,false,[],[]⟩ p.main=y at *
  obtain⟨x,⟨a,b,d⟩⟩:=z
  rcases h with ⟨h1,h2⟩ | ⟨h1,⟨h2,h3⟩ | ⟨h2,h3,h4⟩⟩
  ·exact .inl ⟨h1,h2⟩
  ·simp only at h1 h2 h3 ⊢;subst h1;subst h2;rw [h3];exact .inr rfl
  ·simp only at h1 h2 h3 h4 ⊢;subst h1;subst h2;subst h3;rw [h4];exact .inr rfl
 | d::ds,i,hl=>by
  have hd:p.decls[i]? = some d:=by
   have:=congrArg (·[0]?) hl
   simpa using this.symm
  have hds:ds=p.decls.drop (i+1):=by
   have:=congrArg List.tail hl
   simpa using this
  rw [progL,progIL,head_same p hp i d hd]
  cases headR p i d with
  | some q=>exact .inr rfl
  | none =>
   simp only
   rcases body_same p d with ⟨h1,h2⟩ | h
   ·rw [if_pos h2];exact .inl ⟨h1,h2⟩
   ·rw [h]
    cases bodyI p d with
    | some q=>right;simp [resO,badR]
    | none=>rw [if_neg (by simp [resO,res0])];exact progIL_same p hp ds (i+1) hds
theorem prog_same (p:Prog)(hp:p.decls.length≤100000):(progT p false).large=true∨progT p false=resO (progI p):=by
 rcases progIL_same p hp p.decls 0 rfl with ⟨h1,_⟩ | h
 ·exact .inl h1
 ·exact .inr h
set_option maxHeartbeats 4000000
abbrev scV (c:TCtx):SV:=.tuple [.d (.slice (foR c.env)),.d (.slice (paR c.vars))]
abbrev q1Tx:List Nat:=[0,1,3,4,5,6,8,9,12,17,18,19,20,35,900]
theorem ok_chScope (p:Prog)(h:p.Sm)(d:Decl)(hd:d.Sm)(h2:d.Two)(hps:d.sig.params.length+1≤sm)(k3:d.kind=3):CallOK prog 126 [.dptr (tabC p) 0,deV d] (scV (scopeT p false d)):=by
 have henv:=ok_DEnv p h d hd
 have hel:=envR_len p d
 have hvl:=hd.vars.1
 have hsl:=h2.sig
 have hj:=ok_Join (envR p d) d.sig.formals (by omega) (by have:=h2.sig;omega) (envR_Sm h hd) hd.sig.formals.2
 have e1:(scopeT p false d).env=envR p d++d.sig.formals:=rfl
 have e2:paR (scopeT p false d).vars=[[.str d.recv,.str d.name,.slice (tyR (varTs d.vars)),.int .i64 0,.int .i64 0]]++paR d.sig.params:=rfl
 unfold scV
 rw [e1,e2]
 generalize envR p d++d.sig.formals=EN at *
 have d3:=decide_eq_true k3
 refine cB func126 ?_
 refine sR q1Tx ?_
 refine sK fun K1 u1=>?_
 (refine sQ q1Tx fun K z=>?_;simp -implicitDefEqProofs only [EV,Nat.reduceEqDiff,reduceCtorEq,TF3,TF53,decide_not,d3];apply z;clear z K)
 refine kI u1 ?_
 clear u1 K1
 refine sR q1Tx ?_
 refine AWp.promoteBox 900 3 6 1 rfl rfl (by decide) ?_
 refine kR q1Tx fun K1 u1=>?_
 refine AWp.block (AWp.forIdx d.vars (X:=Unit) (fun j _=>[(0,.dptr (tabC p) 0),(3,.box 3 0),(6,.box 6 0),(17,strsV d.vars),(18,intV d.vars.length),(19,intV j)]) (fun j _=>[(3,.cells (deS d)),(6,.cells [.d (.str d.name),.acc 900,.d (.int .i64 0)]),(900,.rows 3 (tyR (varTs (d.vars.take j))))])
  (fun _ _=>True) () trivial sS (by simp [ble,bget,tyR_map,varTs]) ?_ ?_)
 rotate_left
 ·intro j _ s hs hmem dp tk hlt _
  rw [tk]
  refine sR1 hlt q1Tx ?_
  refine AWp.goOn rfl ?_
  refine sK fun K2 u2=>?_
  refine AWp.block ?_
  (refine sV q1Tx fun K z=>?_;refine ci (strR_get hs) ?_;apply z;clear z K)
  (refine lV q1Tx fun K z=>?_;refine⟨by simp,by (try simp only [varTs,List.length_map,List.length_take]);unfold lim sm at *;omega,?_⟩;(try refine ev ?_);apply z;clear z K;try simp only [thenA,blockA])
  refine u2 _ _ ?_
  clear u2 K2
  refine lT q1Tx ?_
  exact⟨(),trivial,sS,by simp [ble,bget,tyR_map,varTs,tyC,Ty.name,Ty.args,Ty.pos]⟩
 intro _ _
 rw [List.take_length]
 refine sR1 Int.lt_irrefl q1Tx ?_
 refine AWp.stop rfl ?_
 simp only [thenA,blockA,if_true]
 refine u1 _ _ ?_
 clear u1 K1
 (refine AWp.publish 900 rfl (wk [(0,.dptr (tabC p) 0),(3,.box 3 0),(6,.box 6 0)] [(3,.cells (deS d)),(6,.cells [.d (.str d.name),.d (.slice (tyR (varTs d.vars))),.d (.int .i64 0)])] ?_))
 (refine AWp.seqR q1Tx [35] (by decide +kernel) fun K z=>?_;refine ev ?_;refine⟨paR_row _,by unfold lim sm at *;omega,?_⟩;(try refine ev ?_);apply z;clear z K)
 (refine AWp.publish 35 rfl (wk [(0,.dptr (tabC p) 0),(3,.box 3 0),(9,.d (.slice ([[.str d.recv,.str d.name,.slice (tyR (varTs d.vars)),.int .i64 0,.int .i64 0]]++paR d.sig.params)))] [(3,.cells (deS d))] ?_))
 (refine sG q1Tx [] 9 [] fun K z=>?_;refine ev ?_;refine cc henv ?_;refine cc hj ?_;apply z;clear z K)
 exact aR
abbrev q2Tx:List Nat:=[0,1,2,5,6,7,8,11]
theorem ok_chBody (p:Prog)(h:p.Sm)(d:Decl)(hd:d.Sm)(h2:d.Two)(hps:d.sig.params.length+1≤sm):CallOK prog 63 [.dptr (tabC p) 0,boolV false,deV d] (errV (bodyI p d)):=by
 unfold bodyI
 by_cases k3:d.kind=3
 ·rw [if_pos k3]
  have hsc:=ok_chScope p h d hd h2 hps k3
  have hsm:=scope_Sm h false hd h2 hps
  have hft:=ok_iFits (scopeT p false d) hsm rfl d.body hd.body d.sig.result hd.sig.result
  have hp:(scopeT p false d).p=p:=rfl
  rw [hp] at hft
  generalize fitsI (scopeT p false d) d.sig.result d.body (typeI (scopeT p false d) d.body)=o at *
  generalize scopeT p false d=c at *
  have d3:=decide_eq_true k3
  refine cB func63 ?_
  refine sR q2Tx ?_
  refine sK fun K1 u1=>?_
  (refine sQ q2Tx fun K z=>?_;simp -implicitDefEqProofs only [EV,Nat.reduceEqDiff,reduceCtorEq,TF3,TF53,decide_not,d3];apply z;clear z K)
  refine kI u1 ?_
  clear u1 K1
  refine sC hsc q2Tx ?_
  refine sC hft q2Tx ?_
  exact AWp.ret ⟨_,by rw [results63];rfl,co_err _ _⟩
 ·rw [if_neg k3]
  refine cB func63 ?_
  refine sR q2Tx ?_
  refine kR1 k3 q2Tx fun K1 u1=>?_
  refine tI ?_
  refine sR q2Tx ?_
  exact aR
abbrev q3Tx:List Nat:=[0,1,2,4,5,6,7,11,12,13,14,22,28,31]
theorem ok_chProgram (p:Prog)(h:p.Fit):CallOK prog 25 [prV p,boolV false] (errV (progI p)):=by
 have hpl:=h.sm.decls.1
 have hm0:(⟨p,false,[],[]⟩:TCtx).Sm:=⟨h.sm,by simp,by simp,by simp,by simp⟩
 have hmt:=ok_itype ⟨p,false,[],[]⟩ hm0 rfl p.main h.sm.main
 have hnew:=ok_New p h.sm
 generalize hR:progI p=R
 unfold progI at hR
 simp only [show foR ([]:List Formal)=[] from rfl,show paR ([]:List Param)=[] from rfl] at hmt
 refine cB func25 ?_
 refine sR q3Tx ?_
 refine AWp.scope ?_
 refine sC hnew q3Tx ?_
 refine AWp.seqLabel ?_
 refine kR q3Tx fun K1 u1=>?_
 refine AWp.block (AWp.forIdx p.decls (X:=Unit) (fun j _=>[(1,boolV false),(2,.box 2 0),(4,.d .niliface),(5,.dptr (tabC p) 0),(11,.d (.slice (deR p.decls))),(12,intV p.decls.length),(13,intV j)]) (fun _ _=>[(2,.cells ((prC p).map .d))])
  (fun j _=>progIL p (p.decls.drop j) j=R) () hR sS (by simp [ble,bget,prC]) ?_ ?_)
 rotate_left
 ·intro j _ d hd hmem dp tk hlt hI
  have hds:=h.sm.decls.2 d hmem
  have hhd:=ok_DHead sorted_ok p h.sm h.two j
  have hbo:=ok_chBody p h.sm d hds (h.two d hmem) (h.par d hmem)
  rw [dp,progIL] at hI
  generalize headI p (j:Int)=ho at *
  generalize bodyI p d=bo at *
  refine sR1 hlt q3Tx ?_
  refine AWp.goOn rfl ?_
  refine sK fun K2 u2=>?_
  refine AWp.block ?_
  (refine sV q3Tx fun K z=>?_;refine ci (deR_get hd) ?_;apply z;clear z K)
  cases ho with
  | some q =>
   try simp only at hI
   try simp only [errV,errD] at hhd
   refine kC hhd q3Tx fun K3 u3=>?_
   refine sR q3Tx ?_
   refine AWp.condF rfl (AWp.skip (u3 _ _ ?_))
   clear u3 K3
   refine sR q3Tx ?_
   refine AWp.condT rfl (AWp.exit ?_)
   simp only [thenA,blockA,if_true,Nat.reduceEqDiff,if_false]
   refine u1 _ _ ?_
   clear u1 K1 u2 K2
   refine kR q3Tx fun K1 u1=>?_
   refine AWp.condF rfl (AWp.skip (u1 _ _ ?_))
   clear u1 K1
   refine sR q3Tx ?_
   rw [← hI]
   simp only [errV,errD]
   exact aR
  | none =>
   try simp only at hI
   try simp only [errV,errD] at hhd
   refine kC hhd q3Tx fun K3 u3=>?_
   refine sR q3Tx ?_
   refine AWp.condT rfl ?_
   cases bo with
   | some q =>
    try simp only at hI
    try simp only [errV,errD] at hbo
    (refine lV q3Tx fun K z=>?_;refine cc hbo ?_;apply z;clear z K;try simp only [thenA,])
    refine u3 _ _ ?_
    clear u3 K3
    refine sR q3Tx ?_
    refine AWp.condT rfl (AWp.exit ?_)
    simp only [thenA,blockA,if_true,Nat.reduceEqDiff,if_false]
    refine u1 _ _ ?_
    clear u1 K1 u2 K2
    refine kR q3Tx fun K1 u1=>?_
    refine AWp.condF rfl (AWp.skip (u1 _ _ ?_))
    clear u1 K1
    refine sR q3Tx ?_
    rw [← hI]
    simp only [errV,errD]
    exact aR
   | none =>
    try simp only at hI
    try simp only [errV,errD] at hbo
    (refine lV q3Tx fun K z=>?_;refine cc hbo ?_;apply z;clear z K;try simp only [thenA,])
    refine u3 _ _ ?_
    clear u3 K3
    refine sR q3Tx ?_
    refine AWp.condF rfl (AWp.skip (u2 _ _ ?_))
    clear u2 K2
    refine lT q3Tx ?_
    exact⟨(),hI,sS,by simp [ble,bget,prC]⟩
 intro _ hI
 rw [List.drop_length,progIL] at hI
 refine sR1 Int.lt_irrefl q3Tx ?_
 refine AWp.stop rfl ?_
 simp only [thenA,blockA,if_true]
 refine u1 _ _ ?_
 clear u1 K1
 refine kR q3Tx fun K1 u1=>?_
 refine AWp.condT rfl ?_
 unfold toV at hmt
 generalize typeI ⟨p,false,[],[]⟩ p.main=z at *
 obtain⟨x,o⟩:=z
 simp only at hI hmt
 subst hI
 (refine lV q3Tx fun K z=>?_;refine cc hmt ?_;apply z;clear z K;try simp only [thenA,])
 refine u1 _ _ ?_
 clear u1 K1
 refine sR q3Tx ?_
 exact AWp.ret ⟨_,by rw [results25];rfl,co_err _ _⟩
def plainI (p:Prog):Option Int:=if plainP p=true then progI p else some 0
def plainR (p:Prog):Res:=if plainP p=true then progT p false else badR 0
theorem ok_plCheck (p:Prog)(h:p.Fit)(hp:p.Le):CallOK prog 9 [prV p] (errV (plainI p)):=by
 have h1:=ok_dclPlain p hp h.sm
 have h2:=ok_faultNew 4 0
 have h3:=ok_chProgram p h
 unfold plainI
 generalize progI p=o at *
 cases hb:plainP p with
 | true =>
  rw [hb] at h1
  rw [if_pos rfl]
  refine cB func9 ?_
  refine sR [0,1,2,5] ?_
  refine kC h1 [0,1,2,5] fun K1 u1=>?_
  refine kI u1 ?_
  clear u1 K1
  refine sC h3 [0,1,2,5] ?_
  exact AWp.ret ⟨_,by rw [results9];rfl,co_err _ _⟩
 | false =>
  rw [hb] at h1
  rw [if_neg (by simp)]
  refine cB func9 ?_
  refine sR [0,1,2,5] ?_
  refine kC h1 [0,1,2,5] fun K1 u1=>?_
  refine tI ?_
  refine sC h2 [0,1,2,5] ?_
  exact AWp.ret ⟨_,by rw [results9];rfl,co_err _ _⟩
theorem ok_r24Check (p:Prog)(h:p.Fit)(hp:p.Le):CallOK prog 8 [prV p] (rsV (plainR p)):=by
 have h1:=ok_RPlain p hp h.sm
 have h3:=ok_Program17 p h false
 unfold plainR
 generalize progT p false=o at *
 cases hb:plainP p with
 | true =>
  rw [hb] at h1
  rw [if_pos rfl]
  refine cB func8 ?_
  refine sR [0,1,2,5] ?_
  refine kC h1 [0,1,2,5] fun K1 u1=>?_
  refine kI u1 ?_
  clear u1 K1
  refine sC h3 [0,1,2,5] ?_
  exact aR
 | false =>
  rw [hb] at h1
  rw [if_neg (by simp)]
  refine cB func8 ?_
  refine sR [0,1,2,5] ?_
  refine kC h1 [0,1,2,5] fun K1 u1=>?_
  refine tI ?_
  refine sR [0,1,2,5] ?_
  exact aR
theorem plain_same (p:Prog)(hp:p.decls.length≤100000):(plainR p).large=true∨plainR p=resO (plainI p):=by
 unfold plainR plainI
 cases plainP p with
 | true=>rw [if_pos rfl,if_pos rfl];exact prog_same p hp
 | false=>rw [if_neg (by simp),if_neg (by simp)];exact .inr rfl
theorem plain_strict (p:Prog)(hp:p.decls.length≤100000)(h:(plainR p).large=false):plainP p=false∨(progT p true).bad=true∨plainI p=none:=by
 cases hb:plainP p with
 | false=>exact .inl rfl
 | true =>
  refine .inr ?_
  cases hs:(progT p true).bad with
  | true=>exact .inl rfl
  | false =>
   refine .inr ?_
   have h1:=progT_loose p hs
   rcases plain_same p hp with h2 | h2
   ·rw [h2] at h;cases h
   ·unfold plainR at h2
    rw [if_pos hb] at h2
    cases ho:plainI p with
    | none=>rfl
    | some q=>rw [h2,ho] at h1;cases h1
set_option maxHeartbeats 1000000
set_option maxHeartbeats 4000000
abbrev q1Ux:List Nat:=[0,1,3,4,5,6,7,8,11]
theorem ok_told24s (n q:Int):CallOK prog 10 [errV (some n),rsV (badR q)] (boolV (decide (n=q))):=by
 have h1:=ok_faultCode 4 n
 have h2:=ok_faultAt 4 n
 simp only [errV,errD] at h1 h2 ⊢
 refine cB func10 ?_
 refine sR q1Ux ?_
 refine kR q1Ux fun K1 u1=>?_
 refine kI u1 ?_
 clear u1 K1
 refine sC h1 q1Ux ?_
 refine sC h2 q1Ux ?_
 refine sR q1Ux ?_
 exact aR
theorem ok_told24 (o:Option Int):CallOK prog 10 [errV o,rsV (resO o)] (boolV true):=by
 cases o with
 | none =>
  simp only [errV,errD]
  refine cB func10 ?_
  refine sR [0,1,3,4,5,6,7,8,11] ?_
  refine kR [0,1,3,4,5,6,7,8,11] fun K1 u1=>?_
  refine tI ?_
  refine sR [0,1,3,4,5,6,7,8,11] ?_
  exact aR
 | some n =>
  have:=ok_told24s n n
  rw [decide_eq_true rfl] at this
  exact this
theorem typesP_Nn {p:Prog} (h:p.Nn):∀ t,t∈typesP p→t.names.length≤2000:=by
 have hx:∀ e:Ex,e.Nn→∀ x,x∈listE e→ExQ Ty.Nn x:=fun e he x hx=>by
  have:=listE_all (Q:=Ex.Nn) (fun e h x hx=>h.kids x hx) e he x hx
  exact⟨this.type,this.targs⟩
 have hs:∀ s:Sig,s.Nn→SigQ Ty.Nn s:=fun s hs=>⟨hs.formals,hs.params,hs.result⟩
 refine typesP_all (fun d hd=>?_) (hx p.main h.main)
 have hd:=h.decls d hd
 exact⟨hd.formals,hd.fields,fun s hm=>hs s (hd.sigs s hm),hs _ hd.sig,hx _ hd.body⟩
theorem list_len {α:Type} (F:List α→Int→Int)(g:α→Int→Int)(h0:∀ k,F [] k=k)(h1:∀ x xs k,F (x::xs) k=if k≤2000 then F xs (g x k) else k)(hge:∀ x k,k+1≤g x k) :
  ∀ (l:List α) (k:Int),F l k≤2000→k+(l.length:Int)≤F l k
 | [],k,_=>by rw [h0];simp
 | t::ts,k,h=>by
  have h2:=hge t k
  rw [h1] at h ⊢
  split at h
  ·rename_i hk
   rw [if_pos hk]
   have:=list_len F g h0 h1 hge ts (g t k) h
   simp only [List.length_cons]
   omega
  ·omega
theorem fo_len:∀ (l:List Formal)(k:Int),foCount l k≤2000→k+(l.length:Int)≤foCount l k:=list_len foCount (fun f n=>f.bound.count (n+1+((f.name.length / 50:Nat):Int))) (fun _=>rfl) (fun _ _ _=>rfl)
 (fun x k=>by have:=Ty.count_ge x.bound (k+1+((x.name.length / 50:Nat):Int));omega)
theorem pa_len:∀ (l:List Param)(k:Int),paCount l k≤2000→k+(l.length:Int)≤paCount l k:=list_len paCount (fun f n=>f.type.count (n+1+((f.name.length / 50:Nat):Int))) (fun _=>rfl) (fun _ _ _=>rfl)
 (fun x k=>by have:=Ty.count_ge x.type (k+1+((x.name.length / 50:Nat):Int));omega)
theorem Sig.count_few (s:Sig)(n:Int)(h0:0≤n)(h:s.count n≤2000):(sigTs s).length≤2000:=by
 unfold Sig.count at h
 have b1:=(pa_Nn s.params (foCount s.formals (n+((s.name.length / 50:Nat):Int)))).1
 have c1:=Ty.count_ge s.result (paCount s.params (foCount s.formals (n+((s.name.length / 50:Nat):Int))))
 have b3:=pa_len s.params (foCount s.formals (n+((s.name.length / 50:Nat):Int))) (by omega)
 have a3:=fo_len s.formals (n+((s.name.length / 50:Nat):Int)) (by omega)
 simp only [sigTs,boundTs,paramTs,List.length_append,List.length_map,List.length_cons,List.length_nil]
 omega
theorem si_few:LSm siCount (fun s=>(sigTs s).length≤2000):=list_sm siCount Sig.count (fun s=>(sigTs s).length≤2000) (fun _=>rfl) (fun _ _ _=>rfl) (fun x k=>(Sig.count_sm x k).1) (fun x k h0 h=>Sig.count_few x k h0 h)
theorem Decl.count_few (d:Decl)(n:Int)(h0:0≤n)(h:d.count n≤2000):∀ s,s∈d.sigs→(sigTs s).length≤2000:=by
 unfold Decl.count at h
 generalize hm:n+1+((d.name.length / 50:Nat):Int)+((d.recv.length / 50:Nat):Int)=m at h
 obtain⟨a1,a2⟩:=fo_Nn d.formals m
 obtain⟨b1,b2⟩:=pa_Nn d.fields (foCount d.formals m)
 obtain⟨c1,c2⟩:=si_few d.sigs (paCount d.fields (foCount d.formals m))
 obtain⟨e1,e2⟩:=va_sm d.vars (siCount d.sigs (paCount d.fields (foCount d.formals m)))
 generalize hz:vaCount d.vars (siCount d.sigs (paCount d.fields (foCount d.formals m)))=z at *
 unfold Decl.count2 at h
 obtain⟨f1,_⟩:=Sig.count_sm d.sig z
 have g1:=Ex.count_ge d.body (d.sig.count z)
 split at h
 ·exact (c2 (by omega) (by omega)).2
 ·omega
theorem de_few:LSm deCount (fun d=>∀ s,s∈d.sigs→(sigTs s).length≤2000):=list_sm deCount Decl.count (fun d=>∀ s,s∈d.sigs→(sigTs s).length≤2000) (fun _=>rfl) (fun _ _ _=>rfl) (fun x k=>(Decl.count_sm x k).1) (fun x k h0 h=>Decl.count_few x k h0 h)
theorem typesP_few (p:Prog)(h:p.count≤600):(typesP p).length≤2406002600:=by
 have hle:=Prog.count_Le p h
 unfold Prog.count at h
 have h1:=Ex.count_ge p.main 0
 obtain⟨a1,a2⟩:=de_few p.decls (p.main.count 0)
 have l2:=(a2 (by omega) (by omega)).2
 have l1:=list_len deCount Decl.count (fun _=>rfl) (fun _ _ _=>rfl) (fun x k=>(Decl.count_sm x k).1) p.decls (p.main.count 0) (by omega)
 have hd:∀ d,d∈p.decls→(declTs d).length≤4010001:=fun d hm=>by
  have hde:=hle.decls d hm
  have g1:=hde.formals
  have g2:=hde.fields
  have g3:=hde.sigsL
  have g4:=methTs_len hde
  have g5:=flat_len sigTs 2000 d.sigs (l2 d hm)
  have g6:d.sigs.length*2000≤2000*2000:=Nat.mul_le_mul_right _ g3
  simp only [declTs,boundTs,paramTs,sigsTs,List.length_append,List.length_map]
  omega
 have k1:=flat_len declTs 4010001 p.decls hd
 have k2:p.decls.length*4010001≤600*4010001:=Nat.mul_le_mul_right _ (by omega)
 have k3:=hle.main.tys
 simp only [typesP,declsTs,List.length_append]
 omega
set_option maxHeartbeats 1000000
set_option maxHeartbeats 4000000
def t24:Ty:=.mk [84] [] 0
def l24:Ex:=.mk 3 [] t24 [] [] 0
def p24:Prog:=⟨[{ (default:Decl) with kind:=1,name:=[84] },{ (default:Decl) with kind:=2,name:=[73],sigs:=[⟨[109],[],[],t24,0⟩] }],.mk 5 [] t24 [] [l24] 0⟩
def q24:Prog:=⟨[{ (default:Decl) with kind:=1,name:=[84],formals:=[⟨[97],t24,0⟩] }],l24⟩
theorem p24_few:p24.count≤600:=by decide +kernel
theorem q24_few:q24.count≤600:=by decide +kernel
theorem p24_check:plainI p24=none:=by decide +kernel
theorem q24_check:plainI q24=some 0:=by decide +kernel
theorem p24_meth:methN p24 [73]=[[109]]:=by decide +kernel
theorem p24_i1:implB p24 [] (.mk [84] [] 0) (.mk [73] [] 0)=false:=by decide +kernel
theorem p24_i2:implB p24 [] (.mk [84] [] 0) (.mk [84] [] 0)=true:=by decide +kernel
theorem p24_un:unusedN p24=[[73]]:=by decide +kernel
theorem ok_awake24:CallOK prog 5 [] (boolV true):=by
 have hp:=Prog.count_Fit p24 p24_few
 have hq:=Prog.count_Fit q24 q24_few
 have lp:=Prog.count_Le p24 p24_few
 have c1:=ok_plCheck p24 hp lp
 have c2:=ok_plCheck q24 hq (Prog.count_Le q24 q24_few)
 have c3:=ok_told24s 0 0
 have c4:=ok_plMethods p24 hp.sm [73] (by decide)
 have c5:=ok_Equal [[109]] [[109]]
 have c6:=ok_plImplements p24 hp.sm [84] [73] (by decide) (by decide)
 have c7:=ok_plImplements p24 hp.sm [84] [84] (by decide) (by decide)
 have c8:=ok_plUnused p24 lp hp.sm
 have c9:=ok_Equal [[73]] [[73]]
 rw [p24_check] at c1;rw [q24_check] at c2;rw [p24_meth] at c4;rw [p24_i1] at c6;rw [p24_i2] at c7;rw [p24_un] at c8
 rw [decide_eq_true rfl] at c3 c5 c9
 simp only [errV,errD] at c1 c2 c3
 refine cB func5 ?_
 refine sR [0,1,2,3,4] ?_
 refine sR [0,1,2,3,4] ?_
 refine sR [0,1,2,3,4] ?_
 refine sR [0,1,2,3,4] ?_
 refine sR [0,1,2,3,4] ?_
 (refine sV [0,1,2,3,4] fun K z=>?_;refine cc c1 ?_;refine cc c2 ?_;refine cc c3 ?_;refine cc c4 ?_;refine cc c5 ?_;refine cc c6 ?_;refine cc c7 ?_;refine cc c8 ?_;refine cc c9 ?_;apply z;clear z K)
 exact aR
abbrev q1Vx:List Nat:=[0,1,2,3,4,16,21,27]
theorem law24_matches (p:Prog):CallOK prog 3 [prV p] (boolV true):=by
 have haw:=ok_awake24
 have hf:=ok_Few06 p
 by_cases g1:p.count≤600
 rotate_left
 ·rw [decide_eq_false g1] at hf
  refine cB func3 ?_
  refine sR q1Vx ?_
  refine sK fun K1 u1=>?_
  (refine sV q1Vx fun K z=>?_;refine cc haw ?_;refine cc hf ?_;apply z;clear z K)
  refine tI ?_
  refine sC haw q1Vx ?_
  exact aR
 rw [decide_eq_true g1] at hf
 have hfit:=Prog.count_Fit p g1
 have hle:=Prog.count_Le p g1
 have hr:=ok_Right06 p hfit.sm (Prog.count_Nn p g1)
 cases g2:p.right with
 | false =>
  rw [g2] at hr
  refine cB func3 ?_
  refine sR q1Vx ?_
  refine sK fun K1 u1=>?_
  (refine sV q1Vx fun K z=>?_;refine cc haw ?_;refine cc hf ?_;refine cc hr ?_;apply z;clear z K)
  refine tI ?_
  refine sC haw q1Vx ?_
  exact aR
 | true =>
 rw [g2] at hr
 have c1:=ok_plCheck p hfit hle
 have c2:=ok_r24Check p hfit hle
 have c3:=ok_RPlain p hle hfit.sm
 have c4:=ok_Program17 p hfit true
 have hs:=plain_strict p hfit.len
 rcases plain_same p hfit.len with hl | he
 ·generalize plainR p=r at *
  obtain⟨q,b,l⟩:=r
  simp only at hl
  subst hl
  refine cB func3 ?_
  refine sR q1Vx ?_
  refine sK fun K1 u1=>?_
  (refine sV q1Vx fun K z=>?_;refine cc haw ?_;refine cc hf ?_;refine cc hr ?_;apply z;clear z K)
  refine kI u1 ?_
  clear u1 K1
  refine sC c2 q1Vx ?_
  refine kR q1Vx fun K1 u1=>?_
  refine tI ?_
  refine sR q1Vx ?_
  exact aR
 ·rw [he] at c2 hs
  have ht:=ok_told24 (plainI p)
  generalize plainI p=o at *
  generalize plainP p=pp at *
  generalize progT p true=r at *
  obtain⟨q,b,l⟩:=r
  have hs:=hs (by cases o <;> rfl)
  cases o with
  | none =>
   simp only [errV,errD] at c1 ht
   cases pp <;> cases b <;> (
    refine cB func3 ?_
    refine sR q1Vx ?_
    refine sK fun K1 u1=>?_
    (refine sV q1Vx fun K z=>?_;refine cc haw ?_;refine cc hf ?_;refine cc hr ?_;apply z;clear z K)
    refine kI u1 ?_
    clear u1 K1
    refine sC c2 q1Vx ?_
    refine kR q1Vx fun K1 u1=>?_
    refine kI u1 ?_
    clear u1 K1
    refine sC c1 q1Vx ?_
    refine kC ht q1Vx fun K1 u1=>?_
    refine kI u1 ?_
    clear u1 K1
    first
     | (refine sV q1Vx fun K z=>?_;refine cc c3 ?_;refine cc c4 ?_;apply z;clear z K)
     | refine sC c3 q1Vx ?_
    exact aR)
  | some n =>
   simp only [errV,errD] at c1 ht
   rcases hs with rfl | rfl | hs
   ·refine cB func3 ?_
    refine sR q1Vx ?_
    refine sK fun K1 u1=>?_
    (refine sV q1Vx fun K z=>?_;refine cc haw ?_;refine cc hf ?_;refine cc hr ?_;apply z;clear z K)
    refine kI u1 ?_
    clear u1 K1
    refine sC c2 q1Vx ?_
    refine kR q1Vx fun K1 u1=>?_
    refine kI u1 ?_
    clear u1 K1
    refine sC c1 q1Vx ?_
    refine kC ht q1Vx fun K1 u1=>?_
    refine kI u1 ?_
    clear u1 K1
    refine sC c3 q1Vx ?_
    exact aR
   ·cases pp <;> (
     refine cB func3 ?_
     refine sR q1Vx ?_
     refine sK fun K1 u1=>?_
     (refine sV q1Vx fun K z=>?_;refine cc haw ?_;refine cc hf ?_;refine cc hr ?_;apply z;clear z K)
     refine kI u1 ?_
     clear u1 K1
     refine sC c2 q1Vx ?_
     refine kR q1Vx fun K1 u1=>?_
     refine kI u1 ?_
     clear u1 K1
     refine sC c1 q1Vx ?_
     refine kC ht q1Vx fun K1 u1=>?_
     refine kI u1 ?_
     clear u1 K1
     first
      | (refine sV q1Vx fun K z=>?_;refine cc c3 ?_;refine cc c4 ?_;apply z;clear z K)
      | refine sC c3 q1Vx ?_
     exact aR)
   ·cases hs
abbrev q2Vx:List Nat:=[0,1,2,3,6,28]
theorem law24_names (p:Prog)(a b:Str):CallOK prog 4 [prV p,strV a,strV b] (boolV true):=by
 have haw:=ok_awake24
 have hf:=ok_Few06 p
 by_cases g1:p.count≤600
 rotate_left
 ·rw [decide_eq_false g1] at hf
  refine cB func4 ?_
  refine sR q2Vx ?_
  refine sK fun K1 u1=>?_
  (refine sV q2Vx fun K z=>?_;refine cc haw ?_;refine cc hf ?_;apply z;clear z K)
  refine tI ?_
  refine sC haw q2Vx ?_
  exact aR
 rw [decide_eq_true g1] at hf
 have hfit:=Prog.count_Fit p g1
 have hle:=Prog.count_Le p g1
 have hnn:=Prog.count_Nn p g1
 have hr:=ok_Right06 p hfit.sm hnn
 cases g2:p.right with
 | false =>
  rw [g2] at hr
  refine cB func4 ?_
  refine sR q2Vx ?_
  refine sK fun K1 u1=>?_
  (refine sV q2Vx fun K z=>?_;refine cc haw ?_;refine cc hf ?_;refine cc hr ?_;apply z;clear z K)
  refine tI ?_
  refine sC haw q2Vx ?_
  exact aR
 | true =>
 rw [g2] at hr
 by_cases g3:a.length≤300
 rotate_left
 ·have g3':(a.length:Int) > 300:=by omega
  refine cB func4 ?_
  refine sR q2Vx ?_
  refine sK fun K1 u1=>?_
  (refine sV q2Vx fun K z=>?_;refine cc haw ?_;refine cc hf ?_;refine⟨_,.inl ⟨_,rfl,hr,rfl⟩,?_⟩;(try refine ev1 g3' ?_);apply z;clear z K)
  refine tI ?_
  refine sC haw q2Vx ?_
  exact aR
 have g3':¬ (a.length:Int) > 300:=by omega
 by_cases g4:b.length≤300
 rotate_left
 ·have g4':(b.length:Int) > 300:=by omega
  refine cB func4 ?_
  refine sR q2Vx ?_
  refine sK fun K1 u1=>?_
  (refine sV q2Vx fun K z=>?_;refine cc haw ?_;refine cc hf ?_;refine⟨_,.inl ⟨_,rfl,hr,rfl⟩,?_⟩;(try refine ev2 g3' g4' ?_);apply z;clear z K)
  refine tI ?_
  refine sC haw q2Vx ?_
  exact aR
 have g4':¬ (b.length:Int) > 300:=by omega
 have hs:=hfit.sm
 have c1:=ok_plMethods p hs a (by unfold sm;omega)
 have c2:=ok_refMethods p hs a (by unfold sm;omega)
 have c3:=ok_Equal (methN p a) (methN p a)
 have c4:=ok_plImplements p hs a b (by unfold sm;omega) (by unfold sm;omega)
 have c5:=ok_RImplements p hs [] (by simp) (by simp) (.mk a [] 0) (.mk b [] 0) (named_Sm (by unfold sm;omega)) (named_Sm (by unfold sm;omega))
 have c6:=ok_plUnused p hle hs
 have c7:=ok_refUnused p hle hs (typesP_Nn hnn) (typesP_few p g1)
 have c8:=ok_Equal (unusedN p) (unusedN p)
 rw [decide_eq_true rfl] at c3 c8
 simp only [show foR ([]:List Formal)=[] from rfl] at c5
 generalize methN p a=m at *
 generalize unusedN p=u at *
 generalize implB p [] (.mk a [] 0) (.mk b [] 0)=z at *
 have hzz:(z == z)=true:=by simp
 refine cB func4 ?_
 refine sR q2Vx ?_
 refine sK fun K1 u1=>?_
 (refine sV q2Vx fun K z=>?_;refine cc haw ?_;refine cc hf ?_;refine⟨_,.inl ⟨_,rfl,hr,rfl⟩,?_⟩;(try refine ev2 g3' g4' ?_);apply z;clear z K)
 refine kI u1 ?_
 clear u1 K1
 (refine sG q2Vx [] 24 [] fun K z=>?_;refine ev ?_;refine cc c1 ?_;refine cc c2 ?_;refine cc c3 ?_;refine cc c4 ?_;refine⟨_,.inl ⟨_,rfl,c5,rfl⟩,?_⟩;(try refine ev1 hzz ?_);refine cc c6 ?_;refine cc c7 ?_;refine cc c8 ?_;apply z;clear z K)
 exact aR
end Go.Abs
