/- several texts in one -/
import Derived.Test.YtaneedhchnaniaaGreatDoorQFB
import Derived.Test.YtaneedhchnaniaaGreatDoorQSB
namespace Go.Abs
set_option maxRecDepth 100000
set_option maxHeartbeats 1000000
set_option linter.unusedSimpArgs false
set_option linter.unusedVariables false
open Go Go.Proofs Tryz
mutual
theorem Ty.count_ge:∀ (t:Ty)(k:Int),k+1≤t.count k
 | .mk n a _,k=>by
  simp only [Ty.count]
  have:=Ty.countL_ge a (k+1+((n.length / 50:Nat):Int))
  omega
theorem Ty.countL_ge:∀ (l:List Ty)(k:Int),k≤Ty.countL l k
 | [],k=>by simp [Ty.countL]
 | t::ts,k=>by
  simp only [Ty.countL]
  split
  ·have h1:=Ty.count_ge t k
   have h2:=Ty.countL_ge ts (t.count k)
   omega
  ·omega
end
mutual
theorem Ty.count_sm:∀ (t:Ty)(k:Int),0≤k→t.count k≤2000→t.Sm
 | .mk n a p,k,h0,h=>by
  simp only [Ty.count] at h
  have h1:=Ty.countL_ge a (k+1+((n.length / 50:Nat):Int))
  have h2:=Ty.countL_sm a (k+1+((n.length / 50:Nat):Int)) (by omega) h
  exact .mk n a p (by unfold sm;omega) (by unfold sm;omega) h2.2
theorem Ty.countL_sm:∀ (l:List Ty)(k:Int),0≤k→Ty.countL l k≤2000→(k+l.length≤2000∧∀ t,t∈l→t.Sm)
 | [],k,h0,h=>by simp [Ty.countL] at h ⊢;omega
 | t::ts,k,h0,h=>by
  simp only [Ty.countL] at h
  split at h
  ·have h1:=Ty.count_ge t k
   have h2:=Ty.countL_sm ts (t.count k) (by omega) h
   have h3:=Ty.count_sm t k h0 (by have:=Ty.countL_ge ts (t.count k);omega)
   refine⟨by simp only [List.length_cons];omega,?_⟩
   intro u hu
   simp only [List.mem_cons] at hu
   rcases hu with rfl | hu
   ·exact h3
   ·exact h2.2 u hu
  ·omega
end
mutual
theorem Ex.count_ge:∀ (t:Ex)(k:Int),k+1≤t.count k
 | .mk _ n t a ks _,k=>by
  simp only [Ex.count]
  have h1:=Ty.count_ge t (k+((n.length / 50:Nat):Int))
  have h2:=Ty.countL_ge a (t.count (k+((n.length / 50:Nat):Int)))
  have h3:=Ex.countL_ge ks (Ty.countL a (t.count (k+((n.length / 50:Nat):Int))))
  omega
theorem Ex.countL_ge:∀ (l:List Ex)(k:Int),k≤Ex.countL l k
 | [],k=>by simp [Ex.countL]
 | t::ts,k=>by
  simp only [Ex.countL]
  split
  ·have h1:=Ex.count_ge t k
   have h2:=Ex.countL_ge ts (t.count k)
   omega
  ·omega
end
mutual
theorem Ex.count_sm:∀ (t:Ex)(k:Int),0≤k→t.count k≤2000→t.Sm
 | .mk kd n t a ks p,k,h0,h=>by
  simp only [Ex.count] at h
  have h1:=Ty.count_ge t (k+((n.length / 50:Nat):Int))
  have h2:=Ty.countL_ge a (t.count (k+((n.length / 50:Nat):Int)))
  have h3:=Ex.countL_ge ks (Ty.countL a (t.count (k+((n.length / 50:Nat):Int))))
  have g1:=Ty.count_sm t (k+((n.length / 50:Nat):Int)) (by omega) (by omega)
  have g2:=Ty.countL_sm a (t.count (k+((n.length / 50:Nat):Int))) (by omega) (by omega)
  have g3:=Ex.countL_sm ks (Ty.countL a (t.count (k+((n.length / 50:Nat):Int)))) (by omega) h
  exact .mk kd n t a ks p (by unfold sm;omega) g1 (by unfold sm;omega) g2.2 (by unfold sm;omega) g3.2
theorem Ex.countL_sm:∀ (l:List Ex)(k:Int),0≤k→Ex.countL l k≤2000→(k+l.length≤2000∧∀ t,t∈l→t.Sm)
 | [],k,h0,h=>by simp [Ex.countL] at h ⊢;omega
 | t::ts,k,h0,h=>by
  simp only [Ex.countL] at h
  split at h
  ·have h1:=Ex.count_ge t k
   have h2:=Ex.countL_sm ts (t.count k) (by omega) h
   have h3:=Ex.count_sm t k h0 (by have:=Ex.countL_ge ts (t.count k);omega)
   refine⟨by simp only [List.length_cons];omega,?_⟩
   intro u hu
   simp only [List.mem_cons] at hu
   rcases hu with rfl | hu
   ·exact h3
   ·exact h2.2 u hu
  ·omega
end
abbrev LSm {α:Type} (F:List α→Int→Int)(Sm:α→Prop):Prop:=∀ (l:List α)(k:Int),(k≤F l k)∧(0≤k→F l k≤2000→k+l.length≤2000∧∀ t,t∈l→Sm t)
theorem list_sm {α:Type} (F:List α→Int→Int)(g:α→Int→Int)(Sm:α→Prop)(h0:∀ k,F [] k=k)(h1:∀ x xs k,F (x::xs) k=if k≤2000 then F xs (g x k) else k)
  (hge:∀ x k,k+1≤g x k) (hsm:∀ x k,0≤k→g x k≤2000→Sm x):∀ (l:List α) (k:Int),(k≤F l k)∧(0≤k→F l k≤2000→k+l.length≤2000∧∀ t,t∈l→Sm t)
 | [],k=>by rw [h0];exact⟨Int.le_refl _,fun h0 h=>⟨by simp;omega,by simp⟩⟩
 | t::ts,k=>by
  rw [h1]
  obtain⟨i1,i2⟩:=list_sm F g Sm h0 h1 hge hsm ts (g t k)
  have h2:=hge t k
  split
  ·refine⟨by omega,fun hk h=>?_⟩
   obtain⟨j1,j2⟩:=i2 (by omega) h
   have h3:=hsm t k hk (by omega)
   refine⟨by simp only [List.length_cons];omega,?_⟩
   intro u hu
   simp only [List.mem_cons] at hu
   rcases hu with rfl | hu
   ·exact h3
   ·exact j2 u hu
  ·exact⟨Int.le_refl _,fun _ h=>by omega⟩
theorem fo_sm:LSm foCount Formal.Sm:=list_sm foCount (fun f n=>f.bound.count (n+1+((f.name.length / 50:Nat):Int))) Formal.Sm (fun _=>rfl) (fun _ _ _=>rfl)
 (fun x k=>by have:=Ty.count_ge x.bound (k+1+((x.name.length / 50:Nat):Int));omega)
 (fun x k h0 h=>by
  have:=Ty.count_ge x.bound (k+1+((x.name.length / 50:Nat):Int))
  exact⟨by unfold sm;omega,Ty.count_sm _ _ (by omega) h⟩)
theorem pa_sm:LSm paCount Param.Sm:=list_sm paCount (fun f n=>f.type.count (n+1+((f.name.length / 50:Nat):Int))) Param.Sm (fun _=>rfl) (fun _ _ _=>rfl)
 (fun x k=>by have:=Ty.count_ge x.type (k+1+((x.name.length / 50:Nat):Int));omega)
 (fun x k h0 h=>by
  have:=Ty.count_ge x.type (k+1+((x.name.length / 50:Nat):Int))
  exact⟨by unfold sm;omega,Ty.count_sm _ _ (by omega) h⟩)
theorem va_sm:LSm vaCount (fun v=>v.length≤sm):=list_sm vaCount (fun v n=>n+1+((v.length / 50:Nat):Int)) (fun v=>v.length≤sm) (fun _=>rfl) (fun _ _ _=>rfl) (fun x k=>by omega) (fun x k h0 h=>by unfold sm;omega)
theorem Sig.count_sm (s:Sig)(n:Int):n+1≤s.count n∧(0≤n→s.count n≤2000→s.Sm):=by
 unfold Sig.count
 obtain⟨a1,a2⟩:=fo_sm s.formals (n+((s.name.length / 50:Nat):Int))
 obtain⟨b1,b2⟩:=pa_sm s.params (foCount s.formals (n+((s.name.length / 50:Nat):Int)))
 have c1:=Ty.count_ge s.result (paCount s.params (foCount s.formals (n+((s.name.length / 50:Nat):Int))))
 refine⟨by omega,fun h0 h=>?_⟩
 obtain⟨a3,a4⟩:=a2 (by omega) (by omega)
 obtain⟨b3,b4⟩:=b2 (by omega) (by omega)
 exact⟨by unfold sm;omega,⟨by unfold sm;omega,a4⟩,⟨by unfold sm;omega,b4⟩,Ty.count_sm _ _ (by omega) h⟩
theorem si_sm:LSm siCount Sig.Sm:=list_sm siCount Sig.count Sig.Sm (fun _=>rfl) (fun _ _ _=>rfl) (fun x k=>(Sig.count_sm x k).1) (fun x k=>(Sig.count_sm x k).2)
theorem Decl.count_sm (d:Decl)(n:Int):n+1≤d.count n∧(0≤n→d.count n≤2000→d.Sm):=by
 unfold Decl.count
 generalize hm:n+1+((d.name.length / 50:Nat):Int)+((d.recv.length / 50:Nat):Int)=m
 obtain⟨a1,a2⟩:=fo_sm d.formals m
 obtain⟨b1,b2⟩:=pa_sm d.fields (foCount d.formals m)
 obtain⟨c1,c2⟩:=si_sm d.sigs (paCount d.fields (foCount d.formals m))
 obtain⟨e1,e2⟩:=va_sm d.vars (siCount d.sigs (paCount d.fields (foCount d.formals m)))
 generalize hz:vaCount d.vars (siCount d.sigs (paCount d.fields (foCount d.formals m)))=z at *
 unfold Decl.count2
 obtain⟨f1,f2⟩:=Sig.count_sm d.sig z
 have g1:=Ex.count_ge d.body (d.sig.count z)
 refine⟨by split <;> omega,fun h0 h=>?_⟩
 split at h
 ·obtain⟨a3,a4⟩:=a2 (by omega) (by omega)
  obtain⟨b3,b4⟩:=b2 (by omega) (by omega)
  obtain⟨c3,c4⟩:=c2 (by omega) (by omega)
  obtain⟨e3,e4⟩:=e2 (by omega) (by omega)
  exact⟨by unfold sm;omega,⟨by unfold sm;omega,a4⟩,⟨by unfold sm;omega,b4⟩,⟨by unfold sm;omega,c4⟩,by unfold sm;omega,⟨by unfold sm;omega,e4⟩,f2 (by omega) (by omega),Ex.count_sm _ _ (by omega) h⟩
 ·omega
theorem de_sm:LSm deCount Decl.Sm:=list_sm deCount Decl.count Decl.Sm (fun _=>rfl) (fun _ _ _=>rfl) (fun x k=>(Decl.count_sm x k).1) (fun x k=>(Decl.count_sm x k).2)
theorem Prog.count_sm (p:Prog)(h:p.count≤600):p.Sm∧p.decls.length≤2000:=by
 unfold Prog.count at h
 have h1:=Ex.count_ge p.main 0
 obtain⟨a1,a2⟩:=de_sm p.decls (p.main.count 0)
 obtain⟨a3,a4⟩:=a2 (by omega) (by omega)
 exact⟨⟨⟨by unfold sm;omega,a4⟩,Ex.count_sm p.main 0 (by omega) (by omega)⟩,by omega⟩
def tkey (a b:Str):D:=.agg [.str a,.str b]
def isStr (P:Program)(t:TypeId):Bool:=match P.underlying t with | some .string=>true | _=>false
def twoStr (P:Program)(kt:TypeId):Bool:=match P.underlying kt with
 | some (.struct fs)=>match fs.toList with
  | [f1,f2]=>f1.offset == 0 && f2.offset == 1 && isStr P f1.type && isStr P f2.type && P.cellsOf f1.type == 1 && P.cellsOf f2.type == 1 && P.cellsOf kt == 2 && fs.all (·.name != "_") && Nat.ble 1 P.types.size
  | _=>false
 | _=>false
theorem isStr_eq {P:Program} {t:TypeId} (h:isStr P t=true):P.underlying t=some .string:=by
 unfold isStr at h
 split at h <;> simp_all
theorem key_two {P:Program} {kt:TypeId} (h:twoStr P kt=true)(a b:Str)(ha:a.length≤lim)(hb:b.length≤lim):KeyAt P kt (tkey a b):=by
 unfold twoStr at h
 split at h
 ·rename_i fs hu
  split at h
  ·rename_i f1 f2 hfs
   simp only [Bool.and_eq_true,beq_iff_eq,Nat.ble_eq] at h
   obtain⟨⟨⟨⟨⟨⟨⟨⟨o1,o2⟩,u1⟩,u2⟩,c1⟩,c2⟩,ct⟩,hn⟩,hsz⟩:=h
   obtain⟨d,hd⟩:∃ d,P.types.size+1=d+2:=⟨P.types.size - 1,by omega⟩
   refine⟨rfl,?_,?_⟩
   ·simp [tkey,D.kv,Value.formed,hu,ct]
   ·rw [hd]
    have e1:∀ s:Str,s.length≤lim→P.keyLits (d+1) f1.type [.string ⟨s.toArray⟩]=some [.string s]:=fun s hs=>by
     simp [Program.keyLits,isStr_eq u1,ByteArray.size]
     unfold lim at hs;unfold maxLen;omega
    have e2:∀ s:Str,s.length≤lim→P.keyLits (d+1) f2.type [.string ⟨s.toArray⟩]=some [.string s]:=fun s hs=>by
     simp [Program.keyLits,isStr_eq u2,ByteArray.size]
     unfold lim at hs;unfold maxLen;omega
    unfold Program.keyLits
    rw [hu]
    simp only [tkey,D.kv,Value.cells,List.map_cons,List.map_nil,D.lit,Lit.value,List.length_cons,List.length_nil,ct,hn,and_self,if_true,hfs,List.mapM_cons,List.mapM_nil,o1,o2,c1,c2,
     List.drop_zero,List.drop_succ_cons,List.take_succ_cons,List.take_zero,e1 a ha,e2 b hb]
    rfl
  ·simp at h
 ·simp at h
theorem two79:twoStr prog 157=true:=by kernel_rfl
def keyOfD (d:Decl):Option D:=if d.kind=1∨d.kind=2 then some (tkey d.name []) else if d.kind=3 then some (tkey d.name (46::d.sig.name)) else none
def tabStep (m:List (D × D))(i:Nat)(d:Decl):List (D × D):=match keyOfD d with
 | none=>m
 | some k=>if (kfind k.lits m 0).isSome=true then m else kput k (.int .i64 i) m
def tabF:List Decl→Nat→List (D × D)→List (D × D)
 | [],_,m=>m
 | d::ds,i,m=>tabF ds (i+1) (tabStep m i d)
def tabM (p:Prog):List (D × D):=tabF p.decls 0 []
def tabC (p:Prog):List D:=prC p++[.map (tabM p)]
theorem kput_keys {P:Program} {kt:TypeId} {m:List (D × D)} {k v:D} (h:∀ kv,kv∈m→KeyAt P kt kv.1)(hk:KeyAt P kt k):∀ kv,kv∈kput k v m→KeyAt P kt kv.1:=by
 intro kv hkv
 unfold kput at hkv
 split at hkv
 ·rcases List.mem_or_eq_of_mem_set hkv with hkv | rfl
  ·exact h kv hkv
  ·exact hk
 ·rcases List.mem_append.1 hkv with hkv | hkv
  ·exact h kv hkv
  ·simp only [List.mem_cons,List.not_mem_nil,or_false] at hkv
   subst hkv;exact hk
abbrev q1G:List Nat:=[0,1,2,3,4,5,6,8,11,13,18,19,20,21,29,30,33,50]
theorem ok_New (p:Prog)(h:p.Sm):CallOK prog 55 [prV p] (.dptr (tabC p) 0):=by
 refine cB func55 ?_
 refine sR q1G ?_
 refine sC (ok_PClone p h) q1G ?_
 have hlen:=h.decls.1
 refine sK fun K1 hK1=>?_
 have fin:∀ sl bx,sle sl [(3,.box 13 0)]→ble bx [(13,.cells ((prC p).map .d++[.mp 11])),(11,.map (tabM p))]→K1 sl bx:=by
  intro sl bx h1 h2
  refine hK1 _ _ (AWp.weaken h1 h2 ?_)
  clear hK1 K1
  refine AWp.publishMap 11 rfl ?_
  refine AWp.weaken (sl':=[(3,.box 13 0)]) (bx':=[(13,.cells ((tabC p).map .d))]) (by simp [subSl,SV.sub,sle,vle,sget]) (by simp [subBx,BoxC.sub,SV.subL,SV.sub,ble,bget,berase,tabC,prC]) ?_
  refine AWp.freeze 13 rfl rfl ?_
  refine AWp.weaken (sl':=[(3,.dptr (tabC p) 0)]) (bx':=[]) (by simp [subSl,SV.sub,sle,vle,sget];rfl) trivial ?_
  refine sR q1G ?_
  exact aR
 refine sR q1G ?_
 refine AWp.block (AWp.loop (X:=Nat × List (D × D)) (fun x=>[(20,intV x.1),(19,intV p.decls.length),(18,.d (.slice (deR p.decls))),(3,.box 13 0)])
  (fun x=>[(13,.cells ((prC p).map .d++[.mp 11])),(11,.map x.2)])
  (fun x=>x.1≤p.decls.length∧(∀ kv,kv∈x.2→KeyAt prog 157 kv.1)∧tabF (p.decls.drop x.1) x.1 x.2=tabM p) (fun x=>p.decls.length - x.1) (0,[]) ?_ ?_ ?_ ?_)
 ·exact⟨by simp,by simp,rfl⟩
 ·exact sS
 ·exact (by simp [ble,bget,prC])
 rintro⟨j,m⟩ ⟨hj,hm,heq⟩
 simp only at hj hm heq
 by_cases hlt:(j:Int) < (p.decls.length:Int)
 ·have hlt':j < p.decls.length:=by omega
  have hy:p.decls[j]? = some p.decls[j]:=List.getElem?_eq_getElem hlt'
  have hmem:p.decls[j]∈p.decls:=List.getElem_mem hlt'
  have dp:p.decls.drop j=p.decls[j]::p.decls.drop (j+1):=List.drop_eq_getElem_cons hlt'
  generalize p.decls[j]=y at *
  rw [dp,tabF] at heq
  refine sR1 hlt q1G ?_
  refine sK fun K2 hK2=>?_
  refine AWp.condT rfl (AWp.skip (hK2 _ _ ?_))
  clear hK2 K2
  refine sK fun K2 hK2=>?_
  have fin2:∀ sl bx m',sle sl [(20,intV j),(19,intV p.decls.length),(18,.d (.slice (deR p.decls))),(3,.box 13 0)]→ble bx [(13,.cells ((prC p).map .d++[.mp 11])),(11,.map m')] →
    (∀ kv,kv∈m'→KeyAt prog 157 kv.1)→m'=tabStep m j y→K2 sl bx:=by
   rintro sl bx m' h1 h2 h3 rfl
   refine hK2 _ _ (AWp.weaken h1 h2 ?_)
   clear hK2 K2 h1 h2
   (refine lQ q1G fun K hK=>?_;refine ev ?_)
   refine⟨by unfold InR;unfold sm at *;omega,?_⟩
   (apply hK;clear hK K;try simp only [thenA,])
   exact⟨(j+1,tabStep m j y),⟨by simp only;omega,h3,heq⟩,by simp only;omega,by simp [sle,vle,sget],(by simp [ble,bget,prC])⟩
  clear hK2
  refine AWp.block ?_
  (refine sQ q1G fun K hK=>?_;refine ev ?_)
  refine⟨by omega,deC y,deR_get hy,rfl,?_⟩
  refine ev ?_
  (apply hK;clear hK K)
  refine sR q1G ?_
  have hyn:y.name.length≤lim:=Nat.le_trans (h.decls.2 y hmem).name (by unfold sm lim;omega)
  refine sK fun K3 hK3=>?_
  have fin3:∀ sl bx (mth:Str),sle sl [(4,intV j),(6,.box 6 0),(20,intV j),(19,intV p.decls.length),(18,.d (.slice (deR p.decls))),(3,.box 13 0)] →
    ble bx [(13,.cells ((prC p).map .d++[.mp 11])),(11,.map m),(6,.cells [.d (.str y.name),.d (.str mth)])]→keyOfD y=some (tkey y.name mth)→mth.length≤lim→K3 sl bx:=by
   intro sl bx mth h1 h2 hkey hml
   refine hK3 _ _ (AWp.weaken h1 h2 ?_)
   clear hK3 K3 h1 h2
   have hk79:=key_two two79 y.name mth hyn hml
   (refine sG q1G [] 10 [] fun K hK=>?_;refine ev ?_)
   refine⟨hm,hk79,?_⟩
   (apply hK;clear hK K)
   by_cases hs:(kfind (D.agg [D.str y.name,D.str mth]).lits m 0).isSome=true
   ·have ht:tabStep m j y=m:=by simp only [tabStep,hkey];exact if_pos hs
    rw [hs]
    refine sR q1G ?_
    refine AWp.condF rfl (AWp.skip ?_)
    simp only [thenA,blockA]
    exact fin2 _ _ m sS (by simp [ble,bget,prC]) hm ht.symm
   ·have ht:tabStep m j y=kput (tkey y.name mth) (.int .i64 j) m:=by simp only [tabStep,hkey];exact if_neg hs
    rw [Bool.not_eq_true] at hs
    rw [hs]
    refine sR q1G ?_
    refine AWp.condT rfl ?_
    (refine lG q1G [] 6 [] fun K hK=>?_;refine ev ?_)
    refine⟨hm,hk79,?_⟩
    (apply hK;clear hK K;try simp only [thenA,blockA])
    exact fin2 _ _ _ sS (by simp [ble,bget,prC];rfl) (kput_keys hm hk79) ht.symm
  refine sR q1G ?_
  refine AWp.block ?_
  refine sK fun K4 hK4=>?_
  by_cases hk1:y.kind=1
  ·refine sR1 hk1 q1G ?_
   refine AWp.condT rfl (AWp.skip (hK4 _ _ ?_))
   clear hK4 K4
   refine AWp.condT rfl (AWp.skip ?_)
   simp only [thenA,blockA]
   exact fin3 _ _ [] sS (by simp [ble,bget,prC]) (by simp [keyOfD,hk1]) (by simp)
  ·by_cases hk2:y.kind=2
   ·refine sR1 hk1 q1G ?_
    refine AWp.condF rfl ?_
    (refine lQ q1G fun K hK=>?_;refine ev1 hk2 ?_)
    (apply hK;clear hK K;try simp only [thenA,])
    refine hK4 _ _ ?_
    clear hK4 K4
    refine AWp.condT rfl (AWp.skip ?_)
    simp only [thenA,blockA]
    exact fin3 _ _ [] sS (by simp [ble,bget,prC]) (by simp [keyOfD,hk2]) (by simp)
   ·refine sR1 hk1 q1G ?_
    refine AWp.condF rfl ?_
    (refine lQ q1G fun K hK=>?_;refine ev1 hk2 ?_)
    (apply hK;clear hK K;try simp only [thenA,])
    refine hK4 _ _ ?_
    clear hK4 K4
    refine AWp.condF rfl ?_
    by_cases hk3:y.kind=3
    ·refine sR1 hk3 q1G ?_
     refine AWp.condT rfl ?_
     have hsl:=(h.decls.2 y hmem).sig.name
     have hc46:(ByteArray.mk #[46]).size≤lim:=by decide
     (refine lQ q1G fun K hK=>?_;refine ev ?_)
     refine⟨by unfold sm lim at *;first | omega | (simp;omega),?_⟩
     (apply hK;clear hK K;try simp only [thenA,blockA])
     exact fin3 _ _ (46::y.sig.name) sS (by simp [ble,bget,prC]) (by simp [keyOfD,hk3]) (by simp only [List.length_cons];unfold sm lim at *;omega)
    ·refine sR1 hk3 q1G ?_
     refine AWp.condF rfl (AWp.exit ?_)
     simp only [thenA,blockA]
     rw [if_neg (by decide)]
     exact fin2 _ _ m sS (by simp [ble,bget,prC]) hm (by simp [tabStep,keyOfD,hk1,hk2,hk3])
 ·refine sR1 hlt q1G ?_
  refine sK fun K2 hK2=>?_
  refine AWp.condF rfl (AWp.exit ?_)
  simp only [thenA,blockA,if_true]
  rw [List.drop_eq_nil_of_le (by omega),tabF] at heq
  exact fin _ _ sS (by rw [← heq];exact (by simp [ble,bget,prC]))
def kval (l:List Lit)(m:List (D × D)):Option D:=(kfind l m 0).map (·.2)
theorem kfind_shift (l:List Lit):∀ (m:List (D × D))(i:Nat),(kfind l m i).map (·.2)=kval l m
 | [],i=>rfl
 | kv::r,i=>by
  unfold kval
  simp only [kfind]
  split
  ·rfl
  ·rw [kfind_shift l r (i+1),kfind_shift l r (0+1)]
theorem kval_cons (l:List Lit)(k v:D)(m:List (D × D)):kval l ((k,v)::m)=if l=k.lits then some v else kval l m:=by
 unfold kval
 simp only [kfind]
 split
 ·rfl
 ·exact kfind_shift l m 1
theorem kval_app (l:List Lit)(k v:D):∀ m:List (D × D),kval l (m++[(k,v)])=match kval l m with | some x=>some x | none=>if l=k.lits then some v else none
 | []=>by rw [List.nil_append,kval_cons];rfl
 | (k',v')::m=>by
  rw [List.cons_append,kval_cons,kval_cons,kval_app l k v m]
  split <;> rfl
def firstK (l:List Lit):List Decl→Nat→Option D
 | [],_=>none
 | d::ds,i=>match keyOfD d with
  | some k=>if l=k.lits then some (.int .i64 i) else firstK l ds (i+1)
  | none=>firstK l ds (i+1)
theorem kval_tabF (l:List Lit):∀ (ds:List Decl)(i:Nat)(m:List (D × D)),kval l (tabF ds i m)=match kval l m with | some x=>some x | none=>firstK l ds i
 | [],i,m=>by simp only [tabF,firstK];cases kval l m <;> rfl
 | d::ds,i,m=>by
  simp only [tabF,firstK]
  rw [kval_tabF l ds (i+1)]
  unfold tabStep
  cases hk:keyOfD d with
  | none=>rfl
  | some k =>
   simp only
   by_cases hs:(kfind k.lits m 0).isSome=true
   ·rw [if_pos hs]
    cases hm:kval l m with
    | some x=>rfl
    | none =>
     simp only
     rw [if_neg]
     rintro rfl
     unfold kval at hm
     cases hf:kfind k.lits m 0 <;> simp [hf] at hs hm
   ·rw [if_neg hs]
    have hn:kfind k.lits m 0=none:=by cases hf:kfind k.lits m 0 <;> simp [hf] at hs ⊢
    unfold kput
    rw [hn]
    simp only
    rw [kval_app]
    cases hm:kval l m with
    | some x=>rfl
    | none =>
     simp only
     by_cases hl:l=k.lits
     ·rw [if_pos hl,if_pos hl]
     ·rw [if_neg hl,if_neg hl]
def tabGet (p:Prog)(k:D):Option Decl:=p.decls.find? fun d=>match keyOfD d with | some k'=>decide (k.lits=k'.lits) | none=>false
theorem firstK_find (l:List Lit):∀ (ds:List Decl)(i:Nat),(firstK l ds i=none∧(ds.find? fun d=>match keyOfD d with | some k'=>decide (l=k'.lits) | none=>false)=none) ∨
  ∃ j d,ds[j]? = some d∧firstK l ds i=some (.int .i64 ((i+j:Nat):Int))∧(ds.find? fun d=>match keyOfD d with | some k'=>decide (l=k'.lits) | none=>false)=some d
 | [],i=>.inl ⟨rfl,rfl⟩
 | d::ds,i=>by
  simp only [firstK,List.find?_cons]
  have ih:=firstK_find l ds (i+1)
  cases hk:keyOfD d with
  | none =>
   simp only
   rcases ih with h | ⟨j,d',h1,h2,h3⟩
   ·exact .inl h
   ·exact .inr ⟨j+1,d',by simpa using h1,by rw [h2];congr 3;omega,h3⟩
  | some k =>
   simp only
   by_cases hl:l=k.lits
   ·simp only [hl,if_true,decide_true]
    exact .inr ⟨0,d,rfl,by simp,rfl⟩
   ·simp only [hl,if_false,decide_false]
    rcases ih with h | ⟨j,d',h1,h2,h3⟩
    ·exact .inl h
    ·exact .inr ⟨j+1,d',by simpa using h1,by rw [h2];congr 3;omega,h3⟩
instance:Inhabited Prog:=⟨⟨[],default⟩⟩
theorem tabM_keys (p:Prog)(h:p.Sm):∀ kv,kv∈tabM p→KeyAt prog 157 kv.1:=by
 have go:∀ (ds:List Decl) (i:Nat) (m:List (D × D)),(∀ d,d∈ds→d.Sm)→(∀ kv,kv∈m→KeyAt prog 157 kv.1)→∀ kv,kv∈tabF ds i m→KeyAt prog 157 kv.1:=by
  intro ds
  induction ds with
  | nil=>intro i m _ h;exact h
  | cons d ds ih =>
   intro i m hd hm
   refine ih (i+1) _ (fun x hx=>hd x (by simp [hx])) ?_
   have hdm:=hd d (by simp)
   unfold tabStep
   cases hk:keyOfD d with
   | none=>exact hm
   | some k =>
    simp only
    split
    ·exact hm
    ·refine kput_keys hm ?_
     unfold keyOfD at hk
     have h1:=hdm.name
     have h2:=hdm.sig.name
     split at hk
     ·simp only [Option.some.injEq] at hk;subst hk
      exact key_two two79 _ _ (by unfold sm lim at *;omega) (by simp)
     ·split at hk
      ·simp only [Option.some.injEq] at hk;subst hk
       exact key_two two79 _ _ (by unfold sm lim at *;omega) (by simp only [List.length_cons];unfold sm lim at *;omega)
      ·simp at hk
 exact go p.decls 0 [] h.decls.2 (by simp)
abbrev q2G:List Nat:=[0,1,3,4,5,6,7,9,21]
theorem ok_get (p:Prog)(h:p.Sm)(a b:Str):CallOK prog 254 [.dptr (tabC p) 0,.agg [.d (.str a),.d (.str b)]]
  (.tuple [deV ((tabGet p (tkey a b)).getD default),boolV (tabGet p (tkey a b)).isSome]):=by
 refine CallB.bd (Enters.of func254 rfl (by decide)) fun hbd=>?_
 have hbd2:=hbd.2.1
 simp only [SV.bd,SV.bdL] at hbd2
 have hk:=key_two two79 a b (str_bd hbd2.1) (str_bd hbd2.2.1)
 have hkv:kval (tkey a b).lits (tabM p)=firstK (tkey a b).lits p.decls 0:=by unfold tabM;rw [kval_tabF];rfl
 unfold kval at hkv
 refine cB func254 ?_
 refine sR q2G ?_
 refine kR q2G fun K1 hK1=>?_
 refine AWp.condF rfl (AWp.skip (hK1 _ _ ?_))
 clear hK1 K1
 (refine sG q2G [] 10 [] fun K hK=>?_;simp -implicitDefEqProofs only [EV,Nat.reduceAdd,Nat.reduceEqDiff,reduceCtorEq,TF153,TF155,TF157,tabC])
 refine⟨tabM_keys p h,hk,?_⟩
 (apply hK;clear hK K)
 refine sK fun K1 hK1=>?_
 rcases firstK_find (tkey a b).lits p.decls 0 with ⟨h1,h2⟩ | ⟨j,d,h1,h2,h3⟩
 ·rw [h1] at hkv
  have hn:kfind (D.agg [D.str a,D.str b]).lits (tabM p) 0=none:=by simpa [tkey] using hkv
  have hg:tabGet p (tkey a b)=none:=h2
  rw [hn]
  refine sR q2G ?_
  refine AWp.condT rfl ?_
  refine sR q2G ?_
  rw [hg]
  exact aR
 ·rw [h2] at hkv
  obtain⟨q,hq⟩:∃ q,kfind (D.agg [D.str a,D.str b]).lits (tabM p) 0=some (q,.int .i64 ((0+j:Nat):Int)):=by
   cases hf:kfind (D.agg [D.str a,D.str b]).lits (tabM p) 0 with
   | none=>rw [show (tkey a b).lits=(D.agg [D.str a,D.str b]).lits from rfl,hf] at hkv;simp at hkv
   | some qd =>
    rw [show (tkey a b).lits=(D.agg [D.str a,D.str b]).lits from rfl,hf] at hkv
    obtain⟨q,d'⟩:=qd
    simp only [Option.map_some,Option.some.injEq] at hkv
    exact⟨q,by rw [hkv]⟩
  have hl:lookV (D.agg [D.str a,D.str b]) (tabM p) (SV.d (D.int IntKind.i64 0))=intV j:=by simp only [lookV,hq,ofD,Nat.zero_add]
  have hg:tabGet p (tkey a b)=some d:=h3
  rw [hl,hq]
  refine sR q2G ?_
  refine AWp.condF rfl (AWp.skip (hK1 _ _ ?_))
  clear hK1 K1
  (refine sQ q2G fun K hK=>?_;refine ev ?_)
  refine⟨by omega,deC d,deR_get h1,rfl,?_⟩
  refine ev ?_
  (apply hK;clear hK K)
  rw [hg]
  exact aR
theorem tabGet_type (p:Prog)(nm:Str):tabGet p (tkey nm [])=p.decls.find? (fun d=>d.isT nm):=by
 unfold tabGet
 congr 1
 funext d
 unfold keyOfD Decl.isT
 by_cases h1:d.kind=1∨d.kind=2
 ·rw [if_pos h1]
  rcases h1 with h1 | h1 <;> simp [h1,tkey,D.lits,D.lit,eq_comm]
 ·rw [if_neg h1]
  have h2:¬ d.kind=1:=fun h=>h1 (.inl h)
  have h3:¬ d.kind=2:=fun h=>h1 (.inr h)
  by_cases h4:d.kind=3 <;> simp [h2,h3,h4,tkey,D.lits,D.lit]
mutual
def Ty.names:Ty→List Str
 | .mk n a _=>n::Ty.namesL a
def Ty.namesL:List Ty→List Str
 | []=>[]
 | t::ts=>t.names++Ty.namesL ts
end
def Ty.Nn (t:Ty):Prop:=t.names.length≤2000
inductive Ex.Nn:Ex→Prop where
 | mk (k:Int) (n:Str) (t:Ty) (a:List Ty) (ks:List Ex) (p:Int):t.Nn→(∀ t,t∈a→t.Nn)→(∀ e,e∈ks→Ex.Nn e)→Ex.Nn (.mk k n t a ks p)
theorem Ex.Nn.type {e:Ex} (h:e.Nn):e.type.Nn:=by cases h;assumption
theorem Ex.Nn.targs {e:Ex} (h:e.Nn):∀ t,t∈e.targs→t.Nn:=by cases h;assumption
theorem Ex.Nn.kids {e:Ex} (h:e.Nn):∀ t,t∈e.kids→t.Nn:=by cases h;assumption
structure Sig.Nn (s:Sig):Prop where
 flen:s.formals.length≤2000
 formals:∀ f,f∈s.formals→f.bound.Nn
 params:∀ f,f∈s.params→f.type.Nn
 result:s.result.Nn
structure Decl.Nn (d:Decl):Prop where
 flen:d.formals.length≤2000
 vlen:d.vars.length≤2000
 formals:∀ f,f∈d.formals→f.bound.Nn
 fields:∀ f,f∈d.fields→f.type.Nn
 sigs:∀ s,s∈d.sigs→s.Nn
 sig:d.sig.Nn
 body:d.body.Nn
structure Prog.Nn (p:Prog):Prop where
 decls:∀ d,d∈p.decls→d.Nn
 main:p.main.Nn
def letter (n:Int):Prop:=(97≤n∧n≤122)∨(65≤n∧n≤90)
instance (n:Int):Decidable (letter n):=by unfold letter;infer_instance
def blank (n:Int):Prop:=n=9∨n=10∨n=13∨n=32
instance (n:Int):Decidable (blank n):=by unfold blank;infer_instance
def cls (n:Int):Int:=if letter n then 1 else if 48≤n∧n≤57 then 2 else if n=95 then 3 else if blank n then 4 else 0
def reserved (s:Str):Bool:=decide (s=[112,97,99,107,97,103,101]∨s=[109,97,105,110]∨s=[116,121,112,101]∨s=[115,116,114,117,99,116]∨s=[105,110,116,101,114,102,97,99,101]∨s=[102,117,110,99]∨s=[114,101,116,117,114,110])
def okByte (c:UInt8):Bool:=!(decide (cls c.toNat=0) || decide (cls c.toNat=4))
def isName (s:Str):Bool:=match s with
 | []=>false
 | c::_=>decide (cls c.toNat=1) && s.all okByte && !reserved s
def Ty.right (t:Ty):Bool:=t.names.all isName
def kidsOK (e:Ex):Prop:=(e.kind=1→e.kids=[])∧(e.kind=4∨e.kind=5→e.kids.length=1)
mutual
def Ex.One:Ex→Prop
 | .mk k n t a ks q=>kidsOK (.mk k n t a ks q)∧Ex.OneL ks
def Ex.OneL:List Ex→Prop
 | []=>True
 | e::es=>e.One∧Ex.OneL es
end
theorem OneL_mem:∀ {l:List Ex},Ex.OneL l→∀ e,e∈l→e.One
 | [],_=>by simp
 | x::l,h=>by
  rw [Ex.OneL] at h
  intro e he
  simp only [List.mem_cons] at he
  rcases he with rfl | he
  ·exact h.1
  ·exact OneL_mem h.2 e he
theorem Ex.One.out {e:Ex} (h:e.One):kidsOK e∧∀ x,x∈e.kids→x.One:=by
 cases e with | mk k n t a ks q=>rw [Ex.One] at h;exact⟨h.1,OneL_mem h.2⟩
def Ex.typed (e:Ex):Bool:=decide (e.kind=3) || decide (e.kind=5)
def Ex.kindB (e:Ex):Bool:=if e.kind=1 then decide ((e.kids.length:Int)=0) else if e.kind=2 then decide ((e.kids.length:Int) ≥ 1) else if e.kind=3 then true else if e.kind=4∨e.kind=5 then decide ((e.kids.length:Int)=1) else false
def Ex.right1 (e:Ex):Bool:=if e.typed=true then e.type.right && decide (e.name=[]) && e.kindB else !e.type.right && decide (e.type.name=[]) && decide (e.type.args.length=0) && isName e.name && e.kindB
def Ex.right2 (e:Ex):Bool:=e.targs.all fun t=>decide (e.kind=2) && t.right
mutual
def Ex.right:Ex→Bool
 | .mk k n t a ks q=>Ex.rightL ks && (Ex.right2 (.mk k n t a ks q) && Ex.right1 (.mk k n t a ks q))
def Ex.rightL:List Ex→Bool
 | []=>true
 | e::es=>e.right && Ex.rightL es
end
def foRight (l:List Formal):Bool:=l.all fun f=>isName f.name && f.bound.right
def paRight (l:List Param):Bool:=l.all fun f=>isName f.name && f.type.right
def Sig.right (s:Sig):Bool:=isName s.name && foRight s.formals && paRight s.params && s.result.right
end Go.Abs
