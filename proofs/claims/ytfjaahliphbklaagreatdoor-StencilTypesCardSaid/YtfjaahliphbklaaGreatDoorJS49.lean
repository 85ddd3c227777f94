/- several texts in one -/
import Derived.Test.YtfjaahliphbklaaGreatDoorJSB
namespace Go.Abs
set_option maxRecDepth 100000
set_option maxHeartbeats 1000000
set_option linter.unusedSimpArgs false
set_option linter.unusedVariables false
open Go Go.Proofs Tryz
mutual
theorem Ty.count_ge:∀ (t:Ty)(k:Int),k+1≤t.count k
 | .mk n a _,k=>by simp only [Ty.count];have:=Ty.countL_ge a (k+1+((n.length / 50:Nat):Int));omega
theorem Ty.countL_ge:∀ (l:List Ty)(k:Int),k≤Ty.countL l k
 | [],k=>by simp [Ty.countL]
 | t::ts,k=>by
  simp only [Ty.countL];split
  ·have h1:=Ty.count_ge t k;have h2:=Ty.countL_ge ts (t.count k);omega
  ·omega
end
mutual
theorem Ty.count_sm:∀ (t:Ty)(k:Int),0≤k→t.count k≤2000→t.Sm
 | .mk n a p,k,h0,h=>by simp only [Ty.count] at h;have h1:=Ty.countL_ge a (k+1+((n.length / 50:Nat):Int));have h2:=Ty.countL_sm a (k+1+((n.length / 50:Nat):Int)) (by omega) h;exact .mk n a p (by unfold sm;omega) (by unfold sm;omega) h2.2
theorem Ty.countL_sm:∀ (l:List Ty)(k:Int),0≤k→Ty.countL l k≤2000→(k+l.length≤2000∧∀ t,t∈l→t.Sm)
 | [],k,h0,h=>by simp [Ty.countL] at h ⊢;omega
 | t::ts,k,h0,h=>by
  simp only [Ty.countL] at h;split at h
  ·have h1:=Ty.count_ge t k;have h2:=Ty.countL_sm ts (t.count k) (by omega) h;have h3:=Ty.count_sm t k h0 (by have:=Ty.countL_ge ts (t.count k);omega);refine⟨by simp only [List.length_cons];omega,?_⟩;intro u hu;simp only [List.mem_cons] at hu;rcases hu with rfl | hu
   ·exact h3
   ·exact h2.2 u hu
  ·omega
end
mutual
theorem Ex.count_ge:∀ (t:Ex)(k:Int),k+1≤t.count k
 | .mk _ n t a ks _,k=>by simp only [Ex.count];have h1:=Ty.count_ge t (k+((n.length / 50:Nat):Int));have h2:=Ty.countL_ge a (t.count (k+((n.length / 50:Nat):Int)));have h3:=Ex.countL_ge ks (Ty.countL a (t.count (k+((n.length / 50:Nat):Int))));omega
theorem Ex.countL_ge:∀ (l:List Ex)(k:Int),k≤Ex.countL l k
 | [],k=>by simp [Ex.countL]
 | t::ts,k=>by
  simp only [Ex.countL];split
  ·have h1:=Ex.count_ge t k;have h2:=Ex.countL_ge ts (t.count k);omega
  ·omega
end
mutual
theorem Ex.count_sm:∀ (t:Ex)(k:Int),0≤k→t.count k≤2000→t.Sm
 | .mk kd n t a ks p,k,h0,h=>by simp only [Ex.count] at h;have h1:=Ty.count_ge t (k+((n.length / 50:Nat):Int));have h2:=Ty.countL_ge a (t.count (k+((n.length / 50:Nat):Int)));have h3:=Ex.countL_ge ks (Ty.countL a (t.count (k+((n.length / 50:Nat):Int))));have g1:=Ty.count_sm t (k+((n.length / 50:Nat):Int)) (by omega) (by omega);have g2:=Ty.countL_sm a (t.count (k+((n.length / 50:Nat):Int))) (by omega) (by omega);have g3:=Ex.countL_sm ks (Ty.countL a (t.count (k+((n.length / 50:Nat):Int)))) (by omega) h;exact .mk kd n t a ks p (by unfold sm;omega) g1 (by unfold sm;omega) g2.2 (by unfold sm;omega) g3.2
theorem Ex.countL_sm:∀ (l:List Ex)(k:Int),0≤k→Ex.countL l k≤2000→(k+l.length≤2000∧∀ t,t∈l→t.Sm)
 | [],k,h0,h=>by simp [Ex.countL] at h ⊢;omega
 | t::ts,k,h0,h=>by
  simp only [Ex.countL] at h;split at h
  ·have h1:=Ex.count_ge t k;have h2:=Ex.countL_sm ts (t.count k) (by omega) h;have h3:=Ex.count_sm t k h0 (by have:=Ex.countL_ge ts (t.count k);omega);refine⟨by simp only [List.length_cons];omega,?_⟩;intro u hu;simp only [List.mem_cons] at hu;rcases hu with rfl | hu
   ·exact h3
   ·exact h2.2 u hu
  ·omega
end
abbrev LSm {α:Type} (F:List α→Int→Int)(Sm:α→Prop):Prop:=∀ (l:List α)(k:Int),(k≤F l k)∧(0≤k→F l k≤2000→k+l.length≤2000∧∀ t,t∈l→Sm t)
theorem A3r {α:Type} (F:List α→Int→Int)(g:α→Int→Int)(Sm:α→Prop)(h0:∀ k,F [] k=k)(h1:∀ x xs k,F (x::xs) k=if k≤2000 then F xs (g x k) else k)
  (hge:∀ x k,k+1≤g x k) (hsm:∀ x k,0≤k→g x k≤2000→Sm x):∀ (l:List α) (k:Int),(k≤F l k)∧(0≤k→F l k≤2000→k+l.length≤2000∧∀ t,t∈l→Sm t)
 | [],k=>by rw [h0];exact⟨Int.le_refl _,fun h0 h=>⟨by simp;omega,by simp⟩⟩
 | t::ts,k=>by
  rw [h1];obtain⟨i1,i2⟩:=A3r F g Sm h0 h1 hge hsm ts (g t k);have h2:=hge t k;split
  ·refine⟨by omega,fun hk h=>?_⟩;obtain⟨j1,j2⟩:=i2 (by omega) h;have h3:=hsm t k hk (by omega);refine⟨by simp only [List.length_cons];omega,?_⟩;intro u hu;simp only [List.mem_cons] at hu;rcases hu with rfl | hu
   ·exact h3
   ·exact j2 u hu
  ·exact⟨Int.le_refl _,fun _ h=>by omega⟩
theorem F0r:LSm A0i Formal.Sm:=A3r A0i (fun f n=>f.bound.count (n+1+((f.name.length / 50:Nat):Int))) Formal.Sm (fun _=>rfl) (fun _ _ _=>rfl)
 (fun x k=>by have:=Ty.count_ge x.bound (k+1+((x.name.length / 50:Nat):Int));omega)
 (fun x k h0 h=>by have:=Ty.count_ge x.bound (k+1+((x.name.length / 50:Nat):Int));exact⟨by unfold sm;omega,Ty.count_sm _ _ (by omega) h⟩)
theorem F1x:LSm A0p Param.Sm:=A3r A0p (fun f n=>f.type.count (n+1+((f.name.length / 50:Nat):Int))) Param.Sm (fun _=>rfl) (fun _ _ _=>rfl)
 (fun x k=>by have:=Ty.count_ge x.type (k+1+((x.name.length / 50:Nat):Int));omega)
 (fun x k h0 h=>by have:=Ty.count_ge x.type (k+1+((x.name.length / 50:Nat):Int));exact⟨by unfold sm;omega,Ty.count_sm _ _ (by omega) h⟩)
theorem D6s:LSm A2i (fun v=>v.length≤sm):=A3r A2i (fun v n=>n+1+((v.length / 50:Nat):Int)) (fun v=>v.length≤sm) (fun _=>rfl) (fun _ _ _=>rfl) (fun x k=>by omega) (fun x k h0 h=>by unfold sm;omega)
theorem Sig.count_sm (s:Sig)(n:Int):n+1≤s.count n∧(0≤n→s.count n≤2000→s.Sm):=by unfold Sig.count;obtain⟨a1,a2⟩:=F0r s.formals (n+((s.name.length / 50:Nat):Int));obtain⟨b1,b2⟩:=F1x s.params (A0i s.formals (n+((s.name.length / 50:Nat):Int)));have c1:=Ty.count_ge s.result (A0p s.params (A0i s.formals (n+((s.name.length / 50:Nat):Int))));refine⟨by omega,fun h0 h=>?_⟩;obtain⟨a3,a4⟩:=a2 (by omega) (by omega);obtain⟨b3,b4⟩:=b2 (by omega) (by omega);exact⟨by unfold sm;omega,⟨by unfold sm;omega,a4⟩,⟨by unfold sm;omega,b4⟩,Ty.count_sm _ _ (by omega) h⟩
theorem F9s:LSm A0u Sig.Sm:=A3r A0u Sig.count Sig.Sm (fun _=>rfl) (fun _ _ _=>rfl) (fun x k=>(Sig.count_sm x k).1) (fun x k=>(Sig.count_sm x k).2)
theorem Decl.count_sm (d:Decl)(n:Int):n+1≤d.count n∧(0≤n→d.count n≤2000→d.Sm):=by
 unfold Decl.count;generalize hm:n+1+((d.name.length / 50:Nat):Int)+((d.recv.length / 50:Nat):Int)=m;obtain⟨a1,a2⟩:=F0r d.formals m;obtain⟨b1,b2⟩:=F1x d.fields (A0i d.formals m);obtain⟨c1,c2⟩:=F9s d.sigs (A0p d.fields (A0i d.formals m));obtain⟨e1,e2⟩:=D6s d.vars (A0u d.sigs (A0p d.fields (A0i d.formals m)));generalize hz:A2i d.vars (A0u d.sigs (A0p d.fields (A0i d.formals m)))=z at *;unfold Decl.count2;obtain⟨f1,f2⟩:=Sig.count_sm d.sig z;have g1:=Ex.count_ge d.body (d.sig.count z);refine⟨by split <;> omega,fun h0 h=>?_⟩;split at h
 ·obtain⟨a3,a4⟩:=a2 (by omega) (by omega);obtain⟨b3,b4⟩:=b2 (by omega) (by omega);obtain⟨c3,c4⟩:=c2 (by omega) (by omega);obtain⟨e3,e4⟩:=e2 (by omega) (by omega);exact⟨by unfold sm;omega,⟨by unfold sm;omega,a4⟩,⟨by unfold sm;omega,b4⟩,⟨by unfold sm;omega,c4⟩,by unfold sm;omega,⟨by unfold sm;omega,e4⟩,f2 (by omega) (by omega),Ex.count_sm _ _ (by omega) h⟩
 ·omega
theorem G0m:LSm A2n Decl.Sm:=A3r A2n Decl.count Decl.Sm (fun _=>rfl) (fun _ _ _=>rfl) (fun x k=>(Decl.count_sm x k).1) (fun x k=>(Decl.count_sm x k).2)
theorem Prog.count_sm (p:Prog)(h:p.count≤600):p.Sm∧p.decls.length≤2000:=by unfold Prog.count at h;have h1:=Ex.count_ge p.main 0;obtain⟨a1,a2⟩:=G0m p.decls (p.main.count 0);obtain⟨a3,a4⟩:=a2 (by omega) (by omega);exact⟨⟨⟨by unfold sm;omega,a4⟩,Ex.count_sm p.main 0 (by omega) (by omega)⟩,by omega⟩
def B3u (a b:Str):D:=.agg [.str a,.str b]
def F6h (P:Program)(t:TypeId):Bool:=match P.underlying t with | some .string=>true | _=>false
def F1m (P:Program)(kt:TypeId):Bool:=match P.underlying kt with
 | some (.struct fs)=>match fs.toList with
  | [f1,f2]=>f1.offset == 0 && f2.offset == 1 && F6h P f1.type && F6h P f2.type && P.cellsOf f1.type == 1 && P.cellsOf f2.type == 1 && P.cellsOf kt == 2 && fs.all (·.name != "_") && Nat.ble 1 P.types.size
  | _=>false
 | _=>false
theorem E1q {P:Program} {t:TypeId} (h:F6h P t=true):P.underlying t=some .string:=by unfold F6h at h;split at h <;> simp_all
theorem C0j {P:Program} {kt:TypeId} (h:F1m P kt=true)(a b:Str)(ha:a.length≤lim)(hb:b.length≤lim):KeyAt P kt (B3u a b):=by
 unfold F1m at h;split at h
 ·rename_i fs hu;split at h
  ·rename_i f1 f2 hfs;simp only [Bool.and_eq_true,beq_iff_eq,Nat.ble_eq] at h;obtain⟨⟨⟨⟨⟨⟨⟨⟨o1,o2⟩,u1⟩,u2⟩,c1⟩,c2⟩,ct⟩,hn⟩,hsz⟩:=h;obtain⟨d,hd⟩:∃ d,P.types.size+1=d+2:=⟨P.types.size - 1,by omega⟩;refine⟨rfl,?_,?_⟩
   ·simp [B3u,D.kv,Value.formed,hu,ct]
   ·rw [hd];have e1:∀ s:Str,s.length≤lim→P.keyLits (d+1) f1.type [.string ⟨s.toArray⟩]=some [.string s]:=fun s hs=>by
     simp [Program.keyLits,E1q u1,ByteArray.size];unfold lim at hs;unfold maxLen;omega
    have e2:∀ s:Str,s.length≤lim→P.keyLits (d+1) f2.type [.string ⟨s.toArray⟩]=some [.string s]:=fun s hs=>by simp [Program.keyLits,E1q u2,ByteArray.size];unfold lim at hs;unfold maxLen;omega
    unfold Program.keyLits;rw [hu];simp only [B3u,D.kv,Value.cells,List.map_cons,List.map_nil,D.lit,Lit.value,List.length_cons,List.length_nil,ct,hn,and_self,if_true,hfs,List.mapM_cons,List.mapM_nil,o1,o2,c1,c2,
     List.drop_zero,List.drop_succ_cons,List.take_succ_cons,List.take_zero,e1 a ha,e2 b hb]
    rfl
  ·simp at h
 ·simp at h
theorem E7r:F1m prog 112=true:=by kernel_rfl
def A5c (d:Decl):Option D:=if d.kind=1∨d.kind=2 then some (B3u d.name []) else if d.kind=3 then some (B3u d.name (46::d.sig.name)) else none
def A8k (m:List (D × D))(i:Nat)(d:Decl):List (D × D):=match A5c d with
 | none=>m
 | some k=>if (A3t k.lits m 0).isSome=true then m else F3c k (.int .i64 i) m
def F3x:List Decl→Nat→List (D × D)→List (D × D)
 | [],_,m=>m
 | d::ds,i,m=>F3x ds (i+1) (A8k m i d)
def D6b (p:Prog):List (D × D):=F3x p.decls 0 []
def B0u (p:Prog):List D:=prC p++[.map (D6b p)]
theorem D0v {P:Program} {kt:TypeId} {m:List (D × D)} {k v:D} (h:∀ kv,kv∈m→KeyAt P kt kv.1)(hk:KeyAt P kt k):∀ kv,kv∈F3c k v m→KeyAt P kt kv.1:=by
 intro kv hkv;unfold F3c at hkv;split at hkv
 ·rcases List.mem_or_eq_of_mem_set hkv with hkv | rfl
  ·exact h kv hkv
  ·exact hk
 ·rcases List.mem_append.1 hkv with hkv | hkv
  ·exact h kv hkv
  ·simp only [List.mem_cons,List.not_mem_nil,or_false] at hkv;subst hkv;exact hk
abbrev q1y:List Nat:=[0,1,2,3,4,5,6,8,11,13,18,19,20,21,29,30,33,50]
theorem D4z (p:Prog)(h:p.Sm):A0a prog 25 [prV p] (.dptr (B0u p) 0):=by
 refine cB func25 ?_;refine sR q1y ?_;refine sC (D3x p h) q1y ?_;have hlen:=h.decls.1;refine sK fun K1 hK1=>?_;have fin:∀ sl bx,sle sl [(3,.box 13 0)]→ble bx [(13,.cells ((prC p).map .d++[.mp 11])),(11,.map (D6b p))]→K1 sl bx:=by intro sl bx h1 h2;refine hK1 _ _ (AWp.ww h1 h2 ?_);clear hK1 K1;refine AWp.publishMap 11 rfl ?_;refine AWp.ww (sl':=[(3,.box 13 0)]) (bx':=[(13,.cells ((B0u p).map .d))]) (by simp [B1e,SV.sub,sle,vle,A0k]) (by simp [A9n,BoxC.sub,SV.subL,SV.sub,ble,A0h,A0o,B0u,prC]) ?_;refine AWp.zz 13 rfl rfl ?_;refine AWp.ww (sl':=[(3,.dptr (B0u p) 0)]) (bx':=[]) (by simp [B1e,SV.sub,sle,vle,A0k];rfl) trivial ?_;refine sR q1y ?_;exact aR
 refine sR q1y ?_;refine AWp.bb (AWp.loop (X:=Nat × List (D × D)) (fun x=>[(20,A0g x.1),(19,A0g p.decls.length),(18,.d (.slice (deR p.decls))),(3,.box 13 0)])
  (fun x=>[(13,.cells ((prC p).map .d++[.mp 11])),(11,.map x.2)])
  (fun x=>x.1≤p.decls.length∧(∀ kv,kv∈x.2→KeyAt prog 112 kv.1)∧F3x (p.decls.drop x.1) x.1 x.2=D6b p) (fun x=>p.decls.length - x.1) (0,[]) ?_ ?_ ?_ ?_)
 ·exact⟨by simp,by simp,rfl⟩
 ·exact sS
 ·exact (by simp [ble,A0h,prC])
 rintro⟨j,m⟩ ⟨hj,hm,heq⟩;simp only at hj hm heq;by_cases hlt:(j:Int) < (p.decls.length:Int)
 ·have hlt':j < p.decls.length:=by omega
  have hy:p.decls[j]? = some p.decls[j]:=List.getElem?_eq_getElem hlt';have hmem:p.decls[j]∈p.decls:=List.getElem_mem hlt';have dp:p.decls.drop j=p.decls[j]::p.decls.drop (j+1):=List.drop_eq_getElem_cons hlt';generalize p.decls[j]=y at *;rw [dp,F3x] at heq;refine sR1 hlt q1y ?_;refine sK fun K2 hK2=>?_;refine AWp.tt rfl (AWp.kk (hK2 _ _ ?_));clear hK2 K2;refine sK fun K2 hK2=>?_;have fin2:∀ sl bx m',sle sl [(20,A0g j),(19,A0g p.decls.length),(18,.d (.slice (deR p.decls))),(3,.box 13 0)]→ble bx [(13,.cells ((prC p).map .d++[.mp 11])),(11,.map m')] →
    (∀ kv,kv∈m'→KeyAt prog 112 kv.1)→m'=A8k m j y→K2 sl bx:=by
   rintro sl bx m' h1 h2 h3 rfl;refine hK2 _ _ (AWp.ww h1 h2 ?_);clear hK2 K2 h1 h2
   (refine lQ q1y fun K hK=>?_;refine ev ?_)
   refine⟨by unfold InR;unfold sm at *;omega,?_⟩
   (apply hK;clear hK K;try simp only [A0c,])
   exact⟨(j+1,A8k m j y),⟨by simp only;omega,h3,heq⟩,by simp only;omega,by simp [sle,vle,A0k],(by simp [ble,A0h,prC])⟩
  clear hK2;refine AWp.bb ?_
  (refine sQ q1y fun K hK=>?_;refine ev ?_)
  refine⟨by omega,deC y,A0t hy,rfl,?_⟩;refine ev ?_
  (apply hK;clear hK K)
  refine sR q1y ?_;have hyn:y.name.length≤lim:=Nat.le_trans (h.decls.2 y hmem).name (by unfold sm lim;omega);refine sK fun K3 hK3=>?_;have fin3:∀ sl bx (mth:Str),sle sl [(4,A0g j),(6,.box 6 0),(20,A0g j),(19,A0g p.decls.length),(18,.d (.slice (deR p.decls))),(3,.box 13 0)] →
    ble bx [(13,.cells ((prC p).map .d++[.mp 11])),(11,.map m),(6,.cells [.d (.str y.name),.d (.str mth)])]→A5c y=some (B3u y.name mth)→mth.length≤lim→K3 sl bx:=by
   intro sl bx mth h1 h2 hkey hml;refine hK3 _ _ (AWp.ww h1 h2 ?_);clear hK3 K3 h1 h2;have hk79:=C0j E7r y.name mth hyn hml
   (refine sG q1y [] 10 [] fun K hK=>?_;refine ev ?_)
   refine⟨hm,hk79,?_⟩
   (apply hK;clear hK K)
   by_cases hs:(A3t (D.agg [D.str y.name,D.str mth]).lits m 0).isSome=true
   ·have ht:A8k m j y=m:=by simp only [A8k,hkey];exact if_pos hs
    rw [hs];refine sR q1y ?_;refine AWp.ff rfl (AWp.kk ?_);simp only [A0c,A0e];exact fin2 _ _ m sS (by simp [ble,A0h,prC]) hm ht.symm
   ·have ht:A8k m j y=F3c (B3u y.name mth) (.int .i64 j) m:=by simp only [A8k,hkey];exact if_neg hs
    rw [Bool.not_eq_true] at hs;rw [hs];refine sR q1y ?_;refine AWp.tt rfl ?_
    (refine lG q1y [] 6 [] fun K hK=>?_;refine ev ?_)
    refine⟨hm,hk79,?_⟩
    (apply hK;clear hK K;try simp only [A0c,A0e])
    exact fin2 _ _ _ sS (by simp [ble,A0h,prC];rfl) (D0v hm hk79) ht.symm
  refine sR q1y ?_;refine AWp.bb ?_;refine sK fun K4 hK4=>?_;by_cases hk1:y.kind=1
  ·refine sR1 hk1 q1y ?_;refine AWp.tt rfl (AWp.kk (hK4 _ _ ?_));clear hK4 K4;refine AWp.tt rfl (AWp.kk ?_);simp only [A0c,A0e];exact fin3 _ _ [] sS (by simp [ble,A0h,prC]) (by simp [A5c,hk1]) (by simp)
  ·by_cases hk2:y.kind=2
   ·refine sR1 hk1 q1y ?_;refine AWp.ff rfl ?_
    (refine lQ q1y fun K hK=>?_;refine ev1 hk2 ?_)
    (apply hK;clear hK K;try simp only [A0c,])
    refine hK4 _ _ ?_;clear hK4 K4;refine AWp.tt rfl (AWp.kk ?_);simp only [A0c,A0e];exact fin3 _ _ [] sS (by simp [ble,A0h,prC]) (by simp [A5c,hk2]) (by simp)
   ·refine sR1 hk1 q1y ?_;refine AWp.ff rfl ?_
    (refine lQ q1y fun K hK=>?_;refine ev1 hk2 ?_)
    (apply hK;clear hK K;try simp only [A0c,])
    refine hK4 _ _ ?_;clear hK4 K4;refine AWp.ff rfl ?_;by_cases hk3:y.kind=3
    ·refine sR1 hk3 q1y ?_;refine AWp.tt rfl ?_;have hsl:=(h.decls.2 y hmem).sig.name;have hc46:(ByteArray.mk #[46]).size≤lim:=by decide
     (refine lQ q1y fun K hK=>?_;refine ev ?_)
     refine⟨by unfold sm lim at *;first | omega | (simp;omega),?_⟩
     (apply hK;clear hK K;try simp only [A0c,A0e])
     exact fin3 _ _ (46::y.sig.name) sS (by simp [ble,A0h,prC]) (by simp [A5c,hk3]) (by simp only [List.length_cons];unfold sm lim at *;omega)
    ·refine sR1 hk3 q1y ?_;refine AWp.ff rfl (AWp.xx ?_);simp only [A0c,A0e];rw [if_neg (by decide)];exact fin2 _ _ m sS (by simp [ble,A0h,prC]) hm (by simp [A8k,A5c,hk1,hk2,hk3])
 ·refine sR1 hlt q1y ?_;refine sK fun K2 hK2=>?_;refine AWp.ff rfl (AWp.xx ?_);simp only [TB];rw [List.drop_eq_nil_of_le (by omega),F3x] at heq;exact fin _ _ sS (by rw [← heq];exact (by simp [ble,A0h,prC]))
def D4r (l:List Lit)(m:List (D × D)):Option D:=(A3t l m 0).map (·.2)
theorem B4k (l:List Lit):∀ (m:List (D × D))(i:Nat),(A3t l m i).map (·.2)=D4r l m
 | [],i=>rfl
 | kv::r,i=>by
  unfold D4r;simp only [A3t];split
  ·rfl
  ·rw [B4k l r (i+1),B4k l r (0+1)]
theorem C0b (l:List Lit)(k v:D)(m:List (D × D)):D4r l ((k,v)::m)=if l=k.lits then some v else D4r l m:=by
 unfold D4r;simp only [A3t];split
 ·rfl
 ·exact B4k l m 1
theorem E0k (l:List Lit)(k v:D):∀ m:List (D × D),D4r l (m++[(k,v)])=match D4r l m with | some x=>some x | none=>if l=k.lits then some v else none
 | []=>by rw [List.nil_append,C0b];rfl
 | (k',v')::m=>by rw [List.cons_append,C0b,C0b,E0k l k v m];split <;> rfl
def B1a (l:List Lit):List Decl→Nat→Option D
 | [],_=>none
 | d::ds,i=>match A5c d with
  | some k=>if l=k.lits then some (.int .i64 i) else B1a l ds (i+1)
  | none=>B1a l ds (i+1)
theorem C2y (l:List Lit):∀ (ds:List Decl)(i:Nat)(m:List (D × D)),D4r l (F3x ds i m)=match D4r l m with | some x=>some x | none=>B1a l ds i
 | [],i,m=>by simp only [F3x,B1a];cases D4r l m <;> rfl
 | d::ds,i,m=>by
  simp only [F3x,B1a];rw [C2y l ds (i+1)];unfold A8k;cases hk:A5c d with
  | none=>rfl
  | some k =>
   simp only;by_cases hs:(A3t k.lits m 0).isSome=true
   ·rw [if_pos hs];cases hm:D4r l m with
    | some x=>rfl
    | none =>simp only;rw [if_neg];rintro rfl;unfold D4r at hm;cases hf:A3t k.lits m 0 <;> simp [hf] at hs hm
   ·rw [if_neg hs];have hn:A3t k.lits m 0=none:=by cases hf:A3t k.lits m 0 <;> simp [hf] at hs ⊢
    unfold F3c;rw [hn];simp only;rw [E0k];cases hm:D4r l m with
    | some x=>rfl
    | none =>
     simp only;by_cases hl:l=k.lits
     ·rw [if_pos hl,if_pos hl]
     ·rw [if_neg hl,if_neg hl]
def B8y (p:Prog)(k:D):Option Decl:=p.decls.find? fun d=>match A5c d with | some k'=>decide (k.lits=k'.lits) | none=>false
theorem C2c (l:List Lit):∀ (ds:List Decl)(i:Nat),(B1a l ds i=none∧(ds.find? fun d=>match A5c d with | some k'=>decide (l=k'.lits) | none=>false)=none) ∨
  ∃ j d,ds[j]? = some d∧B1a l ds i=some (.int .i64 ((i+j:Nat):Int))∧(ds.find? fun d=>match A5c d with | some k'=>decide (l=k'.lits) | none=>false)=some d
 | [],i=>.inl ⟨rfl,rfl⟩
 | d::ds,i=>by
  simp only [B1a,List.find?_cons];have ih:=C2c l ds (i+1);cases hk:A5c d with
  | none =>
   simp only;rcases ih with h | ⟨j,d',h1,h2,h3⟩
   ·exact .inl h
   ·exact .inr ⟨j+1,d',by simpa using h1,by rw [h2];congr 3;omega,h3⟩
  | some k =>
   simp only;by_cases hl:l=k.lits
   ·simp only [hl,if_true,decide_true];exact .inr ⟨0,d,rfl,by simp,rfl⟩
   ·simp only [hl,if_false,decide_false];rcases ih with h | ⟨j,d',h1,h2,h3⟩
    ·exact .inl h
    ·exact .inr ⟨j+1,d',by simpa using h1,by rw [h2];congr 3;omega,h3⟩
instance:Inhabited Prog:=⟨⟨[],default⟩⟩
theorem D2j (p:Prog)(h:p.Sm):∀ kv,kv∈D6b p→KeyAt prog 112 kv.1:=by
 have go:∀ (ds:List Decl) (i:Nat) (m:List (D × D)),(∀ d,d∈ds→d.Sm)→(∀ kv,kv∈m→KeyAt prog 112 kv.1)→∀ kv,kv∈F3x ds i m→KeyAt prog 112 kv.1:=by
  intro ds
  induction ds with
  | nil=>intro i m _ h;exact h
  | cons d ds ih =>
   intro i m hd hm;refine ih (i+1) _ (fun x hx=>hd x (by simp [hx])) ?_;have hdm:=hd d (by simp);unfold A8k;cases hk:A5c d with
   | none=>exact hm
   | some k =>
    simp only;split
    ·exact hm
    ·refine D0v hm ?_;unfold A5c at hk;have h1:=hdm.name;have h2:=hdm.sig.name;split at hk
     ·simp only [Option.some.injEq] at hk;subst hk;exact C0j E7r _ _ (by unfold sm lim at *;omega) (by simp)
     ·split at hk
      ·simp only [Option.some.injEq] at hk;subst hk;exact C0j E7r _ _ (by unfold sm lim at *;omega) (by simp only [List.length_cons];unfold sm lim at *;omega)
      ·simp at hk
 exact go p.decls 0 [] h.decls.2 (by simp)
abbrev q2y:List Nat:=[0,1,3,4,5,6,7,9,21]
theorem F7j (p:Prog)(h:p.Sm)(a b:Str):A0a prog 205 [.dptr (B0u p) 0,.agg [.d (.str a),.d (.str b)]]
  (.tuple [deV ((B8y p (B3u a b)).getD default),A0m (B8y p (B3u a b)).isSome]):=by
 refine A1p.bd (A1q.of func205 rfl (by decide)) fun hbd=>?_;have hbd2:=hbd.2.1;simp only [SV.bd,SV.bdL] at hbd2;have hk:=C0j E7r a b (B0w hbd2.1) (B0w hbd2.2.1);have hkv:D4r (B3u a b).lits (D6b p)=B1a (B3u a b).lits p.decls 0:=by unfold D6b;rw [C2y];rfl
 unfold D4r at hkv;refine cB func205 ?_;refine sR q2y ?_;refine kR q2y fun K1 hK1=>?_;refine AWp.ff rfl (AWp.kk (hK1 _ _ ?_));clear hK1 K1
 (refine sG q2y [] 10 [] fun K hK=>?_;simp -implicitDefEqProofs only [EV,Nat.reduceAdd,Nat.reduceEqDiff,reduceCtorEq,F6k,F0o,F4m,B0u])
 refine⟨D2j p h,hk,?_⟩
 (apply hK;clear hK K)
 refine sK fun K1 hK1=>?_;rcases C2c (B3u a b).lits p.decls 0 with ⟨h1,h2⟩ | ⟨j,d,h1,h2,h3⟩
 ·rw [h1] at hkv;have hn:A3t (D.agg [D.str a,D.str b]).lits (D6b p) 0=none:=by simpa [B3u] using hkv
  have hg:B8y p (B3u a b)=none:=h2;rw [hn];refine sR q2y ?_;refine AWp.tt rfl ?_;refine sR q2y ?_;rw [hg];exact aR
 ·rw [h2] at hkv;obtain⟨q,hq⟩:∃ q,A3t (D.agg [D.str a,D.str b]).lits (D6b p) 0=some (q,.int .i64 ((0+j:Nat):Int)):=by
   cases hf:A3t (D.agg [D.str a,D.str b]).lits (D6b p) 0 with
   | none=>rw [show (B3u a b).lits=(D.agg [D.str a,D.str b]).lits from rfl,hf] at hkv;simp at hkv
   | some qd =>rw [show (B3u a b).lits=(D.agg [D.str a,D.str b]).lits from rfl,hf] at hkv;obtain⟨q,d'⟩:=qd;simp only [Option.map_some,Option.some.injEq] at hkv;exact⟨q,by rw [hkv]⟩
  have hl:B9i (D.agg [D.str a,D.str b]) (D6b p) (SV.d (D.int IntKind.i64 0))=A0g j:=by simp only [B9i,hq,ofD,Nat.zero_add]
  have hg:B8y p (B3u a b)=some d:=h3;rw [hl,hq];refine sR q2y ?_;refine AWp.ff rfl (AWp.kk (hK1 _ _ ?_));clear hK1 K1
  (refine sQ q2y fun K hK=>?_;refine ev ?_)
  refine⟨by omega,deC d,A0t h1,rfl,?_⟩;refine ev ?_
  (apply hK;clear hK K)
  rw [hg];exact aR
theorem D6q (p:Prog)(nm:Str):B8y p (B3u nm [])=p.decls.find? (fun d=>d.isT nm):=by
 unfold B8y
 congr 1
 funext d;unfold A5c Decl.isT;by_cases h1:d.kind=1∨d.kind=2
 ·rw [if_pos h1];rcases h1 with h1 | h1 <;> simp [h1,B3u,D.lits,D.lit,eq_comm]
 ·rw [if_neg h1];have h2:¬ d.kind=1:=fun h=>h1 (.inl h);have h3:¬ d.kind=2:=fun h=>h1 (.inr h);by_cases h4:d.kind=3 <;> simp [h2,h3,h4,B3u,D.lits,D.lit]
mutual
def Ty.names:Ty→List Str
 | .mk n a _=>n::Ty.namesL a
def Ty.namesL:List Ty→List Str
 | []=>[]
 | t::ts=>t.names++Ty.namesL ts
end
theorem Ty.names_eq (t:Ty):t.names=t.name::Ty.namesL t.args:=by cases t;rfl
theorem Ty.namesL_append:∀ (a b:List Ty),Ty.namesL (a++b)=Ty.namesL a++Ty.namesL b
 | [],b=>rfl
 | t::ts,b=>by simp only [List.cons_append,Ty.namesL,Ty.namesL_append ts b,List.append_assoc]
mutual
theorem Ty.count_nm:∀ (t:Ty)(k:Int),t.count k≤2000→k+t.names.length≤t.count k
 | .mk n a p,k,h=>by simp only [Ty.count] at h ⊢;have:=Ty.countL_nm a _ h;simp only [Ty.names,List.length_cons];omega
theorem Ty.countL_nm:∀ (l:List Ty)(k:Int),Ty.countL l k≤2000→k+(Ty.namesL l).length≤Ty.countL l k
 | [],k,_=>by simp [Ty.countL,Ty.namesL]
 | t::ts,k,h=>by
  simp only [Ty.countL] at h ⊢;split at h
  ·rename_i hk;rw [if_pos hk];have h1:=Ty.countL_nm ts _ h;have h2:=Ty.count_nm t k (by omega);simp only [Ty.namesL,List.length_append];omega
  ·omega
end
def Ty.Nn (t:Ty):Prop:=t.names.length≤2000
theorem Ty.count_Nn {t:Ty} {k:Int} (h0:0≤k)(h:t.count k≤2000):t.Nn:=by have:=Ty.count_nm t k h;unfold Ty.Nn;omega
theorem Ty.countL_Nn:∀ {l:List Ty} {k:Int},0≤k→Ty.countL l k≤2000→∀ t,t∈l→t.Nn
 | [],_,_,_=>by simp
 | x::l,k,h0,h=>by
  simp only [Ty.countL] at h;split at h
  ·have h1:=Ty.count_ge x k;have h2:=Ty.countL_ge l (x.count k);intro t ht;simp only [List.mem_cons] at ht;rcases ht with rfl | ht
   ·exact Ty.count_Nn h0 (by omega)
   ·exact Ty.countL_Nn (by omega) h t ht
  ·omega
inductive Ex.Nn:Ex→Prop where
 | mk (k:Int) (n:Str) (t:Ty) (a:List Ty) (ks:List Ex) (p:Int):t.Nn→(∀ t,t∈a→t.Nn)→(∀ e,e∈ks→Ex.Nn e)→Ex.Nn (.mk k n t a ks p)
theorem Ex.Nn.type {e:Ex} (h:e.Nn):e.type.Nn:=by cases h;assumption
theorem Ex.Nn.targs {e:Ex} (h:e.Nn):∀ t,t∈e.targs→t.Nn:=by cases h;assumption
theorem Ex.Nn.kids {e:Ex} (h:e.Nn):∀ t,t∈e.kids→t.Nn:=by cases h;assumption
mutual
theorem Ex.count_Nn:∀ (t:Ex)(k:Int),0≤k→t.count k≤2000→t.Nn
 | .mk kd n t a ks p,k,h0,h=>by simp only [Ex.count] at h;have h1:=Ty.count_ge t (k+((n.length / 50:Nat):Int));have h2:=Ty.countL_ge a (t.count (k+((n.length / 50:Nat):Int)));have h3:=Ex.countL_ge ks (Ty.countL a (t.count (k+((n.length / 50:Nat):Int))));exact .mk kd n t a ks p (Ty.count_Nn (k:=k+((n.length / 50:Nat):Int)) (by omega) (by omega)) (Ty.countL_Nn (k:=t.count (k+((n.length / 50:Nat):Int))) (by omega) (by omega)) (Ex.countL_Nn ks _ (by omega) h)
theorem Ex.countL_Nn:∀ (l:List Ex)(k:Int),0≤k→Ex.countL l k≤2000→∀ t,t∈l→t.Nn
 | [],k,h0,h=>by simp
 | t::ts,k,h0,h=>by
  simp only [Ex.countL] at h;split at h
  ·have h1:=Ex.count_ge t k;have h4:=Ex.countL_ge ts (t.count k);have h2:=Ex.countL_Nn ts (t.count k) (by omega) h;have h3:=Ex.count_Nn t k h0 (by omega);intro u hu;simp only [List.mem_cons] at hu;rcases hu with rfl | hu
   ·exact h3
   ·exact h2 u hu
  ·omega
end
structure Sig.Nn (s:Sig):Prop where
 flen:s.formals.length≤2000
 formals:∀ f,f∈s.formals→f.bound.Nn
 params:∀ f,f∈s.params→f.type.Nn
 result:s.result.Nn
structure Decl.Nn (d:Decl):Prop where
 flen:d.formals.length≤2000
 vlen:d.vars.length≤2000
 formals:∀ f,f∈d.formals→f.bound.Nn
 fields:∀ f,f∈d.fields→f.type.Nn
 sigs:∀ s,s∈d.sigs→s.Nn
 sig:d.sig.Nn
 body:d.body.Nn
structure Prog.Nn (p:Prog):Prop where
 decls:∀ d,d∈p.decls→d.Nn
 main:p.main.Nn
theorem E3v:LSm A0i (fun f=>f.bound.Nn):=A3r A0i (fun f n=>f.bound.count (n+1+((f.name.length / 50:Nat):Int))) (fun f=>f.bound.Nn) (fun _=>rfl) (fun _ _ _=>rfl)
 (fun x k=>by have:=Ty.count_ge x.bound (k+1+((x.name.length / 50:Nat):Int));omega)
 (fun x k h0 h=>Ty.count_Nn (by omega) h)
theorem E5c:LSm A0p (fun f=>f.type.Nn):=A3r A0p (fun f n=>f.type.count (n+1+((f.name.length / 50:Nat):Int))) (fun f=>f.type.Nn) (fun _=>rfl) (fun _ _ _=>rfl)
 (fun x k=>by have:=Ty.count_ge x.type (k+1+((x.name.length / 50:Nat):Int));omega)
 (fun x k h0 h=>Ty.count_Nn (by omega) h)
theorem Sig.count_Nn (s:Sig)(n:Int)(h0:0≤n)(h:s.count n≤2000):s.Nn:=by unfold Sig.count at h;obtain⟨a1,a2⟩:=E3v s.formals (n+((s.name.length / 50:Nat):Int));obtain⟨b1,b2⟩:=E5c s.params (A0i s.formals (n+((s.name.length / 50:Nat):Int)));have c1:=Ty.count_ge s.result (A0p s.params (A0i s.formals (n+((s.name.length / 50:Nat):Int))));have a3:=(a2 (by omega) (by omega)).1;exact⟨by omega,(a2 (by omega) (by omega)).2,(b2 (by omega) (by omega)).2,Ty.count_Nn (by omega) h⟩
theorem G3m:LSm A0u Sig.Nn:=A3r A0u Sig.count Sig.Nn (fun _=>rfl) (fun _ _ _=>rfl) (fun x k=>(Sig.count_sm x k).1) (fun x k h0 h=>Sig.count_Nn x k h0 h)
theorem Decl.count_Nn (d:Decl)(n:Int)(h0:0≤n)(h:d.count n≤2000):d.Nn:=by
 unfold Decl.count at h;generalize hm:n+1+((d.name.length / 50:Nat):Int)+((d.recv.length / 50:Nat):Int)=m at h;obtain⟨a1,a2⟩:=E3v d.formals m;obtain⟨b1,b2⟩:=E5c d.fields (A0i d.formals m);obtain⟨c1,c2⟩:=G3m d.sigs (A0p d.fields (A0i d.formals m));obtain⟨e1,e2⟩:=D6s d.vars (A0u d.sigs (A0p d.fields (A0i d.formals m)));generalize hz:A2i d.vars (A0u d.sigs (A0p d.fields (A0i d.formals m)))=z at *;unfold Decl.count2 at h;obtain⟨f1,_⟩:=Sig.count_sm d.sig z;have g1:=Ex.count_ge d.body (d.sig.count z);split at h
 ·have a3:=(a2 (by omega) (by omega)).1;have e3:=(e2 (by omega) (by omega)).1;exact⟨by omega,by omega,(a2 (by omega) (by omega)).2,(b2 (by omega) (by omega)).2,(c2 (by omega) (by omega)).2,Sig.count_Nn d.sig z (by omega) (by omega),Ex.count_Nn d.body (d.sig.count z) (by omega) h⟩
 ·omega
theorem G5c:LSm A2n Decl.Nn:=A3r A2n Decl.count Decl.Nn (fun _=>rfl) (fun _ _ _=>rfl) (fun x k=>(Decl.count_sm x k).1) (fun x k h0 h=>Decl.count_Nn x k h0 h)
theorem Prog.count_Nn (p:Prog)(h:p.count≤600):p.Nn:=by unfold Prog.count at h;have h1:=Ex.count_ge p.main 0;obtain⟨a1,a2⟩:=G5c p.decls (p.main.count 0);exact⟨(a2 (by omega) (by omega)).2,Ex.count_Nn p.main 0 (by omega) (by omega)⟩
def B1r (n:Int):Prop:=(97≤n∧n≤122)∨(65≤n∧n≤90)
instance (n:Int):Decidable (B1r n):=by unfold B1r;infer_instance
def C4k (n:Int):Prop:=n=9∨n=10∨n=13∨n=32
instance (n:Int):Decidable (C4k n):=by unfold C4k;infer_instance
def cls (n:Int):Int:=if B1r n then 1 else if 48≤n∧n≤57 then 2 else if n=95 then 3 else if C4k n then 4 else 0
abbrev q1A:List Nat:=[0,2,16,22,24,38]
theorem C9x (n:Int):A0a prog 157 [.d (.int .u8 n)] (A0g (cls n)):=by
 refine cB func157 ?_;refine sR q1A ?_;refine sK fun K1 hK1=>?_;have r1:∀ sl bx,sle sl [(0,.d (.int .u8 n))]→¬ B1r n→K1 sl bx:=by
  intro sl bx hsl n1;refine hK1 _ _ (AWp.ww (bx':=[]) hsl trivial ?_);clear hK1 K1;refine sK fun K1 hK1=>?_;have r2:∀ sl bx,sle sl [(0,.d (.int .u8 n))]→¬ (48≤n∧n≤57)→K1 sl bx:=by
   intro sl bx hsl n2;refine hK1 _ _ (AWp.ww (bx':=[]) hsl trivial ?_);clear hK1 K1;refine sK fun K1 hK1=>?_;by_cases h1:n=95
   ·have hc:cls n=3:=by unfold cls;rw [if_neg n1,if_neg n2,if_pos h1]
    rw [hc];refine sR1 h1 q1A ?_;refine tI ?_;refine sR q1A ?_;exact aR
   refine sR1 h1 q1A ?_;refine AWp.ff rfl (AWp.kk (hK1 _ _ ?_));clear hK1 K1;have hb:cls n=if C4k n then 4 else 0:=by unfold cls;rw [if_neg n1,if_neg n2,if_neg h1]
   rw [hb];refine sK fun K1 hK1=>?_;by_cases a1:n=9
   ·rw [if_pos (show C4k n from .inl a1)];refine sR1 a1 q1A ?_;refine tI ?_;refine sR q1A ?_;exact aR
   by_cases a2:n=10
   ·rw [if_pos (show C4k n from .inr (.inl a2))];refine sR1 a2 q1A ?_;refine tI ?_;refine sR q1A ?_;exact aR
   by_cases a3:n=13
   ·rw [if_pos (show C4k n from .inr (.inr (.inl a3)))];refine sR1 a3 q1A ?_;refine tI ?_;refine sR q1A ?_;exact aR
   by_cases a4:n=32
   ·rw [if_pos (show C4k n from .inr (.inr (.inr a4)))];refine sR1 a4 q1A ?_;refine tI ?_;refine sR q1A ?_;exact aR
   rw [if_neg (show ¬ C4k n from fun h=>by unfold C4k at h;omega)] at hK1 ⊢;refine sR4 a1 a2 a3 a4 q1A ?_;refine kI hK1 ?_;refine sR q1A ?_;exact aR
  by_cases a1:48≤n
  ·by_cases a2:n≤57
   ·have hc:cls n=2:=by unfold cls;rw [if_neg n1,if_pos ⟨a1,a2⟩]
    rw [hc];refine sR2 a1 a2 q1A ?_;refine tI ?_;refine sR q1A ?_;exact aR
   ·refine sR2 a1 a2 q1A ?_;exact AWp.ff rfl (AWp.kk (r2 _ _ sS (fun h=>a2 h.2)))
  ·refine sR1 a1 q1A ?_;exact AWp.ff rfl (AWp.kk (r2 _ _ sS (fun h=>a1 h.1)))
 by_cases a1:97≤n
 ·by_cases a2:n≤122
  ·have hc:cls n=1:=by unfold cls;rw [if_pos (show B1r n from .inl ⟨a1,a2⟩)]
   rw [hc];refine sR2 a1 a2 q1A ?_;refine tI ?_;refine sR q1A ?_;exact aR
  ·have a3:65≤n:=by omega
   have a4:¬ n≤90:=by omega
   refine sR4 a1 a2 a3 a4 q1A ?_;exact AWp.ff rfl (AWp.kk (r1 _ _ sS (fun h=>by unfold B1r at h;omega)))
 ·by_cases a3:65≤n
  ·by_cases a4:n≤90
   ·have hc:cls n=1:=by unfold cls;rw [if_pos (show B1r n from .inr ⟨a3,a4⟩)]
    rw [hc];refine sR3 a1 a3 a4 q1A ?_;refine tI ?_;refine sR q1A ?_;exact aR
   ·refine sR3 a1 a3 a4 q1A ?_;exact AWp.ff rfl (AWp.kk (r1 _ _ sS (fun h=>by unfold B1r at h;omega)))
  ·refine sR2 a1 a3 q1A ?_;exact AWp.ff rfl (AWp.kk (r1 _ _ sS (fun h=>by unfold B1r at h;omega)))
def B9t (s:Str):Bool:=decide (s=[112,97,99,107,97,103,101]∨s=[109,97,105,110]∨s=[116,121,112,101]∨s=[115,116,114,117,99,116]∨s=[105,110,116,101,114,102,97,99,101]∨s=[102,117,110,99]∨s=[114,101,116,117,114,110])
abbrev q2A:List Nat:=[0,2,16]
theorem D8c (s:Str):A0a prog 168 [A2d s] (A0m (B9t s)):=by
 unfold B9t;refine cB func168 ?_;refine sR q2A ?_;refine sK fun K1 hK1=>?_;by_cases a1:s=[112,97,99,107,97,103,101]
 ·have b1:decide (s=[112,97,99,107,97,103,101])=true:=decide_eq_true a1;rw [decide_eq_true (.inl a1)];refine sR1 b1 q2A ?_;refine tI ?_;refine sR q2A ?_;exact aR
 have b1:decide (s=[112,97,99,107,97,103,101])=false:=decide_eq_false a1;by_cases a2:s=[109,97,105,110]
 ·have b2:decide (s=[109,97,105,110])=true:=decide_eq_true a2;rw [decide_eq_true (.inr (.inl a2))];refine sR2 b1 b2 q2A ?_;refine tI ?_;refine sR q2A ?_;exact aR
 have b2:decide (s=[109,97,105,110])=false:=decide_eq_false a2;by_cases a3:s=[116,121,112,101]
 ·have b3:decide (s=[116,121,112,101])=true:=decide_eq_true a3;rw [decide_eq_true (.inr (.inr (.inl a3)))];refine sR3 b1 b2 b3 q2A ?_;refine tI ?_;refine sR q2A ?_;exact aR
 have b3:decide (s=[116,121,112,101])=false:=decide_eq_false a3;by_cases a4:s=[115,116,114,117,99,116]
 ·have b4:decide (s=[115,116,114,117,99,116])=true:=decide_eq_true a4;rw [decide_eq_true (.inr (.inr (.inr (.inl a4))))];refine sR4 b1 b2 b3 b4 q2A ?_;refine tI ?_;refine sR q2A ?_;exact aR
 have b4:decide (s=[115,116,114,117,99,116])=false:=decide_eq_false a4;refine sR4 b1 b2 b3 b4 q2A ?_;refine kI hK1 ?_;clear hK1 K1;by_cases a5:s=[105,110,116,101,114,102,97,99,101]
 ·have b5:decide (s=[105,110,116,101,114,102,97,99,101])=true:=decide_eq_true a5;rw [decide_eq_true (.inr (.inr (.inr (.inr (.inl a5)))))];refine sR1 b5 q2A ?_;exact aR
 have b5:decide (s=[105,110,116,101,114,102,97,99,101])=false:=decide_eq_false a5;by_cases a6:s=[102,117,110,99]
 ·have b6:decide (s=[102,117,110,99])=true:=decide_eq_true a6;rw [decide_eq_true (.inr (.inr (.inr (.inr (.inr (.inl a6))))))];refine sR2 b5 b6 q2A ?_;exact aR
 have b6:decide (s=[102,117,110,99])=false:=decide_eq_false a6;have e:decide (s=[112,97,99,107,97,103,101]∨s=[109,97,105,110]∨s=[116,121,112,101]∨s=[115,116,114,117,99,116]∨s=[105,110,116,101,114,102,97,99,101]∨s=[102,117,110,99]∨s=[114,101,116,117,114,110])=decide (s=[114,101,116,117,114,110]):=by simp [a1,a2,a3,a4,a5,a6]
 rw [e];refine sR2 b5 b6 q2A ?_;exact aR
def B3z (c:UInt8):Bool:=!(decide (cls c.toNat=0) || decide (cls c.toNat=4))
def A2g (s:Str):Bool:=match s with
 | []=>false
 | c::_=>decide (cls c.toNat=1) && s.all B3z && !B9t s
abbrev q3A:List Nat:=[0,2,3,4,13,17,29]
theorem C4o (s:Str):A0a prog 104 [A2d s] (A0m (A2g s)):=by
 have hrs:=D8c s;refine A1p.bd (A1q.of func104 rfl (by decide)) fun hbd=>?_;have hsl:s.length≤lim:=by have:=hbd.1;simp only [SV.bd] at this;cases this;assumption
 clear hbd;refine cB func104 ?_;refine sR q3A ?_;cases s with
 | nil =>refine sK fun K1 hK1=>?_;have h00:((0:Nat):Int)=0:=rfl;refine sR1 h00 q3A ?_;refine tI ?_;refine sR q3A ?_;exact aR
 | cons c cs =>
  have hne:¬ (((c::cs).length:Int)=0):=by simp only [List.length_cons];omega
  have h0:(c::cs)[0]? = some c:=rfl;have hn:A2g (c::cs)=(decide (cls c.toNat=1) && (c::cs).all B3z && !B9t (c::cs)):=rfl;rw [hn];clear hn;have hcl:=C9x c.toNat;generalize c::cs=s at *;refine sK fun K1 hK1=>?_;by_cases h1:cls c.toNat=1
  ·(refine sQ q3A fun K z=>?_;refine ev1 hne ?_;refine⟨c,h0,?_⟩;(try refine ev2 hne h1 ?_);refine⟨_,.inl ⟨_,rfl,hcl,rfl⟩,?_⟩;(try refine ev1 h1 ?_);apply z;clear z K)
   refine kI hK1 ?_;clear hK1 K1;rw [decide_eq_true h1,Bool.true_and];refine kR q3A fun K1 hK1=>?_;refine AWp.bb (AWp.ii s (X:=Unit) (fun j _=>[(0,A2d s),(3,A0g j)]) (fun _ _=>[])
    (fun j _=>(s.drop j).all B3z=s.all B3z) () rfl sS sB ?_ ?_)
   ·intro _ hI;rw [List.drop_length,List.all_nil] at hI;rw [← hI,Bool.true_and] at hK1 ⊢;refine kR1 Int.lt_irrefl q3A fun K2 hK2=>?_;refine AWp.ss rfl ?_;simp only [TB];refine hK1 _ _ ?_;refine sC hrs q3A ?_;exact aR
   ·intro j _ d hd hmem dp tk hlt hI;rw [dp,List.all_cons] at hI;refine kR1 hlt q3A fun K2 hK2=>?_;refine gI hK2 ?_;clear hK2 K2;refine sK fun K2 hK2=>?_;refine AWp.bb ?_
    (refine sV q3A fun K z=>?_;refine⟨by omega,d,hd,?_⟩;(try refine ev ?_);refine cc (C9x d.toNat) ?_;apply z;clear z K)
    by_cases a0:cls d.toNat=0
    ·rw [← hI];rw [show B3z d=false by simp [B3z,a0],Bool.false_and,Bool.false_and];refine sR1 a0 q3A ?_;refine AWp.tt rfl ?_;refine sR q3A ?_;exact aR
    by_cases a4:cls d.toNat=4
    ·rw [← hI];rw [show B3z d=false by simp [B3z,a4],Bool.false_and,Bool.false_and];refine sR1 a4 q3A ?_;refine AWp.tt rfl ?_;refine sR q3A ?_;exact aR
    rw [show B3z d=true by simp [B3z,a0,a4],Bool.true_and] at hI;refine sR2 a0 a4 q3A ?_;refine AWp.ff rfl (AWp.kk (hK2 _ _ ?_));clear hK2 K2
    (refine lV q3A fun K z=>?_;refine⟨by first | (unfold InR;omega) | (simp only [InR,lim] at *;omega),?_⟩;(try refine ev ?_);apply z;clear z K;try simp only [A0c,])
    exact⟨(),hI,sS,sB⟩
  ·(refine sQ q3A fun K z=>?_;refine ev1 hne ?_;refine⟨c,h0,?_⟩;(try refine ev2 hne h1 ?_);refine⟨_,.inl ⟨_,rfl,hcl,rfl⟩,?_⟩;(try refine ev1 h1 ?_);apply z;clear z K)
   refine tI ?_;refine sR q3A ?_;rw [decide_eq_false h1,Bool.false_and,Bool.false_and];exact aR
theorem C6g:∀ {l:List Ty} {t:Ty},t∈l→t.names.length≤(Ty.namesL l).length
 | [],_,h=>by simp at h
 | x::l,t,h=>by
  simp only [Ty.namesL,List.length_append];simp only [List.mem_cons] at h;rcases h with rfl | h
  ·omega
  ·have:=C6g h;omega
theorem D4s:∀ l:List Ty,l.length≤(Ty.namesL l).length
 | []=>by simp [Ty.namesL]
 | x::l=>by have:=D4s l;simp only [Ty.namesL,List.length_append,List.length_cons,Ty.names_eq];omega
abbrev q4A:List Nat:=[0,1,2,3,4,7,12]
theorem F1k:∀ t:Ty,t.names.length≤sm→A0a prog 169 [tyV t] (A1m t.names):=by
 intro t
 induction t using Ty.induct with | _ t ih=>?_
 intro hs;rw [Ty.names_eq,List.length_cons] at hs;rw [Ty.names_eq];refine cB func169 ?_;refine sR q4A ?_
 (refine AWp.zz 1 rfl rfl (wk [(1,.dptr (tyC t) 0)] [] ?_))
 (refine AWp.seqR q4A [7] (by decide +kernel) fun K z=>?_;refine ev ?_;apply z;clear z K)
 refine kR q4A fun K1 hK1=>?_;refine AWp.bb (AWp.ii t.args (X:=Unit) (fun j _=>[(1,.dptr (tyC t) 0),(3,.acc 7),(4,A0g j)]) (fun j _=>[(7,.rows 1 (A2x (t.name::Ty.namesL (t.args.take j))))])
  (fun j _=>True) () trivial (by simp [sle,vle,A0k,tyC]) (by simp [ble,A0h,A2x,Ty.namesL]) ?_ ?_)
 ·intro _ _;rw [List.take_length];refine kR1 Int.lt_irrefl q4A fun K2 hK2=>?_;refine AWp.ss rfl ?_;simp only [TB];refine hK1 _ _ ?_;refine sR q4A ?_;exact aR
 ·intro j _ d hd hmem dp tk hlt hI;have hdl:=C6g hmem;have hge:=D4s t.args;rw [tk,Ty.namesL_append];have hjl:(Ty.namesL (t.args.take j)).length≤(Ty.namesL t.args).length:=by
   conv=>rhs;rw [← List.take_append_drop j t.args,Ty.namesL_append,List.length_append]
   omega
  refine kR1 hlt q4A fun K2 hK2=>?_;refine gI hK2 ?_;clear hK2 K2;refine sK fun K2 hK2=>?_;refine AWp.bb ?_
  (refine lV q4A fun K z=>?_;refine ci (A0w hd) ?_;refine cc (ih d hmem (by omega)) ?_;refine⟨A6m _,by unfold lim sm at *;omega,?_⟩;(try refine ev ?_);apply z;clear z K;try simp only [A0c,A0e])
  refine hK2 _ _ ?_;clear hK2 K2;refine lT q4A ?_;exact⟨(),trivial,(by simp [sle,vle,A0k,tyC,]),by simp [ble,A0h,A2x,Ty.namesL]⟩
def Ty.right (t:Ty):Bool:=t.names.all A2g
abbrev q5A:List Nat:=[0,1,2,3,4,10,18]
theorem A9c (t:Ty)(h:t.Nn):A0a prog 109 [tyV t] (A0m t.right):=by
 have hli:=F1k t (by unfold Ty.Nn at h;unfold sm;omega);have hll:t.names.length≤2000:=h;unfold Ty.right;generalize t.names=l at *;refine cB func109 ?_;refine sR q5A ?_;refine sC hli q5A ?_;refine kR q5A fun K1 hK1=>?_;refine AWp.bb (AWp.ii l (X:=Unit) (fun j _=>[(3,A1m l),(4,A0g j)]) (fun _ _=>[])
  (fun j _=>(l.drop j).all A2g=l.all A2g) () rfl sS sB ?_ ?_)
 ·intro _ hI;rw [List.drop_length,List.all_nil] at hI;rw [← hI] at hK1 ⊢;refine kR1 Int.lt_irrefl q5A fun K2 hK2=>?_;refine AWp.ss rfl ?_;simp only [TB];refine hK1 _ _ ?_;refine sR q5A ?_;exact aR
 ·intro j _ d hd hmem dp tk hlt hI;rw [dp,List.all_cons] at hI;refine kR1 hlt q5A fun K2 hK2=>?_;refine gI hK2 ?_;clear hK2 K2;refine sK fun K2 hK2=>?_;refine AWp.bb ?_
  (refine sV q5A fun K z=>?_;refine ci (A2b hd) ?_;refine cc (C4o d) ?_;apply z;clear z K)
  refine AWp.cond rfl (fun hc=>?_) (fun hc=>?_)
  ·refine sR q5A ?_;simp only [Bool.not_eq_true'] at hc;rw [hc,Bool.false_and] at hI;rw [← hI];exact aR
  simp only [Bool.not_eq_false'] at hc;rw [hc,Bool.true_and] at hI;refine AWp.kk (hK2 _ _ ?_);clear hK2 K2
  (refine lV q5A fun K z=>?_;refine cl ?_;apply z;clear z K;try simp only [A0c,])
  exact⟨(),hI,sS,sB⟩
def F8h (e:Ex):Prop:=(e.kind=1→e.kids=[])∧(e.kind=4∨e.kind=5→e.kids.length=1)
mutual
def Ex.One:Ex→Prop
 | .mk k n t a ks q=>F8h (.mk k n t a ks q)∧Ex.OneL ks
def Ex.OneL:List Ex→Prop
 | []=>True
 | e::es=>e.One∧Ex.OneL es
end
theorem E0a:∀ {l:List Ex},Ex.OneL l→∀ e,e∈l→e.One
 | [],_=>by simp
 | x::l,h=>by
  rw [Ex.OneL] at h;intro e he;simp only [List.mem_cons] at he;rcases he with rfl | he
  ·exact h.1
  ·exact E0a h.2 e he
theorem Ex.One.out {e:Ex} (h:e.One):F8h e∧∀ x,x∈e.kids→x.One:=by cases e with | mk k n t a ks q=>rw [Ex.One] at h;exact⟨h.1,E0a h.2⟩
def Ex.typed (e:Ex):Bool:=decide (e.kind=3) || decide (e.kind=5)
def Ex.kindB (e:Ex):Bool:=if e.kind=1 then decide ((e.kids.length:Int)=0) else if e.kind=2 then decide ((e.kids.length:Int) ≥ 1) else if e.kind=3 then true else if e.kind=4∨e.kind=5 then decide ((e.kids.length:Int)=1) else false
def Ex.right1 (e:Ex):Bool:=if e.typed=true then e.type.right && decide (e.name=[]) && e.kindB else !e.type.right && decide (e.type.name=[]) && decide (e.type.args.length=0) && A2g e.name && e.kindB
def Ex.right2 (e:Ex):Bool:=e.targs.all fun t=>decide (e.kind=2) && t.right
mutual
def Ex.right:Ex→Bool
 | .mk k n t a ks q=>Ex.rightL ks && (Ex.right2 (.mk k n t a ks q) && Ex.right1 (.mk k n t a ks q))
def Ex.rightL:List Ex→Bool
 | []=>true
 | e::es=>e.right && Ex.rightL es
end
theorem Ex.right_eq (e:Ex):e.right=(Ex.rightL e.kids && (e.right2 && e.right1)):=by cases e with | mk k n t a ks q=>rw [Ex.right];rfl
theorem B2z:∀ {l:List Ex},Ex.rightL l=true→∀ e,e∈l→e.right=true
 | [],_=>by simp
 | x::l,h=>by
  rw [Ex.rightL,Bool.and_eq_true] at h;intro e he;simp only [List.mem_cons] at he;rcases he with rfl | he
  ·exact h.1
  ·exact B2z h.2 e he
abbrev q1B:List Nat:=[0,1,2,3,4,5,10,19,24,38,68,84,86,87,93,99,101]
set_option maxHeartbeats 4000000 in
theorem C5x:∀ e:Ex,e.Nn→A0a prog 45 [exV e] (A0m e.right):=by
 intro e
 induction e using Ex.induct with | _ e ih=>?_
 intro hn;rw [Ex.right_eq];have hr4:=A9c e.type hn.type;have his:=C4o e.name;refine A1p.bd (A1q.of func45 rfl (by decide)) fun hbd=>?_;have hok:=G2o hbd.1;have hkl:=hok.kids.1;have htl:=hok.targs.1;clear hbd hok;refine cB func45 ?_;refine sR q1B ?_
 (refine AWp.zz 1 rfl rfl (wk [(1,.dptr (exC e) 0)] [] ?_))
 refine kR q1B fun K1 hK1=>?_;refine AWp.bb (AWp.ii e.kids (X:=Unit) (fun j _=>[(1,.dptr (exC e) 0),(3,A0g j)]) (fun _ _=>[])
  (fun j _=>Ex.rightL (e.kids.drop j)=Ex.rightL e.kids) () rfl (by simp [sle,vle,A0k,exC,]) sB ?_ ?_)
 ·intro _ hI;rw [List.drop_length,Ex.rightL] at hI;rw [← hI,Bool.true_and] at hK1 ⊢;clear hI;refine kR1 Int.lt_irrefl q1B fun K2 hK2=>?_;refine AWp.ss rfl ?_;simp only [TB];refine hK1 _ _ ?_;clear hK2 K2 hK1 K1;refine kR q1B fun K1 hK1=>?_;refine AWp.bb (AWp.ii e.targs (X:=Unit) (fun j _=>[(1,.dptr (exC e) 0),(4,A0g j)]) (fun _ _=>[])
   (fun j _=>((e.targs.drop j).all fun t=>decide (e.kind=2) && t.right)=e.right2) () rfl (by simp [sle,vle,A0k,exC,]) sB ?_ ?_)
  ·intro _ hI;rw [List.drop_length,List.all_nil] at hI;rw [← hI,Bool.true_and] at hK1 ⊢;clear hI;refine kR1 Int.lt_irrefl q1B fun K2 hK2=>?_;refine AWp.ss rfl ?_;simp only [TB];refine hK1 _ _ ?_;clear hK2 K2 hK1 K1;refine sK fun K1 hK1=>?_;have rest:∀ sl bx,sle sl [(1,.dptr (exC e) 0),(5,A0m e.typed)]→K1 sl bx:=by
    intro sl bx hsl;refine hK1 _ _ (AWp.ww (bx':=[]) hsl trivial ?_);clear hK1 K1;refine sK fun K1 hK1=>?_;have rest:∀ sl bx,sle sl [(1,.dptr (exC e) 0),(5,A0m e.typed)]→e.typed=e.type.right→(e.typed=false→e.type.name=[]∧e.type.args.length=0)→K1 sl bx:=by
     intro sl bx hsl h1 h2;refine hK1 _ _ (AWp.ww (bx':=[]) hsl trivial ?_);clear hK1 K1;have hr:e.right1=(if e.typed=true then decide (e.name=[]) && e.kindB else A2g e.name && e.kindB):=by
      unfold Ex.right1;rcases Bool.eq_false_or_eq_true e.typed with ht | ht
      ·rw [if_pos ht,if_pos ht,← h1,ht,Bool.true_and]
      ·rw [if_neg (by simp [ht]),if_neg (by simp [ht]),← h1,ht,(h2 ht).1,(h2 ht).2];simp
     rw [hr];clear hr h1 h2;refine sK fun K1 hK1=>?_;have rest:∀ sl bx,sle sl [(1,.dptr (exC e) 0)]→(∀ b,(if e.typed=true then decide (e.name=[]) && b else A2g e.name && b)=b)→K1 sl bx:=by
      intro sl bx hsl h1;rw [h1] at *;refine hK1 _ _ (AWp.ww (bx':=[]) hsl trivial ?_);clear hK1 K1;refine kR q1B fun K1 hK1=>?_;unfold Ex.kindB;refine AWp.bb ?_;by_cases k1:e.kind=1
      ·rw [if_pos k1];refine sR1 k1 q1B ?_;refine AWp.tt rfl ?_;refine sR q1B ?_;exact aR
      rw [if_neg k1];refine sR1 k1 q1B ?_;refine AWp.ff rfl ?_;by_cases k2:e.kind=2
      ·rw [if_pos k2];refine sR1 k2 q1B ?_;refine AWp.tt rfl ?_;refine sR q1B ?_;exact aR
      rw [if_neg k2];refine sR1 k2 q1B ?_;refine AWp.ff rfl ?_;by_cases k3:e.kind=3
      ·rw [if_pos k3];refine sR1 k3 q1B ?_;refine AWp.tt rfl ?_;refine sR q1B ?_;exact aR
      rw [if_neg k3];refine sR1 k3 q1B ?_;refine AWp.ff rfl ?_;refine sK fun K2 hK2=>?_;by_cases k4:e.kind=4
      ·rw [if_pos (.inl k4)] at hK2 ⊢;refine sR1 k4 q1B ?_;refine AWp.tt rfl (AWp.kk (hK2 _ _ ?_));refine AWp.tt rfl ?_;refine sR q1B ?_;exact aR
      by_cases k5:e.kind=5
      ·rw [if_pos (.inr k5)] at hK2 ⊢;refine sR1 k4 q1B ?_;refine AWp.ff rfl ?_
       (refine lQ q1B fun K z=>?_;refine ev1 k5 ?_;apply z;clear z K;try simp only [A0c,])
       refine hK2 _ _ ?_;refine AWp.tt rfl ?_;refine sR q1B ?_;exact aR
      have hkb:e.kindB=false:=by unfold Ex.kindB;rw [if_neg k1,if_neg k2,if_neg k3,if_neg (by omega)]
      refine sR1 k4 q1B ?_;refine AWp.ff rfl ?_
      (refine lQ q1B fun K z=>?_;refine ev1 k5 ?_;apply z;clear z K;try simp only [A0c,])
      refine hK2 _ _ ?_;refine AWp.ff rfl (AWp.kk ?_);simp only [A0c,A0e];refine hK1 _ _ ?_;refine sR q1B ?_;rw [hkb];exact aR
     rcases Bool.eq_false_or_eq_true e.typed with ht | ht
     ·rw [ht] at hsl ⊢;rw [if_pos rfl] at *;by_cases hnm:e.name=[]
      ·have bn:decide (e.name=[])=true:=decide_eq_true hnm
       (refine sQ q1B fun K z=>?_;simp -implicitDefEqProofs only [EV,Nat.reduceEqDiff,Nat.reduceLeDiff,reduceCtorEq,TF9,B3i,decide_not,bn];apply z;clear z K)
       exact AWp.ff rfl (AWp.kk (rest _ _ (by simp [sle,vle,A0k,exC,]) (fun b=>by rw [if_pos ht,decide_eq_true hnm,Bool.true_and])))
      ·have bn:decide (e.name=[])=false:=decide_eq_false hnm
       (refine sQ q1B fun K z=>?_;simp -implicitDefEqProofs only [EV,Nat.reduceEqDiff,Nat.reduceLeDiff,reduceCtorEq,TF9,B3i,decide_not,bn];apply z;clear z K)
       refine tI ?_;refine sR q1B ?_;rw [decide_eq_false hnm,Bool.false_and];exact aR
     ·rw [ht] at hsl ⊢;rcases Bool.eq_false_or_eq_true (A2g e.name) with hin | hin
      ·rw [hin] at his;refine sC his q1B ?_;exact AWp.ff rfl (AWp.kk (rest _ _ (by simp [sle,vle,A0k,exC,]) (fun b=>by rw [if_neg (by simp [ht]),hin,Bool.true_and])))
      ·rw [hin] at his;refine sC his q1B ?_;refine tI ?_;refine sR q1B ?_;rw [if_neg (by simp),hin,Bool.false_and];exact aR
    have hf:(e.typed≠e.type.right∨(e.typed=false∧¬ (e.type.name=[]∧e.type.args.length=0)))→e.right1=false:=by
     intro h;unfold Ex.right1;rcases Bool.eq_false_or_eq_true e.typed with ht | ht
     ·rcases Bool.eq_false_or_eq_true e.type.right with hr | hr
      ·rw [ht,hr] at h;simp at h
      ·rw [ht,hr];rfl
     ·rcases Bool.eq_false_or_eq_true e.type.right with hr | hr
      ·rw [ht,hr];rfl
      ·rw [ht,hr] at h;simp at h;rw [ht,hr];simp;intro h1 h2;exact absurd h2 (h h1)
    have q1:(true == true)=true:=rfl;have q2:(true == false)=false:=rfl;have q3:(false == true)=false:=rfl;have q4:(false == false)=true:=rfl;rcases Bool.eq_false_or_eq_true e.typed with ht | ht
    ·rcases Bool.eq_false_or_eq_true e.type.right with hr | hr
     ·rw [hr] at hr4;rw [ht]
      (refine sV q1B fun K z=>?_;refine⟨_,.inl ⟨_,rfl,hr4,rfl⟩,?_⟩;(try refine ev1 q1 ?_);apply z;clear z K)
      exact AWp.ff rfl (AWp.kk (rest _ _ (by rw [ht];exact (by simp [sle,vle,A0k,exC,])) (by rw [ht,hr]) (by rw [ht];simp)))
     ·rw [hr] at hr4;rw [hf (.inl (by rw [ht,hr];simp)),ht]
      (refine sV q1B fun K z=>?_;refine⟨_,.inl ⟨_,rfl,hr4,rfl⟩,?_⟩;(try refine ev1 q2 ?_);apply z;clear z K)
      refine tI ?_;refine sR q1B ?_;exact aR
    ·rcases Bool.eq_false_or_eq_true e.type.right with hr | hr
     ·rw [hr] at hr4;rw [hf (.inl (by rw [ht,hr];simp)),ht]
      (refine sV q1B fun K z=>?_;refine⟨_,.inl ⟨_,rfl,hr4,rfl⟩,?_⟩;(try refine ev1 q3 ?_);apply z;clear z K)
      refine tI ?_;refine sR q1B ?_;exact aR
     ·rw [hr] at hr4;by_cases hnm:e.type.name=[]
      ·have bn:decide (e.type.name=[])=true:=decide_eq_true hnm;by_cases hal:e.type.args.length=0
       ·have hg:¬ (0 < (e.type.args.length:Int)):=by omega
        rw [ht]
        (refine sV q1B fun K z=>?_;refine⟨_,.inl ⟨_,rfl,hr4,rfl⟩,?_⟩;(try simp -implicitDefEqProofs only [EV,Nat.reduceAdd,Nat.reduceEqDiff,Nat.reduceLeDiff,reduceCtorEq,TF4,TF9,B1i,A6s,B3i,q4,decide_not,bn,hg]);apply z;clear z K)
        exact AWp.ff rfl (AWp.kk (rest _ _ (by rw [ht];exact (by simp [sle,vle,A0k,exC,])) (by rw [ht,hr]) (fun _=>⟨hnm,hal⟩)))
       ·have hg:0 < (e.type.args.length:Int):=by omega
        rw [hf (.inr ⟨ht,fun h=>hal h.2⟩),ht]
        (refine sV q1B fun K z=>?_;refine⟨_,.inl ⟨_,rfl,hr4,rfl⟩,?_⟩;(try simp -implicitDefEqProofs only [EV,Nat.reduceAdd,Nat.reduceEqDiff,Nat.reduceLeDiff,reduceCtorEq,TF4,TF9,B1i,A6s,B3i,q4,decide_not,bn,hg]);apply z;clear z K)
        refine tI ?_;refine sR q1B ?_;exact aR
      ·have bn:decide (e.type.name=[])=false:=decide_eq_false hnm;rw [hf (.inr ⟨ht,fun h=>hnm h.1⟩),ht]
       (refine sV q1B fun K z=>?_;refine⟨_,.inl ⟨_,rfl,hr4,rfl⟩,?_⟩;(try simp -implicitDefEqProofs only [EV,Nat.reduceEqDiff,Nat.reduceLeDiff,reduceCtorEq,TF4,TF9,A6s,B3i,q4,decide_not,bn]);apply z;clear z K)
       refine tI ?_;refine sR q1B ?_;exact aR
   by_cases k3:e.kind=3
   ·have ht:e.typed=true:=by unfold Ex.typed;rw [decide_eq_true k3];rfl
    have d3:=decide_eq_true k3
    (refine lQ q1B fun K z=>?_;refine ev1 d3 ?_;apply z;clear z K;try simp only [A0c,])
    exact rest _ _ (by rw [ht];exact (by simp [sle,vle,A0k,exC,]))
   by_cases k5:e.kind=5
   ·have ht:e.typed=true:=by unfold Ex.typed;rw [decide_eq_true k5,Bool.or_true]
    have d5:=decide_eq_true k5
    (refine lQ q1B fun K z=>?_;refine ev2 k3 d5 ?_;apply z;clear z K;try simp only [A0c,])
    exact rest _ _ (by rw [ht];exact (by simp [sle,vle,A0k,exC,]))
   have ht:e.typed=false:=by unfold Ex.typed;rw [decide_eq_false k3,decide_eq_false k5];rfl
   (refine lQ q1B fun K z=>?_;refine ev2 k3 k5 ?_;apply z;clear z K;try simp only [A0c,])
   exact rest _ _ (by rw [ht];exact (by simp [sle,vle,A0k,exC,]))
  ·intro j _ d hd hmem dp tk hlt hI;rw [dp,List.all_cons] at hI;refine kR1 hlt q1B fun K2 hK2=>?_;refine gI hK2 ?_;clear hK2 K2;refine sK fun K2 hK2=>?_;refine AWp.bb ?_;by_cases k2:e.kind=2
   ·rw [decide_eq_true k2,Bool.true_and] at hI;have d2:=decide_eq_true k2
    (refine sQ q1B fun K z=>?_;simp -implicitDefEqProofs only [EV,Nat.reduceEqDiff,reduceCtorEq,TF3,B1i,A6s,B3i,decide_not,d2];refine ci (A0w hd) ?_;refine cc (A9c d (hn.targs d hmem)) ?_;apply z;clear z K)
    refine AWp.cond rfl (fun hc=>?_) (fun hc=>?_)
    ·refine sR q1B ?_;simp only [Bool.not_eq_true'] at hc;rw [hc,Bool.false_and] at hI;rw [← hI,Bool.false_and];exact aR
    simp only [Bool.not_eq_false'] at hc;rw [hc,Bool.true_and] at hI;refine AWp.kk (hK2 _ _ ?_);clear hK2 K2
    (refine lV q1B fun K z=>?_;refine⟨by first | (unfold InR;omega) | (simp only [InR,lim] at *;omega),?_⟩;(try refine ev ?_);apply z;clear z K;try simp only [A0c,])
    exact⟨(),by rw [decide_eq_true k2];exact hI,(by simp [sle,vle,A0k,exC,]),sB⟩
   ·rw [decide_eq_false k2,Bool.false_and,Bool.false_and] at hI;rw [← hI,Bool.false_and];refine sR1 k2 q1B ?_;refine AWp.tt rfl ?_;refine sR q1B ?_;exact aR
 ·intro j _ d hd hmem dp tk hlt hI;rw [dp,Ex.rightL] at hI;refine kR1 hlt q1B fun K2 hK2=>?_;refine gI hK2 ?_;clear hK2 K2;refine sK fun K2 hK2=>?_;refine AWp.bb ?_
  (refine sV q1B fun K z=>?_;refine ci (A1h hd) ?_;refine cc (ih d hmem (hn.kids d hmem)) ?_;apply z;clear z K)
  refine AWp.cond rfl (fun hc=>?_) (fun hc=>?_)
  ·refine sR q1B ?_;simp only [Bool.not_eq_true'] at hc;rw [hc,Bool.false_and] at hI;rw [← hI,Bool.false_and];exact aR
  simp only [Bool.not_eq_false'] at hc;rw [hc,Bool.true_and] at hI;refine AWp.kk (hK2 _ _ ?_);clear hK2 K2
  (refine lV q1B fun K z=>?_;refine⟨by first | (unfold InR;omega) | (simp only [InR,lim] at *;omega),?_⟩;(try refine ev ?_);apply z;clear z K;try simp only [A0c,])
  exact⟨(),hI,(by simp [sle,vle,A0k,exC,]),sB⟩
def A6e (l:List Formal):Bool:=l.all fun f=>A2g f.name && f.bound.right
abbrev q2B:List Nat:=[0,2,3,7,25]
theorem B1t (l:List Formal)(hn:∀ f,f∈l→f.bound.Nn):A0a prog 105 [.d (.slice (foR l))] (A0m (A6e l)):=by
 refine A1p.bd (A1q.of func105 rfl (by decide)) fun hbd=>?_;have hll:l.length≤lim:=by have:=hbd.1;simp only [SV.bd] at this;cases this with | slice _ h1 _=>simpa [foR] using h1
 clear hbd;refine cB func105 ?_;refine sR q2B ?_;refine kR q2B fun K1 hK1=>?_;refine AWp.bb (AWp.ii l (X:=Unit) (fun j _=>[(0,.d (.slice (foR l))),(3,A0g j)]) (fun _ _=>[])
  (fun j _=>A6e (l.drop j)=A6e l) () rfl sS sB ?_ ?_)
 ·intro _ hI;rw [List.drop_length] at hI;rw [← hI] at hK1 ⊢;refine kR1 Int.lt_irrefl q2B fun K2 hK2=>?_;refine AWp.ss rfl ?_;simp only [TB];refine hK1 _ _ ?_;refine sR q2B ?_;exact aR
 ·intro j _ d hd hmem dp tk hlt hI;rw [dp] at hI;unfold A6e at hI;rw [List.all_cons] at hI;have hI':(A2g d.name && d.bound.right && A6e (l.drop (j+1)))=A6e l:=hI;clear hI;refine kR1 hlt q2B fun K2 hK2=>?_;refine gI hK2 ?_;clear hK2 K2;refine sK fun K2 hK2=>?_;refine AWp.bb ?_;rcases Bool.eq_false_or_eq_true (A2g d.name) with h1 | h1
  ·have his:=C4o d.name;rw [h1] at his;rw [h1,Bool.true_and] at hI'
   (refine sV q2B fun K z=>?_;refine ci (A0v hd) ?_;refine cc his ?_;refine ci (A0v hd) ?_;refine cc (A9c d.bound (hn d hmem)) ?_;apply z;clear z K)
   refine AWp.cond rfl (fun hc=>?_) (fun hc=>?_)
   ·refine sR q2B ?_;simp only [Bool.not_eq_true'] at hc;rw [hc,Bool.false_and] at hI';rw [← hI'];exact aR
   simp only [Bool.not_eq_false'] at hc;rw [hc,Bool.true_and] at hI';refine AWp.kk (hK2 _ _ ?_);clear hK2 K2
   (refine lV q2B fun K z=>?_;refine⟨by first | (unfold InR;omega) | (simp only [InR,lim] at *;omega),?_⟩;(try refine ev ?_);apply z;clear z K;try simp only [A0c,])
   exact⟨(),hI',sS,sB⟩
  ·have his:=C4o d.name;rw [h1] at his;rw [h1,Bool.false_and,Bool.false_and] at hI';rw [← hI']
   (refine sV q2B fun K z=>?_;refine ci (A0v hd) ?_;refine cc his ?_;apply z;clear z K)
   refine AWp.tt rfl ?_;refine sR q2B ?_;exact aR
def A4z (l:List Param):Bool:=l.all fun f=>A2g f.name && f.type.right
abbrev q3B:List Nat:=[0,2,3,7,25]
theorem B3x (l:List Param)(hn:∀ f,f∈l→f.type.Nn):A0a prog 106 [.d (.slice (paR l))] (A0m (A4z l)):=by
 refine A1p.bd (A1q.of func106 rfl (by decide)) fun hbd=>?_;have hll:l.length≤lim:=by have:=hbd.1;simp only [SV.bd] at this;cases this with | slice _ h1 _=>simpa [paR] using h1
 clear hbd;refine cB func106 ?_;refine sR q3B ?_;refine kR q3B fun K1 hK1=>?_;refine AWp.bb (AWp.ii l (X:=Unit) (fun j _=>[(0,.d (.slice (paR l))),(3,A0g j)]) (fun _ _=>[])
  (fun j _=>A4z (l.drop j)=A4z l) () rfl sS sB ?_ ?_)
 ·intro _ hI;rw [List.drop_length] at hI;rw [← hI] at hK1 ⊢;refine kR1 Int.lt_irrefl q3B fun K2 hK2=>?_;refine AWp.ss rfl ?_;simp only [TB];refine hK1 _ _ ?_;refine sR q3B ?_;exact aR
 ·intro j _ d hd hmem dp tk hlt hI;rw [dp] at hI;unfold A4z at hI;rw [List.all_cons] at hI;have hI':(A2g d.name && d.type.right && A4z (l.drop (j+1)))=A4z l:=hI;clear hI;refine kR1 hlt q3B fun K2 hK2=>?_;refine gI hK2 ?_;clear hK2 K2;refine sK fun K2 hK2=>?_;refine AWp.bb ?_;rcases Bool.eq_false_or_eq_true (A2g d.name) with h1 | h1
  ·have his:=C4o d.name;rw [h1] at his;rw [h1,Bool.true_and] at hI'
   (refine sV q3B fun K z=>?_;refine ci (A0r hd) ?_;refine cc his ?_;refine ci (A0r hd) ?_;refine cc (A9c d.type (hn d hmem)) ?_;apply z;clear z K)
   refine AWp.cond rfl (fun hc=>?_) (fun hc=>?_)
   ·refine sR q3B ?_;simp only [Bool.not_eq_true'] at hc;rw [hc,Bool.false_and] at hI';rw [← hI'];exact aR
   simp only [Bool.not_eq_false'] at hc;rw [hc,Bool.true_and] at hI';refine AWp.kk (hK2 _ _ ?_);clear hK2 K2
   (refine lV q3B fun K z=>?_;refine⟨by first | (unfold InR;omega) | (simp only [InR,lim] at *;omega),?_⟩;(try refine ev ?_);apply z;clear z K;try simp only [A0c,])
   exact⟨(),hI',sS,sB⟩
  ·have his:=C4o d.name;rw [h1] at his;rw [h1,Bool.false_and,Bool.false_and] at hI';rw [← hI']
   (refine sV q3B fun K z=>?_;refine ci (A0r hd) ?_;refine cc his ?_;apply z;clear z K)
   refine AWp.tt rfl ?_;refine sR q3B ?_;exact aR
def Sig.right (s:Sig):Bool:=A2g s.name && A6e s.formals && A4z s.params && s.result.right
theorem C2d (s:Sig)(hn:s.Nn):A0a prog 107 [siV s] (A0m s.right):=by
 have h1:=C4o s.name;have h2:=B1t s.formals hn.formals;have h3:=B3x s.params hn.params;have h4:=A9c s.result hn.result;unfold Sig.right;generalize A2g s.name=b1 at *;generalize A6e s.formals=b2 at *;generalize A4z s.params=b3 at *;generalize s.result.right=b4 at *;refine cB func107 ?_;refine sR [0,1,2] ?_;cases b1 with
 | false =>refine sC h1 [0,1,2] ?_;exact aR
 | true =>
  cases b2 with
  | false =>
   (refine sV [0,1,2] fun K z=>?_;refine cc h1 ?_;refine cc h2 ?_;apply z;clear z K)
   exact aR
  | true =>
   cases b3 with
   | false =>
    (refine sV [0,1,2] fun K z=>?_;refine cc h1 ?_;refine cc h2 ?_;refine cc h3 ?_;apply z;clear z K)
    exact aR
   | true =>
    (refine sV [0,1,2] fun K z=>?_;refine cc h1 ?_;refine cc h2 ?_;refine cc h3 ?_;refine cc h4 ?_;apply z;clear z K)
    exact aR
end Go.Abs
