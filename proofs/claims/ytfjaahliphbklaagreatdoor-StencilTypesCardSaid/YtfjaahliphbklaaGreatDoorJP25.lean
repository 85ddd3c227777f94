/- instance.Methods -/
import Derived.Test.YtfjaahliphbklaaGreatDoorJW22
import Derived.Test.YtfjaahliphbklaaGreatDoorJW18
namespace Go.Abs
set_option maxHeartbeats 1000000
set_option linter.unusedSimpArgs false
set_option linter.unusedVariables false
open Go Go.Proofs
set_option maxRecDepth 100000
set_option maxHeartbeats 4000000
def callsX (p:Prog)(cs:List CallT)(x:Ty):List CallT:=(cs.filter fun c=>A5x p [] x c.on).map fun c=>⟨x,c.name,c.targs⟩
theorem A9j (p:Prog)(cs:List CallT)(x:Ty):(callsX p cs x).length≤cs.length:=by unfold callsX;rw [List.length_map];exact List.length_filter_le _ _
theorem D6m {p:Prog} {cs:List CallT} {x:Ty} {j:Nat} {c:CallT} (h:cs[j]? = some c):callsX p (cs.take (j+1)) x=callsX p (cs.take j) x++(if A5x p [] x c.on=true then [⟨x,c.name,c.targs⟩] else []):=by
 unfold callsX;rw [List.take_add_one,h];simp only [Option.toList_some,List.filter_append,List.map_append]
 congr 1
 by_cases hb:A5x p [] x c.on=true <;> simp [hb]
theorem D3g {p:Prog} {cs:List CallT} {x:Ty} (hx:x.Sm)(hc:∀ c,c∈cs→c.Sm):∀ c,c∈callsX p cs x→c.Sm:=fun c h=>by obtain⟨d,hd,rfl⟩:=List.mem_map.1 h;have:=hc d (List.mem_filter.1 hd).1;exact⟨hx,this.name,this.targs⟩
abbrev yB4n:List Nat:=[0,1,2,3,4,5,6,7,8,10,14,15,16,17,24]
theorem E5w (p:Prog)(h:p.Sm)(ts:List Ty)(cs:List CallT)(hcl:cs.length≤sm)(hcs:∀ c,c∈cs→c.Sm)(x:Ty)(hx:x.Sm) :
  B5n Tryz.prog 26 [prV p,F1i ts cs,tyV x] fun r=>∃ l':List CallT,l'.Perm (callsX p cs x)∧l'.Pairwise (fun a b=>A2t a b≤0)∧r=.d (.slice (caR (A4i l'))):=by
 have hn:=D4z p h;have hcn:=B2r x hx
 (refine B5n.of_body Tryz.func26 rfl (by decide) (by rw [Tryz.ntmps26];simp) ?_;rw [Tryz.ntmps26])
 refine sR yB4n ?_;refine sC hn yB4n ?_;refine sR yB4n ?_;refine AWp.pp 8 5 8 rfl ?_;refine sK fun K1 u1=>?_
 (refine sQ yB4n fun K z=>?_;simp -implicitDefEqProofs only [EV,Nat.reduceEqDiff,Nat.reduceBEq,reduceCtorEq,G3r,G4k,A1a];apply z;clear z K)
 refine AWp.bb (AWp.ii cs (X:=Unit) (fun j _=>[(5,.box 5 0),(7,.dptr (B0u p) 0),(8,.acc 8),(14,.d (.slice (caR cs))),(15,A0g cs.length),(16,A0g j)])
  (fun j _=>[(5,.cells (tyS x)),(8,.rows 5 (caR (callsX p (cs.take j) x)))])
  (fun _ _=>True) () trivial sS (by simp [ble,A0h,callsX,caR]) ?_ ?_)
 rotate_left
 ·intro j _ c hd hmem dp tk hlt _;have hc:=hcs c hmem;have him:=C8c p h [] (by simp) (by simp) x c.on hx hc.on;simp only [show foR ([]:List Formal)=[] from rfl] at him;have hal:=E8o id [] [] c.targs hc.targs.1 fun t ht=>by
   have:=B5w [] [] (by simp) t (hc.targs.2 t ht);rw [A9u] at this;exact this
  rw [List.map_id] at hal;have e2:=D6m (p:=p) (x:=x) hd;have e3:=A9j p (cs.take j) x;have e4:(cs.take j).length≤sm:=by rw [List.length_take];omega
  have e5:(caR (callsX p (cs.take j) x)).length=(callsX p (cs.take j) x).length:=A1a _;refine sR1 hlt yB4n ?_;refine AWp.goOn rfl ?_;refine sK fun K2 u2=>?_;refine AWp.bb ?_
  (refine sV yB4n fun K z=>?_;refine⟨by omega,_,A1s hd,rfl,?_⟩;(try simp -implicitDefEqProofs only [EV,Nat.reduceAdd,Nat.reduceEqDiff,Nat.reduceBEq,Nat.reduceLeDiff,reduceCtorEq,F8m,caC]);apply z;clear z K)
  cases hb:A5x p [] x c.on with
  | false =>rw [hb] at him;rw [hb,if_neg (by simp),List.append_nil] at e2;refine sC him yB4n ?_;refine AWp.ff rfl (AWp.kk (u2 _ _ ?_));clear u2 K2;refine lT yB4n ?_;exact⟨(),trivial,sS,by simp [ble,A0h,e2]⟩
  | true =>
   rw [hb] at him;rw [hb,if_pos rfl] at e2;refine sC him yB4n ?_;refine AWp.tt rfl ?_;generalize hM:caR (callsX p (cs.take j) x)=MR at *;have e6:caR (callsX p (cs.take (j+1)) x)=MR++[caC ⟨x,c.name,c.targs⟩]:=by rw [e2,← hM];simp [caR]
   (refine lG yB4n [] 10 [] fun K z=>?_;refine ev ?_;refine cc hcn ?_;refine cc hal ?_;refine⟨by simp,by (try simp only [e5]);unfold lim sm at *;omega,?_⟩;(try refine ev ?_);apply z;clear z K;try simp only [A0c,A0e])
   refine u2 _ _ ?_;clear u2 K2;refine lT yB4n ?_;exact⟨(),trivial,sS,by simp [ble,A0h,e6,caC]⟩
 intro _ _;rw [List.take_length];refine sR1 Int.lt_irrefl yB4n ?_;refine AWp.stop rfl ?_;simp only [TB];refine u1 _ _ ?_;clear u1 K1;have hml:(callsX p cs x).length≤sm:=Nat.le_trans (A9j p cs x) hcl;have hms:=D3g (p:=p) hx hcs;generalize callsX p cs x=ml at *;refine AWp.seqCP [8] [] 1 _ rfl rfl (by decide +kernel) fun K hK=>?_;simp only [List.take_succ_cons,List.take_zero,List.drop_succ_cons,List.drop_zero];refine ev ?_;refine⟨_,E7t 8 ml rfl rfl rfl hml hms,?_⟩;rintro r bx2 ⟨rfl,l',hp,hs,rfl⟩;simp only [List.getElem_toArray,List.getElem_cons_succ,List.getElem_cons_zero];refine ev ?_;refine hK _ _ ?_;clear hK K;have hl':l'.length≤sm:=by rw [hp.length_eq];exact hml
 have hs':∀ c,c∈l'→c.Sm:=fun c hc=>hms c (hp.mem_iff.1 hc);refine AWp.seqCP [6] [] 1 _ rfl rfl (by decide +kernel) fun K hK=>?_;simp only [List.take_succ_cons,List.take_zero,List.drop_succ_cons,List.drop_zero];refine ev ?_;refine⟨_,D0w 8 l' rfl rfl rfl hl' hs',?_⟩;rintro r bx2 ⟨rfl,rfl⟩;simp only [List.getElem_toArray,List.getElem_cons_succ,List.getElem_cons_zero];refine ev ?_;refine hK _ _ ?_;clear hK K;exact AWp.ret ⟨_,_,by rw [Tryz.results26];rfl,rfl,l',hp,hs,rfl⟩
set_option maxHeartbeats 1000000
set_option maxHeartbeats 4000000
abbrev G6a:BoxC:=.cells [.d .nil,.d .nil,.d (.bool false)]
def A8b (p:Prog)(cs:List CallT)(x:Ty):SetT:=(callsX p cs x).foldl C2o ⟨[],[],false⟩
def ofZ:Option SetT→SetT
 | none=>⟨[],[],false⟩
 | some o=>o
def bxZ:Option SetT→BoxC
 | none=>G6a
 | some o=>.cells (seS o)
theorem B9c:∀ (l:List CallT) {s:SetT},s.Sm→(∀ c,c∈l→c.Sm)→(l.foldl C2o s).Sm
 | [],_,hs,_=>hs
 | c::l,_,hs,h=>B9c l (D7z hs (h c (by simp))) fun d hd=>h d (by simp [hd])
abbrev yA8m:List Nat:=[0,1,2,3,4,5,6,7,8,14,25]
theorem C9n (p:Prog)(h:p.Sm)(s:SetT)(hs:s.Sm)(x:Ty)(hx:x.Sm):A0a Tryz.prog 30 [prV p,seV s,tyV x] (.d (.slice (caR (A8b p s.calls x).calls))):=by
 have hcl:=hs.calls.1;unfold A8b;generalize hR:(callsX p s.calls x).foldl C2o ⟨[],[],false⟩=R;refine cB Tryz.func30 ?_;refine sR yA8m ?_;refine sR yA8m ?_;refine kR yA8m fun K1 u1=>?_;refine AWp.bb (AWp.ii s.calls (X:=Option SetT) (fun j o=>[(3,.box 3 0),(4,.box 4 0),(5,.box 5 0),(7,.box 7 0),(8,A0g j)])
  (fun j o=>[(3,.cells ((prC p).map .d)),(4,.cells (seS s)),(5,.cells (tyS x)),(7,bxZ o)])
  (fun j o=>(callsX p (s.calls.drop j) x).foldl C2o (ofZ o)=R∧(ofZ o).Sm) none ⟨hR,⟨by simp [ofZ],by simp [ofZ]⟩,⟨by simp [ofZ],by simp [ofZ]⟩⟩ sS (by simp [ble,A0h,prC,bxZ]) ?_ ?_)
 rotate_left
 ·intro j o c hcg hmem dp tk hlt hI;obtain⟨hI,ho⟩:=hI;have hc:=hs.calls.2 c hmem;have him:=A3q p h [] (by simp) (by simp) x c.on hx hc.on;simp only [show foR ([]:List Formal)=[] from rfl] at him;have hxc:CallT.Sm ⟨x,c.name,c.targs⟩:=⟨hx,hc.name,hc.targs⟩;have hput:=C5k (ofZ o) ho ⟨x,c.name,c.targs⟩ hxc;have hps:=D7z ho hxc;rw [dp] at hI;unfold callsX at hI;rw [List.filter_cons] at hI;refine sK fun K2 u2=>?_
  (refine sQ yA8m fun K z=>?_;simp -implicitDefEqProofs only [EV,Nat.reduceEqDiff,reduceCtorEq,B1h,B2x,hlt,A1a];apply z;clear z K)
  refine gI u2 ?_;clear u2 K2;refine sK fun K2 u2=>?_;refine AWp.bb ?_;cases hb:A5x p [] x c.on with
  | false =>
   rw [hb] at him;rw [hb,if_neg (by simp)] at hI
   (refine sG yA8m [] 8 [] fun K z=>?_;refine ev ?_;refine⟨by omega,_,A1s hcg,rfl,?_⟩;(try simp -implicitDefEqProofs only [EV,Nat.reduceAdd,Nat.reduceEqDiff,Nat.reduceLeDiff,reduceCtorEq,caC]);refine cc him ?_;apply z;clear z K)
   refine AWp.ff rfl (AWp.kk (u2 _ _ ?_));clear u2 K2;refine lT yA8m ?_;exact⟨o,⟨hI,ho⟩,sS,by simp [ble,A0h,prC]⟩
  | true =>
   rw [hb] at him;rw [hb,if_pos rfl,List.map_cons,List.foldl_cons] at hI;generalize hp2:C2o (ofZ o) ⟨x,c.name,c.targs⟩=o2 at *;clear hp2
   (refine sG yA8m [] 8 [] fun K z=>?_;refine ev ?_;refine⟨by omega,_,A1s hcg,rfl,?_⟩;(try simp -implicitDefEqProofs only [EV,Nat.reduceAdd,Nat.reduceEqDiff,Nat.reduceLeDiff,reduceCtorEq,caC]);refine cc him ?_;apply z;clear z K)
   refine AWp.tt rfl ?_;cases o with
   | none =>
    simp only [ofZ,bxZ] at hput ⊢;have hput:A0a Tryz.prog 82 [.agg [.d (.slice []),.d (.slice []),.d (.bool false)],caV ⟨x,c.name,c.targs⟩] (seV o2):=hput
    (refine lG yA8m [] 15 [] fun K z=>?_;refine ev ?_;refine⟨by omega,_,A1s hcg,rfl,?_⟩;(try simp -implicitDefEqProofs only [EV,Nat.reduceEqDiff,reduceCtorEq,B1i,B1h,B2x,C3z,caC]);refine⟨by omega,_,A1s hcg,rfl,?_⟩;(try simp -implicitDefEqProofs only [EV,Nat.reduceAdd,Nat.reduceEqDiff,Nat.reduceLeDiff,reduceCtorEq,B2x,C3z,caC]);refine cc hput ?_;apply z;clear z K;try simp only [A0c,A0e])
    refine u2 _ _ ?_;clear u2 K2;refine lT yA8m ?_;exact⟨some o2,⟨hI,hps⟩,sS,by simp [ble,A0h,prC,bxZ]⟩
   | some o =>
    simp only [ofZ,bxZ] at hput ⊢
    (refine lG yA8m [] 15 [] fun K z=>?_;refine ev ?_;refine⟨by omega,_,A1s hcg,rfl,?_⟩;(try simp -implicitDefEqProofs only [EV,Nat.reduceEqDiff,reduceCtorEq,B1i,B1h,B2x,C3z,caC]);refine⟨by omega,_,A1s hcg,rfl,?_⟩;(try simp -implicitDefEqProofs only [EV,Nat.reduceAdd,Nat.reduceEqDiff,Nat.reduceLeDiff,reduceCtorEq,B2x,C3z,caC]);refine cc hput ?_;apply z;clear z K;try simp only [A0c,A0e])
    refine u2 _ _ ?_;clear u2 K2;refine lT yA8m ?_;exact⟨some o2,⟨hI,hps⟩,sS,by simp [ble,A0h,prC,bxZ]⟩
 intro o hI;obtain⟨hI,_⟩:=hI;rw [List.drop_length] at hI;simp only [callsX,List.filter_nil,List.map_nil,List.foldl_nil] at hI;subst hI;refine sK fun K2 u2=>?_
 (refine sQ yA8m fun K z=>?_;simp -implicitDefEqProofs only [EV,Nat.reduceEqDiff,reduceCtorEq,B1h,B2x,Int.lt_irrefl,A1a];apply z;clear z K)
 refine AWp.ss rfl ?_;simp only [TB];refine u1 _ _ ?_;clear u2 K2 u1 K1;cases o with
 | none =>simp only [ofZ,bxZ];refine sR yA8m ?_;exact aR
 | some o =>simp only [ofZ,bxZ];refine sR yA8m ?_;exact aR
open Go
set_option maxHeartbeats 1000000
theorem B2t {a b c:CallT} (h:A2t a b < 0)(k:A2t b c≤0):A2t a c < 0:=(C1x a b c).1 h k
theorem E2i {a b c:CallT} (h:A2t a b≤0)(k:A2t b c < 0):A2t a c < 0:=(C1x a b c).2.1 h k
theorem D8w {a b c:CallT} (h:A2t a b=0)(k:A2t b c=0):A2t a c=0:=(C1x a b c).2.2 h k
theorem E7f {a b:CallT} (h:A2t a b=0):A2t b a=0:=by rw [A3y,h];rfl
def A7b (l:List CallT):Prop:=l.Pairwise fun a b=>A2t a b < 0
def C0n (l m:List CallT):Prop:=∀ c,c∈l→∃ d,d∈m∧A2t c d=0
theorem D9n {l:List CallT} {i:Nat} (h:i < l.length):ccN l i=l[i]:=by simp [ccN,List.getElem?_eq_getElem h]
theorem B7o {n i:Nat} (h:i < n):(Array.range n)[i]! = i:=by rw [getElem!_pos _ _ (by simpa using h)];simp
theorem C6a {l:List CallT} (hs:l.Pairwise fun a b=>A2t a b≤0):A7b (A4i l)∧C0n (A4i l) l∧C0n l (A4i l)∧∀ c,c∈A4i l→c∈l:=by
 have hle:∀ i j,i≤j→j < l.length→A2t (ccN l i) (ccN l j)≤0:=fun i j h hj=>by
  rcases Nat.lt_or_eq_of_le h with h | rfl
  ·rw [D9n hj,D9n (by omega)];exact List.pairwise_iff_getElem.1 hs i j (by omega) hj h
  ·rw [B1p];exact Int.le_refl _
 have key:∀ m,m≤l.length→∀ r,(A7r (fun x y=>decide (A2t (ccN l x) (ccN l y)=0)) (Array.range l.length) m).map (ccN l)=r →
   A7b r∧(∀ c,c∈r→∃ i,i < m∧c=ccN l i)∧∀ i,i < m→∃ c,c∈r∧A2t (ccN l i) c=0:=by
  intro m
  induction m with
  | zero =>intro _ r hr;subst hr;exact⟨by simp [A7r,A7b],by simp [A7r],by omega⟩
  | succ m ih =>
   intro hm r hr;obtain⟨h1,h2,h3⟩:=ih (by omega) _ rfl;rw [A5p,List.map_append] at hr;generalize (A7r (fun x y=>decide (A2t (ccN l x) (ccN l y)=0)) (Array.range l.length) m).map (ccN l)=r0 at *;have hk:A8r (fun x y=>decide (A2t (ccN l x) (ccN l y)=0)) (Array.range l.length) m=true↔m=0∨A2t (ccN l m) (ccN l (m - 1))≠0:=by unfold A8r;rw [B7o (by omega),B7o (by omega)];simp
   by_cases hkeep:A8r (fun x y=>decide (A2t (ccN l x) (ccN l y)=0)) (Array.range l.length) m=true
   ·rw [if_pos hkeep,List.map_cons,List.map_nil,B7o (by omega)] at hr;subst hr;refine⟨?_,fun c hc=>?_,fun i hi=>?_⟩
    ·unfold A7b;rw [List.pairwise_append];refine⟨h1,by simp,fun a ha b hb=>?_⟩;rw [List.mem_singleton.1 hb];obtain⟨i,hi,rfl⟩:=h2 a ha;rcases hk.1 hkeep with h0 | h0
     ·omega
     ·have e1:=hle i (m - 1) (by omega) (by omega);have e2:=hle (m - 1) m (by omega) (by omega);have e3:=A3y (ccN l m) (ccN l (m - 1));exact E2i e1 (by omega)
    ·rcases List.mem_append.1 hc with hc | hc
     ·obtain⟨i,hi,e⟩:=h2 c hc;exact⟨i,by omega,e⟩
     ·exact⟨m,by omega,List.mem_singleton.1 hc⟩
    ·by_cases e:i=m
     ·subst e;exact⟨_,List.mem_append_right _ (List.mem_singleton.2 rfl),B1p _⟩
     ·obtain⟨c,hc,h⟩:=h3 i (by omega);exact⟨c,List.mem_append_left _ hc,h⟩
   ·rw [if_neg hkeep,List.map_nil,List.append_nil] at hr;subst hr;have h0:¬ (m=0∨A2t (ccN l m) (ccN l (m - 1))≠0):=fun h=>hkeep (hk.2 h);refine⟨h1,fun c hc=>?_,fun i hi=>?_⟩
    ·obtain⟨i,hi,e⟩:=h2 c hc;exact⟨i,by omega,e⟩
    ·by_cases e:i=m
     ·subst e;obtain⟨c,hc,h⟩:=h3 (i - 1) (by omega);exact⟨c,hc,D8w (by by_cases e:A2t (ccN l i) (ccN l (i - 1))=0;exact e;exact absurd (.inr e) h0) h⟩
     ·exact h3 i (by omega)
 obtain⟨h1,h2,h3⟩:=key l.length (Nat.le_refl _) _ rfl;have hmem:∀ c,c∈A4i l→c∈l:=fun c hc=>by obtain⟨i,hi,rfl⟩:=h2 c hc;rw [D9n hi];exact List.getElem_mem hi
 refine⟨h1,fun c hc=>⟨c,hmem c hc,B1p c⟩,fun c hc=>?_,hmem⟩;obtain⟨i,hi,rfl⟩:=List.getElem_of_mem hc;obtain⟨d,hd,h⟩:=h3 i hi;rw [D9n hi] at h;exact⟨d,hd,h⟩
theorem C0w:∀ {l m:List CallT},A7b l→A7b m→C0n l m→C0n m l→l.length=m.length∧∀ (i:Nat) c d,l[i]? = some c→m[i]? = some d→A2t c d=0
 | [],[],_,_,_,_=>⟨rfl,by simp⟩
 | [],d::m,_,_,_,h=>by obtain⟨c,hc,_⟩:=h d (by simp);simp at hc
 | c::l,[],_,_,h,_=>by obtain⟨d,hd,_⟩:=h c (by simp);simp at hd
 | c::l,d::m,hl,hm,h1,h2=>by
  have hl':=List.pairwise_cons.1 hl;have hm':=List.pairwise_cons.1 hm;have hcd:A2t c d=0:=by
   obtain⟨d',hd',e1⟩:=h1 c (by simp);obtain⟨c',hc',e2⟩:=h2 d (by simp);rcases List.mem_cons.1 hd' with rfl | hd'
   ·exact e1
   rcases List.mem_cons.1 hc' with rfl | hc'
   ·exact E7f e2
   have k1:=hm'.1 d' hd';have k2:=hl'.1 c' hc';have a2:=A3y d c';have s1:=B2t k2 (by omega:A2t c' d≤0);have s2:=B2t s1 (by omega:A2t d d'≤0);omega
  have n1:C0n l m:=fun x hx=>by
   obtain⟨y,hy,e⟩:=h1 x (by simp [hx]);rcases List.mem_cons.1 hy with rfl | hy
   ·have:=hl'.1 x hx;have a1:=A3y x y;have:=D8w hcd (by omega:A2t y x=0);omega
   ·exact⟨y,hy,e⟩
  have n2:C0n m l:=fun x hx=>by
   obtain⟨y,hy,e⟩:=h2 x (by simp [hx]);rcases List.mem_cons.1 hy with rfl | hy
   ·have:=hm'.1 x hx;have a1:=A3y x y;have:=D8w (E7f hcd) (by omega:A2t y x=0);omega
   ·exact⟨y,hy,e⟩
  obtain⟨e1,e2⟩:=C0w hl'.2 hm'.2 n1 n2;refine⟨by simp [e1],fun i a b ha hb=>?_⟩;cases i with
  | zero=>simp at ha hb;subst ha hb;exact hcd
  | succ i=>exact e2 i a b (by simpa using ha) (by simpa using hb)
theorem D1k (x:CallT):∀ (l out:List CallT),(∀ t,t∈l→A2t x t < 0)→A6a A2t x l true out=some (out++l)
 | [],out,_=>by rw [A6a];simp
 | t::l,out,h=>by have h0:=h t (by simp);rw [A6a,if_neg (by omega),if_neg (by simp),D1k x l _ fun u hu=>h u (by simp [hu])];simp
theorem C5c (x:CallT):∀ (l out:List CallT),A7b l→(A6a A2t x l false out=none∧∃ t,t∈l∧A2t x t=0)∨∃ R,A6a A2t x l false out=some (out++R)∧A7b R∧∀ t,t∈R↔t=x∨t∈l
 | [],out,_=>.inr ⟨[x],by rw [A6a];simp,by simp [A7b],by simp⟩
 | t::l,out,hs=>by
  have hs':=List.pairwise_cons.1 hs;rw [A6a];by_cases h0:A2t x t=0
  ·exact .inl ⟨by rw [if_pos h0],t,by simp,h0⟩
  rw [if_neg h0];by_cases h1:A2t x t < 0
  ·rw [if_pos ⟨h1,rfl⟩,D1k x l _ fun u hu=>B2t h1 (by have:=hs'.1 u hu;omega)];refine .inr ⟨x::t::l,by simp,?_,by simp⟩;exact List.pairwise_cons.2 ⟨fun u hu=>by
    rcases List.mem_cons.1 hu with rfl | hu
    ·exact h1
    ·exact B2t h1 (by have:=hs'.1 u hu;omega),hs⟩
  ·rw [if_neg fun h=>h1 h.1];rcases C5c x l (out++[t]) hs'.2 with ⟨e,u,hu,h⟩ | ⟨R,e,hR,hm⟩
   ·exact .inl ⟨e,u,by simp [hu],h⟩
   ·refine .inr ⟨t::R,by rw [e];simp,List.pairwise_cons.2 ⟨fun u hu=>?_,hR⟩,fun u=>?_⟩
    ·rcases (hm u).1 hu with rfl | hu
     ·have:=A3y u t;omega
     ·exact hs'.1 u hu
    ·rw [List.mem_cons,hm,List.mem_cons];constructor
     ·rintro (h | h | h) <;> simp [h]
     ·rintro (h | h | h) <;> simp [h]
theorem D6t (l:List CallT)(x:CallT)(hs:A7b l):A7b (D3k A2t l x)∧(∀ t,t∈D3k A2t l x→t=x∨t∈l)∧(∀ t,t∈l→t∈D3k A2t l x)∧∃ t,t∈D3k A2t l x∧A2t x t=0:=by
 unfold D3k;rcases C5c x l [] hs with ⟨e,u,hu,h⟩ | ⟨R,e,hR,hm⟩
 ·rw [e];exact⟨hs,fun t ht=>.inr ht,fun t ht=>ht,u,hu,h⟩
 ·rw [e];simp only [List.nil_append,Option.getD_some];exact⟨hR,fun t ht=>(hm t).1 ht,fun t ht=>(hm t).2 (.inr ht),x,(hm x).2 (.inl rfl),B1p x⟩
theorem B7j:∀ (l:List CallT)(s:SetT),A7b s.calls→s.calls.length+l.length≤101→A7b (l.foldl C2o s).calls∧(∀ t,t∈(l.foldl C2o s).calls→t∈l∨t∈s.calls)∧(∀ t,t∈s.calls→t∈(l.foldl C2o s).calls)∧C0n l (l.foldl C2o s).calls
 | [],s,hs,_=>⟨hs,fun t ht=>.inr ht,fun t ht=>ht,fun c hc=>by simp at hc⟩
 | x::l,s,hs,hn=>by
  simp only [List.length_cons] at hn;obtain⟨h1,h2,h3,t0,ht0,e0⟩:=D6t s.calls x hs;have hp:(C2o s x).calls=D3k A2t s.calls x:=by unfold C2o;rw [if_neg (by omega)]
  have hlen:=(B1m (cmp:=A2t) (x:=x) s.calls).1;obtain⟨k1,k2,k3,k4⟩:=B7j l (C2o s x) (by rw [hp];exact h1) (by rw [hp];omega);rw [hp] at k2 k3;rw [List.foldl_cons];refine⟨k1,fun t ht=>?_,fun t ht=>k3 t (h3 t ht),fun c hc=>?_⟩
  ·rcases k2 t ht with h | h
   ·exact .inl (by simp [h])
   ·rcases h2 t h with rfl | h
    ·exact .inl (by simp)
    ·exact .inr h
  ·rcases List.mem_cons.1 hc with rfl | hc
   ·exact⟨t0,k3 t0 ht0,e0⟩
   ·exact k4 c hc
theorem E3f {p:Prog} {cs:List CallT} {x:Ty} (hn:cs.length≤100) {l':List CallT} (hp:l'.Perm (callsX p cs x))(hs:l'.Pairwise fun a b=>A2t a b≤0) :
  (A4i l').length=(A8b p cs x).calls.length∧(∀ (i:Nat) c d,(A4i l')[i]? = some c→(A8b p cs x).calls[i]? = some d→A2t c d=0)∧(∀ c,c∈A4i l'→c∈callsX p cs x)∧∀ c,c∈(A8b p cs x).calls→c∈callsX p cs x:=by
 obtain⟨a1,a2,a3,a4⟩:=C6a hs;have hl:=A9j p cs x;obtain⟨b1,b2,b3,b4⟩:=B7j (callsX p cs x) ⟨[],[],false⟩ (by simp [A7b]) (by simp only [List.length_nil];omega);have m2:∀ c,c∈(A8b p cs x).calls→c∈callsX p cs x:=fun c hc=>(b2 c hc).elim id fun h=>by simp at h
 obtain⟨e1,e2⟩:=C0w a1 b1 (fun c hc=>b4 c (hp.mem_iff.1 (a4 c hc))) (fun c hc=>a3 c (hp.mem_iff.2 (m2 c hc)));exact⟨e1,e2,fun c hc=>hp.mem_iff.1 (a4 c hc),m2⟩
theorem E9g (t:Ty):t.er.mg=t.mg:=by
 induction t using Ty.induct with
 | h t ih =>
 rw [Ty.mg_eq t.er,Ty.mg_eq t,F0a,F0y];have h1:(t.args.map Ty.er=[])↔t.args=[]:=by simp
 have h2:mgA (t.args.map Ty.er)=mgA t.args:=by
  unfold mgA;have:(t.args.map Ty.er).map Ty.mg=t.args.map Ty.mg:=by rw [List.map_map];exact List.map_congr_left fun u hu=>ih u hu
  simp only [this,h1]
 rw [h2];simp only [h1]
theorem E2a {t u:Ty} (h:t.er=u.er):t.mg=u.mg:=by rw [← E9g t,← E9g u,h]
theorem D8s {a b:CallT} (h:A2t a b=0):a.on.er=b.on.er∧a.name=b.name∧a.targs.map Ty.er=b.targs.map Ty.er:=by
 rw [A9x] at h;by_cases e1:A7c a.on b.on=0
 ·by_cases e2:A2r a.name b.name=0
  ·rw [if_neg (by simp [e1]),if_neg (by simp [e2])] at h;have:=(D7q _ _).1 h;rw [C2q,C2q] at this;refine⟨(D7q _ _).1 e1,A3m.1 e2,?_⟩;injection this
  ·rw [if_neg (by simp [e1]),if_pos e2] at h;exact absurd h e2
 ·rw [if_pos e1] at h;exact absurd h e1
theorem D1g {l m:List Ty} (h:l.map Ty.er=m.map Ty.er):mgA l=mgA m:=by
 have h1:l.map Ty.mg=m.map Ty.mg:=by
  have e:∀ k:List Ty,k.map Ty.mg=(k.map Ty.er).map Ty.mg:=fun k=>by rw [List.map_map];exact List.map_congr_left fun u _=>(E9g u).symm
  rw [e l,e m,h]
 have h2:l=[]↔m=[]:=by have:=congrArg List.length h;simp only [List.length_map] at this;rw [← List.length_eq_zero_iff,← List.length_eq_zero_iff,this]
 unfold mgA;simp only [h1,h2]
theorem E9i {t u:Ty} (h:t.er=u.er):plT t=plT u:=by unfold plT;rw [E2a h]
theorem C6j {p:Prog} {c d:CallT} (h1:c.on=d.on)(h2:c.name=d.name)(h3:c.targs.map Ty.er=d.targs.map Ty.er):A6g p c=A6g p d:=by
 have hl:c.targs.length=d.targs.length:=by have:=congrArg List.length h3;simpa using this
 have hs:∀ (v:List Str) (t:Ty),plT (t.subst v c.targs)=plT (t.subst v d.targs):=fun v t=>E9i (by rw [B6a,B6a,h3]);have hg:∀ s,B9m c s=B9m d s:=fun s=>by
  unfold B9m;rw [h2,mgM,mgM,D1g h3,hs]
  congr 1
  unfold A8w;refine List.ext_getElem? fun i=>?_;simp only [List.getElem?_mapIdx,List.getElem?_map,Option.map_map];cases s.params[i]? with
  | none=>rfl
  | some q=>simp only [Option.map_some,Function.comp,Param.subst,hs]
 unfold A6g G0c;rw [h1,h2,hl];simp only [hg]
end Go.Abs
