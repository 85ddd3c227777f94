/- Drawn regions: any order that the edges allow comes to what the text's order comes to. Own framework. -/
import Derived.Test.YtfjaahliphbklaaGreatDoorJAb4
set_option linter.unusedVariables false
set_option linter.unusedSimpArgs false
namespace Go.Abs
open Go
variable {ro:Option Nat} {P:Program} {n:Nat} {Q:Exit→SL→A0b→Prop} {sl:SL} {bx:A0b} {o:Oper} {ρ:Rho}
def D5g (k:Nat):A0b→Bool
 | []=>false
 | (j,c)::r=>j == k || c.has k || D5g k r
theorem B5r {k:Nat}:∀ {bx:A0b},D5g k bx=false→∀ j c,(j,c)∈bx→j≠k∧c.has k=false
 | [],_,j,c,h=>by simp at h
 | (i,x)::r,h,j,c,hm=>by
  simp only [D5g,Bool.or_eq_false_iff,beq_eq_false_iff_ne] at h;rcases List.mem_cons.1 hm with he | hm
  ·simp only [Prod.mk.injEq] at he;obtain⟨rfl,rfl⟩:=he;exact⟨h.1.1,h.1.2⟩
  ·exact B5r h.2 j c hm
def D5m (k:Nat):List Nat→Bool
 | []=>false
 | j::r=>k == j || D5m k r
theorem A8c {k:Nat}:∀ {l:List Nat},D5m k l=true↔k∈l
 | []=>by simp [D5m]
 | j::r=>by simp [D5m,A8c]
def bwo (ks:List Nat):A0b→A0b
 | []=>[]
 | (k,c)::r=>if D5m k ks=true then bwo ks r else (k,c)::bwo ks r
def bin (ks:List Nat):A0b→A0b
 | []=>[]
 | (k,c)::r=>if D5m k ks=true then (k,c)::bin ks r else bin ks r
theorem A3x {ks:List Nat} {k:Nat} {c:BoxC}:∀ {bx:A0b},(k,c)∈bwo ks bx↔k ∉ ks∧(k,c)∈bx
 | []=>by simp [bwo]
 | (j,x)::r=>by
  rw [bwo];by_cases h:D5m j ks=true
  ·have h1:=A8c.1 h;rw [if_pos h,A3x,List.mem_cons,Prod.mk.injEq];exact⟨fun⟨a,b⟩=>⟨a,.inr b⟩,fun⟨a,b⟩=>⟨a,b.resolve_left fun e=>a (e.1 ▸ h1)⟩⟩
  ·have h1:j ∉ ks:=fun hh=>h (A8c.2 hh);rw [if_neg h,List.mem_cons,A3x,List.mem_cons,Prod.mk.injEq];exact⟨fun e=>e.elim (fun e=>⟨e.1 ▸ h1,.inl e⟩) fun e=>⟨e.1,.inr e.2⟩,fun⟨a,b⟩=>b.imp id fun b=>⟨a,b⟩⟩
theorem A6d {ks:List Nat} {k:Nat} {c:BoxC}:∀ {bx:A0b},(k,c)∈bin ks bx↔k∈ks∧(k,c)∈bx
 | []=>by simp [bin]
 | (j,x)::r=>by
  rw [bin];by_cases h:D5m j ks=true
  ·have h1:=A8c.1 h;rw [if_pos h,List.mem_cons,A6d,List.mem_cons,Prod.mk.injEq];exact⟨fun e=>e.elim (fun e=>⟨e.1 ▸ h1,.inl e⟩) fun e=>⟨e.1,.inr e.2⟩,fun⟨a,b⟩=>b.imp id fun b=>⟨a,b⟩⟩
  ·have h1:j ∉ ks:=fun hh=>h (A8c.2 hh);rw [if_neg h,A6d,List.mem_cons,Prod.mk.injEq];exact⟨fun⟨a,b⟩=>⟨a,.inr b⟩,fun⟨a,b⟩=>⟨a,b.resolve_left fun e=>h1 (e.1 ▸ a)⟩⟩
theorem A9y:∀ bx:A0b,bwo [] bx=bx
 | []=>rfl
 | (k,c)::r=>by rw [bwo,D5m,if_neg (by decide),A9y r]
theorem B0f:∀ bx:A0b,bin [] bx=[]
 | []=>rfl
 | (k,c)::r=>by rw [bin,D5m,if_neg (by decide),B0f r]
def A4o:List Nat→SV→SV
 | [],x=>x
 | k::ks,x=>A4o ks (A4u k x)
theorem A1j:∀ (ks:List Nat)(sl:SL)(t:Nat),A0k (A1e ks sl) t=A4o ks (A0k sl t)
 | [],_,_=>rfl
 | k::ks,sl,t=>by rw [A1e,A1j ks,A5q];rfl
theorem A4d:∀ (ks:List Nat)(x:SV),(A4o ks x=x∧∀ q,q∈ks→x.has q=false)∨(A4o ks x=.undef∧∃ q,q∈ks∧x.has q=true)
 | [],x=>.inl ⟨rfl,by simp⟩
 | k::ks,x=>by
  rw [A4o];unfold A4u;by_cases h:x.has k=true
  ·rw [if_pos h];refine .inr ⟨?_,k,by simp,h⟩;rcases A4d ks .undef with h | h <;> exact h.1
  ·rw [if_neg h];rcases A4d ks x with ⟨h1,h2⟩ | ⟨h1,q,h2,h3⟩
   ·refine .inl ⟨h1,fun q hq=>?_⟩;rcases List.mem_cons.1 hq with rfl | hq
    ·simpa using h
    ·exact h2 q hq
   ·exact .inr ⟨h1,q,List.mem_cons_of_mem _ h2,h3⟩
theorem B7z {ks:List Nat} {x:SV} (h:∀ q,q∈ks→x.has q=false):A4o ks x=x:=by
 rcases A4d ks x with ⟨h1,_⟩ | ⟨_,q,h2,h3⟩
 ·exact h1
 ·rw [h q h2] at h3;cases h3
theorem B5h (ks:List Nat):A4o ks .undef=.undef:=B7z fun _ _=>rfl
theorem D5r {a b:List Nat} (h:∀ k,k∈b→k∈a)(x:SV):A4o a (A4o b x)=A4o a x:=by
 rcases A4d b x with ⟨h1,_⟩ | ⟨h1,q,h2,h3⟩
 ·rw [h1]
 ·rw [h1,B5h];rcases A4d a x with ⟨_,h4⟩ | ⟨h4,_⟩
  ·rw [h4 q (h q h2)] at h3;cases h3
  ·exact h4.symm
theorem D3m (a b:List Nat)(x:SV):A4o a (A4o b x)=A4o b (A4o a x):=by rcases A4d a x with ⟨h1,h2⟩ | ⟨h1,h2⟩ <;> rcases A4d b x with ⟨h3,h4⟩ | ⟨h3,h4⟩ <;> simp only [h1,h3,B5h]
theorem A4x (sl:SL)(d:Option Nat)(r:SV)(t:Nat):A0k (B1b sl d r) t=if d=some t then r else A0k sl t:=by
 cases d with
 | none=>simp [B1b]
 | some u=>simp [B1b,A0k]
theorem OpT.congr {ρ':Rho} {bx2 bx':A0b} {r:SV} {pg:List Nat} (h:OpT P o ρ bx r bx' pg)(hb:∀ k c,(k,c)∈bx→(k,c)∈bx2) (hρ:∀ x,x∈o.op.operands→ρ' x = ρ x):OpT P o ρ' bx2 r bx' pg :=
 fun C S w β a hi ha=>h C S w β a (hi.sub hb) fun x hx=>by rw [← hρ x hx];exact ha x hx
def F8r (β:A0y)(F:A0b)(b:Nat):Prop:=∃ k c,(k,c)∈F∧(β k).base=some b
theorem OpT.frameG {r:SV} {bx':A0b} {pg:List Nat} (h:OpT P o ρ bx r bx' pg)(F:A0b)(hF:∀ k c,(k,c)∈F→c.real=true∧k ∉ pg∧(∀ q,q∈pg→c.has q=false)∧(∀ x,(k,x) ∉ bx)∧∀ x,(k,x) ∉ bx')
  (hG:∀ k Y st,(k,BoxC.ghost Y st)∈bx'→(k,BoxC.ghost Y st)∈bx) {C:Ctx} {S:Nat→Prop} {w:World} {β:A0y} {a:Act} (hi:Inv C S w β (F++bx)) (ha:∀ x,x∈o.op.operands→RepV S w β (ρ x) (a.eval x)) :
  o.wpx P a w (fun a' w'=>∃ v S' β',a'=a.put o.dst v∧Inv C S' w' β' (F++bx')∧SExt S w S' w'∧RepV S' w' β' r v∧∀ k,k ∉ pg→β' k = β k):=by
 have hmem:∀ {j:Nat} {x:BoxC},(j,x)∈bx→(j,x)∈F++bx:=fun h=>List.mem_append.2 (.inr h);have hmF:∀ {j:Nat} {x:BoxC},(j,x)∈F→(j,x)∈F++bx:=fun h=>List.mem_append.2 (.inl h);have hne:∀ {j:Nat} {x:BoxC} {b:Nat},(j,x)∈bx→(β j).base=some b→¬ F8r β F b:=fun hj h1 ⟨k,c,hk,hb⟩=>by obtain⟨rfl,_⟩:=hi.inj _ _ _ _ (hmF hk) (hmem hj) _ hb h1;exact (hF _ _ hk).2.2.2.1 _ hj
 have hi':Inv ⟨w,S,fun b=>¬ S b∧(C.pre b∨C.w0.heap.size≤b)∧¬ F8r β F b,C.fixd,C.G⟩ S w β bx:={
  S0sub:=fun _ hb=>hb,Snew:=fun _ hb=>.inl hb,Slt:=hi.Slt,kept:=fun _ _ _=>rfl,os:=rfl,tape:=rfl,output:=rfl,size:=Nat.le_refl _,
  box:=fun j x hj=>hi.box j x (hmem hj)
  priv:=fun j x hj b hb=>⟨(hi.priv j x (hmem hj) b hb).1,(hi.priv j x (hmem hj) b hb).2.1,.inl ⟨(hi.priv j x (hmem hj) b hb).1,(hi.priv j x (hmem hj) b hb).2.2,hne hj hb⟩⟩
  inj:=fun j x j' x' hj hj'=>hi.inj j x j' x' (hmem hj) (hmem hj')
  tab:=hi.tab
  one:=fun j Y st j' Y' st' hj hj'=>hi.one j Y st j' Y' st' (hmem hj) (hmem hj')
  frn:=fun j Y st hj=>by obtain⟨h1,h2,h3,h4,B,h5,h6⟩:=hi.frn j Y st (hmem hj);exact⟨h1,h2,Nat.le_trans h3 hi.size,fun k' c' hk'=>h4 k' c' (hmem hk'),B,h5,fun b hb=>⟨(h6 b hb).1,(h6 b hb).2.1,.inl ⟨(h6 b hb).1,(h6 b hb).2.2.1,fun⟨k,c,hk,hb'⟩=>(h6 b hb).2.2.2 k c (hmF hk) hb'⟩,fun k' c' hk'=>(h6 b hb).2.2.2 k' c' (hmem hk')⟩⟩
  fix:=hi.fix }
 refine Oper.wpx_mono (h _ S w β a hi' ha) ?_;rintro a' w' ⟨v,S',β',rfl,hI,he,hv,hb⟩;have hsz:w.heap.size≤w'.heap.size:=hI.size;have hcsz:=hi.size;have hFb:∀ k c,(k,c)∈F→β' k = β k:=fun k c hk=>hb k (hF k c hk).2.1;have hFlt:∀ k c b,(k,c)∈F→(β k).base=some b→b < w.heap.size:=fun k c b hk hb'=>(hi.priv k c (hmF hk) b hb').2.1;have hsep:∀ k c k' c' b,(k,c)∈F→(k',c')∈bx'→(β k).base=some b→(β' k').base≠some b:=fun k c k' c' b hk hk' h1 h2=>by
  rcases (hI.priv k' c' hk' b h2).2.2 with h | h
  ·exact h.2.2 ⟨k,c,hk,h1⟩
  ·have:=hFlt k c b hk h1;simp only at h;omega
 have hcase:∀ {k c},(k,c)∈F++bx'→(k,c)∈F∨(k,c)∈bx':=fun hm=>List.mem_append.1 hm;have hgh:∀ k Y st,(k,BoxC.ghost Y st)∈F++bx'→(k,BoxC.ghost Y st)∈bx'∧(k,BoxC.ghost Y st)∈bx:=fun k Y st hm=>by
  rcases hcase hm with hm | hm
  ·have:=(hF _ _ hm).1;simp [BoxC.real] at this
  ·exact⟨hm,hG _ _ _ hm⟩
 refine⟨v,S',β',rfl,?_,he,hv,hb⟩;exact {
  S0sub:=fun b hb'=>hI.S0sub b (hi.S0sub b hb')
  Snew:=fun b hb'=>by
   rcases hI.Snew b hb' with h | h | h
   ·exact hi.Snew b h
   ·exact .inr h.2.1
   ·exact .inr (.inr (Nat.le_trans hi.size h))
  Slt:=hI.Slt
  kept:=fun b hb' hp=>by
   refine (hI.kept b (Nat.lt_of_lt_of_le hb' hi.size) ?_).trans (hi.kept b hb' hp);rintro⟨_,h | h,_⟩
   ·exact hp h
   ·omega
  os:=hI.os.trans hi.os
  tape:=hI.tape.trans hi.tape
  output:=hI.output.trans hi.output
  size:=Nat.le_trans hi.size hI.size
  box:=fun j x hj=>by
   rcases hcase hj with hj | hj
   ·rw [hFb j x hj];exact (hi.box j x (hmF hj)).ext he (fun b hb'=>hI.kept b (hFlt j x b hj hb') fun h=>h.2.2 ⟨j,x,hj,hb'⟩) (fun q hq=>hb q fun hp=>by rw [(hF j x hj).2.2.1 q hp] at hq;cases hq)
   ·exact hI.box j x hj
  priv:=fun j x hj b hb'=>by
   rcases hcase hj with hj | hj
   ·rw [hFb j x hj] at hb';obtain⟨g1,g2,g3⟩:=hi.priv j x (hmF hj) b hb';refine⟨fun hs=>?_,Nat.lt_of_lt_of_le g2 hI.size,g3⟩;rcases hI.Snew b hs with h | h | h
    ·exact g1 h
    ·exact h.2.2 ⟨j,x,hj,hb'⟩
    ·simp only at h;omega
   ·refine⟨(hI.priv j x hj b hb').1,(hI.priv j x hj b hb').2.1,?_⟩;rcases (hI.priv j x hj b hb').2.2 with h | h
    ·exact h.2.1
    ·exact .inr (Nat.le_trans hi.size h)
  inj:=fun j x j' x' hj hj' b h1 h2=>by
   rcases hcase hj with hj | hj
   ·rw [hFb j x hj] at h1;rcases hcase hj' with hj' | hj'
    ·rw [hFb j' x' hj'] at h2;exact hi.inj j x j' x' (hmF hj) (hmF hj') b h1 h2
    ·exact absurd h2 (hsep j x j' x' b hj hj' h1)
   ·rcases hcase hj' with hj' | hj'
    ·rw [hFb j' x' hj'] at h2;exact absurd h1 (hsep j' x' j x b hj' hj h2)
    ·exact hI.inj j x j' x' hj hj' b h1 h2
  tab:=hI.tab
  one:=fun j Y st j' Y' st' hj hj'=>hi.one j Y st j' Y' st' (hmem (hgh _ _ _ hj).2) (hmem (hgh _ _ _ hj').2)
  frn:=fun j Y st hj=>by
   obtain⟨hj1,hj0⟩:=hgh _ _ _ hj;obtain⟨h1,h2,_,h4,B,h5,h6⟩:=hI.frn j Y st hj1;obtain⟨_,_,f3,f4,_⟩:=hi.frn j Y st (hmem hj0);refine⟨h1,h2,f3,fun k' c' hk' b hb'=>?_,B,h5,fun b hb'=>⟨(h6 b hb').1,(h6 b hb').2.1,?_,fun k' c' hk' hbase=>?_⟩⟩
   ·rcases hcase hk' with hk' | hk'
    ·rw [hFb k' c' hk'] at hb';exact f4 k' c' (hmF hk') b hb'
    ·exact h4 k' c' hk' b hb'
   ·rcases (h6 b hb').2.2.1 with h | h
    ·exact h.2.1
    ·exact .inr (Nat.le_trans hi.size h)
   ·rcases hcase hk' with hk' | hk'
    ·rw [hFb k' c' hk'] at hbase;rcases (h6 b hb').2.2.1 with h | h
     ·exact h.2.2 ⟨k',c',hk',hbase⟩
     ·have:=hFlt k' c' b hk' hbase;simp only at h;omega
    ·exact (h6 b hb').2.2.2 k' c' hk' hbase
  fix:=hI.fix }
structure GInfo where
 m:List Nat
 p:List Nat
 h:List Nat
 q:List Nat
abbrev GI:=Option GInfo
def GI.h:GI→List Nat
 | some z=>z.h
 | none=>[]
def GI.q:GI→List Nat
 | some z=>z.q
 | none=>[]
structure GCond (z:GInfo)(bx:A0b)(r:SV)(bx':A0b)(pg:List Nat):Prop where
 dis:∀ k,k∈z.m→k ∉ z.h
 pgs:∀ k,k∈pg→k∈z.p
 pm:∀ k,k∈z.p→k∈z.m
 rest:∀ k c,k ∉ z.m→((k,c)∈bx'↔k ∉ z.h∧(k,c)∈bx)
 old:∀ k c,k∈z.m→(k,c)∈bx→c.real=true∧∀ q,q∈z.q→c.has q=false
 new:∀ k c,k∈z.m→(k,c)∈bx'→c.real=true∧∀ q,q∈z.q→c.has q=false
 res:∀ q,q∈z.q→r.has q=false
 hid:∀ k c,k∈z.h→(k,c)∈bx→c.real=true∧∀ q,q∈pg→c.has q=false
structure GOp (P:Program)(o:Oper)(i:GI)(g:Bool)(sl:SL)(bx:A0b)(r:SV)(bx':A0b)(pg:List Nat):Prop where
 yes:g=true→OpT P o (opnd (A1e i.q sl)) (bwo i.h bx) r bx' pg
 no:g=false→r=.tuple []∧pg=[]∧∀ k c,(k,c)∈bx'↔(k,c)∈bwo i.h bx
 cond:∀ z,i=some z→GCond z bx r bx' pg
def C4p (P:Program)(n:Nat)(ops:Array Oper):List (Oper × GI)→SL→A0b→(SL→A0b→Prop)→Prop
 | [],sl,bx,K=>K sl bx
 | x::os,sl,bx,K=>∃ g r bx' pg,A7t ops sl x.1=some g∧C4m n x.1.dst∧GOp P x.1 x.2 g sl bx r bx' pg∧C4p P n ops os (B1b (A1e pg sl) x.1.dst r) (bx'++bin x.2.h bx) K
def Eqv (sl:SL)(bx:A0b)(sl':SL)(bx':A0b):Prop:=(∀ t,A0k sl t=A0k sl' t)∧∀ k c,(k,c)∈bx↔(k,c)∈bx'
def KE (K:SL→A0b→Prop):SL→A0b→Prop:=fun sl bx=>∃ sl' bx',K sl' bx'∧Eqv sl bx sl' bx'
theorem E9k {sl sl':SL} {x:Operand} (h:∀ t,x=.tmp t→A0k sl t=A0k sl' t):opnd sl x=opnd sl' x:=by
 cases x with
 | tmp t=>exact h t rfl
 | _=>rfl
theorem C4p.congr {ops:Array Oper} {K:SL→A0b→Prop}:∀ (os:List (Oper × GI)) {sl sl':SL} {bx bx':A0b},Eqv sl bx sl' bx'→C4p P n ops os sl bx (KE K)→C4p P n ops os sl' bx' (KE K)
 | [],sl,sl',bx,bx',e,⟨s,b,h,h1,h2⟩=>⟨s,b,h,fun t=>(e.1 t).symm.trans (h1 t),fun k c=>(e.2 k c).symm.trans (h2 k c)⟩
 | x::os,sl,sl',bx,bx',e,⟨g,r,b,pg,h1,h2,h3,h4⟩=>by
  refine⟨g,r,b,pg,(D5f fun _ _ t _ _=>(e.1 t).symm).trans h1,h2,⟨fun hg=>(h3.yes hg).congr (fun k c hk=>A3x.2 ⟨(A3x.1 hk).1,(e.2 k c).1 (A3x.1 hk).2⟩) fun y _=>E9k fun t _=>by rw [A1j,A1j,e.1],
   fun hg=>⟨(h3.no hg).1,(h3.no hg).2.1,fun k c=>((h3.no hg).2.2 k c).trans (by rw [A3x,A3x,e.2])⟩,fun z hz=>?_⟩,C4p.congr os ⟨fun t=>by rw [A4x,A4x,A1j,A1j,e.1],fun k c=>by rw [List.mem_append,List.mem_append,A6d,A6d,e.2]⟩ h4⟩
  have c:=h3.cond z hz;exact⟨c.dis,c.pgs,c.pm,fun k x hk=>(c.rest k x hk).trans (by rw [e.2]),fun k x hk hx=>c.old k x hk ((e.2 k x).2 hx),c.new,c.res,fun k x hk hx=>c.hid k x hk ((e.2 k x).2 hx)⟩
structure Apart (z1 z2:GInfo):Prop where
 m:∀ k,k∈z1.m→k∈z2.h
 p:∀ k,k∈z1.p→k∈z2.q
structure Un (ops:Array Oper)(x y:Oper × GI):Prop where
 u1:∀ t,x.1.dst=some t→t ∉ C6k ops y.1
 u2:∀ t,y.1.dst=some t→t ∉ C6k ops x.1
 d:∀ t,x.1.dst=some t→y.1.dst≠some t
 i:∃ z1 z2,x.2=some z1∧y.2=some z2∧Apart z1 z2∧Apart z2 z1
theorem GCond.out {z:GInfo} {r:SV} {bx':A0b} {pg:List Nat} (c:GCond z bx r bx' pg) {k:Nat} {x:BoxC} (hk:k ∉ z.m):(k,x)∈bx'++bin z.h bx↔(k,x)∈bx:=by rw [List.mem_append,c.rest k x hk,A6d];by_cases hh:k∈z.h <;> simp [hh]
theorem GCond.move {z1 z2:GInfo} {r1 r2:SV} {bx1 bx2:A0b} {pg1 pg2:List Nat} (c1:GCond z1 bx r1 bx1 pg1)(e1:Apart z1 z2)(e2:Apart z2 z1) :
  GCond z2 (bx1++bin z1.h bx) r2 bx2 pg2↔GCond z2 bx r2 bx2 pg2:=by
 constructor
 ·intro c;have d:∀ k,k∈z2.m→k ∉ z1.m:=fun k hk hk1=>c.dis k hk (e1.m k hk1);refine⟨c.dis,c.pgs,c.pm,fun k x hk=>(c.rest k x hk).trans (and_congr_right fun hh=>c1.out fun hk1=>hh (e1.m k hk1)),fun k x hk hx=>c.old k x hk ((c1.out (d k hk)).2 hx),c.new,c.res,fun k x hk hx=>?_⟩;by_cases hk1:k∈z1.m
  ·exact⟨(c1.old k x hk1 hx).1,fun q hq=>(c1.old k x hk1 hx).2 q (e2.p q (c.pgs q hq))⟩
  ·exact c.hid k x hk ((c1.out hk1).2 hx)
 ·intro c;have d:∀ k,k∈z2.m→k ∉ z1.m:=fun k hk hk1=>c.dis k hk (e1.m k hk1);refine⟨c.dis,c.pgs,c.pm,fun k x hk=>(c.rest k x hk).trans (and_congr_right fun hh=>(c1.out fun hk1=>hh (e1.m k hk1)).symm),fun k x hk hx=>c.old k x hk ((c1.out (d k hk)).1 hx),c.new,c.res,fun k x hk hx=>?_⟩;by_cases hk1:k∈z1.m
  ·have hx1:(k,x)∈bx1:=by
    rcases List.mem_append.1 hx with h | h
    ·exact h
    ·exact absurd (A6d.1 h).1 (c1.dis k hk1)
   exact⟨(c1.new k x hk1 hx1).1,fun q hq=>(c1.new k x hk1 hx1).2 q (e2.p q (c.pgs q hq))⟩
  ·exact c.hid k x hk ((c1.out hk1).1 hx)
theorem E3n {pg h:List Nat} (e:∀ k,k∈pg→k∈h) {d:Option Nat} {r:SV} {t:Nat} (ht:d≠some t)(sl:SL):A0k (A1e h (B1b (A1e pg sl) d r)) t=A0k (A1e h sl) t:=by rw [A1j,A4x,if_neg ht,A1j,A1j,D5r e]
theorem GOp.move {g:Bool} {z1 z2:GInfo} {r1 r2:SV} {bx1 bx2:A0b} {pg1 pg2:List Nat} {d1:Option Nat} {ops:Array Oper} (c1:GCond z1 bx r1 bx1 pg1)(e1:Apart z1 z2)(e2:Apart z2 z1)(hu:∀ t,d1=some t→t ∉ C6k ops o) :
  GOp P o (some z2) g (B1b (A1e pg1 sl) d1 r1) (bx1++bin z1.h bx) r2 bx2 pg2↔GOp P o (some z2) g sl bx r2 bx2 pg2:=by
 have hs:∀ x,x∈o.op.operands→opnd (A1e z2.q (B1b (A1e pg1 sl) d1 r1)) x=opnd (A1e z2.q sl) x:=fun x hx=>E9k fun t ht=>E3n (fun k hk=>e1.p k (c1.pgs k hk)) (fun hd=>hu t hd (C4s (ht ▸ hx))) sl;have hb:∀ k c,(k,c)∈bwo z2.h (bx1++bin z1.h bx)↔(k,c)∈bwo z2.h bx:=fun k c=>by rw [A3x,A3x];exact and_congr_right fun hh=>c1.out fun hk1=>hh (e1.m k hk1)
 exact⟨fun h=>⟨fun hg=>(h.yes hg).congr (fun k c hk=>(hb k c).1 hk) fun x hx=>(hs x hx).symm,fun hg=>⟨(h.no hg).1,(h.no hg).2.1,fun k c=>((h.no hg).2.2 k c).trans (hb k c)⟩,fun z hz=>by cases hz;exact (c1.move e1 e2).1 (h.cond _ rfl)⟩,
  fun h=>⟨fun hg=>(h.yes hg).congr (fun k c hk=>(hb k c).2 hk) fun x hx=>hs x hx,fun hg=>⟨(h.no hg).1,(h.no hg).2.1,fun k c=>((h.no hg).2.2 k c).trans (hb k c).symm⟩,fun z hz=>by cases hz;exact (c1.move e1 e2).2 (h.cond _ rfl)⟩⟩
theorem B8u {ops:Array Oper} {s s':SL} {pg:List Nat} (h:∀ t,t∈C6k ops o→A0k s' t=A4o pg (A0k s t)):A7t ops s' o=A7t ops s o:=by
 unfold A7t;cases hg:o.guard with
 | none=>rfl
 | some jw =>
  obtain⟨j,want⟩:=jw;simp only;cases hj:B0j ops j with
  | none=>rfl
  | some t =>
   simp only [h t (B7p hg hj)];rcases A4d pg (A0k s t) with ⟨e,_⟩ | ⟨e,q,_,hq⟩
   ·rw [e]
   ·rw [e];generalize A0k s t=x at hq;cases x with
    | d x=>simp [SV.has] at hq
    | tuple xs=>cases xs with
     | nil=>simp [SV.has,SV.hasAny] at hq
     | cons=>rfl
    | _=>rfl
theorem C4p.swap {ops:Array Oper} {K:SL→A0b→Prop} {x y:Oper × GI} {R:List (Oper × GI)} (u:Un ops x y)(h:C4p P n ops (x::y::R) sl bx (KE K)):C4p P n ops (y::x::R) sl bx (KE K):=by
 obtain⟨g1,r1,bx1,pg1,a1,a2,a3,g2,r2,bx2,pg2,b1,b2,b3,hR⟩:=h;obtain⟨z1,z2,i1,i2,e1,e2⟩:=u.i;obtain⟨o1,i⟩:=x;obtain⟨o2,j⟩:=y;simp only at i1 i2;subst i1;subst i2;have c1:=a3.cond _ rfl;have b3':=(GOp.move c1 e1 e2 u.u1).1 b3;have c2:=b3'.cond _ rfl;have a3':=(GOp.move (pg1:=pg2) (d1:=o2.dst) c2 e2 e1 u.u2).2 a3;refine⟨g2,r2,bx2,pg2,(B8u (pg:=pg1) fun t ht=>?_).symm.trans b1,b2,b3',g1,r1,bx1,pg1,(B8u (pg:=pg2) fun t ht=>?_).trans a1,a2,a3',C4p.congr R ⟨fun t=>?_,fun k c=>?_⟩ hR⟩
 ·rw [A4x,if_neg fun hd=>u.u1 t hd ht,A1j]
 ·rw [A4x,if_neg fun hd=>u.u2 t hd ht,A1j]
 ·rw [A4x,A1j,A4x,A1j,A4x,A1j,A4x,A1j];by_cases h2t:o2.dst=some t
  ·rw [if_pos h2t,if_pos h2t,if_neg fun h1t=>u.d t h1t h2t,B7z fun q hq=>c2.res q (e1.p q (c1.pgs q hq))]
  ·rw [if_neg h2t,if_neg h2t];by_cases h1t:o1.dst=some t
   ·rw [if_pos h1t,if_pos h1t,B7z fun q hq=>c1.res q (e2.p q (c2.pgs q hq))]
   ·rw [if_neg h1t,if_neg h1t,D3m]
 ·show (k,c)∈bx2++bin z2.h (bx1++bin z1.h bx)↔(k,c)∈bx1++bin z1.h (bx2++bin z2.h bx);by_cases k1:k∈z1.m
  ·have n1:=c1.dis k k1;have k2:=e1.m k k1;have n2:k ∉ z2.m:=fun hh=>n1 (e2.m k hh);have:=c2.rest k c n2;simp [A6d,k2,n1,this]
  ·by_cases k2:k∈z2.m
   ·have n2:=c2.dis k k2;have:=c1.rest k c k1;simp [A6d,e2.m k k2,n2,this]
   ·have q1:=c1.rest k c k1;have q2:=c2.rest k c k2;simp only [List.mem_append,A6d,q1,q2];by_cases h1k:k∈z1.h <;> by_cases h2k:k∈z2.h <;> simp [h1k,h2k]
theorem C4p.front {ops:Array Oper} {K:SL→A0b→Prop}:∀ (R1:List (Oper × GI)) {R2:List (Oper × GI)} {y:Oper × GI} {sl:SL} {bx:A0b},(∀ x,x∈R1→Un ops x y)→C4p P n ops (R1++y::R2) sl bx (KE K)→C4p P n ops (y::(R1++R2)) sl bx (KE K)
 | [],R2,y,sl,bx,_,h=>h
 | x::R1,R2,y,sl,bx,hu,⟨g,r,b,pg,a1,a2,a3,h⟩=>C4p.swap (hu x (by simp)) ⟨g,r,b,pg,a1,a2,a3,C4p.front R1 (fun z hz=>hu z (by simp [hz])) h⟩
theorem St.sub {C:Ctx} {S:Nat→Prop} {w:World} {β:A0y} {a:Act} {bx':A0b} (h:St C n S w β a sl bx)(hs:∀ k c,(k,c)∈bx'→(k,c)∈bx):St C n S w β a sl bx':=⟨h.inv.sub hs,h.size,h.defers,h.slot⟩
theorem GOp.exec {C:Ctx} {S:Nat→Prop} {w:World} {β:A0y} {a:Act} {i:GI} {r:SV} {bx':A0b} {pg:List Nat} (h:GOp P o i true sl bx r bx' pg)(hs:St C n S w β a sl bx)(hd:C4m n o.dst) :
  o.wpx P a w fun a' w'=>∃ S' β',St C n S' w' β' a' (B1b (A1e pg sl) o.dst r) (bx'++bin i.h bx):=by
 have ho:=h.yes rfl;have ha:∀ x,x∈o.op.operands→RepV S w β (opnd (A1e i.q sl) x) (a.eval x):=fun x _=>by
  have:=hs.opnd x;cases x with
  | tmp t =>
   show RepV S w β (A0k (A1e i.q sl) t) _;rw [A1j];rcases A4d i.q (A0k sl t) with ⟨e,_⟩ | ⟨e,_⟩ <;> rw [e]
   ·exact this
   ·exact .undef _
  | _=>exact this
 cases i with
 | none =>refine Oper.wpx_mono (ho C S w β a (hs.inv.sub fun k c hk=>(A3x.1 hk).2) ha) ?_;rintro a' w' ⟨v,S',β',rfl,hi',he,hv,hb⟩;exact⟨S',β',(hs.put hd hi' he hv hb).sub fun k c hk=>by simpa [GI.h,B0f] using hk⟩
 | some z =>
  have c:=h.cond z rfl;refine Oper.wpx_mono (ho.frameG (bin z.h bx) (fun k x hk=>?_) (fun k Y st hk=>?_) (hs.inv.sub fun k x hk=>?_) ha) ?_
  ·obtain⟨k1,k2⟩:=A6d.1 hk;have km:k ∉ z.m:=fun hm=>c.dis k hm k1;exact⟨(c.hid k x k1 k2).1,fun hp=>km (c.pm k (c.pgs k hp)),(c.hid k x k1 k2).2,fun y hy=>(A3x.1 hy).1 k1,fun y hy=>((c.rest k y km).1 hy).1 k1⟩
  ·by_cases hm:k∈z.m
   ·have:=(c.new k _ hm hk).1;simp [BoxC.real] at this
   ·exact A3x.2 ((c.rest k _ hm).1 hk)
  ·rcases List.mem_append.1 hk with hk | hk
   ·exact (A6d.1 hk).2
   ·exact (A3x.1 hk).2
  rintro a' w' ⟨v,S',β',rfl,hi',he,hv,hb⟩;exact⟨S',β',(hs.put hd hi' he hv hb).sub fun k c hk=>List.mem_append.2 (List.mem_append.1 hk).symm⟩
def gUn (ops:Array Oper)(x y:Oper × GI):Bool:=match x.2,y.2 with
 | some z1,some z2=>(match x.1.dst with | some t=>!(C6k ops y.1).contains t && y.1.dst != some t | none=>true) && (match y.1.dst with | some t=>!(C6k ops x.1).contains t | none=>true) && z1.m.all (fun k=>z2.h.contains k) && z2.m.all (fun k=>z1.h.contains k) && z1.p.all (fun k=>z2.q.contains k) && z2.p.all (fun k=>z1.q.contains k)
 | _,_=>false
theorem F7d {ops:Array Oper} {x y:Oper × GI} (h:gUn ops x y=true):Un ops x y:=by
 unfold gUn at h;split at h
 ·rename_i z1 z2 q1 q2;simp only [Bool.and_eq_true,List.all_eq_true,List.contains_iff_mem] at h;obtain⟨⟨⟨⟨⟨g1,g2⟩,g3⟩,g4⟩,g5⟩,g6⟩:=h;refine⟨fun t ht=>?_,fun t ht=>?_,fun t ht=>?_,z1,z2,q1,q2,⟨g3,g5⟩,⟨g4,g6⟩⟩
  ·rw [ht] at g1;simp at g1;exact g1.1
  ·rw [ht] at g2;simpa using g2
  ·rw [ht] at g1;simp at g1;exact g1.2
 ·cases h
def gAt (ops:Array Oper)(is:Nat→GI)(j:Nat):Oper × GI:=(ops.getD j default,is j)
def gOK (ops:Array Oper)(is:Nat→GI)(B:Array Nat):Bool :=
 ((List.range ops.size).all fun i=>(ops.getD i default).after.toList.all fun e=>!Region.binds .any e || decide (e.on < i)) &&
 ((List.range ops.size).all fun i=>(List.range ops.size).all fun j=>!(B.getD i 0).testBit j || ((ops.getD i default).after.toList.any fun e=>Region.binds .any e && (e.on == j || (B.getD e.on 0).testBit j))) &&
 ((List.range ops.size).all fun i=>(List.range i).all fun j=>(B.getD i 0).testBit j || gUn ops (gAt ops is j) (gAt ops is i))
structure GOK (ops:Array Oper)(is:Nat→GI):Prop where
 back:∀ (i:Nat) (o:Oper),ops[i]? = some o→∀ e,e∈o.after→Region.binds .any e=true→e.on < i
 un:∀ (X:Nat→Prop),(∀ (i:Nat) (o:Oper),ops[i]? = some o→X i→∀ e,e∈o.after→Region.binds .any e=true→X e.on) →
  ∀ (i:Nat) (o:Oper),ops[i]? = some o→(∀ e,e∈o.after→Region.binds .any e=true→X e.on)→∀ j,j < i→¬ X j→Un ops (gAt ops is j) (gAt ops is i)
theorem F5p {ops:Array Oper} {is:Nat→GI} {B:Array Nat} (h:gOK ops is B=true):GOK ops is:=by
 unfold gOK at h;simp only [Bool.and_eq_true,List.all_eq_true,List.mem_range,Bool.or_eq_true,Bool.not_eq_true',Array.mem_toList_iff,decide_eq_true_eq] at h;obtain⟨⟨h2,h5⟩,h6⟩:=h;have hget:∀ {i:Nat} {o:Oper},ops[i]? = some o→i < ops.size∧ops.getD i default=o:=by intro i o ho;obtain⟨hlt,he⟩:=Array.getElem?_eq_some_iff.1 ho;exact⟨hlt,by simp [Array.getD,hlt,he]⟩
 have hback:∀ (i:Nat) (o:Oper),ops[i]? = some o→∀ e,e∈o.after→Region.binds .any e=true→e.on < i:=by
  intro i o ho e he hb;obtain⟨hlt,hgo⟩:=hget ho;rcases h2 i hlt e (by rw [hgo];exact he) with h | h
  ·rw [hb] at h;simp at h
  ·exact h
 refine⟨hback,?_⟩;intro X hX i o ho hpre j hj hnX;have key:∀ (k i:Nat) (o:Oper),i≤k→ops[i]? = some o→(∀ e,e∈o.after→Region.binds .any e=true→X e.on)→∀ j,j < ops.size→(B.getD i 0).testBit j=true→X j:=by
  intro k
  induction k with
  | zero =>intro i o hik ho hpre j hj hb;obtain⟨hlt,hgo⟩:=hget ho;have:=(h5 i hlt j hj).resolve_left (by rw [hb];simp);rw [List.any_eq_true] at this;obtain⟨e,he,hbe⟩:=this;rw [hgo] at he;simp only [Bool.and_eq_true,Bool.or_eq_true,beq_iff_eq] at hbe;have:=hback i o ho e (by simpa using he) hbe.1;omega
  | succ k ih =>
   intro i o hik ho hpre j hj hb;obtain⟨hlt,hgo⟩:=hget ho;have:=(h5 i hlt j hj).resolve_left (by rw [hb];simp);rw [List.any_eq_true] at this;obtain⟨e,he,hbe⟩:=this;rw [hgo] at he;simp only [Bool.and_eq_true,Bool.or_eq_true,beq_iff_eq] at hbe;have hxe:=hpre e (by simpa using he) hbe.1;rcases hbe.2 with h | h
   ·rw [← h];exact hxe
   ·have hlt':=hback i o ho e (by simpa using he) hbe.1;have heo:ops[e.on]? = some ops[e.on]:=Array.getElem?_eq_getElem (by omega);exact ih e.on ops[e.on] (by omega) heo (fun e' he' hb'=>hX e.on _ heo hxe e' he' hb') j hj h
 obtain⟨hlt,hgo⟩:=hget ho;rcases h6 i hlt j hj with h | h
 ·exact absurd (key i i o (Nat.le_refl _) ho hpre j (by omega) h) hnX
 ·exact F7d h
theorem F4v {C:Ctx} {ops:Array Oper} {is:Nat→GI} {QQ:Exit→Act→World→Prop} {K:SL→A0b→Prop} (hd:GOK ops is)(hdst:∀ o,o∈ops.toList→C4m n o.dst)(hnd:∀ o,o∈ops.toList→A8a o=true)
  (hK:∀ sl bx S w β a,K sl bx→St C n S w β a sl bx→QQ .normal a w) :
  ∀ (fuel:Nat) (listed:Array Bool) (a:Act) (w:World),listed.size=ops.size→left ops.size listed≤fuel →
   (∀ (i:Nat) (o:Oper),ops[i]? = some o→listed.getD i false=true→∀ e,e∈o.after→Region.binds .any e=true→listed.getD e.on false=true) →
   (∃ (L:List Nat) (sl:SL) (bx:A0b) (S:Nat→Prop) (β:A0y),L.Pairwise (· < ·)∧(∀ j,j∈L↔j < ops.size∧listed.getD j false=false)∧C4p P n ops (L.map (gAt ops is)) sl bx (KE K)∧St C n S w β a sl bx) →
   wpAnyIn (FW ro) 0 P .any ops QQ fuel listed a w:=by
 have hfin:∀ (listed:Array Bool) (a:Act) (w:World),(∀ i,i < ops.size→listed.getD i false=true) →
   (∃ (L:List Nat) (sl:SL) (bx:A0b) (S:Nat→Prop) (β:A0y),L.Pairwise (· < ·)∧(∀ j,j∈L↔j < ops.size∧listed.getD j false=false)∧C4p P n ops (L.map (gAt ops is)) sl bx (KE K)∧St C n S w β a sl bx)→QQ .normal a w:=by
  rintro listed a w hall ⟨L,sl,bx,S,β,_,hL,hR,hs⟩;have:L=[]:=List.eq_nil_iff_forall_not_mem.2 fun j hj=>by obtain⟨h1,h2⟩:=(hL j).1 hj;rw [hall j h1] at h2;cases h2
  subst this;obtain⟨sl',bx',h1,h2,h3⟩:=hR;exact hK sl' bx' S w β a h1 ⟨hs.inv.sub fun k c hk=>(h3 k c).2 hk,hs.size,hs.defers,fun t=>h2 t ▸ hs.slot t⟩
 have hall_of_ready:∀ listed:Array Bool,listed.size=ops.size→Region.ready .any ops listed=[]→∀ i,i < ops.size→listed.getD i false=true:=by
  intro listed hs hr i
  induction i using Nat.strongRecOn with
  | _ i ih =>
   intro hi;cases hl:listed.getD i false with
   | true=>rfl
   | false =>
    exfalso;have:i∈Region.ready .any ops listed:=by
     rw [mem_ready];refine⟨?_,ops[i],Array.getElem?_eq_getElem hi,fun e he hb=>?_⟩
     ·have hi':i < listed.size:=by omega
      simp [Array.getD,hi'] at hl ⊢;exact hl
     ·have hlt:=hd.back i _ (Array.getElem?_eq_getElem hi) e he hb;exact ih e.on hlt (by omega)
    rw [hr] at this;simp at this
 intro fuel
 induction fuel with
 | zero =>
  intro listed a w hs hleft hdown hinv;have hall:∀ i,i < ops.size→listed.getD i false=true:=by
   intro i hi;cases hl:listed.getD i false with
   | true=>rfl
   | false =>
    exfalso;have:0 < left ops.size listed:=by unfold left;rw [List.countP_pos_iff];exact⟨i,List.mem_range.2 hi,by simp [hl]⟩
    omega
  have hready:Region.ready .any ops listed=[]:=by
   rw [List.eq_nil_iff_forall_not_mem];intro i hi;rw [mem_ready] at hi;obtain⟨h1,o,ho,_⟩:=hi;have hlt:=(Array.getElem?_eq_some_iff.1 ho).1;have:=hall i hlt;have hi':i < listed.size:=by omega
   simp [Array.getD,hi'] at this h1;rw [this] at h1;simp at h1
  exact⟨hready,hfin listed a w hall hinv⟩
 | succ fuel ih =>
  intro listed a w hs hleft hdown hinv;refine⟨fun hready=>hfin listed a w (hall_of_ready listed hs hready) hinv,?_⟩;intro i hi;rw [mem_ready] at hi;obtain⟨hnot,o,ho,hpre⟩:=hi;have hilt:i < ops.size:=(Array.getElem?_eq_some_iff.1 ho).1;have hil:i < listed.size:=by omega
  have hnot':listed.getD i false=false:=by simp [Array.getD,hil] at hnot ⊢;exact hnot
  have hleft':left ops.size (listed.setIfInBounds i true)≤fuel:=by have:=F3u hs hilt hnot';omega
  have hX':∀ j,(listed.setIfInBounds i true).getD j false=true↔(j=i∨listed.getD j false=true):=by
   intro j;by_cases hj:i=j
   ·subst hj;simp [hil]
   ·rw [getD_set_ne false hj];simp [Ne.symm hj]
  have hdown':∀ (k:Nat) (o':Oper),ops[k]? = some o'→(listed.setIfInBounds i true).getD k false=true→∀ e,e∈o'.after→Region.binds .any e=true→(listed.setIfInBounds i true).getD e.on false=true:=by
   intro k o' ho' hk e he hb;rw [hX'] at hk ⊢;rcases hk with rfl | hk
   ·rw [ho] at ho';simp only [Option.some.injEq] at ho';subst ho';exact .inr (hpre e he hb)
   ·exact .inr (hdown k o' ho' hk e he hb)
  have hmemo:o∈ops.toList:=by have:=Array.mem_of_getElem? ho;simpa using this
  have hgo:ops.getD i default=o:=by simp [Array.getD,hilt,(Array.getElem?_eq_some_iff.1 ho).2]
  simp only [wpOpIn,ho];obtain⟨L,sl,bx,S,β,hp,hL,hR,hst⟩:=hinv;obtain⟨R1,R2,rfl⟩:=List.append_of_mem ((hL i).2 ⟨hilt,hnot'⟩);rw [List.map_append,List.map_cons] at hR;have hp2:=List.pairwise_append.1 hp;have hp3:=List.pairwise_cons.1 hp2.2.1;obtain⟨g,r,bx',pg,a1,a2,a3,hrun⟩:=C4p.front _ (fun x hx=>by obtain⟨j,hj,rfl⟩:=List.mem_map.1 hx;exact hd.un (fun j=>listed.getD j false=true) hdown i o ho hpre j (hp2.2.2 j hj i (by simp)) (by rw [((hL j).1 (by simp [hj])).2];simp)) hR
  rw [show (gAt ops is i).1=o from hgo] at a1 a2 a3 hrun;rw [← List.map_append] at hrun;have hnext:∀ (S':Nat→Prop) (β':A0y) (a':Act) (w':World),St C n S' w' β' a' (B1b (A1e pg sl) o.dst r) (bx'++bin (gAt ops is i).2.h bx)→wpAnyIn (FW ro) 0 P .any ops QQ fuel (listed.setIfInBounds i true) a' w':=fun S' β' a' w' hs' =>
   ih _ _ _ (by simpa using hs) hleft' hdown' ⟨R1++R2,_,_,S',β',hp.sublist ((List.Sublist.refl R1).append (List.sublist_cons_self i R2)),fun j=>by
    have hji:j∈R1++R2→j≠i:=fun hj he=>by
     subst he;rcases List.mem_append.1 hj with h | h
     ·exact absurd (hp2.2.2 j h j (by simp)) (Nat.lt_irrefl _)
     ·exact absurd (hp3.1 j h) (Nat.lt_irrefl _)
    have h1:j∈R1++i::R2↔j=i∨j∈R1++R2:=by simp only [List.mem_append,List.mem_cons];constructor <;> intro h <;> rcases h with h | h | h <;> simp [h]
    have h2:=hL j;rw [h1] at h2;rw [← Bool.not_eq_true,hX',not_or,Bool.not_eq_true];constructor
    ·exact fun hj=>⟨(h2.1 (.inr hj)).1,hji hj,(h2.1 (.inr hj)).2⟩
    ·exact fun hj=>(h2.2 ⟨hj.1,hj.2.2⟩).resolve_left hj.2.1,hrun,hs'⟩
  have hw:=B5e (a:=a) (S:=S) (w:=w) (β:=β) (fun t ht=>by obtain⟨j,want,_,hj⟩:=ht;exact⟨hst.slot t,by rw [hst.size];exact A4y hdst hj⟩) a1
  rw [hw];cases g with
  | true =>simp only [if_true];refine Oper.wpIn_ofQ (hnd o hmemo) (a3.exec hst a2) ?_;rintro a' w' ⟨S',β',hs'⟩;exact hnext S' β' a' w' hs'
  | false =>
   simp only [Bool.false_eq_true,if_false];obtain⟨rfl,rfl,hb⟩:=a3.no rfl;refine⟨fun _ _=>trivial,hnext S β _ _ ?_⟩;refine (hst.put (pg:=[]) a2 hst.inv (SExt.refl S w) (.tuple [] [] rfl (by simp)) (fun _ _=>rfl)).sub fun k c hk=>?_;rcases List.mem_append.1 hk with hk | hk
   ·exact (A3x.1 ((hb k c).1 hk)).2
   ·exact (A6d.1 hk).2
theorem AWp.regionG {id:Nat} {ops:Array Oper} (is:Nat→GI)(B:Array Nat)(ks:List Nat)(hm:P.follows .mixedOrders=true)(hc:gOK ops is B=true)(hd:A1r n ops.toList=true)
  (h:C4p P n ops ((List.range ops.size).map (gAt ops is)) sl bx (KE fun sl' bx'=>Q .normal (B1z ks sl') (A8i ks bx'))):AWp ro P n (.region id ops true) Q sl bx:=by
 intro C S w β a hs;refine wpIn_region_any hm ?_;refine F4v (P:=P) (F5p hc) (A3w hd) (B2d hd) (fun sl' bx' S' w' β' a' hK hs'=>⟨_,_,S',β',hK,hs'.keep ks ks⟩) ops.size _ a _ (by simp) ?_ ?_ ⟨List.range ops.size,sl,bx,S,β,List.pairwise_lt_range,fun j=>?_,h,?_⟩
 ·unfold left;exact Nat.le_trans (List.countP_le_length) (by simp)
 ·intro i o ho hx;simp [Array.getD] at hx
 ·simp only [List.mem_range,Array.getD];constructor
  ·intro hj;exact⟨hj,by simp⟩
  ·exact fun hj=>hj.1
 ·exact⟨(hs.inv.grow (w':={ w with drawn:=w.drawn+1 }) (fun _ h=>h) (fun _ h=>.inl h) hs.inv.Slt (fun _ _=>rfl) rfl rfl rfl (Nat.le_refl _)).1,hs.size,hs.defers.ext ⟨fun _ h=>h,fun _ _=>rfl⟩,fun t=>(hs.slot t).ext ⟨fun _ h=>h,fun _ _=>rfl⟩ (fun _ _=>rfl)⟩
def hdI:List GInfo→GInfo
 | []=>⟨[],[],[],[]⟩
 | z::_=>z
def F7m:List Nat→SV→Bool
 | [],_=>true
 | k::r,x=>!x.has k && F7m r x
def G1v:List Nat→BoxC→Bool
 | [],_=>true
 | k::r,x=>!x.has k && G1v r x
def F3a (m h:List Nat):A0b→Bool
 | []=>true
 | (k,c)::r=>(!D5m k m || (c.real && G1v h c)) && F3a m h r
def F6f:List Nat→List Nat→Bool
 | [],_=>true
 | k::r,m=>D5m k m && F6f r m
def F8t:List Nat→List Nat→Bool
 | [],_=>true
 | k::r,m=>!D5m k m && F8t r m
theorem D3a {x:SV}:∀ {h:List Nat},F7m h x=true→∀ q,q∈h→x.has q=false
 | [],_,q,hq=>by simp at hq
 | k::r,e,q,hq=>by
  simp only [F7m,Bool.and_eq_true,Bool.not_eq_true'] at e;rcases List.mem_cons.1 hq with rfl | hq
  ·exact e.1
  ·exact D3a e.2 q hq
theorem D5h {x:BoxC}:∀ {h:List Nat},G1v h x=true→∀ q,q∈h→x.has q=false
 | [],_,q,hq=>by simp at hq
 | k::r,e,q,hq=>by
  simp only [G1v,Bool.and_eq_true,Bool.not_eq_true'] at e;rcases List.mem_cons.1 hq with rfl | hq
  ·exact e.1
  ·exact D5h e.2 q hq
theorem B5p {m h:List Nat}:∀ {bx:A0b},F3a m h bx=true→∀ k c,k∈m→(k,c)∈bx→c.real=true∧∀ q,q∈h→c.has q=false
 | [],_,k,c,_,hc=>by simp at hc
 | (j,x)::r,e,k,c,hk,hc=>by
  simp only [F3a,Bool.and_eq_true,Bool.or_eq_true,Bool.not_eq_true'] at e;rcases List.mem_cons.1 hc with he | hc
  ·simp only [Prod.mk.injEq] at he;obtain⟨rfl,rfl⟩:=he;rcases e.1 with h1 | h1
   ·rw [A8c.2 hk] at h1;cases h1
   ·exact⟨h1.1,D5h h1.2⟩
  ·exact B5p e.2 k c hk hc
theorem C1e {m:List Nat}:∀ {l:List Nat},F6f l m=true→∀ k,k∈l→k∈m
 | [],_,k,hk=>by simp at hk
 | j::r,e,k,hk=>by
  simp only [F6f,Bool.and_eq_true] at e;rcases List.mem_cons.1 hk with rfl | hk
  ·exact A8c.1 e.1
  ·exact C1e e.2 k hk
theorem D5c {m:List Nat}:∀ {l:List Nat},F8t l m=true→∀ k,k∈l→k ∉ m
 | [],_,k,hk=>by simp at hk
 | j::r,e,k,hk=>by
  simp only [F8t,Bool.and_eq_true,Bool.not_eq_true'] at e;rcases List.mem_cons.1 hk with rfl | hk
  ·exact fun hm=>by rw [A8c.2 hm] at e;cases e.1
  ·exact D5c e.2 k hk
def E3d (m p h q:List Nat)(bx:A0b)(r:SV)(bx':A0b)(pg:List Nat):Prop :=
 F8t m h=true∧F6f pg p=true∧F6f p m=true∧bwo m bx'=bwo m (bwo h bx)∧F3a m q bx=true∧F3a m q bx'=true∧F7m q r=true∧F3a h pg bx=true
theorem E3d.cond {z:GInfo} {r:SV} {bx':A0b} {pg:List Nat} (c:E3d z.m z.p z.h z.q bx r bx' pg):GCond z bx r bx' pg:=by
 obtain⟨c1,c2,c0,c3,c4,c5,c6,c7⟩:=c;refine⟨D5c c1,C1e c2,C1e c0,fun k c hk=>?_,B5p c4,B5p c5,D3a c6,B5p c7⟩;have h1:=A3x (ks:=z.m) (k:=k) (c:=c) (bx:=bx');rw [c3,A3x,A3x] at h1;constructor
 ·exact fun hx=>(h1.2 ⟨hk,hx⟩).2
 ·exact fun hx=>(h1.1 ⟨hk,hx⟩).2
theorem B5d (h:List Nat):∀ bx:A0b,F3a [] h bx=true
 | []=>rfl
 | (k,c)::r=>by rw [F3a,D5m,B5d h r];rfl
def B9n (P:Program)(own:List Nat)(ops:Array Oper):List Oper→List GInfo→SL→A0b→(SL→A0b→Prop)→Prop
 | [],_,sl,bx,K=>K sl bx
 | o::os,is,sl,bx,K=>match o.guard with
  | none=>opK P own o.dst (A1e (hdI is).q sl) (bwo (hdI is).h bx) o.op fun r bx' pg=>E3d (hdI is).m (hdI is).p (hdI is).h (hdI is).q bx r bx' pg∧B9n P own ops os is.tail (B1b (A1e pg sl) o.dst r) (bx'++bin (hdI is).h bx) K
  | some (j,want)=>match B0j ops j with
   | some t=>match A0k sl t with
    | .d (.bool b)=>A7v b want (opK P own o.dst (A1e (hdI is).q sl) (bwo (hdI is).h bx) o.op fun r bx' pg=>E3d (hdI is).m (hdI is).p (hdI is).h (hdI is).q bx r bx' pg∧B9n P own ops os is.tail (B1b (A1e pg sl) o.dst r) (bx'++bin (hdI is).h bx) K)
     (E3d (hdI is).m (hdI is).p (hdI is).h (hdI is).q bx (.tuple []) (bwo (hdI is).h bx) []∧B9n P own ops os is.tail (B1b sl o.dst (.tuple [])) (bwo (hdI is).h bx++bin (hdI is).h bx) K)
    | .tuple []=>E3d (hdI is).m (hdI is).p (hdI is).h (hdI is).q bx (.tuple []) (bwo (hdI is).h bx) []∧B9n P own ops os is.tail (B1b sl o.dst (.tuple [])) (bwo (hdI is).h bx++bin (hdI is).h bx) K
    | _=>False
   | none=>False
section
variable (P:Program) (own:List Nat) (ops:Array Oper) (os:List Oper) (is:List GInfo) (sl:SL) (bx:A0b) (dst:Option Nat) (op:Op) (z:GInfo) (m p h q:List Nat) (K:SL→A0b→Prop)
def E2x:KB:=fun r bx' pg=>E3d z.m z.p z.h z.q bx r bx' pg∧B9n P own ops os is (B1b (A1e pg sl) dst r) (bx'++bin z.h bx) K
def opG:Prop:=opK P own dst (A1e z.q sl) (bwo z.h bx) op (E2x P own ops os is sl bx dst z K)
def D3u:Prop:=E3d z.m z.p z.h z.q bx (.tuple []) (bwo z.h bx) []∧B9n P own ops os is (B1b sl dst (.tuple [])) (bwo z.h bx++bin z.h bx) K
def gbG (want b:Bool):Prop:=A7v b want (opG P own ops os is sl bx dst op z K) (D3u P own ops os is sl bx dst z K)
def F3r (want:Bool):SV→Prop
 | .d (.bool b)=>gbG P own ops os is sl bx dst op z K want b
 | .tuple []=>D3u P own ops os is sl bx dst z K
 | _=>False
def G4m (want:Bool):Option Nat→Prop
 | some t=>F3r P own ops os is sl bx dst op z K want (A0k sl t)
 | none=>False
variable (ty:TypeId) (pos:String) (after:Array Edge)
theorem F6n:B9n P own ops [] is sl bx K=K sl bx:=by rw [B9n]
theorem F1z:B9n P own ops (⟨dst,op,ty,pos,after,none⟩::os) is sl bx K=opG P own ops os is.tail sl bx dst op (hdI is) K:=by rw [B9n];rfl
theorem E2f (j:Nat)(want:Bool):B9n P own ops (⟨dst,op,ty,pos,after,some (j,want)⟩::os) is sl bx K=G4m P own ops os is.tail sl bx dst op (hdI is) K want (B0j ops j):=by
 rw [B9n];simp only;cases B0j ops j with
 | none=>rfl
 | some t =>simp only [G4m,F3r];split <;> rfl
theorem F4o:opG P own ops os is sl bx dst op ⟨m,p,[],[]⟩ K=opK P own dst sl bx op (E2x P own ops os is sl bx dst ⟨m,p,[],[]⟩ K):=by rw [opG,A9y];rfl
theorem F4q (k:Nat)(h q:List Nat):opG P own ops os is sl bx dst op ⟨m,p,k::h,q⟩ K=opK P own dst (A1e q sl) (bwo (k::h) bx) op (E2x P own ops os is sl bx dst ⟨m,p,k::h,q⟩ K):=rfl
theorem E5a (r:SV):E2x P own ops os is sl bx dst ⟨[],[],[],[]⟩ K r bx []=B9n P own ops os is (B1b sl dst r) bx K:=by simp only [E2x,E3d,F8t,F6f,B5d,F7m,A9y,B0f,List.append_nil,A1e,true_and]
theorem F2f (r:SV)(bx':A0b)(pg:List Nat):E2x P own ops os is sl bx dst ⟨m,p,h,q⟩ K r bx' pg=(E3d m p h q bx r bx' pg∧B9n P own ops os is (B1b (A1e pg sl) dst r) (bx'++bin h bx) K):=rfl
theorem E2h:D3u P own ops os is sl bx dst ⟨[],[],[],[]⟩ K=B9n P own ops os is (B1b sl dst (.tuple [])) bx K:=by simp only [D3u,E3d,F8t,F6f,B5d,F7m,A9y,B0f,List.append_nil,true_and]
theorem E8e:D3u P own ops os is sl bx dst ⟨m,p,h,q⟩ K=(E3d m p h q bx (.tuple []) (bwo h bx) []∧B9n P own ops os is (B1b sl dst (.tuple [])) (bwo h bx++bin h bx) K):=rfl
theorem E2z (want b:Bool):F3r P own ops os is sl bx dst op z K want (.d (.bool b))=gbG P own ops os is sl bx dst op z K want b:=rfl
theorem E5o (want:Bool):F3r P own ops os is sl bx dst op z K want (.tuple [])=D3u P own ops os is sl bx dst z K:=rfl
theorem G3n:gbG P own ops os is sl bx dst op z K true true=opG P own ops os is sl bx dst op z K:=by simp [gbG,A7v]
theorem G2a:gbG P own ops os is sl bx dst op z K false false=opG P own ops os is sl bx dst op z K:=by simp [gbG,A7v]
theorem G3i:gbG P own ops os is sl bx dst op z K true false=D3u P own ops os is sl bx dst z K:=by simp [gbG,A7v]
theorem G2v:gbG P own ops os is sl bx dst op z K false true=D3u P own ops os is sl bx dst z K:=by simp [gbG,A7v]
def D8n:SL→A0b→Prop:=fun sl bx=>A7q P own ops os sl bx K
theorem F1p:D8n P own ops os K sl bx=A7q P own ops os sl bx K:=rfl
end
def F3f:List Oper→List GInfo→List (Oper × GI)
 | [],_=>[]
 | o::os,is=>(o,some (hdI is))::F3f os is.tail
theorem B8b {own:List Nat} {ops:Array Oper} {R:List (Oper × GI)} {K K':SL→A0b→Prop} (hK:∀ sl bx,K sl bx→C4p P n ops R sl bx K'):∀ (os:List Oper)(is:List GInfo)(sl:SL)(bx:A0b),A1r n os=true →
  B9n P own ops os is sl bx K→C4p P n ops (F3f os is++R) sl bx K'
 | [],is,sl,bx,_,h=>by rw [B9n] at h;exact hK sl bx h
 | o::os,is,sl,bx,hd,h=>by
  simp only [A1r,List.all_cons,Bool.and_eq_true] at hd;rw [B9n] at h;obtain⟨g,h1,h2,h3⟩:=C0u h;have hdo:=A3w (n:=n) (ops:=[o]) (by simp [A1r,hd.1]) o (by simp);cases g with
  | true =>obtain⟨r,bx',pg,q1,q2,q3⟩:=D4k (h2 rfl);exact⟨true,r,bx',pg,h1,hdo,⟨fun _=>q1,(fun h=>by cases h),fun z hz=>by cases hz;exact q2.cond⟩,B8b hK os _ _ _ hd.2 q3⟩
  | false =>obtain⟨q2,q3⟩:=h3 rfl;exact⟨false,.tuple [],_,[],h1,hdo,⟨(fun h=>by cases h),fun _=>⟨rfl,rfl,fun _ _=>Iff.rfl⟩,fun z hz=>by cases hz;exact q2.cond⟩,B8b hK os _ _ _ hd.2 q3⟩
theorem Run.gen {ops:Array Oper} {K:SL→A0b→Prop}:∀ (os:List Oper)(sl:SL)(bx:A0b),Run P n ops os sl bx K→C4p P n ops (os.map fun o=>(o,none)) sl bx (KE K)
 | [],sl,bx,h=>⟨sl,bx,h,fun _=>rfl,fun _ _=>Iff.rfl⟩
 | o::os,sl,bx,⟨g,h1,h2,h3,h4⟩=>by
  cases g with
  | true =>obtain⟨r,bx',pg,q1,q2⟩:=h3 rfl;exact⟨true,r,bx',pg,h1,h2,⟨fun _=>by rw [show GI.h none=[] from rfl,A9y];exact q1,(fun h=>by cases h),(fun z hz=>by cases hz)⟩,by rw [show GI.h (o,(none:GI)).2=[] from rfl,B0f,List.append_nil];exact Run.gen os _ _ q2⟩
  | false=>exact⟨false,.tuple [],bx,[],h1,h2,⟨(fun h=>by cases h),fun _=>⟨rfl,rfl,fun _ _=>by rw [show GI.h none=[] from rfl,A9y]⟩,(fun z hz=>by cases hz)⟩,by rw [show GI.h (o,(none:GI)).2=[] from rfl,B0f,List.append_nil];exact Run.gen os _ _ (h4 rfl)⟩
def D4c (m:Nat)(is:List GInfo)(j:Nat):GI:=if j < m then some (hdI (is.drop j)) else none
theorem E0v:∀ (os:List Oper)(is:List GInfo)(j:Nat),(F3f os is)[j]? = (os[j]?).map fun o=>(o,some (hdI (is.drop j)))
 | [],is,j=>by simp [F3f]
 | o::os,is,0=>by simp [F3f]
 | o::os,is,j+1=>by rw [F3f,List.getElem?_cons_succ,E0v,List.getElem?_cons_succ];simp
theorem B4z:∀ (os:List Oper)(is:List GInfo),(F3f os is).length=os.length
 | [],_=>rfl
 | _::os,is=>by rw [F3f,List.length_cons,B4z,List.length_cons]
theorem F7e (ops:Array Oper)(m:Nat)(is:List GInfo):(List.range ops.size).map (gAt ops (D4c m is))=F3f (ops.toList.take m) is++(ops.toList.drop m).map fun o=>(o,none):=by
 apply List.ext_getElem?;intro j;rw [List.getElem?_map];by_cases hj:j < ops.size
 ·have hr:(List.range ops.size)[j]? = some j:=by rw [List.getElem?_range hj]
  have ho:ops.toList[j]? = some (ops.getD j default):=by simp [Array.getD,hj]
  rw [hr,Option.map_some];unfold gAt D4c;by_cases hm:j < m
  ·rw [if_pos hm,List.getElem?_append_left (by rw [B4z];simp;omega),E0v,List.getElem?_take,if_pos hm,ho];rfl
  ·rw [if_neg hm,List.getElem?_append_right (by rw [B4z];simp;omega),B4z,List.getElem?_map,List.getElem?_drop,show m+(j - (ops.toList.take m).length)=j by simp;omega,ho];rfl
 ·rw [List.getElem?_eq_none (by simp;omega),List.getElem?_eq_none (by simp [B4z];omega)];rfl
theorem AWp.regG {id:Nat} {ops:Array Oper} (ks own:List Nat)(m:Nat)(is:List GInfo)(hm:P.follows .mixedOrders=true)(hc:gOK ops (D4c m is) (Region.before ops)=true)(hd:A1r n ops.toList=true)
  (h:B9n P own ops (ops.toList.take m) is sl bx (D8n P own ops (ops.toList.drop m) (A5e ks (Q .normal)))):AWp ro P n (.region id ops true) Q sl bx:=by
 have hd1:A1r n (ops.toList.take m)=true:=by unfold A1r at *;rw [List.all_eq_true] at *;exact fun o ho=>hd o (List.mem_of_mem_take ho)
 have hd2:A1r n (ops.toList.drop m)=true:=by unfold A1r at *;rw [List.all_eq_true] at *;exact fun o ho=>hd o (List.mem_of_mem_drop ho)
 refine AWp.regionG _ _ ks hm hc hd ?_;rw [F7e];exact B8b (fun sl1 bx1 h=>(A6u _ _ _ hd2 h).gen) _ _ _ _ hd1 h
theorem AWp.seqG {id:Nat} {ops:Array Oper} {y:Code} (ks own:List Nat)(m:Nat)(is:List GInfo)(hm:P.follows .mixedOrders=true)(hc:gOK ops (D4c m is) (Region.before ops)=true)(hd:A1r n ops.toList=true)
  (h:∀ K:SL→A0b→Prop,(∀ sl' bx',AWp ro P n y Q sl' bx'→K sl' bx')→B9n P own ops (ops.toList.take m) is sl bx (D8n P own ops (ops.toList.drop m) (A5e ks K))):AWp ro P n (.seq (.region id ops true) y) Q sl bx :=
 AWp.seq (AWp.regG ks own m is hm hc hd (h _ fun _ _ h=>h))
theorem AWp.lastG {id:Nat} {ops:Array Oper} (ks own:List Nat)(m:Nat)(is:List GInfo)(hm:P.follows .mixedOrders=true)(hc:gOK ops (D4c m is) (Region.before ops)=true)(hd:A1r n ops.toList=true)
  (h:∀ K:SL→A0b→Prop,(∀ sl' bx',Q .normal sl' bx'→K sl' bx')→B9n P own ops (ops.toList.take m) is sl bx (D8n P own ops (ops.toList.drop m) (A5e ks K))):AWp ro P n (.region id ops true) Q sl bx :=
 AWp.regG ks own m is hm hc hd (h _ fun _ _ h=>h)
end Go.Abs
