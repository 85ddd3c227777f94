/- Drawn regions: any order that the edges allow comes to what the text's order comes to. Own framework. -/
import Derived.Test.YtaneedhchnaniaaGreatDoorQAb4
set_option linter.unusedVariables false
set_option linter.unusedSimpArgs false
namespace Go.Abs
open Go
variable {ro:Option Nat} {P:Program} {n:Nat} {Q:Exit→SL→Boxes→Prop} {sl:SL} {bx:Boxes} {o:Oper} {ρ:Rho}
def hasBx (k:Nat):Boxes→Bool
 | []=>false
 | (j,c)::r=>j == k || c.has k || hasBx k r
theorem hasBx_mem {k:Nat}:∀ {bx:Boxes},hasBx k bx=false→∀ j c,(j,c)∈bx→j≠k∧c.has k=false
 | [],_,j,c,h=>by simp at h
 | (i,x)::r,h,j,c,hm=>by
  simp only [hasBx,Bool.or_eq_false_iff,beq_eq_false_iff_ne] at h
  rcases List.mem_cons.1 hm with he | hm
  ·simp only [Prod.mk.injEq] at he
   obtain⟨rfl,rfl⟩:=he
   exact⟨h.1.1,h.1.2⟩
  ·exact hasBx_mem h.2 j c hm
def memN (k:Nat):List Nat→Bool
 | []=>false
 | j::r=>k == j || memN k r
theorem memN_iff {k:Nat}:∀ {l:List Nat},memN k l=true↔k∈l
 | []=>by simp [memN]
 | j::r=>by simp [memN,memN_iff]
def bwo (ks:List Nat):Boxes→Boxes
 | []=>[]
 | (k,c)::r=>if memN k ks=true then bwo ks r else (k,c)::bwo ks r
def bin (ks:List Nat):Boxes→Boxes
 | []=>[]
 | (k,c)::r=>if memN k ks=true then (k,c)::bin ks r else bin ks r
theorem mem_bwo {ks:List Nat} {k:Nat} {c:BoxC}:∀ {bx:Boxes},(k,c)∈bwo ks bx↔k ∉ ks∧(k,c)∈bx
 | []=>by simp [bwo]
 | (j,x)::r=>by
  rw [bwo]
  by_cases h:memN j ks=true
  ·have h1:=memN_iff.1 h
   rw [if_pos h,mem_bwo,List.mem_cons,Prod.mk.injEq]
   exact⟨fun⟨a,b⟩=>⟨a,.inr b⟩,fun⟨a,b⟩=>⟨a,b.resolve_left fun e=>a (e.1 ▸ h1)⟩⟩
  ·have h1:j ∉ ks:=fun hh=>h (memN_iff.2 hh)
   rw [if_neg h,List.mem_cons,mem_bwo,List.mem_cons,Prod.mk.injEq]
   exact⟨fun e=>e.elim (fun e=>⟨e.1 ▸ h1,.inl e⟩) fun e=>⟨e.1,.inr e.2⟩,fun⟨a,b⟩=>b.imp id fun b=>⟨a,b⟩⟩
theorem mem_bin {ks:List Nat} {k:Nat} {c:BoxC}:∀ {bx:Boxes},(k,c)∈bin ks bx↔k∈ks∧(k,c)∈bx
 | []=>by simp [bin]
 | (j,x)::r=>by
  rw [bin]
  by_cases h:memN j ks=true
  ·have h1:=memN_iff.1 h
   rw [if_pos h,List.mem_cons,mem_bin,List.mem_cons,Prod.mk.injEq]
   exact⟨fun e=>e.elim (fun e=>⟨e.1 ▸ h1,.inl e⟩) fun e=>⟨e.1,.inr e.2⟩,fun⟨a,b⟩=>b.imp id fun b=>⟨a,b⟩⟩
  ·have h1:j ∉ ks:=fun hh=>h (memN_iff.2 hh)
   rw [if_neg h,mem_bin,List.mem_cons,Prod.mk.injEq]
   exact⟨fun⟨a,b⟩=>⟨a,.inr b⟩,fun⟨a,b⟩=>⟨a,b.resolve_left fun e=>h1 (e.1 ▸ a)⟩⟩
theorem bwo_none:∀ bx:Boxes,bwo [] bx=bx
 | []=>rfl
 | (k,c)::r=>by rw [bwo,memN,if_neg (by decide),bwo_none r]
theorem bin_none:∀ bx:Boxes,bin [] bx=[]
 | []=>rfl
 | (k,c)::r=>by rw [bin,memN,if_neg (by decide),bin_none r]
def spurgeL:List Nat→SV→SV
 | [],x=>x
 | k::ks,x=>spurgeL ks (spurge k x)
theorem sget_purgeSl:∀ (ks:List Nat)(sl:SL)(t:Nat),sget (purgeSl ks sl) t=spurgeL ks (sget sl t)
 | [],_,_=>rfl
 | k::ks,sl,t=>by rw [purgeSl,sget_purgeSl ks,sget_purge1];rfl
theorem spurgeL_or:∀ (ks:List Nat)(x:SV),(spurgeL ks x=x∧∀ q,q∈ks→x.has q=false)∨(spurgeL ks x=.undef∧∃ q,q∈ks∧x.has q=true)
 | [],x=>.inl ⟨rfl,by simp⟩
 | k::ks,x=>by
  rw [spurgeL]
  unfold spurge
  by_cases h:x.has k=true
  ·rw [if_pos h]
   refine .inr ⟨?_,k,by simp,h⟩
   rcases spurgeL_or ks .undef with h | h <;> exact h.1
  ·rw [if_neg h]
   rcases spurgeL_or ks x with ⟨h1,h2⟩ | ⟨h1,q,h2,h3⟩
   ·refine .inl ⟨h1,fun q hq=>?_⟩
    rcases List.mem_cons.1 hq with rfl | hq
    ·simpa using h
    ·exact h2 q hq
   ·exact .inr ⟨h1,q,List.mem_cons_of_mem _ h2,h3⟩
theorem spurgeL_id {ks:List Nat} {x:SV} (h:∀ q,q∈ks→x.has q=false):spurgeL ks x=x:=by
 rcases spurgeL_or ks x with ⟨h1,_⟩ | ⟨_,q,h2,h3⟩
 ·exact h1
 ·rw [h q h2] at h3;cases h3
theorem spurgeL_undef (ks:List Nat):spurgeL ks .undef=.undef:=spurgeL_id fun _ _=>rfl
theorem spurgeL_sub {a b:List Nat} (h:∀ k,k∈b→k∈a)(x:SV):spurgeL a (spurgeL b x)=spurgeL a x:=by
 rcases spurgeL_or b x with ⟨h1,_⟩ | ⟨h1,q,h2,h3⟩
 ·rw [h1]
 ·rw [h1,spurgeL_undef]
  rcases spurgeL_or a x with ⟨_,h4⟩ | ⟨h4,_⟩
  ·rw [h4 q (h q h2)] at h3;cases h3
  ·exact h4.symm
theorem spurgeL_comm (a b:List Nat)(x:SV):spurgeL a (spurgeL b x)=spurgeL b (spurgeL a x):=by
 rcases spurgeL_or a x with ⟨h1,h2⟩ | ⟨h1,h2⟩ <;> rcases spurgeL_or b x with ⟨h3,h4⟩ | ⟨h3,h4⟩ <;> simp only [h1,h3,spurgeL_undef]
theorem sget_sput (sl:SL)(d:Option Nat)(r:SV)(t:Nat):sget (sput sl d r) t=if d=some t then r else sget sl t:=by
 cases d with
 | none=>simp [sput]
 | some u=>simp [sput,sget]
theorem OpT.congr {ρ':Rho} {bx2 bx':Boxes} {r:SV} {pg:List Nat} (h:OpT P o ρ bx r bx' pg)(hb:∀ k c,(k,c)∈bx→(k,c)∈bx2) (hρ:∀ x,x∈o.op.operands→ρ' x = ρ x):OpT P o ρ' bx2 r bx' pg :=
 fun C S w β a hi ha=>h C S w β a (hi.sub hb) fun x hx=>by rw [← hρ x hx];exact ha x hx
def basesF (β:Names)(F:Boxes)(b:Nat):Prop:=∃ k c,(k,c)∈F∧(β k).base=some b
theorem OpT.frameG {r:SV} {bx':Boxes} {pg:List Nat} (h:OpT P o ρ bx r bx' pg)(F:Boxes)(hF:∀ k c,(k,c)∈F→c.real=true∧k ∉ pg∧(∀ q,q∈pg→c.has q=false)∧(∀ x,(k,x) ∉ bx)∧∀ x,(k,x) ∉ bx')
  (hG:∀ k Y st,(k,BoxC.ghost Y st)∈bx'→(k,BoxC.ghost Y st)∈bx) {C:Ctx} {S:Nat→Prop} {w:World} {β:Names} {a:Act} (hi:Inv C S w β (F++bx)) (ha:∀ x,x∈o.op.operands→RepV S w β (ρ x) (a.eval x)) :
  o.wpx P a w (fun a' w'=>∃ v S' β',a'=a.put o.dst v∧Inv C S' w' β' (F++bx')∧SExt S w S' w'∧RepV S' w' β' r v∧∀ k,k ∉ pg→β' k = β k):=by
 have hmem:∀ {j:Nat} {x:BoxC},(j,x)∈bx→(j,x)∈F++bx:=fun h=>List.mem_append.2 (.inr h)
 have hmF:∀ {j:Nat} {x:BoxC},(j,x)∈F→(j,x)∈F++bx:=fun h=>List.mem_append.2 (.inl h)
 have hne:∀ {j:Nat} {x:BoxC} {b:Nat},(j,x)∈bx→(β j).base=some b→¬ basesF β F b:=fun hj h1 ⟨k,c,hk,hb⟩=>by
  obtain⟨rfl,_⟩:=hi.inj _ _ _ _ (hmF hk) (hmem hj) _ hb h1
  exact (hF _ _ hk).2.2.2.1 _ hj
 have hi':Inv ⟨w,S,fun b=>¬ S b∧(C.pre b∨C.w0.heap.size≤b)∧¬ basesF β F b,C.fixd,C.G⟩ S w β bx:={
  S0sub:=fun _ hb=>hb,Snew:=fun _ hb=>.inl hb,Slt:=hi.Slt,kept:=fun _ _ _=>rfl,os:=rfl,tape:=rfl,output:=rfl,size:=Nat.le_refl _,
  box:=fun j x hj=>hi.box j x (hmem hj)
  priv:=fun j x hj b hb=>⟨(hi.priv j x (hmem hj) b hb).1,(hi.priv j x (hmem hj) b hb).2.1,.inl ⟨(hi.priv j x (hmem hj) b hb).1,(hi.priv j x (hmem hj) b hb).2.2,hne hj hb⟩⟩
  inj:=fun j x j' x' hj hj'=>hi.inj j x j' x' (hmem hj) (hmem hj')
  tab:=hi.tab
  one:=fun j Y st j' Y' st' hj hj'=>hi.one j Y st j' Y' st' (hmem hj) (hmem hj')
  frn:=fun j Y st hj=>by
   obtain⟨h1,h2,h3,h4,B,h5,h6⟩:=hi.frn j Y st (hmem hj)
   exact⟨h1,h2,Nat.le_trans h3 hi.size,fun k' c' hk'=>h4 k' c' (hmem hk'),B,h5,fun b hb=>⟨(h6 b hb).1,(h6 b hb).2.1,.inl ⟨(h6 b hb).1,(h6 b hb).2.2.1,fun⟨k,c,hk,hb'⟩=>(h6 b hb).2.2.2 k c (hmF hk) hb'⟩,fun k' c' hk'=>(h6 b hb).2.2.2 k' c' (hmem hk')⟩⟩
  fix:=hi.fix }
 refine Oper.wpx_mono (h _ S w β a hi' ha) ?_
 rintro a' w' ⟨v,S',β',rfl,hI,he,hv,hb⟩
 have hsz:w.heap.size≤w'.heap.size:=hI.size
 have hcsz:=hi.size
 have hFb:∀ k c,(k,c)∈F→β' k = β k:=fun k c hk=>hb k (hF k c hk).2.1
 have hFlt:∀ k c b,(k,c)∈F→(β k).base=some b→b < w.heap.size:=fun k c b hk hb'=>(hi.priv k c (hmF hk) b hb').2.1
 have hsep:∀ k c k' c' b,(k,c)∈F→(k',c')∈bx'→(β k).base=some b→(β' k').base≠some b:=fun k c k' c' b hk hk' h1 h2=>by
  rcases (hI.priv k' c' hk' b h2).2.2 with h | h
  ·exact h.2.2 ⟨k,c,hk,h1⟩
  ·have:=hFlt k c b hk h1;simp only at h;omega
 have hcase:∀ {k c},(k,c)∈F++bx'→(k,c)∈F∨(k,c)∈bx':=fun hm=>List.mem_append.1 hm
 have hgh:∀ k Y st,(k,BoxC.ghost Y st)∈F++bx'→(k,BoxC.ghost Y st)∈bx'∧(k,BoxC.ghost Y st)∈bx:=fun k Y st hm=>by
  rcases hcase hm with hm | hm
  ·have:=(hF _ _ hm).1;simp [BoxC.real] at this
  ·exact⟨hm,hG _ _ _ hm⟩
 refine⟨v,S',β',rfl,?_,he,hv,hb⟩
 exact {
  S0sub:=fun b hb'=>hI.S0sub b (hi.S0sub b hb')
  Snew:=fun b hb'=>by
   rcases hI.Snew b hb' with h | h | h
   ·exact hi.Snew b h
   ·exact .inr h.2.1
   ·exact .inr (.inr (Nat.le_trans hi.size h))
  Slt:=hI.Slt
  kept:=fun b hb' hp=>by
   refine (hI.kept b (Nat.lt_of_lt_of_le hb' hi.size) ?_).trans (hi.kept b hb' hp)
   rintro⟨_,h | h,_⟩
   ·exact hp h
   ·omega
  os:=hI.os.trans hi.os
  tape:=hI.tape.trans hi.tape
  output:=hI.output.trans hi.output
  size:=Nat.le_trans hi.size hI.size
  box:=fun j x hj=>by
   rcases hcase hj with hj | hj
   ·rw [hFb j x hj]
    exact (hi.box j x (hmF hj)).ext he (fun b hb'=>hI.kept b (hFlt j x b hj hb') fun h=>h.2.2 ⟨j,x,hj,hb'⟩) (fun q hq=>hb q fun hp=>by rw [(hF j x hj).2.2.1 q hp] at hq;cases hq)
   ·exact hI.box j x hj
  priv:=fun j x hj b hb'=>by
   rcases hcase hj with hj | hj
   ·rw [hFb j x hj] at hb'
    obtain⟨g1,g2,g3⟩:=hi.priv j x (hmF hj) b hb'
    refine⟨fun hs=>?_,Nat.lt_of_lt_of_le g2 hI.size,g3⟩
    rcases hI.Snew b hs with h | h | h
    ·exact g1 h
    ·exact h.2.2 ⟨j,x,hj,hb'⟩
    ·simp only at h;omega
   ·refine⟨(hI.priv j x hj b hb').1,(hI.priv j x hj b hb').2.1,?_⟩
    rcases (hI.priv j x hj b hb').2.2 with h | h
    ·exact h.2.1
    ·exact .inr (Nat.le_trans hi.size h)
  inj:=fun j x j' x' hj hj' b h1 h2=>by
   rcases hcase hj with hj | hj
   ·rw [hFb j x hj] at h1
    rcases hcase hj' with hj' | hj'
    ·rw [hFb j' x' hj'] at h2
     exact hi.inj j x j' x' (hmF hj) (hmF hj') b h1 h2
    ·exact absurd h2 (hsep j x j' x' b hj hj' h1)
   ·rcases hcase hj' with hj' | hj'
    ·rw [hFb j' x' hj'] at h2
     exact absurd h1 (hsep j' x' j x b hj' hj h2)
    ·exact hI.inj j x j' x' hj hj' b h1 h2
  tab:=hI.tab
  one:=fun j Y st j' Y' st' hj hj'=>hi.one j Y st j' Y' st' (hmem (hgh _ _ _ hj).2) (hmem (hgh _ _ _ hj').2)
  frn:=fun j Y st hj=>by
   obtain⟨hj1,hj0⟩:=hgh _ _ _ hj
   obtain⟨h1,h2,_,h4,B,h5,h6⟩:=hI.frn j Y st hj1
   obtain⟨_,_,f3,f4,_⟩:=hi.frn j Y st (hmem hj0)
   refine⟨h1,h2,f3,fun k' c' hk' b hb'=>?_,B,h5,fun b hb'=>⟨(h6 b hb').1,(h6 b hb').2.1,?_,fun k' c' hk' hbase=>?_⟩⟩
   ·rcases hcase hk' with hk' | hk'
    ·rw [hFb k' c' hk'] at hb';exact f4 k' c' (hmF hk') b hb'
    ·exact h4 k' c' hk' b hb'
   ·rcases (h6 b hb').2.2.1 with h | h
    ·exact h.2.1
    ·exact .inr (Nat.le_trans hi.size h)
   ·rcases hcase hk' with hk' | hk'
    ·rw [hFb k' c' hk'] at hbase
     rcases (h6 b hb').2.2.1 with h | h
     ·exact h.2.2 ⟨k',c',hk',hbase⟩
     ·have:=hFlt k' c' b hk' hbase;simp only at h;omega
    ·exact (h6 b hb').2.2.2 k' c' hk' hbase
  fix:=hI.fix }
structure GInfo where
 m:List Nat
 p:List Nat
 h:List Nat
 q:List Nat
abbrev GI:=Option GInfo
def GI.h:GI→List Nat
 | some z=>z.h
 | none=>[]
def GI.q:GI→List Nat
 | some z=>z.q
 | none=>[]
structure GCond (z:GInfo)(bx:Boxes)(r:SV)(bx':Boxes)(pg:List Nat):Prop where
 dis:∀ k,k∈z.m→k ∉ z.h
 pgs:∀ k,k∈pg→k∈z.p
 pm:∀ k,k∈z.p→k∈z.m
 rest:∀ k c,k ∉ z.m→((k,c)∈bx'↔k ∉ z.h∧(k,c)∈bx)
 old:∀ k c,k∈z.m→(k,c)∈bx→c.real=true∧∀ q,q∈z.q→c.has q=false
 new:∀ k c,k∈z.m→(k,c)∈bx'→c.real=true∧∀ q,q∈z.q→c.has q=false
 res:∀ q,q∈z.q→r.has q=false
 hid:∀ k c,k∈z.h→(k,c)∈bx→c.real=true∧∀ q,q∈pg→c.has q=false
structure GOp (P:Program)(o:Oper)(i:GI)(g:Bool)(sl:SL)(bx:Boxes)(r:SV)(bx':Boxes)(pg:List Nat):Prop where
 yes:g=true→OpT P o (opnd (purgeSl i.q sl)) (bwo i.h bx) r bx' pg
 no:g=false→r=.tuple []∧pg=[]∧∀ k c,(k,c)∈bx'↔(k,c)∈bwo i.h bx
 cond:∀ z,i=some z→GCond z bx r bx' pg
def GRun (P:Program)(n:Nat)(ops:Array Oper):List (Oper × GI)→SL→Boxes→(SL→Boxes→Prop)→Prop
 | [],sl,bx,K=>K sl bx
 | x::os,sl,bx,K=>∃ g r bx' pg,guardV ops sl x.1=some g∧dstOK n x.1.dst∧GOp P x.1 x.2 g sl bx r bx' pg∧GRun P n ops os (sput (purgeSl pg sl) x.1.dst r) (bx'++bin x.2.h bx) K
def Eqv (sl:SL)(bx:Boxes)(sl':SL)(bx':Boxes):Prop:=(∀ t,sget sl t=sget sl' t)∧∀ k c,(k,c)∈bx↔(k,c)∈bx'
def KE (K:SL→Boxes→Prop):SL→Boxes→Prop:=fun sl bx=>∃ sl' bx',K sl' bx'∧Eqv sl bx sl' bx'
theorem opnd_eq {sl sl':SL} {x:Operand} (h:∀ t,x=.tmp t→sget sl t=sget sl' t):opnd sl x=opnd sl' x:=by
 cases x with
 | tmp t=>exact h t rfl
 | _=>rfl
theorem GRun.congr {ops:Array Oper} {K:SL→Boxes→Prop}:∀ (os:List (Oper × GI)) {sl sl':SL} {bx bx':Boxes},Eqv sl bx sl' bx'→GRun P n ops os sl bx (KE K)→GRun P n ops os sl' bx' (KE K)
 | [],sl,sl',bx,bx',e,⟨s,b,h,h1,h2⟩=>⟨s,b,h,fun t=>(e.1 t).symm.trans (h1 t),fun k c=>(e.2 k c).symm.trans (h2 k c)⟩
 | x::os,sl,sl',bx,bx',e,⟨g,r,b,pg,h1,h2,h3,h4⟩=>by
  refine⟨g,r,b,pg,(guardV_congr fun _ _ t _ _=>(e.1 t).symm).trans h1,h2,⟨fun hg=>(h3.yes hg).congr (fun k c hk=>mem_bwo.2 ⟨(mem_bwo.1 hk).1,(e.2 k c).1 (mem_bwo.1 hk).2⟩) fun y _=>opnd_eq fun t _=>by rw [sget_purgeSl,sget_purgeSl,e.1],
   fun hg=>⟨(h3.no hg).1,(h3.no hg).2.1,fun k c=>((h3.no hg).2.2 k c).trans (by rw [mem_bwo,mem_bwo,e.2])⟩,fun z hz=>?_⟩,GRun.congr os ⟨fun t=>by rw [sget_sput,sget_sput,sget_purgeSl,sget_purgeSl,e.1],fun k c=>by rw [List.mem_append,List.mem_append,mem_bin,mem_bin,e.2]⟩ h4⟩
  have c:=h3.cond z hz
  exact⟨c.dis,c.pgs,c.pm,fun k x hk=>(c.rest k x hk).trans (by rw [e.2]),fun k x hk hx=>c.old k x hk ((e.2 k x).2 hx),c.new,c.res,fun k x hk hx=>c.hid k x hk ((e.2 k x).2 hx)⟩
structure Apart (z1 z2:GInfo):Prop where
 m:∀ k,k∈z1.m→k∈z2.h
 p:∀ k,k∈z1.p→k∈z2.q
structure Un (ops:Array Oper)(x y:Oper × GI):Prop where
 u1:∀ t,x.1.dst=some t→t ∉ usesOf ops y.1
 u2:∀ t,y.1.dst=some t→t ∉ usesOf ops x.1
 d:∀ t,x.1.dst=some t→y.1.dst≠some t
 i:∃ z1 z2,x.2=some z1∧y.2=some z2∧Apart z1 z2∧Apart z2 z1
theorem GCond.out {z:GInfo} {r:SV} {bx':Boxes} {pg:List Nat} (c:GCond z bx r bx' pg) {k:Nat} {x:BoxC} (hk:k ∉ z.m):(k,x)∈bx'++bin z.h bx↔(k,x)∈bx:=by
 rw [List.mem_append,c.rest k x hk,mem_bin]
 by_cases hh:k∈z.h <;> simp [hh]
theorem GCond.move {z1 z2:GInfo} {r1 r2:SV} {bx1 bx2:Boxes} {pg1 pg2:List Nat} (c1:GCond z1 bx r1 bx1 pg1)(e1:Apart z1 z2)(e2:Apart z2 z1) :
  GCond z2 (bx1++bin z1.h bx) r2 bx2 pg2↔GCond z2 bx r2 bx2 pg2:=by
 constructor
 ·intro c
  have d:∀ k,k∈z2.m→k ∉ z1.m:=fun k hk hk1=>c.dis k hk (e1.m k hk1)
  refine⟨c.dis,c.pgs,c.pm,fun k x hk=>(c.rest k x hk).trans (and_congr_right fun hh=>c1.out fun hk1=>hh (e1.m k hk1)),fun k x hk hx=>c.old k x hk ((c1.out (d k hk)).2 hx),c.new,c.res,fun k x hk hx=>?_⟩
  by_cases hk1:k∈z1.m
  ·exact⟨(c1.old k x hk1 hx).1,fun q hq=>(c1.old k x hk1 hx).2 q (e2.p q (c.pgs q hq))⟩
  ·exact c.hid k x hk ((c1.out hk1).2 hx)
 ·intro c
  have d:∀ k,k∈z2.m→k ∉ z1.m:=fun k hk hk1=>c.dis k hk (e1.m k hk1)
  refine⟨c.dis,c.pgs,c.pm,fun k x hk=>(c.rest k x hk).trans (and_congr_right fun hh=>(c1.out fun hk1=>hh (e1.m k hk1)).symm),fun k x hk hx=>c.old k x hk ((c1.out (d k hk)).1 hx),c.new,c.res,fun k x hk hx=>?_⟩
  by_cases hk1:k∈z1.m
  ·have hx1:(k,x)∈bx1:=by
    rcases List.mem_append.1 hx with h | h
    ·exact h
    ·exact absurd (mem_bin.1 h).1 (c1.dis k hk1)
   exact⟨(c1.new k x hk1 hx1).1,fun q hq=>(c1.new k x hk1 hx1).2 q (e2.p q (c.pgs q hq))⟩
  ·exact c.hid k x hk ((c1.out hk1).1 hx)
theorem slots_move {pg h:List Nat} (e:∀ k,k∈pg→k∈h) {d:Option Nat} {r:SV} {t:Nat} (ht:d≠some t)(sl:SL):sget (purgeSl h (sput (purgeSl pg sl) d r)) t=sget (purgeSl h sl) t:=by
 rw [sget_purgeSl,sget_sput,if_neg ht,sget_purgeSl,sget_purgeSl,spurgeL_sub e]
theorem GOp.move {g:Bool} {z1 z2:GInfo} {r1 r2:SV} {bx1 bx2:Boxes} {pg1 pg2:List Nat} {d1:Option Nat} {ops:Array Oper} (c1:GCond z1 bx r1 bx1 pg1)(e1:Apart z1 z2)(e2:Apart z2 z1)(hu:∀ t,d1=some t→t ∉ usesOf ops o) :
  GOp P o (some z2) g (sput (purgeSl pg1 sl) d1 r1) (bx1++bin z1.h bx) r2 bx2 pg2↔GOp P o (some z2) g sl bx r2 bx2 pg2:=by
 have hs:∀ x,x∈o.op.operands→opnd (purgeSl z2.q (sput (purgeSl pg1 sl) d1 r1)) x=opnd (purgeSl z2.q sl) x:=fun x hx=>opnd_eq fun t ht=>slots_move (fun k hk=>e1.p k (c1.pgs k hk)) (fun hd=>hu t hd (mem_looksAt_op (ht ▸ hx))) sl
 have hb:∀ k c,(k,c)∈bwo z2.h (bx1++bin z1.h bx)↔(k,c)∈bwo z2.h bx:=fun k c=>by
  rw [mem_bwo,mem_bwo]
  exact and_congr_right fun hh=>c1.out fun hk1=>hh (e1.m k hk1)
 exact⟨fun h=>⟨fun hg=>(h.yes hg).congr (fun k c hk=>(hb k c).1 hk) fun x hx=>(hs x hx).symm,fun hg=>⟨(h.no hg).1,(h.no hg).2.1,fun k c=>((h.no hg).2.2 k c).trans (hb k c)⟩,fun z hz=>by cases hz;exact (c1.move e1 e2).1 (h.cond _ rfl)⟩,
  fun h=>⟨fun hg=>(h.yes hg).congr (fun k c hk=>(hb k c).2 hk) fun x hx=>hs x hx,fun hg=>⟨(h.no hg).1,(h.no hg).2.1,fun k c=>((h.no hg).2.2 k c).trans (hb k c).symm⟩,fun z hz=>by cases hz;exact (c1.move e1 e2).2 (h.cond _ rfl)⟩⟩
theorem guardV_purge {ops:Array Oper} {s s':SL} {pg:List Nat} (h:∀ t,t∈usesOf ops o→sget s' t=spurgeL pg (sget s t)):guardV ops s' o=guardV ops s o:=by
 unfold guardV
 cases hg:o.guard with
 | none=>rfl
 | some jw =>
  obtain⟨j,want⟩:=jw
  simp only
  cases hj:gslot ops j with
  | none=>rfl
  | some t =>
   simp only [h t (mem_looksAt_guard hg hj)]
   rcases spurgeL_or pg (sget s t) with ⟨e,_⟩ | ⟨e,q,_,hq⟩
   ·rw [e]
   ·rw [e]
    generalize sget s t=x at hq
    cases x with
    | d x=>simp [SV.has] at hq
    | tuple xs=>cases xs with
     | nil=>simp [SV.has,SV.hasAny] at hq
     | cons=>rfl
    | _=>rfl
theorem GRun.swap {ops:Array Oper} {K:SL→Boxes→Prop} {x y:Oper × GI} {R:List (Oper × GI)} (u:Un ops x y)(h:GRun P n ops (x::y::R) sl bx (KE K)):GRun P n ops (y::x::R) sl bx (KE K):=by
 obtain⟨g1,r1,bx1,pg1,a1,a2,a3,g2,r2,bx2,pg2,b1,b2,b3,hR⟩:=h
 obtain⟨z1,z2,i1,i2,e1,e2⟩:=u.i
 obtain⟨o1,i⟩:=x
 obtain⟨o2,j⟩:=y
 simp only at i1 i2
 subst i1;subst i2
 have c1:=a3.cond _ rfl
 have b3':=(GOp.move c1 e1 e2 u.u1).1 b3
 have c2:=b3'.cond _ rfl
 have a3':=(GOp.move (pg1:=pg2) (d1:=o2.dst) c2 e2 e1 u.u2).2 a3
 refine⟨g2,r2,bx2,pg2,(guardV_purge (pg:=pg1) fun t ht=>?_).symm.trans b1,b2,b3',g1,r1,bx1,pg1,(guardV_purge (pg:=pg2) fun t ht=>?_).trans a1,a2,a3',GRun.congr R ⟨fun t=>?_,fun k c=>?_⟩ hR⟩
 ·rw [sget_sput,if_neg fun hd=>u.u1 t hd ht,sget_purgeSl]
 ·rw [sget_sput,if_neg fun hd=>u.u2 t hd ht,sget_purgeSl]
 ·rw [sget_sput,sget_purgeSl,sget_sput,sget_purgeSl,sget_sput,sget_purgeSl,sget_sput,sget_purgeSl]
  by_cases h2t:o2.dst=some t
  ·rw [if_pos h2t,if_pos h2t,if_neg fun h1t=>u.d t h1t h2t,spurgeL_id fun q hq=>c2.res q (e1.p q (c1.pgs q hq))]
  ·rw [if_neg h2t,if_neg h2t]
   by_cases h1t:o1.dst=some t
   ·rw [if_pos h1t,if_pos h1t,spurgeL_id fun q hq=>c1.res q (e2.p q (c2.pgs q hq))]
   ·rw [if_neg h1t,if_neg h1t,spurgeL_comm]
 ·show (k,c)∈bx2++bin z2.h (bx1++bin z1.h bx)↔(k,c)∈bx1++bin z1.h (bx2++bin z2.h bx)
  by_cases k1:k∈z1.m
  ·have n1:=c1.dis k k1
   have k2:=e1.m k k1
   have n2:k ∉ z2.m:=fun hh=>n1 (e2.m k hh)
   have:=c2.rest k c n2
   simp [mem_bin,k2,n1,this]
  ·by_cases k2:k∈z2.m
   ·have n2:=c2.dis k k2
    have:=c1.rest k c k1
    simp [mem_bin,e2.m k k2,n2,this]
   ·have q1:=c1.rest k c k1
    have q2:=c2.rest k c k2
    simp only [List.mem_append,mem_bin,q1,q2]
    by_cases h1k:k∈z1.h <;> by_cases h2k:k∈z2.h <;> simp [h1k,h2k]
theorem GRun.front {ops:Array Oper} {K:SL→Boxes→Prop}:∀ (R1:List (Oper × GI)) {R2:List (Oper × GI)} {y:Oper × GI} {sl:SL} {bx:Boxes},(∀ x,x∈R1→Un ops x y)→GRun P n ops (R1++y::R2) sl bx (KE K)→GRun P n ops (y::(R1++R2)) sl bx (KE K)
 | [],R2,y,sl,bx,_,h=>h
 | x::R1,R2,y,sl,bx,hu,⟨g,r,b,pg,a1,a2,a3,h⟩=>GRun.swap (hu x (by simp)) ⟨g,r,b,pg,a1,a2,a3,GRun.front R1 (fun z hz=>hu z (by simp [hz])) h⟩
theorem St.sub {C:Ctx} {S:Nat→Prop} {w:World} {β:Names} {a:Act} {bx':Boxes} (h:St C n S w β a sl bx)(hs:∀ k c,(k,c)∈bx'→(k,c)∈bx):St C n S w β a sl bx':=⟨h.inv.sub hs,h.size,h.defers,h.slot⟩
theorem GOp.exec {C:Ctx} {S:Nat→Prop} {w:World} {β:Names} {a:Act} {i:GI} {r:SV} {bx':Boxes} {pg:List Nat} (h:GOp P o i true sl bx r bx' pg)(hs:St C n S w β a sl bx)(hd:dstOK n o.dst) :
  o.wpx P a w fun a' w'=>∃ S' β',St C n S' w' β' a' (sput (purgeSl pg sl) o.dst r) (bx'++bin i.h bx):=by
 have ho:=h.yes rfl
 have ha:∀ x,x∈o.op.operands→RepV S w β (opnd (purgeSl i.q sl) x) (a.eval x):=fun x _=>by
  have:=hs.opnd x
  cases x with
  | tmp t =>
   show RepV S w β (sget (purgeSl i.q sl) t) _
   rw [sget_purgeSl]
   rcases spurgeL_or i.q (sget sl t) with ⟨e,_⟩ | ⟨e,_⟩ <;> rw [e]
   ·exact this
   ·exact .undef _
  | _=>exact this
 cases i with
 | none =>
  refine Oper.wpx_mono (ho C S w β a (hs.inv.sub fun k c hk=>(mem_bwo.1 hk).2) ha) ?_
  rintro a' w' ⟨v,S',β',rfl,hi',he,hv,hb⟩
  exact⟨S',β',(hs.put hd hi' he hv hb).sub fun k c hk=>by simpa [GI.h,bin_none] using hk⟩
 | some z =>
  have c:=h.cond z rfl
  refine Oper.wpx_mono (ho.frameG (bin z.h bx) (fun k x hk=>?_) (fun k Y st hk=>?_) (hs.inv.sub fun k x hk=>?_) ha) ?_
  ·obtain⟨k1,k2⟩:=mem_bin.1 hk
   have km:k ∉ z.m:=fun hm=>c.dis k hm k1
   exact⟨(c.hid k x k1 k2).1,fun hp=>km (c.pm k (c.pgs k hp)),(c.hid k x k1 k2).2,fun y hy=>(mem_bwo.1 hy).1 k1,fun y hy=>((c.rest k y km).1 hy).1 k1⟩
  ·by_cases hm:k∈z.m
   ·have:=(c.new k _ hm hk).1;simp [BoxC.real] at this
   ·exact mem_bwo.2 ((c.rest k _ hm).1 hk)
  ·rcases List.mem_append.1 hk with hk | hk
   ·exact (mem_bin.1 hk).2
   ·exact (mem_bwo.1 hk).2
  rintro a' w' ⟨v,S',β',rfl,hi',he,hv,hb⟩
  exact⟨S',β',(hs.put hd hi' he hv hb).sub fun k c hk=>List.mem_append.2 (List.mem_append.1 hk).symm⟩
def gUn (ops:Array Oper)(x y:Oper × GI):Bool:=match x.2,y.2 with
 | some z1,some z2=>(match x.1.dst with | some t=>!(usesOf ops y.1).contains t && y.1.dst != some t | none=>true) && (match y.1.dst with | some t=>!(usesOf ops x.1).contains t | none=>true) && z1.m.all (fun k=>z2.h.contains k) && z2.m.all (fun k=>z1.h.contains k) && z1.p.all (fun k=>z2.q.contains k) && z2.p.all (fun k=>z1.q.contains k)
 | _,_=>false
theorem gUn_spec {ops:Array Oper} {x y:Oper × GI} (h:gUn ops x y=true):Un ops x y:=by
 unfold gUn at h
 split at h
 ·rename_i z1 z2 q1 q2
  simp only [Bool.and_eq_true,List.all_eq_true,List.contains_iff_mem] at h
  obtain⟨⟨⟨⟨⟨g1,g2⟩,g3⟩,g4⟩,g5⟩,g6⟩:=h
  refine⟨fun t ht=>?_,fun t ht=>?_,fun t ht=>?_,z1,z2,q1,q2,⟨g3,g5⟩,⟨g4,g6⟩⟩
  ·rw [ht] at g1;simp at g1;exact g1.1
  ·rw [ht] at g2;simpa using g2
  ·rw [ht] at g1;simp at g1;exact g1.2
 ·cases h
def gAt (ops:Array Oper)(is:Nat→GI)(j:Nat):Oper × GI:=(ops.getD j default,is j)
def gOK (ops:Array Oper)(is:Nat→GI)(B:Array Nat):Bool :=
 ((List.range ops.size).all fun i=>(ops.getD i default).after.toList.all fun e=>!Region.binds .any e || decide (e.on < i)) &&
 ((List.range ops.size).all fun i=>(List.range ops.size).all fun j=>!(B.getD i 0).testBit j || ((ops.getD i default).after.toList.any fun e=>Region.binds .any e && (e.on == j || (B.getD e.on 0).testBit j))) &&
 ((List.range ops.size).all fun i=>(List.range i).all fun j=>(B.getD i 0).testBit j || gUn ops (gAt ops is j) (gAt ops is i))
structure GOK (ops:Array Oper)(is:Nat→GI):Prop where
 back:∀ (i:Nat) (o:Oper),ops[i]? = some o→∀ e,e∈o.after→Region.binds .any e=true→e.on < i
 un:∀ (X:Nat→Prop),(∀ (i:Nat) (o:Oper),ops[i]? = some o→X i→∀ e,e∈o.after→Region.binds .any e=true→X e.on) →
  ∀ (i:Nat) (o:Oper),ops[i]? = some o→(∀ e,e∈o.after→Region.binds .any e=true→X e.on)→∀ j,j < i→¬ X j→Un ops (gAt ops is j) (gAt ops is i)
theorem gOK_spec {ops:Array Oper} {is:Nat→GI} {B:Array Nat} (h:gOK ops is B=true):GOK ops is:=by
 unfold gOK at h
 simp only [Bool.and_eq_true,List.all_eq_true,List.mem_range,Bool.or_eq_true,Bool.not_eq_true',Array.mem_toList_iff,decide_eq_true_eq] at h
 obtain⟨⟨h2,h5⟩,h6⟩:=h
 have hget:∀ {i:Nat} {o:Oper},ops[i]? = some o→i < ops.size∧ops.getD i default=o:=by
  intro i o ho
  obtain⟨hlt,he⟩:=Array.getElem?_eq_some_iff.1 ho
  exact⟨hlt,by simp [Array.getD,hlt,he]⟩
 have hback:∀ (i:Nat) (o:Oper),ops[i]? = some o→∀ e,e∈o.after→Region.binds .any e=true→e.on < i:=by
  intro i o ho e he hb
  obtain⟨hlt,hgo⟩:=hget ho
  rcases h2 i hlt e (by rw [hgo];exact he) with h | h
  ·rw [hb] at h;simp at h
  ·exact h
 refine⟨hback,?_⟩
 intro X hX i o ho hpre j hj hnX
 have key:∀ (k i:Nat) (o:Oper),i≤k→ops[i]? = some o→(∀ e,e∈o.after→Region.binds .any e=true→X e.on)→∀ j,j < ops.size→(B.getD i 0).testBit j=true→X j:=by
  intro k
  induction k with
  | zero =>
   intro i o hik ho hpre j hj hb
   obtain⟨hlt,hgo⟩:=hget ho
   have:=(h5 i hlt j hj).resolve_left (by rw [hb];simp)
   rw [List.any_eq_true] at this
   obtain⟨e,he,hbe⟩:=this
   rw [hgo] at he
   simp only [Bool.and_eq_true,Bool.or_eq_true,beq_iff_eq] at hbe
   have:=hback i o ho e (by simpa using he) hbe.1
   omega
  | succ k ih =>
   intro i o hik ho hpre j hj hb
   obtain⟨hlt,hgo⟩:=hget ho
   have:=(h5 i hlt j hj).resolve_left (by rw [hb];simp)
   rw [List.any_eq_true] at this
   obtain⟨e,he,hbe⟩:=this
   rw [hgo] at he
   simp only [Bool.and_eq_true,Bool.or_eq_true,beq_iff_eq] at hbe
   have hxe:=hpre e (by simpa using he) hbe.1
   rcases hbe.2 with h | h
   ·rw [← h];exact hxe
   ·have hlt':=hback i o ho e (by simpa using he) hbe.1
    have heo:ops[e.on]? = some ops[e.on]:=Array.getElem?_eq_getElem (by omega)
    exact ih e.on ops[e.on] (by omega) heo (fun e' he' hb'=>hX e.on _ heo hxe e' he' hb') j hj h
 obtain⟨hlt,hgo⟩:=hget ho
 rcases h6 i hlt j hj with h | h
 ·exact absurd (key i i o (Nat.le_refl _) ho hpre j (by omega) h) hnX
 ·exact gUn_spec h
theorem draw_gen {C:Ctx} {ops:Array Oper} {is:Nat→GI} {QQ:Exit→Act→World→Prop} {K:SL→Boxes→Prop} (hd:GOK ops is)(hdst:∀ o,o∈ops.toList→dstOK n o.dst)(hnd:∀ o,o∈ops.toList→notDefer o=true)
  (hK:∀ sl bx S w β a,K sl bx→St C n S w β a sl bx→QQ .normal a w) :
  ∀ (fuel:Nat) (listed:Array Bool) (a:Act) (w:World),listed.size=ops.size→left ops.size listed≤fuel →
   (∀ (i:Nat) (o:Oper),ops[i]? = some o→listed.getD i false=true→∀ e,e∈o.after→Region.binds .any e=true→listed.getD e.on false=true) →
   (∃ (L:List Nat) (sl:SL) (bx:Boxes) (S:Nat→Prop) (β:Names),L.Pairwise (· < ·)∧(∀ j,j∈L↔j < ops.size∧listed.getD j false=false)∧GRun P n ops (L.map (gAt ops is)) sl bx (KE K)∧St C n S w β a sl bx) →
   wpAnyIn (FW ro) 0 P .any ops QQ fuel listed a w:=by
 have hfin:∀ (listed:Array Bool) (a:Act) (w:World),(∀ i,i < ops.size→listed.getD i false=true) →
   (∃ (L:List Nat) (sl:SL) (bx:Boxes) (S:Nat→Prop) (β:Names),L.Pairwise (· < ·)∧(∀ j,j∈L↔j < ops.size∧listed.getD j false=false)∧GRun P n ops (L.map (gAt ops is)) sl bx (KE K)∧St C n S w β a sl bx)→QQ .normal a w:=by
  rintro listed a w hall ⟨L,sl,bx,S,β,_,hL,hR,hs⟩
  have:L=[]:=List.eq_nil_iff_forall_not_mem.2 fun j hj=>by
   obtain⟨h1,h2⟩:=(hL j).1 hj
   rw [hall j h1] at h2;cases h2
  subst this
  obtain⟨sl',bx',h1,h2,h3⟩:=hR
  exact hK sl' bx' S w β a h1 ⟨hs.inv.sub fun k c hk=>(h3 k c).2 hk,hs.size,hs.defers,fun t=>h2 t ▸ hs.slot t⟩
 have hall_of_ready:∀ listed:Array Bool,listed.size=ops.size→Region.ready .any ops listed=[]→∀ i,i < ops.size→listed.getD i false=true:=by
  intro listed hs hr i
  induction i using Nat.strongRecOn with
  | _ i ih =>
   intro hi
   cases hl:listed.getD i false with
   | true=>rfl
   | false =>
    exfalso
    have:i∈Region.ready .any ops listed:=by
     rw [mem_ready]
     refine⟨?_,ops[i],Array.getElem?_eq_getElem hi,fun e he hb=>?_⟩
     ·have hi':i < listed.size:=by omega
      simp [Array.getD,hi'] at hl ⊢;exact hl
     ·have hlt:=hd.back i _ (Array.getElem?_eq_getElem hi) e he hb
      exact ih e.on hlt (by omega)
    rw [hr] at this;simp at this
 intro fuel
 induction fuel with
 | zero =>
  intro listed a w hs hleft hdown hinv
  have hall:∀ i,i < ops.size→listed.getD i false=true:=by
   intro i hi
   cases hl:listed.getD i false with
   | true=>rfl
   | false =>
    exfalso
    have:0 < left ops.size listed:=by
     unfold left
     rw [List.countP_pos_iff]
     exact⟨i,List.mem_range.2 hi,by simp [hl]⟩
    omega
  have hready:Region.ready .any ops listed=[]:=by
   rw [List.eq_nil_iff_forall_not_mem]
   intro i hi
   rw [mem_ready] at hi
   obtain⟨h1,o,ho,_⟩:=hi
   have hlt:=(Array.getElem?_eq_some_iff.1 ho).1
   have:=hall i hlt
   have hi':i < listed.size:=by omega
   simp [Array.getD,hi'] at this h1
   rw [this] at h1;simp at h1
  exact⟨hready,hfin listed a w hall hinv⟩
 | succ fuel ih =>
  intro listed a w hs hleft hdown hinv
  refine⟨fun hready=>hfin listed a w (hall_of_ready listed hs hready) hinv,?_⟩
  intro i hi
  rw [mem_ready] at hi
  obtain⟨hnot,o,ho,hpre⟩:=hi
  have hilt:i < ops.size:=(Array.getElem?_eq_some_iff.1 ho).1
  have hil:i < listed.size:=by omega
  have hnot':listed.getD i false=false:=by simp [Array.getD,hil] at hnot ⊢;exact hnot
  have hleft':left ops.size (listed.setIfInBounds i true)≤fuel:=by have:=left_set hs hilt hnot';omega
  have hX':∀ j,(listed.setIfInBounds i true).getD j false=true↔(j=i∨listed.getD j false=true):=by
   intro j
   by_cases hj:i=j
   ·subst hj;simp [hil]
   ·rw [getD_set_ne false hj];simp [Ne.symm hj]
  have hdown':∀ (k:Nat) (o':Oper),ops[k]? = some o'→(listed.setIfInBounds i true).getD k false=true→∀ e,e∈o'.after→Region.binds .any e=true→(listed.setIfInBounds i true).getD e.on false=true:=by
   intro k o' ho' hk e he hb
   rw [hX'] at hk ⊢
   rcases hk with rfl | hk
   ·rw [ho] at ho';simp only [Option.some.injEq] at ho';subst ho'
    exact .inr (hpre e he hb)
   ·exact .inr (hdown k o' ho' hk e he hb)
  have hmemo:o∈ops.toList:=by have:=Array.mem_of_getElem? ho;simpa using this
  have hgo:ops.getD i default=o:=by simp [Array.getD,hilt,(Array.getElem?_eq_some_iff.1 ho).2]
  simp only [wpOpIn,ho]
  obtain⟨L,sl,bx,S,β,hp,hL,hR,hst⟩:=hinv
  obtain⟨R1,R2,rfl⟩:=List.append_of_mem ((hL i).2 ⟨hilt,hnot'⟩)
  rw [List.map_append,List.map_cons] at hR
  have hp2:=List.pairwise_append.1 hp
  have hp3:=List.pairwise_cons.1 hp2.2.1
  obtain⟨g,r,bx',pg,a1,a2,a3,hrun⟩:=GRun.front _ (fun x hx=>by
   obtain⟨j,hj,rfl⟩:=List.mem_map.1 hx
   exact hd.un (fun j=>listed.getD j false=true) hdown i o ho hpre j (hp2.2.2 j hj i (by simp)) (by rw [((hL j).1 (by simp [hj])).2];simp)) hR
  rw [show (gAt ops is i).1=o from hgo] at a1 a2 a3 hrun
  rw [← List.map_append] at hrun
  have hnext:∀ (S':Nat→Prop) (β':Names) (a':Act) (w':World),St C n S' w' β' a' (sput (purgeSl pg sl) o.dst r) (bx'++bin (gAt ops is i).2.h bx)→wpAnyIn (FW ro) 0 P .any ops QQ fuel (listed.setIfInBounds i true) a' w':=fun S' β' a' w' hs' =>
   ih _ _ _ (by simpa using hs) hleft' hdown' ⟨R1++R2,_,_,S',β',hp.sublist ((List.Sublist.refl R1).append (List.sublist_cons_self i R2)),fun j=>by
    have hji:j∈R1++R2→j≠i:=fun hj he=>by
     subst he
     rcases List.mem_append.1 hj with h | h
     ·exact absurd (hp2.2.2 j h j (by simp)) (Nat.lt_irrefl _)
     ·exact absurd (hp3.1 j h) (Nat.lt_irrefl _)
    have h1:j∈R1++i::R2↔j=i∨j∈R1++R2:=by simp only [List.mem_append,List.mem_cons];constructor <;> intro h <;> rcases h with h | h | h <;> simp [h]
    have h2:=hL j
    rw [h1] at h2
    rw [← Bool.not_eq_true,hX',not_or,Bool.not_eq_true]
    constructor
    ·exact fun hj=>⟨(h2.1 (.inr hj)).1,hji hj,(h2.1 (.inr hj)).2⟩
    ·exact fun hj=>(h2.2 ⟨hj.1,hj.2.2⟩).resolve_left hj.2.1,hrun,hs'⟩
  have hw:=guard_rep (a:=a) (S:=S) (w:=w) (β:=β) (fun t ht=>by
   obtain⟨j,want,_,hj⟩:=ht
   exact⟨hst.slot t,by rw [hst.size];exact dst_lt_of_gslot hdst hj⟩) a1
  rw [hw]
  cases g with
  | true =>
   simp only [if_true]
   refine Oper.wpIn_ofQ (hnd o hmemo) (a3.exec hst a2) ?_
   rintro a' w' ⟨S',β',hs'⟩
   exact hnext S' β' a' w' hs'
  | false =>
   simp only [Bool.false_eq_true,if_false]
   obtain⟨rfl,rfl,hb⟩:=a3.no rfl
   refine⟨fun _ _=>trivial,hnext S β _ _ ?_⟩
   refine (hst.put (pg:=[]) a2 hst.inv (SExt.refl S w) (.tuple [] [] rfl (by simp)) (fun _ _=>rfl)).sub fun k c hk=>?_
   rcases List.mem_append.1 hk with hk | hk
   ·exact (mem_bwo.1 ((hb k c).1 hk)).2
   ·exact (mem_bin.1 hk).2
theorem AWp.regionG {id:Nat} {ops:Array Oper} (is:Nat→GI)(B:Array Nat)(ks:List Nat)(hm:P.follows .mixedOrders=true)(hc:gOK ops is B=true)(hd:dstsOK n ops.toList=true)
  (h:GRun P n ops ((List.range ops.size).map (gAt ops is)) sl bx (KE fun sl' bx'=>Q .normal (keepSl ks sl') (keepBx ks bx'))):AWp ro P n (.region id ops true) Q sl bx:=by
 intro C S w β a hs
 refine wpIn_region_any hm ?_
 refine draw_gen (P:=P) (gOK_spec hc) (dstsOK_spec hd) (dstsOK_nd hd) (fun sl' bx' S' w' β' a' hK hs'=>⟨_,_,S',β',hK,hs'.keep ks ks⟩) ops.size _ a _ (by simp) ?_ ?_ ⟨List.range ops.size,sl,bx,S,β,List.pairwise_lt_range,fun j=>?_,h,?_⟩
 ·unfold left
  exact Nat.le_trans (List.countP_le_length) (by simp)
 ·intro i o ho hx
  simp [Array.getD] at hx
 ·simp only [List.mem_range,Array.getD]
  constructor
  ·intro hj;exact⟨hj,by simp⟩
  ·exact fun hj=>hj.1
 ·exact⟨(hs.inv.grow (w':={ w with drawn:=w.drawn+1 }) (fun _ h=>h) (fun _ h=>.inl h) hs.inv.Slt (fun _ _=>rfl) rfl rfl rfl (Nat.le_refl _)).1,hs.size,hs.defers.ext ⟨fun _ h=>h,fun _ _=>rfl⟩,fun t=>(hs.slot t).ext ⟨fun _ h=>h,fun _ _=>rfl⟩ (fun _ _=>rfl)⟩
def hdI:List GInfo→GInfo
 | []=>⟨[],[],[],[]⟩
 | z::_=>z
def clrV:List Nat→SV→Bool
 | [],_=>true
 | k::r,x=>!x.has k && clrV r x
def clrC:List Nat→BoxC→Bool
 | [],_=>true
 | k::r,x=>!x.has k && clrC r x
def clrB (m h:List Nat):Boxes→Bool
 | []=>true
 | (k,c)::r=>(!memN k m || (c.real && clrC h c)) && clrB m h r
def subN:List Nat→List Nat→Bool
 | [],_=>true
 | k::r,m=>memN k m && subN r m
def disN:List Nat→List Nat→Bool
 | [],_=>true
 | k::r,m=>!memN k m && disN r m
theorem clrV_spec {x:SV}:∀ {h:List Nat},clrV h x=true→∀ q,q∈h→x.has q=false
 | [],_,q,hq=>by simp at hq
 | k::r,e,q,hq=>by
  simp only [clrV,Bool.and_eq_true,Bool.not_eq_true'] at e
  rcases List.mem_cons.1 hq with rfl | hq
  ·exact e.1
  ·exact clrV_spec e.2 q hq
theorem clrC_spec {x:BoxC}:∀ {h:List Nat},clrC h x=true→∀ q,q∈h→x.has q=false
 | [],_,q,hq=>by simp at hq
 | k::r,e,q,hq=>by
  simp only [clrC,Bool.and_eq_true,Bool.not_eq_true'] at e
  rcases List.mem_cons.1 hq with rfl | hq
  ·exact e.1
  ·exact clrC_spec e.2 q hq
theorem clrB_spec {m h:List Nat}:∀ {bx:Boxes},clrB m h bx=true→∀ k c,k∈m→(k,c)∈bx→c.real=true∧∀ q,q∈h→c.has q=false
 | [],_,k,c,_,hc=>by simp at hc
 | (j,x)::r,e,k,c,hk,hc=>by
  simp only [clrB,Bool.and_eq_true,Bool.or_eq_true,Bool.not_eq_true'] at e
  rcases List.mem_cons.1 hc with he | hc
  ·simp only [Prod.mk.injEq] at he
   obtain⟨rfl,rfl⟩:=he
   rcases e.1 with h1 | h1
   ·rw [memN_iff.2 hk] at h1;cases h1
   ·exact⟨h1.1,clrC_spec h1.2⟩
  ·exact clrB_spec e.2 k c hk hc
theorem subN_spec {m:List Nat}:∀ {l:List Nat},subN l m=true→∀ k,k∈l→k∈m
 | [],_,k,hk=>by simp at hk
 | j::r,e,k,hk=>by
  simp only [subN,Bool.and_eq_true] at e
  rcases List.mem_cons.1 hk with rfl | hk
  ·exact memN_iff.1 e.1
  ·exact subN_spec e.2 k hk
theorem disN_spec {m:List Nat}:∀ {l:List Nat},disN l m=true→∀ k,k∈l→k ∉ m
 | [],_,k,hk=>by simp at hk
 | j::r,e,k,hk=>by
  simp only [disN,Bool.and_eq_true,Bool.not_eq_true'] at e
  rcases List.mem_cons.1 hk with rfl | hk
  ·exact fun hm=>by rw [memN_iff.2 hm] at e;cases e.1
  ·exact disN_spec e.2 k hk
def gChk (m p h q:List Nat)(bx:Boxes)(r:SV)(bx':Boxes)(pg:List Nat):Prop :=
 disN m h=true∧subN pg p=true∧subN p m=true∧bwo m bx'=bwo m (bwo h bx)∧clrB m q bx=true∧clrB m q bx'=true∧clrV q r=true∧clrB h pg bx=true
theorem gChk.cond {z:GInfo} {r:SV} {bx':Boxes} {pg:List Nat} (c:gChk z.m z.p z.h z.q bx r bx' pg):GCond z bx r bx' pg:=by
 obtain⟨c1,c2,c0,c3,c4,c5,c6,c7⟩:=c
 refine⟨disN_spec c1,subN_spec c2,subN_spec c0,fun k c hk=>?_,clrB_spec c4,clrB_spec c5,clrV_spec c6,clrB_spec c7⟩
 have h1:=mem_bwo (ks:=z.m) (k:=k) (c:=c) (bx:=bx')
 rw [c3,mem_bwo,mem_bwo] at h1
 constructor
 ·exact fun hx=>(h1.2 ⟨hk,hx⟩).2
 ·exact fun hx=>(h1.1 ⟨hk,hx⟩).2
theorem clrB_none (h:List Nat):∀ bx:Boxes,clrB [] h bx=true
 | []=>rfl
 | (k,c)::r=>by rw [clrB,memN,clrB_none h r];rfl
def runG (P:Program)(own:List Nat)(ops:Array Oper):List Oper→List GInfo→SL→Boxes→(SL→Boxes→Prop)→Prop
 | [],_,sl,bx,K=>K sl bx
 | o::os,is,sl,bx,K=>match o.guard with
  | none=>opK P own o.dst (purgeSl (hdI is).q sl) (bwo (hdI is).h bx) o.op fun r bx' pg=>gChk (hdI is).m (hdI is).p (hdI is).h (hdI is).q bx r bx' pg∧runG P own ops os is.tail (sput (purgeSl pg sl) o.dst r) (bx'++bin (hdI is).h bx) K
  | some (j,want)=>match gslot ops j with
   | some t=>match sget sl t with
    | .d (.bool b)=>guardK b want (opK P own o.dst (purgeSl (hdI is).q sl) (bwo (hdI is).h bx) o.op fun r bx' pg=>gChk (hdI is).m (hdI is).p (hdI is).h (hdI is).q bx r bx' pg∧runG P own ops os is.tail (sput (purgeSl pg sl) o.dst r) (bx'++bin (hdI is).h bx) K)
     (gChk (hdI is).m (hdI is).p (hdI is).h (hdI is).q bx (.tuple []) (bwo (hdI is).h bx) []∧runG P own ops os is.tail (sput sl o.dst (.tuple [])) (bwo (hdI is).h bx++bin (hdI is).h bx) K)
    | .tuple []=>gChk (hdI is).m (hdI is).p (hdI is).h (hdI is).q bx (.tuple []) (bwo (hdI is).h bx) []∧runG P own ops os is.tail (sput sl o.dst (.tuple [])) (bwo (hdI is).h bx++bin (hdI is).h bx) K
    | _=>False
   | none=>False
section
variable (P:Program) (own:List Nat) (ops:Array Oper) (os:List Oper) (is:List GInfo) (sl:SL) (bx:Boxes) (dst:Option Nat) (op:Op) (z:GInfo) (m p h q:List Nat) (K:SL→Boxes→Prop)
def restG:KB:=fun r bx' pg=>gChk z.m z.p z.h z.q bx r bx' pg∧runG P own ops os is (sput (purgeSl pg sl) dst r) (bx'++bin z.h bx) K
def opG:Prop:=opK P own dst (purgeSl z.q sl) (bwo z.h bx) op (restG P own ops os is sl bx dst z K)
def skipG:Prop:=gChk z.m z.p z.h z.q bx (.tuple []) (bwo z.h bx) []∧runG P own ops os is (sput sl dst (.tuple [])) (bwo z.h bx++bin z.h bx) K
def gbG (want b:Bool):Prop:=guardK b want (opG P own ops os is sl bx dst op z K) (skipG P own ops os is sl bx dst z K)
def gselG (want:Bool):SV→Prop
 | .d (.bool b)=>gbG P own ops os is sl bx dst op z K want b
 | .tuple []=>skipG P own ops os is sl bx dst z K
 | _=>False
def gslG (want:Bool):Option Nat→Prop
 | some t=>gselG P own ops os is sl bx dst op z K want (sget sl t)
 | none=>False
variable (ty:TypeId) (pos:String) (after:Array Edge)
theorem runG_nil:runG P own ops [] is sl bx K=K sl bx:=by rw [runG]
theorem runG_cons:runG P own ops (⟨dst,op,ty,pos,after,none⟩::os) is sl bx K=opG P own ops os is.tail sl bx dst op (hdI is) K:=by rw [runG];rfl
theorem runG_guard (j:Nat)(want:Bool):runG P own ops (⟨dst,op,ty,pos,after,some (j,want)⟩::os) is sl bx K=gslG P own ops os is.tail sl bx dst op (hdI is) K want (gslot ops j):=by
 rw [runG]
 simp only
 cases gslot ops j with
 | none=>rfl
 | some t =>
  simp only [gslG,gselG]
  split <;> rfl
theorem opG_none:opG P own ops os is sl bx dst op ⟨m,p,[],[]⟩ K=opK P own dst sl bx op (restG P own ops os is sl bx dst ⟨m,p,[],[]⟩ K):=by rw [opG,bwo_none];rfl
theorem opG_some (k:Nat)(h q:List Nat):opG P own ops os is sl bx dst op ⟨m,p,k::h,q⟩ K=opK P own dst (purgeSl q sl) (bwo (k::h) bx) op (restG P own ops os is sl bx dst ⟨m,p,k::h,q⟩ K):=rfl
theorem restG_same (r:SV):restG P own ops os is sl bx dst ⟨[],[],[],[]⟩ K r bx []=runG P own ops os is (sput sl dst r) bx K:=by
 simp only [restG,gChk,disN,subN,clrB_none,clrV,bwo_none,bin_none,List.append_nil,purgeSl,true_and]
theorem restG_app (r:SV)(bx':Boxes)(pg:List Nat):restG P own ops os is sl bx dst ⟨m,p,h,q⟩ K r bx' pg=(gChk m p h q bx r bx' pg∧runG P own ops os is (sput (purgeSl pg sl) dst r) (bx'++bin h bx) K):=rfl
theorem skipG_same:skipG P own ops os is sl bx dst ⟨[],[],[],[]⟩ K=runG P own ops os is (sput sl dst (.tuple [])) bx K:=by
 simp only [skipG,gChk,disN,subN,clrB_none,clrV,bwo_none,bin_none,List.append_nil,true_and]
theorem skipG_app:skipG P own ops os is sl bx dst ⟨m,p,h,q⟩ K=(gChk m p h q bx (.tuple []) (bwo h bx) []∧runG P own ops os is (sput sl dst (.tuple [])) (bwo h bx++bin h bx) K):=rfl
theorem gselG_bool (want b:Bool):gselG P own ops os is sl bx dst op z K want (.d (.bool b))=gbG P own ops os is sl bx dst op z K want b:=rfl
theorem gselG_skip (want:Bool):gselG P own ops os is sl bx dst op z K want (.tuple [])=skipG P own ops os is sl bx dst z K:=rfl
theorem gbG_tt:gbG P own ops os is sl bx dst op z K true true=opG P own ops os is sl bx dst op z K:=by simp [gbG,guardK]
theorem gbG_ff:gbG P own ops os is sl bx dst op z K false false=opG P own ops os is sl bx dst op z K:=by simp [gbG,guardK]
theorem gbG_tf:gbG P own ops os is sl bx dst op z K true false=skipG P own ops os is sl bx dst z K:=by simp [gbG,guardK]
theorem gbG_ft:gbG P own ops os is sl bx dst op z K false true=skipG P own ops os is sl bx dst z K:=by simp [gbG,guardK]
def tailG:SL→Boxes→Prop:=fun sl bx=>runV P own ops os sl bx K
theorem tailG_app:tailG P own ops os K sl bx=runV P own ops os sl bx K:=rfl
end
def zipI:List Oper→List GInfo→List (Oper × GI)
 | [],_=>[]
 | o::os,is=>(o,some (hdI is))::zipI os is.tail
theorem runG_sound {own:List Nat} {ops:Array Oper} {R:List (Oper × GI)} {K K':SL→Boxes→Prop} (hK:∀ sl bx,K sl bx→GRun P n ops R sl bx K'):∀ (os:List Oper)(is:List GInfo)(sl:SL)(bx:Boxes),dstsOK n os=true →
  runG P own ops os is sl bx K→GRun P n ops (zipI os is++R) sl bx K'
 | [],is,sl,bx,_,h=>by rw [runG] at h;exact hK sl bx h
 | o::os,is,sl,bx,hd,h=>by
  simp only [dstsOK,List.all_cons,Bool.and_eq_true] at hd
  rw [runG] at h
  obtain⟨g,h1,h2,h3⟩:=guard_cases h
  have hdo:=dstsOK_spec (n:=n) (ops:=[o]) (by simp [dstsOK,hd.1]) o (by simp)
  cases g with
  | true =>
   obtain⟨r,bx',pg,q1,q2,q3⟩:=opK_sound (h2 rfl)
   exact⟨true,r,bx',pg,h1,hdo,⟨fun _=>q1,(fun h=>by cases h),fun z hz=>by cases hz;exact q2.cond⟩,runG_sound hK os _ _ _ hd.2 q3⟩
  | false =>
   obtain⟨q2,q3⟩:=h3 rfl
   exact⟨false,.tuple [],_,[],h1,hdo,⟨(fun h=>by cases h),fun _=>⟨rfl,rfl,fun _ _=>Iff.rfl⟩,fun z hz=>by cases hz;exact q2.cond⟩,runG_sound hK os _ _ _ hd.2 q3⟩
theorem Run.gen {ops:Array Oper} {K:SL→Boxes→Prop}:∀ (os:List Oper)(sl:SL)(bx:Boxes),Run P n ops os sl bx K→GRun P n ops (os.map fun o=>(o,none)) sl bx (KE K)
 | [],sl,bx,h=>⟨sl,bx,h,fun _=>rfl,fun _ _=>Iff.rfl⟩
 | o::os,sl,bx,⟨g,h1,h2,h3,h4⟩=>by
  cases g with
  | true =>
   obtain⟨r,bx',pg,q1,q2⟩:=h3 rfl
   exact⟨true,r,bx',pg,h1,h2,⟨fun _=>by rw [show GI.h none=[] from rfl,bwo_none];exact q1,(fun h=>by cases h),(fun z hz=>by cases hz)⟩,by rw [show GI.h (o,(none:GI)).2=[] from rfl,bin_none,List.append_nil];exact Run.gen os _ _ q2⟩
  | false=>exact⟨false,.tuple [],bx,[],h1,h2,⟨(fun h=>by cases h),fun _=>⟨rfl,rfl,fun _ _=>by rw [show GI.h none=[] from rfl,bwo_none]⟩,(fun z hz=>by cases hz)⟩,by rw [show GI.h (o,(none:GI)).2=[] from rfl,bin_none,List.append_nil];exact Run.gen os _ _ (h4 rfl)⟩
def infoF (m:Nat)(is:List GInfo)(j:Nat):GI:=if j < m then some (hdI (is.drop j)) else none
theorem zipI_get:∀ (os:List Oper)(is:List GInfo)(j:Nat),(zipI os is)[j]? = (os[j]?).map fun o=>(o,some (hdI (is.drop j)))
 | [],is,j=>by simp [zipI]
 | o::os,is,0=>by simp [zipI]
 | o::os,is,j+1=>by rw [zipI,List.getElem?_cons_succ,zipI_get,List.getElem?_cons_succ];simp
theorem zipI_len:∀ (os:List Oper)(is:List GInfo),(zipI os is).length=os.length
 | [],_=>rfl
 | _::os,is=>by rw [zipI,List.length_cons,zipI_len,List.length_cons]
theorem infos_eq (ops:Array Oper)(m:Nat)(is:List GInfo):(List.range ops.size).map (gAt ops (infoF m is))=zipI (ops.toList.take m) is++(ops.toList.drop m).map fun o=>(o,none):=by
 apply List.ext_getElem?
 intro j
 rw [List.getElem?_map]
 by_cases hj:j < ops.size
 ·have hr:(List.range ops.size)[j]? = some j:=by rw [List.getElem?_range hj]
  have ho:ops.toList[j]? = some (ops.getD j default):=by simp [Array.getD,hj]
  rw [hr,Option.map_some]
  unfold gAt infoF
  by_cases hm:j < m
  ·rw [if_pos hm,List.getElem?_append_left (by rw [zipI_len];simp;omega),zipI_get,List.getElem?_take,if_pos hm,ho];rfl
  ·rw [if_neg hm,List.getElem?_append_right (by rw [zipI_len];simp;omega),zipI_len,List.getElem?_map,List.getElem?_drop,show m+(j - (ops.toList.take m).length)=j by simp;omega,ho];rfl
 ·rw [List.getElem?_eq_none (by simp;omega),List.getElem?_eq_none (by simp [zipI_len];omega)];rfl
theorem AWp.regG {id:Nat} {ops:Array Oper} (ks own:List Nat)(m:Nat)(is:List GInfo)(hm:P.follows .mixedOrders=true)(hc:gOK ops (infoF m is) (Region.before ops)=true)(hd:dstsOK n ops.toList=true)
  (h:runG P own ops (ops.toList.take m) is sl bx (tailG P own ops (ops.toList.drop m) (keepK ks (Q .normal)))):AWp ro P n (.region id ops true) Q sl bx:=by
 have hd1:dstsOK n (ops.toList.take m)=true:=by
  unfold dstsOK at *;rw [List.all_eq_true] at *;exact fun o ho=>hd o (List.mem_of_mem_take ho)
 have hd2:dstsOK n (ops.toList.drop m)=true:=by
  unfold dstsOK at *;rw [List.all_eq_true] at *;exact fun o ho=>hd o (List.mem_of_mem_drop ho)
 refine AWp.regionG _ _ ks hm hc hd ?_
 rw [infos_eq]
 exact runG_sound (fun sl1 bx1 h=>(runV_sound _ _ _ hd2 h).gen) _ _ _ _ hd1 h
theorem AWp.seqG {id:Nat} {ops:Array Oper} {y:Code} (ks own:List Nat)(m:Nat)(is:List GInfo)(hm:P.follows .mixedOrders=true)(hc:gOK ops (infoF m is) (Region.before ops)=true)(hd:dstsOK n ops.toList=true)
  (h:∀ K:SL→Boxes→Prop,(∀ sl' bx',AWp ro P n y Q sl' bx'→K sl' bx')→runG P own ops (ops.toList.take m) is sl bx (tailG P own ops (ops.toList.drop m) (keepK ks K))):AWp ro P n (.seq (.region id ops true) y) Q sl bx :=
 AWp.seq (AWp.regG ks own m is hm hc hd (h _ fun _ _ h=>h))
theorem AWp.lastG {id:Nat} {ops:Array Oper} (ks own:List Nat)(m:Nat)(is:List GInfo)(hm:P.follows .mixedOrders=true)(hc:gOK ops (infoF m is) (Region.before ops)=true)(hd:dstsOK n ops.toList=true)
  (h:∀ K:SL→Boxes→Prop,(∀ sl' bx',Q .normal sl' bx'→K sl' bx')→runG P own ops (ops.toList.take m) is sl bx (tailG P own ops (ops.toList.drop m) (keepK ks K))):AWp ro P n (.region id ops true) Q sl bx :=
 AWp.regG ks own m is hm hc hd (h _ fun _ _ h=>h)
end Go.Abs
