/- Drawn regions whose first operations may also make boxes. Own framework. -/
import Derived.Test.YtdohpbjgaaneeaaGreatDoorQAb7
set_option linter.unusedVariables false
set_option linter.unusedSimpArgs false
namespace Go.Abs
open Go
variable {ro:Option Nat} {P:Program} {n:Nat} {Q:Exit→SL→Boxes→Prop} {sl:SL} {bx:Boxes} {o:Oper} {ρ:Rho}
theorem OpT.frameL {r:SV} {add:Boxes} {pg:List Nat} (h:OpT P o ρ bx r (add++bx) pg)(F:Boxes)(hF:∀ k c,(k,c)∈F→c.real=true∧k ∉ pg∧(∀ q,c.has q=true→q ∉ pg)∧∀ x,(k,x) ∉ add++bx)
  (hadd:∀ k c,(k,c)∈add→c.real=true):∀ (C:Ctx) (S:Nat→Prop) (w:World) (β:Names) (a:Act),Inv C S w β (F++bx)→(∀ x,x∈o.op.operands→RepV S w β (ρ x) (a.eval x)) →
  o.wpx P a w (fun a' w'=>∃ v S' β',a'=a.put o.dst v∧Inv C S' w' β' (F++(add++bx))∧SExt S w S' w'∧RepV S' w' β' r v∧∀ k,k ∉ pg→β' k = β k):=by
 intro C S w β a hi ha
 have hmem:∀ {j:Nat} {x:BoxC},(j,x)∈bx→(j,x)∈F++bx:=fun h=>List.mem_append.2 (.inr h)
 have hmF:∀ {j:Nat} {x:BoxC},(j,x)∈F→(j,x)∈F++bx:=fun h=>List.mem_append.2 (.inl h)
 have hne:∀ {j:Nat} {x:BoxC} {b:Nat},(j,x)∈bx→(β j).base=some b→¬ bases β F b:=fun hj h1 ⟨k,c,hk,hb⟩=>by
  obtain⟨rfl,_⟩:=hi.inj _ _ _ _ (hmF hk) (hmem hj) _ hb h1
  exact (hF _ _ hk).2.2.2 _ (List.mem_append.2 (.inr hj))
 have hi':Inv ⟨w,S,fun b=>¬ S b∧(C.pre b∨C.w0.heap.size≤b)∧¬ bases β F b,C.fixd,C.G⟩ S w β bx:={
  S0sub:=fun _ hb=>hb,Snew:=fun _ hb=>.inl hb,Slt:=hi.Slt,kept:=fun _ _ _=>rfl,os:=rfl,tape:=rfl,output:=rfl,size:=Nat.le_refl _,
  box:=fun j x hj=>hi.box j x (hmem hj)
  priv:=fun j x hj b hb=>⟨(hi.priv j x (hmem hj) b hb).1,(hi.priv j x (hmem hj) b hb).2.1,.inl ⟨(hi.priv j x (hmem hj) b hb).1,(hi.priv j x (hmem hj) b hb).2.2,hne hj hb⟩⟩
  inj:=fun j x j' x' hj hj'=>hi.inj j x j' x' (hmem hj) (hmem hj')
  tab:=hi.tab
  one:=fun j Y st j' Y' st' hj hj'=>hi.one j Y st j' Y' st' (hmem hj) (hmem hj')
  frn:=fun j Y st hj=>by
   obtain⟨h1,h2,h3,h4,B,h5,h6⟩:=hi.frn j Y st (hmem hj)
   exact⟨h1,h2,Nat.le_trans h3 hi.size,fun k' c' hk'=>h4 k' c' (hmem hk'),B,h5,fun b hb=>⟨(h6 b hb).1,(h6 b hb).2.1,.inl ⟨(h6 b hb).1,(h6 b hb).2.2.1,fun⟨k,c,hk,hb'⟩=>(h6 b hb).2.2.2 k c (hmF hk) hb'⟩,fun k' c' hk'=>(h6 b hb).2.2.2 k' c' (hmem hk')⟩⟩
  fix:=hi.fix }
 refine Oper.wpx_mono (h _ S w β a hi' ha) ?_
 rintro a' w' ⟨v,S',β',rfl,hI,he,hv,hb⟩
 have hsz:w.heap.size≤w'.heap.size:=hI.size
 have hcsz:=hi.size
 have hFb:∀ k c,(k,c)∈F→β' k = β k:=fun k c hk=>hb k (hF k c hk).2.1
 have hFlt:∀ k c b,(k,c)∈F→(β k).base=some b→b < w.heap.size:=fun k c b hk hb'=>(hi.priv k c (hmF hk) b hb').2.1
 have hsep:∀ k c k' c' b,(k,c)∈F→(k',c')∈add++bx→(β k).base=some b→(β' k').base≠some b:=fun k c k' c' b hk hk' h1 h2=>by
  rcases (hI.priv k' c' hk' b h2).2.2 with h | h
  ·exact h.2.2 ⟨k,c,hk,h1⟩
  ·have:=hFlt k c b hk h1;simp only at h;omega
 have hcase:∀ k c,(k,c)∈F++(add++bx)→(k,c)∈F∨(k,c)∈add++bx:=fun k c hm=>List.mem_append.1 hm
 have hgh:∀ k Y st,(k,BoxC.ghost Y st)∈F++(add++bx)→(k,BoxC.ghost Y st)∈bx:=fun k Y st hm=>by
  rcases hcase _ _ hm with hm | hm
  ·have:=(hF _ _ hm).1;simp [BoxC.real] at this
  ·rcases List.mem_append.1 hm with hm | hm
   ·have:=hadd _ _ hm;simp [BoxC.real] at this
   ·exact hm
 refine⟨v,S',β',rfl,?_,he,hv,hb⟩
 exact {
  S0sub:=fun b hb'=>hI.S0sub b (hi.S0sub b hb')
  Snew:=fun b hb'=>by
   rcases hI.Snew b hb' with h | h | h
   ·exact hi.Snew b h
   ·exact .inr h.2.1
   ·exact .inr (.inr (Nat.le_trans hi.size h))
  Slt:=hI.Slt
  kept:=fun b hb' hp=>by
   refine (hI.kept b (Nat.lt_of_lt_of_le hb' hi.size) ?_).trans (hi.kept b hb' hp)
   rintro⟨_,h | h,_⟩
   ·exact hp h
   ·omega
  os:=hI.os.trans hi.os
  tape:=hI.tape.trans hi.tape
  output:=hI.output.trans hi.output
  size:=Nat.le_trans hi.size hI.size
  box:=fun j x hj=>by
   rcases hcase j x hj with hj | hj
   ·rw [hFb j x hj]
    exact (hi.box j x (hmF hj)).ext he (fun b hb'=>hI.kept b (hFlt j x b hj hb') fun h=>h.2.2 ⟨j,x,hj,hb'⟩) (fun q hq=>hb q ((hF j x hj).2.2.1 q hq))
   ·exact hI.box j x hj
  priv:=fun j x hj b hb'=>by
   rcases hcase j x hj with hj | hj
   ·rw [hFb j x hj] at hb'
    obtain⟨g1,g2,g3⟩:=hi.priv j x (hmF hj) b hb'
    refine⟨fun hs=>?_,Nat.lt_of_lt_of_le g2 hI.size,g3⟩
    rcases hI.Snew b hs with h | h | h
    ·exact g1 h
    ·exact h.2.2 ⟨j,x,hj,hb'⟩
    ·simp only at h;omega
   ·refine⟨(hI.priv j x hj b hb').1,(hI.priv j x hj b hb').2.1,?_⟩
    rcases (hI.priv j x hj b hb').2.2 with h | h
    ·exact h.2.1
    ·exact .inr (Nat.le_trans hi.size h)
  inj:=fun j x j' x' hj hj' b h1 h2=>by
   rcases hcase j x hj with hj | hj
   ·rw [hFb j x hj] at h1
    rcases hcase j' x' hj' with hj' | hj'
    ·rw [hFb j' x' hj'] at h2
     exact hi.inj j x j' x' (hmF hj) (hmF hj') b h1 h2
    ·exact absurd h2 (hsep j x j' x' b hj hj' h1)
   ·rcases hcase j' x' hj' with hj' | hj'
    ·rw [hFb j' x' hj'] at h2
     exact absurd h1 (hsep j' x' j x b hj' hj h2)
    ·exact hI.inj j x j' x' hj hj' b h1 h2
  tab:=hI.tab
  one:=fun j Y st j' Y' st' hj hj'=>hi.one j Y st j' Y' st' (hmem (hgh _ _ _ hj)) (hmem (hgh _ _ _ hj'))
  frn:=fun j Y st hj=>by
   have hj0:=hgh _ _ _ hj
   obtain⟨h1,h2,_,h4,B,h5,h6⟩:=hI.frn j Y st (List.mem_append.2 (.inr hj0))
   obtain⟨_,_,f3,f4,_⟩:=hi.frn j Y st (hmem hj0)
   refine⟨h1,h2,f3,fun k' c' hk' b hb'=>?_,B,h5,fun b hb'=>⟨(h6 b hb').1,(h6 b hb').2.1,?_,fun k' c' hk' hbase=>?_⟩⟩
   ·rcases hcase k' c' hk' with hk' | hk'
    ·rw [hFb k' c' hk'] at hb';exact f4 k' c' (hmF hk') b hb'
    ·exact h4 k' c' hk' b hb'
   ·rcases (h6 b hb').2.2.1 with h | h
    ·exact h.2.1
    ·exact .inr (Nat.le_trans hi.size h)
   ·rcases hcase k' c' hk' with hk' | hk'
    ·rw [hFb k' c' hk'] at hbase
     rcases (h6 b hb').2.2.1 with h | h
     ·exact h.2.2 ⟨k',c',hk',hbase⟩
     ·have:=hFlt k' c' b hk' hbase;simp only at h;omega
    ·exact (h6 b hb').2.2.2 k' c' hk' hbase
  fix:=hI.fix }
def execB (adds:Nat→Boxes)(m:Nat)(L:Nat→Bool):Boxes:=(List.range m).flatMap fun i=>if L i then adds i else []
variable {k:Nat}
theorem mem_execB {adds:Nat→Boxes} {m:Nat} {L:Nat→Bool} {c:BoxC} :(k,c)∈execB adds m L↔∃ i,i < m∧L i=true∧(k,c)∈adds i:=by
 simp only [execB,List.mem_flatMap,List.mem_range]
 constructor
 ·rintro⟨i,h1,h2⟩
  split at h2
  ·exact⟨i,h1,by assumption,h2⟩
  ·simp at h2
 ·rintro⟨i,h1,h2,h3⟩
  exact⟨i,h1,by rw [if_pos h2];exact h3⟩
variable {ops:Array Oper}
theorem draw_add {C:Ctx} {m:Nat} {adds:Nat→Boxes} {pgs:Nat→List Nat} {QQ:Exit→Act→World→Prop} {fs:List SV} {sls:List SL} {K:SL→Boxes→Prop} (hd:DrawOK ops m)(hdst:∀ o,o∈ops.toList→dstOK n o.dst)(hnd:∀ o,o∈ops.toList→notDefer o=true)
  (hK:∀ sl bx S w β a,K sl bx→St C n S w β a sl bx→QQ .normal a w) (h0:sls[0]? = some sl)
  (hy:∀ (i:Nat) (o:Oper),i < m→ops[i]? = some o→∃ s f,sls[i]? = some s∧fs[i]? = some f∧((Yield P ops s bx o f∧adds i=[]∧pgs i=[])∨(o.guard=none∧OpT P o (opnd s) bx f (adds i++bx) (pgs i)))∧sls[i+1]? = some (sput s o.dst f))
  (hsep:∀ i j,i < m→j < m→i≠j→∀ k c,(k,c)∈adds i→k ∉ pgs j∧(∀ q,c.has q=true→q ∉ pgs j)∧∀ x,(k,x) ∉ adds j)
  (hreal:∀ i,i < m→∀ k c,(k,c)∈adds i→c.real=true∧∀ x,(k,x) ∉ bx)
  (hval:∀ (i j:Nat) (o:Oper) (f:SV),i < m→j < m→i≠j→ops[i]? = some o→fs[i]? = some f→o.dst≠none→∀ q,f.has q=true→q ∉ pgs j)
  (hsl:∀ (j:Nat) (o:Oper) (t:Nat),j < m→ops[j]? = some o→o.dst≠some t→∀ q,(sget sl t).has q=true→q ∉ pgs j)
  (hend:∃ e,sls[m]? = some e∧Run P n ops (ops.toList.drop m) e (execB adds m (fun _=>true)++bx) K) :
  ∀ (fuel:Nat) (listed:Array Bool) (a:Act) (w:World),listed.size=ops.size→left ops.size listed≤fuel →
   (∀ (i:Nat) (o:Oper),ops[i]? = some o→listed.getD i false=true→∀ e,e∈o.after→Region.binds .any e=true→listed.getD e.on false=true) →
   (((∀ i,listed.getD i false=true→i < m)∧∃ S β,Inv C S w β (execB adds m (fun i=>listed.getD i false)++bx)∧a.tmps.size=n∧Marks C S w a.defers∧∀ t x,Cur ops fs sl (fun i=>listed.getD i false=true) t x→RepV S w β x (a.tmps.getD t undef)) ∨
    (∃ j,m≤j∧j≤ops.size∧(∀ i,listed.getD i false=true↔i < j)∧∃ sl' bx' S β,St C n S w β a sl' bx'∧Run P n ops (ops.toList.drop j) sl' bx' K)) →
   wpAnyIn (FW ro) 0 P .any ops QQ fuel listed a w:=by
 have hyA:∀ (i:Nat) (o:Oper),i < m→ops[i]? = some o→∃ s f,sls[i]? = some s∧fs[i]? = some f∧sls[i+1]? = some (sput s o.dst f):=by
  intro i o hi ho
  obtain⟨s,f,a1,a2,_,a3⟩:=hy i o hi ho;exact⟨s,f,a1,a2,a3⟩
 have htext:=cur_text (fs:=fs) (sls:=sls) (sl:=sl) hd h0 hyA
 have conv:∀ (listed:Array Bool) (a:Act) (w:World),(∀ i,listed.getD i false=true→i < m)→(∀ i,i < m→listed.getD i false=true)→(∃ S β,Inv C S w β (execB adds m (fun i=>listed.getD i false)++bx)∧a.tmps.size=n∧Marks C S w a.defers∧∀ t x,Cur ops fs sl (fun i=>listed.getD i false=true) t x→RepV S w β x (a.tmps.getD t undef)) →
   ∃ sl' bx' S β,St C n S w β a sl' bx'∧Run P n ops (ops.toList.drop m) sl' bx' K:=by
  rintro listed a w hA hall ⟨S,β,hi,hsz,hdf,hc⟩
  obtain⟨e,he,hr⟩:=hend
  refine⟨e,_,S,β,⟨hi.sub fun k c hm=>?_,hsz,hdf,fun t=>hc t _ ?_⟩,hr⟩
  ·rcases List.mem_append.1 hm with hm | hm
   ·obtain⟨i,h1,_,h3⟩:=mem_execB.1 hm
    exact List.mem_append.2 (.inl (mem_execB.2 ⟨i,h1,hall i h1,h3⟩))
   ·exact List.mem_append.2 (.inr hm)
  have:=htext m e (Nat.le_refl _) he t
  rcases this with ⟨i,o,h1,h2,h3,h4⟩ | ⟨h1,h2⟩
  ·exact .inl ⟨i,o,hall i h1,h2,h3,h4⟩
  ·exact .inr ⟨fun i o hx=>h1 i o (hA i hx),h2⟩
 have hall_of_ready:∀ listed:Array Bool,listed.size=ops.size→Region.ready .any ops listed=[]→∀ i,i < ops.size→listed.getD i false=true:=by
  intro listed hs hr i
  induction i using Nat.strongRecOn with
  | _ i ih =>
   intro hi
   cases hl:listed.getD i false with
   | true=>rfl
   | false =>
    exfalso
    have:i∈Region.ready .any ops listed:=by
     rw [mem_ready]
     refine⟨?_,ops[i],Array.getElem?_eq_getElem hi,fun e he hb=>?_⟩
     ·have hi':i < listed.size:=by omega
      simp [Array.getD,hi'] at hl ⊢;exact hl
     ·have hlt:=hd.back i _ (Array.getElem?_eq_getElem hi) e he hb
      exact ih e.on hlt (by omega)
    rw [hr] at this;simp at this
 intro fuel
 induction fuel with
 | zero =>
  intro listed a w hs hleft hdown hinv
  have hall:∀ i,i < ops.size→listed.getD i false=true:=by
   intro i hi
   cases hl:listed.getD i false with
   | true=>rfl
   | false =>
    exfalso
    have:0 < left ops.size listed:=by
     unfold left
     rw [List.countP_pos_iff]
     exact⟨i,List.mem_range.2 hi,by simp [hl]⟩
    omega
  have hready:Region.ready .any ops listed=[]:=by
   rw [List.eq_nil_iff_forall_not_mem]
   intro i hi
   rw [mem_ready] at hi
   obtain⟨h1,o,ho,_⟩:=hi
   have hlt:=(Array.getElem?_eq_some_iff.1 ho).1
   have:=hall i hlt
   have hi':i < listed.size:=by omega
   simp [Array.getD,hi'] at this h1
   rw [this] at h1;simp at h1
  refine⟨hready,?_⟩
  rcases hinv with ⟨hA,hA2⟩ | ⟨j,hj1,hj2,hj3,sl',bx',S,β,hst,hrun⟩
  ·have hm:m=ops.size:=by
    rcases Nat.lt_or_ge m ops.size with h | h
    ·have:=hA m (hall m h);omega
    ·have:=hd.le;omega
   obtain⟨sl',bx',S,β,hst,hrun⟩:=conv listed a w hA (fun i hi=>hall i (by omega)) hA2
   rw [List.drop_eq_nil_of_le (by simp;omega)] at hrun
   exact hK sl' bx' S w β a hrun hst
  ·have hj:j=ops.size:=by
    rcases Nat.lt_or_ge j ops.size with h | h
    ·have:=(hj3 j).1 (hall j h);omega
    ·omega
   rw [List.drop_eq_nil_of_le (by simp;omega)] at hrun
   exact hK sl' bx' S w β a hrun hst
 | succ fuel ih =>
  intro listed a w hs hleft hdown hinv
  refine⟨?_,?_⟩
  ·intro hready
   have hall:=hall_of_ready listed hs hready
   rcases hinv with ⟨hA,hA2⟩ | ⟨j,hj1,hj2,hj3,sl',bx',S,β,hst,hrun⟩
   ·have hm:m=ops.size:=by
     rcases Nat.lt_or_ge m ops.size with h | h
     ·have:=hA m (hall m h);omega
     ·have:=hd.le;omega
    obtain⟨sl',bx',S,β,hst,hrun⟩:=conv listed a w hA (fun i hi=>hall i (by omega)) hA2
    rw [List.drop_eq_nil_of_le (by simp;omega)] at hrun
    exact hK sl' bx' S w β a hrun hst
   ·have hj:j=ops.size:=by
     rcases Nat.lt_or_ge j ops.size with h | h
     ·have:=(hj3 j).1 (hall j h);omega
     ·omega
    rw [List.drop_eq_nil_of_le (by simp;omega)] at hrun
    exact hK sl' bx' S w β a hrun hst
  ·intro i hi
   rw [mem_ready] at hi
   obtain⟨hnot,o,ho,hpre⟩:=hi
   have hilt:i < ops.size:=(Array.getElem?_eq_some_iff.1 ho).1
   have hil:i < listed.size:=by omega
   have hnot':listed.getD i false=false:=by simp [Array.getD,hil] at hnot ⊢;exact hnot
   have hleft':left ops.size (listed.setIfInBounds i true)≤fuel:=by have:=left_set hs hilt hnot';omega
   have hX':∀ j,(listed.setIfInBounds i true).getD j false=true↔(j=i∨listed.getD j false=true):=by
    intro j
    by_cases hj:i=j
    ·subst hj;simp [hil]
    ·rw [getD_set_ne false hj];simp [Ne.symm hj]
   have hdown':∀ (k:Nat) (o':Oper),ops[k]? = some o'→(listed.setIfInBounds i true).getD k false=true→∀ e,e∈o'.after→Region.binds .any e=true→(listed.setIfInBounds i true).getD e.on false=true:=by
    intro k o' ho' hk e he hb
    rw [hX'] at hk ⊢
    rcases hk with rfl | hk
    ·rw [ho] at ho';simp only [Option.some.injEq] at ho';subst ho'
     exact .inr (hpre e he hb)
    ·exact .inr (hdown k o' ho' hk e he hb)
   have hbehind:m≤i→∀ j,j < i→listed.getD j false=true:=fun hm=>hd.tail _ hdown i o ho hm hpre
   simp only [wpOpIn,ho]
   have hmemo:o∈ops.toList:=by have:=Array.mem_of_getElem? ho;simpa using this
   have stepB:∀ (sl':SL) (bx':Boxes) (S:Nat→Prop) (β:Names),m≤i→(∀ k,listed.getD k false=true↔k < i)→St C n S w β a sl' bx'→Run P n ops (ops.toList.drop i) sl' bx' K →
     (if Region.wanted o (yielded ops a.tmps)=true then Oper.wpIn (FW ro) 0 P o a w (wpAnyIn (FW ro) 0 P .any ops QQ fuel (listed.setIfInBounds i true)) QQ
      else (∀ f,o.about P w a.eval=some f→(FW ro).fn f)∧wpAnyIn (FW ro) 0 P .any ops QQ fuel (listed.setIfInBounds i true) (a.put o.dst undef) w):=by
    intro sl' bx' S β hm hX hst hrun
    have dp:ops.toList.drop i=o::ops.toList.drop (i+1):=by
     rw [List.drop_eq_getElem_cons (by simpa using hilt)]
     have:=(Array.getElem?_eq_some_iff.1 ho).2
     simp [this]
    rw [dp] at hrun
    obtain⟨g,hg,hdo,h1,h2⟩:=hrun
    have hw:=guard_rep (a:=a) (S:=S) (w:=w) (β:=β) (fun t ht=>by
     obtain⟨j,want,_,hj⟩:=ht
     exact⟨hst.slot t,by rw [hst.size];exact dst_lt_of_gslot hdst hj⟩) hg
    rw [hw]
    have hXn:∀ k,(listed.setIfInBounds i true).getD k false=true↔k < i+1:=by intro k;rw [hX',hX];omega
    cases g with
    | true =>
     simp only [if_true]
     obtain⟨r,bx1,pg,hop,hrun'⟩:=h1 rfl
     refine Oper.wpIn_ofQ (hnd o hmemo) (hop C S w β a hst.inv fun x _=>hst.opnd x) ?_
     rintro a' w' ⟨v,S',β',rfl,hi',he,hv,hb⟩
     exact ih _ _ _ (by simpa using hs) hleft' hdown' (.inr ⟨i+1,by omega,by omega,hXn,_,bx1,S',β',hst.put hdo hi' he hv hb,hrun'⟩)
    | false =>
     simp only [Bool.false_eq_true,if_false]
     refine⟨fun _ _=>trivial,?_⟩
     exact ih _ _ _ (by simpa using hs) hleft' hdown' (.inr ⟨i+1,by omega,by omega,hXn,_,bx',S,β,hst.put (pg:=[]) hdo hst.inv (SExt.refl S w) (.tuple [] [] rfl (by simp)) (fun _ _=>rfl),h2 rfl⟩)
   rcases hinv with ⟨hA,hA2⟩ | ⟨j,hj1,hj2,hj3,sl',bx',S,β,hst,hrun⟩
   ·by_cases him:i < m
    ·
     obtain⟨s,f,q1,q2,q3⟩:=hyA i o him ho
     obtain⟨S,β,hi,hsz,hdf,hc⟩:=hA2
     have harg:∀ t,t∈o.looksAt ops→RepV S w β (sget s t) (a.tmps.getD t undef):=by
      intro t ht
      refine hc t _ ?_
      rcases htext i s (by omega) q1 t with ⟨k,ok,g1,g2,g3,g4⟩ | ⟨g1,g2⟩
      ·obtain⟨_,e,he,hb,hon⟩:=hd.reads i k o ok t him (by omega) ho g2 ht g3
       exact .inl ⟨k,ok,by rw [← hon];exact hpre e he hb,g2,g3,g4⟩
      ·refine .inr ⟨fun k ok hk hok hdk=>?_,g2⟩
       have hkm:=hA k hk
       obtain⟨hki,_⟩:=hd.reads i k o ok t him hkm ho hok ht hdk
       exact g1 k ok hki hok hdk
     have hput:∀ (S':Nat→Prop) (w':World) (β':Names) (v:Value),SExt S w S' w'→(∀ q,q ∉ pgs i→β' q = β q)→RepV S' w' β' f v →
       ∀ t x,Cur ops fs sl (fun k=>(listed.setIfInBounds i true).getD k false=true) t x→RepV S' w' β' x ((a.put o.dst v).tmps.getD t undef):=by
      intro S' w' β' v he hβ hv t x hcur
      have hdo:=hdst o hmemo
      have old:(∀ d,o.dst=some d→d≠t)→RepV S' w' β' x ((a.put o.dst v).tmps.getD t undef):=by
       intro hne
       have hsame:(a.put o.dst v).tmps.getD t undef=a.tmps.getD t undef:=by
        cases hdd:o.dst with
        | none=>rfl
        | some d=>rw [hdd] at hdo;rw [getD_put (by rw [hsz];exact hdo),if_neg (hne d hdd)]
       rw [hsame]
       have hcur':Cur ops fs sl (fun k=>listed.getD k false=true) t x∧∀ q,x.has q=true→q ∉ pgs i:=by
        rcases hcur with ⟨k,ok,g1,g2,g3,g4⟩ | ⟨g1,g2⟩
        ·rw [hX'] at g1
         rcases g1 with rfl | g1
         ·rw [ho] at g2;simp only [Option.some.injEq] at g2;subst g2
          exact absurd rfl (hne t g3)
         ·refine⟨.inl ⟨k,ok,g1,g2,g3,g4⟩,hval k i ok x (hA k g1) him (fun he=>?_) g2 g4 (by rw [g3];simp)⟩
          subst he
          rw [hnot'] at g1;simp at g1
        ·refine⟨.inr ⟨fun k ok hk hok=>g1 k ok ((hX' k).2 (.inr hk)) hok,g2⟩,?_⟩
         rw [g2]
         exact hsl i o t him ho (fun he=>hne t he rfl)
       exact (hc t x hcur'.1).ext he fun q hq=>hβ q (hcur'.2 q hq)
      cases hdd:o.dst with
      | none=>rw [← hdd];exact old (by simp [hdd])
      | some d =>
       by_cases hdt:d=t
       ·subst hdt
        rw [hdd] at hdo
        rw [getD_put (by rw [hsz];exact hdo),if_pos rfl]
        rcases hcur with ⟨k,ok,g1,g2,g3,g4⟩ | ⟨g1,g2⟩
        ·rw [hX'] at g1
         have hki:k=i:=by
          rcases g1 with h | h
          ·exact h
          ·exact hd.uniq k i ok o d (hA k h) him g2 ho g3 hdd
         subst hki
         rw [q2] at g4;simp only [Option.some.injEq] at g4;subst g4;exact hv
        ·exact absurd hdd (g1 i o ((hX' i).2 (.inl rfl)) ho)
       ·rw [← hdd];exact old (by intro d' hd';rw [hdd] at hd';simp only [Option.some.injEq] at hd';subst hd';exact hdt)
     have hA':∀ k,(listed.setIfInBounds i true).getD k false=true→k < m:=by
      intro k hk;rw [hX'] at hk;rcases hk with rfl | hk
      ·exact him
      ·exact hA k hk
     have hsubB:∀ {S':Nat→Prop} {w':World} {β':Names},Inv C S' w' β' (execB adds m (fun i=>listed.getD i false)++(adds i++bx))→Inv C S' w' β' (execB adds m (fun k=>(listed.setIfInBounds i true).getD k false)++bx):=fun hI=>hI.sub fun k c hm=>by
      rcases List.mem_append.1 hm with hm | hm
      ·obtain⟨j,z1,z2,z3⟩:=mem_execB.1 hm
       rcases (hX' j).1 z2 with z4 | z4
       ·rw [z4] at z3;exact List.mem_append.2 (.inr (List.mem_append.2 (.inl z3)))
       ·exact List.mem_append.2 (.inl (mem_execB.2 ⟨j,z1,z4,z3⟩))
      ·exact List.mem_append.2 (.inr (List.mem_append.2 (.inr hm)))
     have hargs:∀ x,x∈o.op.operands→RepV S w β (opnd s x) (a.eval x):=fun x hx=>by
      cases x with
      | tmp t=>exact harg t (mem_looksAt_op hx)
      | const v=>exact repV_const S w β v
      | global g=>exact .undef _
      | func f=>exact .clo f [] [] rfl (by simp)
     have hF:∀ k c,(k,c)∈execB adds m (fun i=>listed.getD i false)→c.real=true∧k ∉ pgs i∧(∀ q,c.has q=true→q ∉ pgs i)∧∀ x,(k,x) ∉ adds i++bx:=fun k c hm=>by
      obtain⟨j,z1,z2,z3⟩:=mem_execB.1 hm
      have hji:j≠i:=fun he=>by rw [he] at z2;rw [hnot'] at z2;simp at z2
      obtain⟨p1,p2,p3⟩:=hsep j i z1 him hji k c z3
      obtain⟨p4,p5⟩:=hreal j z1 k c z3
      exact⟨p4,p1,p2,fun x hx=>(List.mem_append.1 hx).elim (p3 x) (p5 x)⟩
     have hreali:∀ k c,(k,c)∈adds i→c.real=true:=fun k c hm=>(hreal i him k c hm).1
     obtain⟨s',f',r1,r2,hyd,r5⟩:=hy i o him ho
     rw [q1] at r1;simp only [Option.some.injEq] at r1;subst r1
     rw [q2] at r2;simp only [Option.some.injEq] at r2;subst r2
     rcases hyd with ⟨hyd,ha0,hp0⟩ | ⟨hgn,hop⟩
     ·obtain⟨g,hg⟩:=hyd.some
      have hw:=guard_rep (a:=a) (S:=S) (w:=w) (β:=β) (fun t ht=>by
       obtain⟨j,want,hgd,hj⟩:=ht
       exact⟨harg t (mem_looksAt_guard hgd hj),by rw [hsz];exact dst_lt_of_gslot hdst hj⟩) hg
      rw [hw]
      cases g with
      | true =>
       simp only [if_true]
       have hop:OpT P o (opnd s) bx f (adds i++bx) (pgs i):=by rw [ha0,hp0];exact hyd.yes hg
       refine Oper.wpIn_ofQ (hnd o hmemo) (hop.frameL _ hF hreali C S w β a hi hargs) ?_
       rintro a' w' ⟨v,S',β',rfl,hi',he,hv,hb⟩
       exact ih _ _ _ (by simpa using hs) hleft' hdown' (.inl ⟨hA',S',β',hsubB hi',by cases o.dst <;> simp [Act.put,hsz],hdf.put he,hput S' w' β' v he hb hv⟩)
      | false =>
       simp only [Bool.false_eq_true,if_false]
       have hf:=hyd.no hg
       refine⟨fun _ _=>trivial,?_⟩
       refine ih _ _ _ (by simpa using hs) hleft' hdown' (.inl ⟨hA',S,β,hsubB (by rw [ha0];exact hi),by cases o.dst <;> simp [Act.put,hsz],hdf.put (SExt.refl S w),hput S w β undef (SExt.refl S w) (fun _ _=>rfl) (by rw [hf];exact .tuple [] [] rfl (by simp))⟩)
     ·have hw:Region.wanted o (yielded ops a.tmps)=true:=by simp [Region.wanted,hgn]
      rw [hw]
      simp only [if_true]
      refine Oper.wpIn_ofQ (hnd o hmemo) (hop.frameL _ hF hreali C S w β a hi hargs) ?_
      rintro a' w' ⟨v,S',β',rfl,hi',he,hv,hb⟩
      exact ih _ _ _ (by simpa using hs) hleft' hdown' (.inl ⟨hA',S',β',hsubB hi',by cases o.dst <;> simp [Act.put,hsz],hdf.put he,hput S' w' β' v he hb hv⟩)
    ·have hbe:=hbehind (by omega)
     have him':i=m:=by
      rcases Nat.lt_or_ge m i with h | h
      ·have:=hA m (hbe m h);omega
      ·omega
     subst him'
     obtain⟨sl',bx',S,β,hst,hrun⟩:=conv listed a w hA hbe hA2
     exact stepB sl' bx' S β (Nat.le_refl _) (fun k=>⟨hA k,hbe k⟩) hst hrun
   ·have hij:j≤i:=by
     rcases Nat.lt_or_ge i j with h | h
     ·have:=(hj3 i).2 h;rw [hnot'] at this;simp at this
     ·exact h
    have hbe:=hbehind (by omega)
    have:i=j:=by
     rcases Nat.lt_or_ge j i with h | h
     ·have:=(hj3 j).1 (hbe j h);omega
     ·omega
    subst this
    exact stepB sl' bx' S β (by omega) hj3 hst hrun
def freeSlX (q d:Nat):SL→Bool
 | []=>true
 | (u,x)::r=>(u == d || !x.has q) && freeSlX q d r
theorem freeSlX_mem {q d:Nat} :∀ {sl:SL},freeSlX q d sl=true→∀ u x,(u,x)∈sl→u≠d→x.has q=false
 | [],_,u,x,h,_=>by simp at h
 | (v,y)::r,h,u,x,hm,hu=>by
  simp only [freeSlX,Bool.and_eq_true,Bool.or_eq_true,beq_iff_eq,Bool.not_eq_true'] at h
  rcases List.mem_cons.1 hm with he | hm
  ·simp only [Prod.mk.injEq] at he
   obtain⟨rfl,rfl⟩:=he
   exact h.1.resolve_left hu
  ·exact freeSlX_mem h.2 u x hm hu
def apart (k:Nat):Boxes→Bool
 | []=>true
 | (j,c)::r=>!(j == k) && !c.has k && c.real && apart k r
theorem apart_mem :∀ {bx:Boxes},apart k bx=true→∀ j c,(j,c)∈bx→j≠k∧c.has k=false∧c.real=true
 | [],_,j,c,h=>by simp at h
 | (i,x)::r,h,j,c,hm=>by
  simp only [apart,Bool.and_eq_true,Bool.not_eq_true',beq_eq_false_iff_ne] at h
  rcases List.mem_cons.1 hm with he | hm
  ·simp only [Prod.mk.injEq] at he
   obtain⟨rfl,rfl⟩:=he
   exact⟨h.1.1.1,h.1.1.2,h.1.2⟩
  ·exact apart_mem h.2 j c hm
def offKeys (bx:Boxes):Boxes→Bool
 | []=>true
 | (j,_)::r=>!hasBx j bx && offKeys bx r
theorem offKeys_mem {bx:Boxes} :∀ {l:Boxes},offKeys bx l=true→∀ j c,(j,c)∈l→∀ x,(j,x) ∉ bx
 | [],_,j,c,h=>by simp at h
 | (i,y)::r,h,j,c,hm=>by
  simp only [offKeys,Bool.and_eq_true,Bool.not_eq_true'] at h
  rcases List.mem_cons.1 hm with he | hm
  ·simp only [Prod.mk.injEq] at he
   obtain⟨rfl,rfl⟩:=he
   exact fun x hx=>(hasBx_mem h.1 _ _ hx).1 rfl
  ·exact offKeys_mem h.2 j c hm
theorem spurge_closedAll :∀ {zs:List SV},SV.closedAll zs=true→zs.map (spurge k)=zs
 | [],_=>rfl
 | c::cs,h=>by
  simp only [SV.closedAll,Bool.and_eq_true] at h
  rw [List.map_cons,spurge_closedAll h.2]
  simp [spurge,SV.not_has_of_closed k h.1]
structure CallVarOK (P:Program)(ops:Array Oper)(iC dC kL:Nat)(zs:List SV)(T:TypeId):Prop where
 lt:iC+2≤ops.size
 call:∃ o,ops[iC]? = some o∧o.guard=none∧o.dst=some dC
 var:∃ o,ops[iC+1]? = some o∧o.op=.alloc T∧o.guard=none∧o.dst=some kL
 ne:dC≠kL
 key:kL≤999999
 zero:tzero P T=some zs
 closed:SV.closedAll zs=true
def midAV (P:Program)(own:List Nat)(ops:Array Oper)(op:Op)(tail:List Oper)(dC kL:Nat)(zs:List SV)(bx:Boxes)(K:SL→Boxes→Prop):SL→Prop:=fun sl =>
 ∃ f addC pgC,OpB P sl bx (some dC) op f (addC++bx) pgC∧apart kL addC=true∧offKeys bx addC=true∧f.has kL=false∧pgC.contains kL=false∧hasBx kL bx=false∧freeSl kL sl=true∧(pgC.all fun q=>freeSlX q dC sl)=true ∧
  runV P own ops tail (sput (sput sl (some dC) f) (some kL) (.box kL 0)) (addC++(kL,.cells zs)::bx) K
theorem midAV_ok {own:List Nat} {op:Op} {tail:List Oper} {dC kL:Nat} {zs:List SV} {K:SL→Boxes→Prop} {f:SV} {addC:Boxes} {pgC:List Nat} (h1:OpB P sl bx (some dC) op f (addC++bx) pgC)(h2:apart kL addC=true)(h3:offKeys bx addC=true)(h4:f.has kL=false)
  (h5:pgC.contains kL=false) (h6:hasBx kL bx=false) (h7:freeSl kL sl=true) (h8:(pgC.all fun q=>freeSlX q dC sl)=true) (h9:runV P own ops tail (sput (sput sl (some dC) f) (some kL) (.box kL 0)) (addC++(kL,.cells zs)::bx) K) :
  midAV P own ops op tail dC kL zs bx K sl:=⟨f,addC,pgC,h1,h2,h3,h4,h5,h6,h7,h8,h9⟩
theorem AWp.regDA {id:Nat} (ks own:List Nat)(iC dC kL:Nat)(zs:List SV)(T:TypeId)(hm:P.follows .mixedOrders=true)(hc:drawOK ops (iC+2) (Region.before ops)=true)(hd:dstsOK n ops.toList=true)(hL:CallVarOK P ops iC dC kL zs T)
  (h:qrunV P own ops bx (ops.toList.take iC) sl (midAV P own ops (opAt ops iC) (ops.toList.drop (iC+2)) dC kL zs bx (keepK ks (Q .normal)))):AWp ro P n (.region id ops true) Q sl bx:=by
 have sub:∀ {l:List Oper},(∀ o,o∈l→o∈ops.toList)→dstsOK n l=true:=fun {l} hl=>by
  unfold dstsOK at *;rw [List.all_eq_true] at *;exact fun o ho=>hd o (hl o ho)
 have hd1:dstsOK n (ops.toList.take iC)=true:=sub fun o ho=>List.mem_of_mem_take ho
 have hd3:dstsOK n (ops.toList.drop (iC+2))=true:=sub fun o ho=>List.mem_of_mem_drop ho
 intro C S w β a hs
 refine wpIn_region_any hm ?_
 have hdo:=drawOK_spec hc
 obtain⟨fs1,sls1,a1,a2,a3,⟨e1,a4,f,addC,pgC,b1,b2,b3,b4,b5,b6,b7,b8,b9⟩,a5⟩:=(qrunV_sound (fun _ h=>h) _ _ hd1 h:QRun P n ops (ops.toList.take iC) sl bx _).yields
 have hlen1:(ops.toList.take iC).length=iC:=by have:=hL.lt;simp;omega
 rw [hlen1] at a1 a2 a4
 obtain⟨oC,c1,c2,c3⟩:=hL.call
 obtain⟨oL,l1,l2,l3,l4⟩:=hL.var
 have hop:opAt ops iC=oC.op:=by simp [opAt,c1]
 have g1:∀ i,i < iC→(ops.toList.take iC)[i]? = ops[i]?:=fun i hi=>by rw [List.getElem?_take_of_lt hi];simp
 have s1:∀ i,i≤iC→(sls1++[sput e1 (some dC) f,sput (sput e1 (some dC) f) (some kL) (.box kL 0)])[i]? = sls1[i]?:=fun i hi=>List.getElem?_append_left (by omega)
 have f1:∀ i,i < iC→(fs1++[f,.box kL 0])[i]? = fs1[i]?:=fun i hi=>List.getElem?_append_left (by omega)
 have s2:(sls1++[sput e1 (some dC) f,sput (sput e1 (some dC) f) (some kL) (.box kL 0)])[iC+1]? = some (sput e1 (some dC) f):=by rw [List.getElem?_append_right (by omega),a2];simp
 have s3:(sls1++[sput e1 (some dC) f,sput (sput e1 (some dC) f) (some kL) (.box kL 0)])[iC+1+1]? = some (sput (sput e1 (some dC) f) (some kL) (.box kL 0)):=by
  rw [List.getElem?_append_right (by omega),a2,show iC+1+1 - (iC+1)=1 by omega];rfl
 have f2:(fs1++[f,.box kL 0])[iC]? = some f:=by rw [List.getElem?_append_right (by omega),a1];simp
 have f3:(fs1++[f,.box kL 0])[iC+1]? = some (.box kL 0):=by rw [List.getElem?_append_right (by omega),a1,show iC+1 - iC=1 by omega];rfl
 have hz:(BoxC.cells zs).has kL=false:=by simp only [BoxC.has];exact SV.not_hasAny_of_closed kL hL.closed
 have hzq:∀ q,(BoxC.cells zs).has q=false:=fun q=>by simp only [BoxC.has];exact SV.not_hasAny_of_closed q hL.closed
 have hkp:kL ∉ pgC:=fun hm'=>by rw [List.contains_iff_mem.2 hm'] at b5;simp at b5
 have sub1:=sls_sub (os:=ops.toList.take iC) (fs:=fs1) (sls:=sls1) (fun i o ho=>by obtain⟨s,f,c1,c2,_,c4⟩:=a5 i o ho;exact⟨s,f,c1,c2,c4⟩)
 have in1:∀ i s,i≤iC→sls1[i]? = some s→∀ p,p∈s→p∈e1:=fun i s hi hs p hp=>sub1 (iC - i) i s e1 (by rw [hlen1];omega) hs (by rw [show i+(iC - i)=iC by omega];exact a4) p hp
 have free:∀ (u:Nat) (x:SV),(u,x)∈e1→(u≠kL→x.has kL=false)∧(u≠dC→∀ q,q∈pgC→x.has q=false):=fun u x hx =>
  ⟨freeSl_mem b7 u x hx,fun hu q hq=>freeSlX_mem (List.all_eq_true.1 b8 q hq) u x hx hu⟩
 have idx:∀ i,i < iC+2→i < iC∨i=iC∨i=iC+1:=fun i hi=>by omega
 let adds:Nat→Boxes:=fun i=>if i=iC then addC else if i=iC+1 then [(kL,.cells zs)] else []
 let pgs:Nat→List Nat:=fun i=>if i=iC then pgC else if i=iC+1 then [kL] else []
 have e0:∀ i,i < iC→adds i=[]∧pgs i=[]:=fun i hi=>by simp only [adds,pgs];rw [if_neg (by omega),if_neg (by omega),if_neg (by omega),if_neg (by omega)];exact⟨rfl,rfl⟩
 have eC:adds iC=addC∧pgs iC=pgC:=by simp [adds,pgs]
 have eL:adds (iC+1)=[(kL,.cells zs)]∧pgs (iC+1)=[kL]:=by simp [adds,pgs]
 have hbxk:∀ x,(kL,x) ∉ bx:=fun x hx=>(hasBx_mem b6 _ _ hx).1 rfl
 refine draw_add (P:=P) (sl:=sl) (bx:=bx) (adds:=adds) (pgs:=pgs) (K:=fun sl' bx'=>Q .normal (keepSl ks sl') (keepBx ks bx')) hdo (dstsOK_spec hd) (dstsOK_nd hd) (fun sl' bx' S' w' β' a' hK hs'=>⟨_,_,S',β',hK,hs'.keep ks ks⟩)
  (sls:=sls1++[sput e1 (some dC) f,sput (sput e1 (some dC) f) (some kL) (.box kL 0)]) (fs:=fs1++[f,.box kL 0])
  (by rw [s1 0 (by omega)];exact a3) ?_ ?_ ?_ ?_ ?_ ⟨_,s3,?_⟩ ops.size _ a _ (by simp) ?_ ?_ (.inl ⟨?_,S,β,?_,hs.size,hs.defers.ext ⟨fun _ h=>h,fun _ _=>rfl⟩,?_⟩)
 ·intro i o hi ho
  rcases idx i hi with h | rfl | rfl
  ·obtain⟨s,f',d1,d2,d3,d4⟩:=a5 i o (by rw [g1 i h];exact ho)
   exact⟨s,f',by rw [s1 i (by omega)];exact d1,by rw [f1 i h];exact d2,.inl ⟨d3,e0 i h⟩,by rw [s1 (i+1) (by omega)];exact d4⟩
  ·rw [c1] at ho;simp only [Option.some.injEq] at ho;subst ho
   refine⟨e1,f,by rw [s1 _ (Nat.le_refl _)];exact a4,f2,.inr ⟨c2,?_⟩,by rw [c3];exact s2⟩
   rw [eC.1,eC.2]
   exact b1 oC hop.symm c3
  ·rw [l1] at ho;simp only [Option.some.injEq] at ho;subst ho
   refine⟨sput e1 (some dC) f,_,s2,f3,.inr ⟨l3,?_⟩,by rw [l4];exact s3⟩
   rw [eL.1,eL.2]
   intro C S w β a hi ha
   refine Oper.wpx_mono (opT_alloc hL.key l2 hL.zero C S w β a hi ha) ?_
   rintro a' w' ⟨v,S',β',r1,r2,r3,r4,r5⟩
   exact⟨v,S',β',r1,r2.sub (fun j x hj=>by rw [spurge_closedAll hL.closed];exact mem_new b6 (by simpa using hj)),r3,r4,r5⟩
 ·intro i j hi hj hij k c hm'
  rcases idx i hi with h | rfl | rfl
  ·rw [(e0 i h).1] at hm';simp at hm'
  ·rw [eC.1] at hm'
   obtain⟨p1,p2,p3⟩:=apart_mem b2 k c hm'
   rcases idx j hj with h | rfl | rfl
   ·rw [(e0 j h).1,(e0 j h).2];simp
   ·exact absurd rfl hij
   ·rw [eL.1,eL.2]
    refine⟨by simpa using p1,fun q hq=>?_,fun x hx=>?_⟩
    ·simp only [List.mem_cons,List.not_mem_nil,or_false]
     rintro rfl
     rw [p2] at hq;simp at hq
    ·simp only [List.mem_cons,Prod.mk.injEq,List.not_mem_nil,or_false] at hx
     exact p1 hx.1
  ·rw [eL.1] at hm'
   simp only [List.mem_cons,Prod.mk.injEq,List.not_mem_nil,or_false] at hm'
   obtain⟨rfl,rfl⟩:=hm'
   rcases idx j hj with h | rfl | rfl
   ·rw [(e0 j h).1,(e0 j h).2];simp
   ·rw [eC.1,eC.2]
    exact⟨hkp,fun q hq=>by rw [hzq q] at hq;simp at hq,fun x hx=>(apart_mem b2 _ _ hx).1 rfl⟩
   ·exact absurd rfl hij
 ·intro i hi k c hm'
  rcases idx i hi with h | rfl | rfl
  ·rw [(e0 i h).1] at hm';simp at hm'
  ·rw [eC.1] at hm'
   exact⟨(apart_mem b2 k c hm').2.2,offKeys_mem b3 k c hm'⟩
  ·rw [eL.1] at hm'
   simp only [List.mem_cons,Prod.mk.injEq,List.not_mem_nil,or_false] at hm'
   obtain⟨rfl,rfl⟩:=hm'
   exact⟨rfl,hbxk⟩
 ·intro i j o f' hi hj hij ho hf' hdn q hq
  have hfree:∀ d,o.dst=some d→i < iC→(d≠kL∧d≠dC)∧(d,f')∈e1:=fun d hd' hic=>by
   obtain⟨s,f'',d1,d2,d3,d4⟩:=a5 i o (by rw [g1 i hic];exact ho)
   rw [f1 i hic,d2] at hf';simp only [Option.some.injEq] at hf';subst hf'
   refine⟨⟨fun he=>?_,fun he=>?_⟩,in1 (i+1) _ (by omega) d4 _ (by rw [hd'];exact List.mem_cons_self ..)⟩
   ·subst he;have:=hdo.uniq i (iC+1) o oL d (by omega) (by omega) ho l1 hd' l4;omega
   ·subst he;have:=hdo.uniq i iC o oC d (by omega) (by omega) ho c1 hd' c3;omega
  rcases idx j hj with h | rfl | rfl
  ·rw [(e0 j h).2];simp
  ·rw [eC.2]
   intro hqm
   rcases idx i hi with h | rfl | rfl
   ·obtain⟨d,hd'⟩:=Option.ne_none_iff_exists'.1 hdn
    obtain⟨⟨n1,n2⟩,hin⟩:=hfree d hd' h
    rw [(free d f' hin).2 n2 q hqm] at hq;simp at hq
   ·exact hij rfl
   ·rw [f3] at hf';simp only [Option.some.injEq] at hf';subst hf'
    simp only [SV.has,beq_iff_eq] at hq
    subst hq;exact hkp hqm
  ·rw [eL.2]
   simp only [List.mem_cons,List.not_mem_nil,or_false]
   rintro rfl
   rcases idx i hi with h | rfl | rfl
   ·obtain⟨d,hd'⟩:=Option.ne_none_iff_exists'.1 hdn
    obtain⟨⟨n1,n2⟩,hin⟩:=hfree d hd' h
    rw [(free d f' hin).1 n1] at hq;simp at hq
   ·rw [f2] at hf';simp only [Option.some.injEq] at hf';subst hf'
    rw [b4] at hq;simp at hq
   ·exact hij rfl
 ·intro j o t hj ho hdt q hq
  have hin:sget sl t=.undef∨(t,sget sl t)∈e1:=by
   rcases sget_mem (sl:=sl) (t:=t) with h | h
   ·exact .inr (in1 0 sl (by omega) a3 _ h)
   ·exact .inl h
  rcases hin with h | hin
  ·rw [h] at hq;simp [SV.has] at hq
  rcases idx j hj with h | rfl | rfl
  ·rw [(e0 j h).2];simp
  ·rw [c1] at ho;simp only [Option.some.injEq] at ho;subst ho
   rw [eC.2]
   intro hqm
   rw [(free t _ hin).2 (fun he=>hdt (by rw [c3,he])) q hqm] at hq;simp at hq
  ·rw [l1] at ho;simp only [Option.some.injEq] at ho;subst ho
   rw [eL.2]
   simp only [List.mem_cons,List.not_mem_nil,or_false]
   rintro rfl
   rw [(free t _ hin).1 (fun he=>hdt (by rw [l4,he]))] at hq;simp at hq
 ·have hbxs:∀ k c,(k,c)∈addC++(kL,BoxC.cells zs)::bx→(k,c)∈execB adds (iC+2) (fun _=>true)++bx:=fun k c hm'=>by
   rcases List.mem_append.1 hm' with hm' | hm'
   ·exact List.mem_append.2 (.inl (mem_execB.2 ⟨iC,by omega,rfl,by rw [eC.1];exact hm'⟩))
   ·rcases List.mem_cons.1 hm' with he | hm'
    ·exact List.mem_append.2 (.inl (mem_execB.2 ⟨iC+1,by omega,rfl,by rw [eL.1,he];simp⟩))
    ·exact List.mem_append.2 (.inr hm')
  have hrun:=runV_sound _ _ _ hd3 b9
  have heq:execB adds (iC+2) (fun _=>true)++bx=addC++(kL,BoxC.cells zs)::bx:=by
   have hnil:(List.range iC).flatMap (fun i=>if true=true then adds i else [])=[]:=by
    rw [List.flatMap_eq_nil_iff]
    intro i hi
    simp only [if_true]
    exact (e0 i (List.mem_range.1 hi)).1
   unfold execB
   rw [List.range_succ,List.range_succ,List.flatMap_append,List.flatMap_append,hnil]
   simp [eC.1,eL.1]
  rw [heq]
  exact hrun
 ·unfold left
  exact Nat.le_trans (List.countP_le_length) (by simp)
 ·intro i o ho hx
  simp [Array.getD] at hx
 ·intro i hx
  simp [Array.getD] at hx
 ·have hnone:execB adds (iC+2) (fun i=>(Array.replicate ops.size false).getD i false)=[]:=by
   unfold execB
   rw [List.flatMap_eq_nil_iff]
   intro i _
   rw [if_neg]
   simp [Array.getD]
  rw [hnone]
  exact (hs.inv.grow (w':={ w with drawn:=w.drawn+1 }) (fun _ h=>h) (fun _ h=>.inl h) hs.inv.Slt (fun _ _=>rfl) rfl rfl rfl (Nat.le_refl _)).1
 ·intro t x hcur
  rcases hcur with ⟨i,o,h1,_⟩ | ⟨_,h2⟩
  ·simp [Array.getD] at h1
  ·rw [h2];exact (hs.slot t).ext ⟨fun _ h=>h,fun _ _=>rfl⟩ (fun _ _=>rfl)
theorem AWp.seqDA {id:Nat} {y:Code} (ks own:List Nat)(iC dC kL:Nat)(zs:List SV)(T:TypeId)(hm:P.follows .mixedOrders=true)(hc:drawOK ops (iC+2) (Region.before ops)=true)(hd:dstsOK n ops.toList=true)(hL:CallVarOK P ops iC dC kL zs T)
  (h:∀ K:SL→Boxes→Prop,(∀ sl' bx',AWp ro P n y Q sl' bx'→K sl' bx')→qrunV P own ops bx (ops.toList.take iC) sl (midAV P own ops (opAt ops iC) (ops.toList.drop (iC+2)) dC kL zs bx (keepK ks K))) :
  AWp ro P n (.seq (.region id ops true) y) Q sl bx :=
 AWp.seq (AWp.regDA ks own iC dC kL zs T hm hc hd hL (h _ fun _ _ h=>h))
end Go.Abs
