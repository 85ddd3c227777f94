/- A slice of one's own grows while other operations only look, and a variable is made at any time. Own framework. -/
import Derived.Test.YtgjfipagmicdnaaGreatDoorMAb14
set_option linter.unusedVariables false
set_option linter.unusedSimpArgs false
namespace Go.Abs
set_option linter.unusedSimpArgs false
set_option linter.unusedVariables false
open Go
variable {ro:Option Nat} {P:Program} {n:Nat} {Q:Exit→SL→Boxes→Prop} {sl:SL} {bx:Boxes} {o:Oper} {ρ:Rho}
theorem OpT.frameG {r:SV} {b1:Boxes} {pg:List Nat} (h:OpT P o ρ bx r b1 pg)(F:Boxes)(hF:∀ k c,(k,c)∈F→c.real=true∧k ∉ pg∧(∀ q,c.has q=true→q ∉ pg)∧∀ x,(k,x) ∉ bx)
  (hgb:∀ k Y st,(k,BoxC.ghost Y st)∈b1→(k,BoxC.ghost Y st)∈bx) (hbg:∀ k Y st,(k,BoxC.ghost Y st)∈bx→(k,BoxC.ghost Y st)∈b1):∀ (C:Ctx) (S:Nat→Prop) (w:World) (β:Names) (a:Act),Inv C S w β (F++bx)→(∀ x,x∈o.op.operands→RepV S w β (ρ x) (a.eval x)) →
  o.wpx P a w (fun a' w'=>∃ v S' β',a'=a.put o.dst v∧Inv C S' w' β' (F++b1)∧SExt S w S' w'∧RepV S' w' β' r v∧∀ k,k ∉ pg→β' k = β k):=by
 intro C S w β a hi ha
 have hmem:∀ {j:Nat} {x:BoxC},(j,x)∈bx→(j,x)∈F++bx:=fun h=>List.mem_append.2 (.inr h)
 have hmF:∀ {j:Nat} {x:BoxC},(j,x)∈F→(j,x)∈F++bx:=fun h=>List.mem_append.2 (.inl h)
 have hne:∀ {j:Nat} {x:BoxC} {b:Nat},(j,x)∈bx→(β j).base=some b→¬ bases β F b:=fun hj h1 ⟨k,c,hk,hb⟩=>by
  obtain⟨rfl,_⟩:=hi.inj _ _ _ _ (hmF hk) (hmem hj) _ hb h1
  exact (hF _ _ hk).2.2.2 _ hj
 have hi':Inv ⟨w,S,fun b=>¬ S b∧(C.pre b∨C.w0.heap.size≤b)∧¬ bases β F b,C.fixd,C.G⟩ S w β bx:={
  S0sub:=fun _ hb=>hb,Snew:=fun _ hb=>.inl hb,Slt:=hi.Slt,kept:=fun _ _ _=>rfl,os:=rfl,tape:=rfl,output:=rfl,size:=Nat.le_refl _,
  box:=fun j x hj=>hi.box j x (hmem hj)
  priv:=fun j x hj b hb=>⟨(hi.priv j x (hmem hj) b hb).1,(hi.priv j x (hmem hj) b hb).2.1,.inl ⟨(hi.priv j x (hmem hj) b hb).1,(hi.priv j x (hmem hj) b hb).2.2,hne hj hb⟩⟩
  inj:=fun j x j' x' hj hj'=>hi.inj j x j' x' (hmem hj) (hmem hj')
  tab:=hi.tab
  one:=fun j Y st j' Y' st' hj hj'=>hi.one j Y st j' Y' st' (hmem hj) (hmem hj')
  frn:=fun j Y st hj=>by
   obtain⟨h1,h2,h3,h4,B,h5,h6⟩:=hi.frn j Y st (hmem hj)
   exact⟨h1,h2,Nat.le_trans h3 hi.size,fun k' c' hk'=>h4 k' c' (hmem hk'),B,h5,fun b hb=>⟨(h6 b hb).1,(h6 b hb).2.1,.inl ⟨(h6 b hb).1,(h6 b hb).2.2.1,fun⟨k,c,hk,hb'⟩=>(h6 b hb).2.2.2 k c (hmF hk) hb'⟩,fun k' c' hk'=>(h6 b hb).2.2.2 k' c' (hmem hk')⟩⟩
  fix:=hi.fix }
 refine Oper.wpx_mono (h _ S w β a hi' ha) ?_
 rintro a' w' ⟨v,S',β',rfl,hI,he,hv,hb⟩
 have hsz:w.heap.size≤w'.heap.size:=hI.size
 have hcsz:=hi.size
 have hFb:∀ k c,(k,c)∈F→β' k = β k:=fun k c hk=>hb k (hF k c hk).2.1
 have hFlt:∀ k c b,(k,c)∈F→(β k).base=some b→b < w.heap.size:=fun k c b hk hb'=>(hi.priv k c (hmF hk) b hb').2.1
 have hsep:∀ k c k' c' b,(k,c)∈F→(k',c')∈b1→(β k).base=some b→(β' k').base≠some b:=fun k c k' c' b hk hk' h1 h2=>by
  rcases (hI.priv k' c' hk' b h2).2.2 with h | h
  ·exact h.2.2 ⟨k,c,hk,h1⟩
  ·have:=hFlt k c b hk h1;simp only at h;omega
 have hcase:∀ k c,(k,c)∈F++b1→(k,c)∈F∨(k,c)∈b1:=fun k c hm=>List.mem_append.1 hm
 have hgh:∀ k Y st,(k,BoxC.ghost Y st)∈F++b1→(k,BoxC.ghost Y st)∈bx:=fun k Y st hm=>by
  rcases hcase _ _ hm with hm | hm
  ·have:=(hF _ _ hm).1;simp [BoxC.real] at this
  ·exact hgb _ _ _ hm
 refine⟨v,S',β',rfl,?_,he,hv,hb⟩
 exact {
  S0sub:=fun b hb'=>hI.S0sub b (hi.S0sub b hb')
  Snew:=fun b hb'=>by
   rcases hI.Snew b hb' with h | h | h
   ·exact hi.Snew b h
   ·exact .inr h.2.1
   ·exact .inr (.inr (Nat.le_trans hi.size h))
  Slt:=hI.Slt
  kept:=fun b hb' hp=>by
   refine (hI.kept b (Nat.lt_of_lt_of_le hb' hi.size) ?_).trans (hi.kept b hb' hp)
   rintro⟨_,h | h,_⟩
   ·exact hp h
   ·omega
  os:=hI.os.trans hi.os
  tape:=hI.tape.trans hi.tape
  output:=hI.output.trans hi.output
  size:=Nat.le_trans hi.size hI.size
  box:=fun j x hj=>by
   rcases hcase j x hj with hj | hj
   ·rw [hFb j x hj]
    exact (hi.box j x (hmF hj)).ext he (fun b hb'=>hI.kept b (hFlt j x b hj hb') fun h=>h.2.2 ⟨j,x,hj,hb'⟩) (fun q hq=>hb q ((hF j x hj).2.2.1 q hq))
   ·exact hI.box j x hj
  priv:=fun j x hj b hb'=>by
   rcases hcase j x hj with hj | hj
   ·rw [hFb j x hj] at hb'
    obtain⟨g1,g2,g3⟩:=hi.priv j x (hmF hj) b hb'
    refine⟨fun hs=>?_,Nat.lt_of_lt_of_le g2 hI.size,g3⟩
    rcases hI.Snew b hs with h | h | h
    ·exact g1 h
    ·exact h.2.2 ⟨j,x,hj,hb'⟩
    ·simp only at h;omega
   ·refine⟨(hI.priv j x hj b hb').1,(hI.priv j x hj b hb').2.1,?_⟩
    rcases (hI.priv j x hj b hb').2.2 with h | h
    ·exact h.2.1
    ·exact .inr (Nat.le_trans hi.size h)
  inj:=fun j x j' x' hj hj' b h1 h2=>by
   rcases hcase j x hj with hj | hj
   ·rw [hFb j x hj] at h1
    rcases hcase j' x' hj' with hj' | hj'
    ·rw [hFb j' x' hj'] at h2
     exact hi.inj j x j' x' (hmF hj) (hmF hj') b h1 h2
    ·exact absurd h2 (hsep j x j' x' b hj hj' h1)
   ·rcases hcase j' x' hj' with hj' | hj'
    ·rw [hFb j' x' hj'] at h2
     exact absurd h1 (hsep j' x' j x b hj' hj h2)
    ·exact hI.inj j x j' x' hj hj' b h1 h2
  tab:=hI.tab
  one:=fun j Y st j' Y' st' hj hj'=>hi.one j Y st j' Y' st' (hmem (hgh _ _ _ hj)) (hmem (hgh _ _ _ hj'))
  frn:=fun j Y st hj=>by
   have hj0:=hgh _ _ _ hj
   obtain⟨h1,h2,_,h4,B,h5,h6⟩:=hI.frn j Y st (hbg _ _ _ hj0)
   obtain⟨_,_,f3,f4,_⟩:=hi.frn j Y st (hmem hj0)
   refine⟨h1,h2,f3,fun k' c' hk' b hb'=>?_,B,h5,fun b hb'=>⟨(h6 b hb').1,(h6 b hb').2.1,?_,fun k' c' hk' hbase=>?_⟩⟩
   ·rcases hcase k' c' hk' with hk' | hk'
    ·rw [hFb k' c' hk'] at hb';exact f4 k' c' (hmF hk') b hb'
    ·exact h4 k' c' hk' b hb'
   ·rcases (h6 b hb').2.2.1 with h | h
    ·exact h.2.1
    ·exact .inr (Nat.le_trans hi.size h)
   ·rcases hcase k' c' hk' with hk' | hk'
    ·rw [hFb k' c' hk'] at hbase
     rcases (h6 b hb').2.2.1 with h | h
     ·exact h.2.2 ⟨k',c',hk',hbase⟩
     ·have:=hFlt k' c' b hk' hbase;simp only at h;omega
    ·exact (h6 b hb').2.2.2 k' c' hk' hbase
  fix:=hI.fix }
def chFA (kp:List Nat)(fK:Nat→SV)(fL:SV)(i:Nat):SV:=if i∈kp then fK i else fL
variable {ops:Array Oper} {fL:SV}
theorem draw_chainA {C:Ctx} {m kL dL iA kA:Nat} {zA:List SV} {TA:TypeId} {ch kp:List Nat} {fK:Nat→SV} {css:List (Option BoxC)} {QQ:Exit→Act→World→Prop} {fs:List SV} {sls:List SL} {K:SL→Boxes→Prop} (hd:DrawOK ops m)(hdst:∀ o,o∈ops.toList→dstOK n o.dst)(hnd:∀ o,o∈ops.toList→notDefer o=true)(hL:ChainOK ops m ch kp)(hA0:LateOK P ops m iA kA zA TA)(hmA:m=iA+1)(hchA:∀ i,i∈ch→i < iA)
  (hfrA:∀ (i:Nat) (c:Option BoxC),css[i]? = some c→hasBx kA (bxC kL c bx)=false) (hslA:∀ t,(sget sl t).has kA=false) (hfLA:∀ i,(chFA kp fK fL i).has kA=false) (hzA:(BoxC.cells (zA.map (spurge kA))).has kL=false) (hAL:kA≠kL)
  (hA1:∃ s,sls[iA]? = some s∧fs[iA]? = some (.box kA 0)∧sls[iA+1]? = some (sput s (some kA) (.box kA 0)))
  (hgh:∀ (i:Nat) (c:Option BoxC),css[i]? = some c→∀ x,c=some x→∀ Y st,x≠.ghost Y st)
  (hreal:∀ (i:Nat) (c:BoxC),css[i]? = some (some c)→c.real=true) (hclen:css.length=iA+1)
  (hK:∀ sl bx S w β a,K sl bx→St C n S w β a sl bx→QQ .normal a w) (h0:sls[0]? = some sl) (hfr:∀ x,(kL,x) ∉ bx) (hsl:∀ t,(sget sl t).has kL=false)
  (hyL:∀ i o,i∈ch→ops[i]? = some o→∃ s c c',sls[i]? = some s∧fs[i]? = some (chFA kp fK fL i)∧sls[i+1]? = some (sput s o.dst (chFA kp fK fL i))∧css[i]? = some c∧css[i+1]? = some (some c')∧OpT P o (opnd s) (bxC kL c bx) (chFA kp fK fL i) (bxC kL (some c') bx) (chP kp kL i))
  (hy:∀ (i:Nat) (o:Oper),i < iA→i ∉ ch→ops[i]? = some o→∃ s f,sls[i]? = some s∧fs[i]? = some f∧Yield P ops s bx o f∧(o.dst≠none→f.has kL=false∧f.has kA=false)∧sls[i+1]? = some (sput s o.dst f))
  (hcq:∀ i,i < iA→i ∉ ch→css[i+1]? = css[i]?)
  (hlast:∃ i o,i∈ch∧i ∉ kp∧(∀ j,j∈ch→j≤i∨j∈kp)∧ops[i]? = some o∧o.dst=some dL)
  (hend:∃ e c,sls[iA]? = some e∧css[iA]? = some c∧Run P n ops (ops.toList.drop m) (sput (sput (purge1 kL e) (some dL) fL) (some kA) (.box kA 0)) ((kA,.cells (zA.map (spurge kA)))::bxC kL c bx) K) :
  ∀ (fuel:Nat) (listed:Array Bool) (a:Act) (w:World),listed.size=ops.size→left ops.size listed≤fuel →
   (∀ (i:Nat) (o:Oper),ops[i]? = some o→listed.getD i false=true→∀ e,e∈o.after→Region.binds .any e=true→listed.getD e.on false=true) →
   (((∀ i,listed.getD i false=true→i < m)∧(∃ S β q c bxx,q≤iA∧(q=iA∨q∈ch)∧(∀ j,j∈ch→(listed.getD j false=true↔j < q))∧css[q]? = some c∧((listed.getD iA false=true∧bxx=(kA,.cells (zA.map (spurge kA)))::bxC kL c bx)∨(listed.getD iA false=false∧bxx=bxC kL c bx))∧Inv C S w β bxx∧a.tmps.size=n∧Marks C S w a.defers∧∀ t x,Cur ops fs sl (fun i=>listed.getD i false=true) t x→(x.has kL=true→LiveC ops ch kp q t)→RepV S w β x (a.tmps.getD t undef))) ∨
    (∃ j,m≤j∧j≤ops.size∧(∀ i,listed.getD i false=true↔i < j)∧∃ sl' bx' S β,St C n S w β a sl' bx'∧Run P n ops (ops.toList.drop j) sl' bx' K)) →
   wpAnyIn (FW ro) 0 P .any ops QQ fuel listed a w:=by
 have hyA:∀ (i:Nat) (o:Oper),i < m→ops[i]? = some o→∃ s f,sls[i]? = some s∧fs[i]? = some f∧sls[i+1]? = some (sput s o.dst f):=by
  intro i o hi ho
  by_cases he:i∈ch
  ·obtain⟨s,c,c',h1,h2,h3,_⟩:=hyL i o he ho
   exact⟨s,_,h1,h2,h3⟩
  ·by_cases hiA:i=iA
   ·subst hiA
    obtain⟨s,h1,h2,h3⟩:=hA1
    obtain⟨oL,g1,_,_,g4⟩:=hA0.op
    rw [ho] at g1;simp only [Option.some.injEq] at g1;subst g1
    exact⟨s,_,h1,h2,by rw [g4];exact h3⟩
   ·obtain⟨s,f,a1,a2,_,_,a3⟩:=hy i o (by omega) he ho;exact⟨s,f,a1,a2,a3⟩
 have htext:=cur_text (fs:=fs) (sls:=sls) (sl:=sl) hd h0 hyA
 have conv:∀ (listed:Array Bool) (a:Act) (w:World),(∀ i,listed.getD i false=true→i < m)→(∀ i,i < m→listed.getD i false=true)→(∃ S β q c bxx,q≤iA∧(q=iA∨q∈ch)∧(∀ j,j∈ch→(listed.getD j false=true↔j < q))∧css[q]? = some c∧((listed.getD iA false=true∧bxx=(kA,.cells (zA.map (spurge kA)))::bxC kL c bx)∨(listed.getD iA false=false∧bxx=bxC kL c bx))∧Inv C S w β bxx∧a.tmps.size=n∧Marks C S w a.defers∧∀ t x,Cur ops fs sl (fun i=>listed.getD i false=true) t x→(x.has kL=true→LiveC ops ch kp q t)→RepV S w β x (a.tmps.getD t undef)) →
   ∃ sl' bx' S β,St C n S w β a sl' bx'∧Run P n ops (ops.toList.drop m) sl' bx' K:=by
  rintro listed a w hA hall ⟨S,β,q,c,bxx,hqm,hq,hlq,hcc,hbb,hi,hsz,hdf,hc⟩
  obtain⟨e,c1,he,hc1,hr⟩:=hend
  have hqm':q=iA:=by
   rcases hq with h | h
   ·exact h
   ·have:=(hlq q h).1 (hall q (hL.lt q h));omega
  subst hqm'
  have hbxx:bxx=(kA,.cells (zA.map (spurge kA)))::bxC kL c bx:=by
   rcases hbb with ⟨_,h⟩ | ⟨h,_⟩
   ·exact h
   ·rw [hall _ hA0.lt] at h;simp at h
  subst hbxx
  rw [hcc] at hc1;simp only [Option.some.injEq] at hc1;subst hc1
  obtain⟨iz,oz,z1,z0,z2,z3,z4⟩:=hlast
  have hlive:LiveC ops ch kp q dL:=⟨iz,oz,z1,hchA iz z1,fun j hj _=>z2 j hj,z3,z4⟩
  obtain⟨oA,y1,y2,y3,y4⟩:=hA0.op
  obtain⟨_,_,y5,_⟩:=hA1
  refine⟨_,_,S,β,⟨hi,hsz,hdf,fun t=>?_⟩,hr⟩
  simp only [sput,sget]
  split
  ·rename_i ht
   subst ht
   exact hc _ _ (.inl ⟨q,oA,hall q hA0.lt,y1,y4,y5⟩) (fun hx=>by simp [SV.has,hAL] at hx)
  rename_i htA
  split
  ·rename_i ht
   subst ht
   obtain⟨_,_,_,_,f2,_⟩:=hyL iz oz z1 z3
   unfold chFA at f2
   rw [if_neg z0] at f2
   exact hc _ _ (.inl ⟨iz,oz,hall iz (hL.lt iz z1),z3,z4,f2⟩) (fun _=>hlive)
  ·rw [sget_purge1]
   unfold spurge
   split
   ·exact .undef _
   ·rename_i hno
    refine hc t _ ?_ (fun h=>absurd h hno)
    rcases htext q e (by omega) he t with ⟨i,o,h1,h2,h3,h4⟩ | ⟨h1,h2⟩
    ·exact .inl ⟨i,o,hall i (by omega),h2,h3,h4⟩
    ·refine .inr ⟨fun i o hx ho hdt=>?_,h2⟩
     rcases Nat.lt_or_ge i q with h | h
     ·exact h1 i o h ho hdt
     ·have:i=q:=by have:=hA i hx;omega
      subst this
      rw [ho] at y1;simp only [Option.some.injEq] at y1;subst y1
      rw [y4] at hdt;simp only [Option.some.injEq] at hdt;exact htA hdt
 have hall_of_ready:∀ listed:Array Bool,listed.size=ops.size→Region.ready .any ops listed=[]→∀ i,i < ops.size→listed.getD i false=true:=by
  intro listed hs hr i
  induction i using Nat.strongRecOn with
  | _ i ih =>
   intro hi
   cases hl:listed.getD i false with
   | true=>rfl
   | false =>
    exfalso
    have:i∈Region.ready .any ops listed:=by
     rw [mem_ready]
     refine⟨?_,ops[i],Array.getElem?_eq_getElem hi,fun e he hb=>?_⟩
     ·have hi':i < listed.size:=by omega
      simp [Array.getD,hi'] at hl ⊢;exact hl
     ·have hlt:=hd.back i _ (Array.getElem?_eq_getElem hi) e he hb
      exact ih e.on hlt (by omega)
    rw [hr] at this;simp at this
 intro fuel
 induction fuel with
 | zero =>
  intro listed a w hs hleft hdown hinv
  have hall:∀ i,i < ops.size→listed.getD i false=true:=by
   intro i hi
   cases hl:listed.getD i false with
   | true=>rfl
   | false =>
    exfalso
    have:0 < left ops.size listed:=by
     unfold left
     rw [List.countP_pos_iff]
     exact⟨i,List.mem_range.2 hi,by simp [hl]⟩
    omega
  have hready:Region.ready .any ops listed=[]:=by
   rw [List.eq_nil_iff_forall_not_mem]
   intro i hi
   rw [mem_ready] at hi
   obtain⟨h1,o,ho,_⟩:=hi
   have hlt:=(Array.getElem?_eq_some_iff.1 ho).1
   have:=hall i hlt
   have hi':i < listed.size:=by omega
   simp [Array.getD,hi'] at this h1
   rw [this] at h1;simp at h1
  refine⟨hready,?_⟩
  rcases hinv with ⟨hA,hA2⟩ | ⟨j,hj1,hj2,hj3,sl',bx',S,β,hst,hrun⟩
  ·have hm:m=ops.size:=by
    rcases Nat.lt_or_ge m ops.size with h | h
    ·have:=hA m (hall m h);omega
    ·have:=hd.le;omega
   obtain⟨sl',bx',S,β,hst,hrun⟩:=conv listed a w hA (fun i hi=>hall i (by omega)) hA2
   rw [List.drop_eq_nil_of_le (by simp;omega)] at hrun
   exact hK sl' bx' S w β a hrun hst
  ·have hj:j=ops.size:=by
    rcases Nat.lt_or_ge j ops.size with h | h
    ·have:=(hj3 j).1 (hall j h);omega
    ·omega
   rw [List.drop_eq_nil_of_le (by simp;omega)] at hrun
   exact hK sl' bx' S w β a hrun hst
 | succ fuel ih =>
  intro listed a w hs hleft hdown hinv
  refine⟨?_,?_⟩
  ·intro hready
   have hall:=hall_of_ready listed hs hready
   rcases hinv with ⟨hA,hA2⟩ | ⟨j,hj1,hj2,hj3,sl',bx',S,β,hst,hrun⟩
   ·have hm:m=ops.size:=by
     rcases Nat.lt_or_ge m ops.size with h | h
     ·have:=hA m (hall m h);omega
     ·have:=hd.le;omega
    obtain⟨sl',bx',S,β,hst,hrun⟩:=conv listed a w hA (fun i hi=>hall i (by omega)) hA2
    rw [List.drop_eq_nil_of_le (by simp;omega)] at hrun
    exact hK sl' bx' S w β a hrun hst
   ·have hj:j=ops.size:=by
     rcases Nat.lt_or_ge j ops.size with h | h
     ·have:=(hj3 j).1 (hall j h);omega
     ·omega
    rw [List.drop_eq_nil_of_le (by simp;omega)] at hrun
    exact hK sl' bx' S w β a hrun hst
  ·intro i hi
   rw [mem_ready] at hi
   obtain⟨hnot,o,ho,hpre⟩:=hi
   have hilt:i < ops.size:=(Array.getElem?_eq_some_iff.1 ho).1
   have hil:i < listed.size:=by omega
   have hnot':listed.getD i false=false:=by simp [Array.getD,hil] at hnot ⊢;exact hnot
   have hleft':left ops.size (listed.setIfInBounds i true)≤fuel:=by have:=left_set hs hilt hnot';omega
   have hX':∀ j,(listed.setIfInBounds i true).getD j false=true↔(j=i∨listed.getD j false=true):=by
    intro j
    by_cases hj:i=j
    ·subst hj;simp [hil]
    ·rw [getD_set_ne false hj];simp [Ne.symm hj]
   have hdown':∀ (k:Nat) (o':Oper),ops[k]? = some o'→(listed.setIfInBounds i true).getD k false=true→∀ e,e∈o'.after→Region.binds .any e=true→(listed.setIfInBounds i true).getD e.on false=true:=by
    intro k o' ho' hk e he hb
    rw [hX'] at hk ⊢
    rcases hk with rfl | hk
    ·rw [ho] at ho';simp only [Option.some.injEq] at ho';subst ho'
     exact .inr (hpre e he hb)
    ·exact .inr (hdown k o' ho' hk e he hb)
   have hbehind:m≤i→∀ j,j < i→listed.getD j false=true:=fun hm=>hd.tail _ hdown i o ho hm hpre
   simp only [wpOpIn,ho]
   have hmemo:o∈ops.toList:=by have:=Array.mem_of_getElem? ho;simpa using this
   have stepB:∀ (sl':SL) (bx':Boxes) (S:Nat→Prop) (β:Names),m≤i→(∀ k,listed.getD k false=true↔k < i)→St C n S w β a sl' bx'→Run P n ops (ops.toList.drop i) sl' bx' K →
     (if Region.wanted o (yielded ops a.tmps)=true then Oper.wpIn (FW ro) 0 P o a w (wpAnyIn (FW ro) 0 P .any ops QQ fuel (listed.setIfInBounds i true)) QQ
      else (∀ f,o.about P w a.eval=some f→(FW ro).fn f)∧wpAnyIn (FW ro) 0 P .any ops QQ fuel (listed.setIfInBounds i true) (a.put o.dst undef) w):=by
    intro sl' bx' S β hm hX hst hrun
    have dp:ops.toList.drop i=o::ops.toList.drop (i+1):=by
     rw [List.drop_eq_getElem_cons (by simpa using hilt)]
     have:=(Array.getElem?_eq_some_iff.1 ho).2
     simp [this]
    rw [dp] at hrun
    obtain⟨g,hg,hdo,h1,h2⟩:=hrun
    have hw:=guard_rep (a:=a) (S:=S) (w:=w) (β:=β) (fun t ht=>by
     obtain⟨j,want,_,hj⟩:=ht
     exact⟨hst.slot t,by rw [hst.size];exact dst_lt_of_gslot hdst hj⟩) hg
    rw [hw]
    have hXn:∀ k,(listed.setIfInBounds i true).getD k false=true↔k < i+1:=by intro k;rw [hX',hX];omega
    cases g with
    | true =>
     simp only [if_true]
     obtain⟨r,bx1,pg,hop,hrun'⟩:=h1 rfl
     refine Oper.wpIn_ofQ (hnd o hmemo) (hop C S w β a hst.inv fun x _=>hst.opnd x) ?_
     rintro a' w' ⟨v,S',β',rfl,hi',he,hv,hb⟩
     exact ih _ _ _ (by simpa using hs) hleft' hdown' (.inr ⟨i+1,by omega,by omega,hXn,_,bx1,S',β',hst.put hdo hi' he hv hb,hrun'⟩)
    | false =>
     simp only [Bool.false_eq_true,if_false]
     refine⟨fun _ _=>trivial,?_⟩
     exact ih _ _ _ (by simpa using hs) hleft' hdown' (.inr ⟨i+1,by omega,by omega,hXn,_,bx',S,β,hst.put (pg:=[]) hdo hst.inv (SExt.refl S w) (.tuple [] [] rfl (by simp)) (fun _ _=>rfl),h2 rfl⟩)
   rcases hinv with ⟨hA,hA2⟩ | ⟨j,hj1,hj2,hj3,sl',bx',S,β,hst,hrun⟩
   ·by_cases him:i < m
    ·
     obtain⟨s,f,q1,q2,q3⟩:=hyA i o him ho
     obtain⟨S,β,q,c,bxx,hqm,hq,hlq,hcc,hbb,hi,hsz,hdf,hc⟩:=hA2
     have hcur:∀ t,t∈o.looksAt ops→Cur ops fs sl (fun i=>listed.getD i false=true) t (sget s t):=by
      intro t ht
      rcases htext i s (by omega) q1 t with ⟨k,ok,g1,g2,g3,g4⟩ | ⟨g1,g2⟩
      ·obtain⟨_,e,he,hb,hon⟩:=hd.reads i k o ok t him (by omega) ho g2 ht g3
       exact .inl ⟨k,ok,by rw [← hon];exact hpre e he hb,g2,g3,g4⟩
      ·refine .inr ⟨fun k ok hk hok hdk=>?_,g2⟩
       have hkm:=hA k hk
       obtain⟨hki,_⟩:=hd.reads i k o ok t him hkm ho hok ht hdk
       exact g1 k ok hki hok hdk
     have hA':∀ k,(listed.setIfInBounds i true).getD k false=true→k < m:=by
      intro k hk;rw [hX'] at hk;rcases hk with rfl | hk
      ·exact him
      ·exact hA k hk
     have hput:∀ (S':Nat→Prop) (w':World) (β':Names) (v:Value) (q':Nat),SExt S w S' w'→(∀ j,j≠kL→j≠kA→β' j = β j)→(i≠iA→β' kA = β kA)→((i∈ch→i∈kp)→β' kL = β kL∧∀ t,LiveC ops ch kp q' t→o.dst=some t∨LiveC ops ch kp q t)→(i∈ch→i ∉ kp→∀ t,LiveC ops ch kp q' t→o.dst=some t)→RepV S' w' β' f v →
       ∀ t x,Cur ops fs sl (fun k=>(listed.setIfInBounds i true).getD k false=true) t x→(x.has kL=true→LiveC ops ch kp q' t)→RepV S' w' β' x ((a.put o.dst v).tmps.getD t undef):=by
      intro S' w' β' v q' he hb1 hb4 hb2 hb3 hv t x hcur' hlv
      have hdo:=hdst o hmemo
      have old:(∀ d,o.dst=some d→d≠t)→RepV S' w' β' x ((a.put o.dst v).tmps.getD t undef):=by
       intro hne
       have hsame:(a.put o.dst v).tmps.getD t undef=a.tmps.getD t undef:=by
        cases hdd:o.dst with
        | none=>rfl
        | some d=>rw [hdd] at hdo;rw [getD_put (by rw [hsz];exact hdo),if_neg (hne d hdd)]
       rw [hsame]
       have hlow:x.has kL=true→i∈ch→i∈kp:=fun hx hich=>Classical.byContradiction fun hkp=>hne t (hb3 hich hkp t (hlv hx)) rfl
       refine (hc t x ?_ ?_).ext he (fun k hk=>?_)
       ·rcases hcur' with ⟨k,ok,g1,g2,g3,g4⟩ | ⟨g1,g2⟩
        ·rw [hX'] at g1
         rcases g1 with rfl | g1
         ·rw [ho] at g2;simp only [Option.some.injEq] at g2;subst g2
          exact absurd rfl (hne t g3)
         ·exact .inl ⟨k,ok,g1,g2,g3,g4⟩
        ·exact .inr ⟨fun k ok hk hok=>g1 k ok ((hX' k).2 (.inr hk)) hok,g2⟩
       ·intro hx
        exact ((hb2 (hlow hx)).2 t (hlv hx)).resolve_left fun h=>hne t h rfl
       ·by_cases hkA:k=kA
        ·subst hkA
         refine hb4 fun hiA=>?_
         have hxk:x.has k=false:=by
          rcases hcur' with ⟨j,oj,g1,g2,g3,g4⟩ | ⟨g1,g2⟩
          ·rw [hX'] at g1
           by_cases hji:j=i
           ·subst hji
            rw [ho] at g2;simp only [Option.some.injEq] at g2;subst g2
            exact absurd rfl (hne t g3)
           ·have hjl:=g1.resolve_left hji
            by_cases hjc:j∈ch
            ·obtain⟨_,_,_,_,e2,_⟩:=hyL j oj hjc g2
             rw [g4] at e2;simp only [Option.some.injEq] at e2;rw [e2];exact hfLA j
            ·obtain⟨_,f',_,e2,_,e4,_⟩:=hy j oj (by have:=hA j hjl;omega) hjc g2
             rw [g4] at e2;simp only [Option.some.injEq] at e2;subst e2;exact (e4 (by rw [g3];simp)).2
          ·rw [g2];exact hslA t
         rw [hxk] at hk;simp at hk
        ·by_cases hkL:k=kL
         ·subst hkL
          exact (hb2 (hlow hk)).1
         ·exact hb1 k hkL hkA
      cases hdd:o.dst with
      | none=>rw [← hdd];exact old (by simp [hdd])
      | some d =>
       by_cases hdt:d=t
       ·subst hdt
        rw [hdd] at hdo
        rw [getD_put (by rw [hsz];exact hdo),if_pos rfl]
        rcases hcur' with ⟨k,ok,g1,g2,g3,g4⟩ | ⟨g1,g2⟩
        ·rw [hX'] at g1
         have hki:k=i:=by
          rcases g1 with h | h
          ·exact h
          ·exact hd.uniq k i ok o d (hA k h) him g2 ho g3 hdd
         subst hki
         rw [q2] at g4;simp only [Option.some.injEq] at g4;subst g4;exact hv
        ·exact absurd hdd (g1 i o ((hX' i).2 (.inl rfl)) ho)
       ·rw [← hdd];exact old (by intro d' hd';rw [hdd] at hd';simp only [Option.some.injEq] at hd';subst hd';exact hdt)
     by_cases hiA:i=iA
     ·
      subst hiA
      have hich:i ∉ ch:=fun h=>Nat.lt_irrefl _ (hchA i h)
      obtain⟨oL,g1,g2,g3,g4⟩:=hA0.op
      rw [ho] at g1;simp only [Option.some.injEq] at g1;subst g1
      obtain⟨_,_,e2,_⟩:=hA1
      rw [q2] at e2;simp only [Option.some.injEq] at e2;subst e2
      have hbx:bxx=bxC kL c bx:=by
       rcases hbb with ⟨h,_⟩ | ⟨_,h⟩
       ·rw [hnot'] at h;simp at h
       ·exact h
      subst hbx
      have hw:Region.wanted o (yielded ops a.tmps)=true:=by simp [Region.wanted,g3]
      rw [hw]
      simp only [if_true]
      refine Oper.wpIn_ofQ (hnd o hmemo) (opT_alloc (ρ:=fun _=>.undef) hA0.key g2 hA0.zero C S w β a hi (fun x hx=>.undef _)) ?_
      rintro a' w' ⟨v,S',β',rfl,hi',he,hv,hb⟩
      have hb':∀ j,j≠kA→β' j = β j:=fun j hj=>hb j (by simpa using hj)
      refine ih _ _ _ (by simpa using hs) hleft' hdown' (.inl ⟨hA',S',β',q,c,_,hqm,hq,fun j hj=>?_,hcc,.inl ⟨(hX' i).2 (.inl rfl),rfl⟩,hi'.sub (fun j x hj=>mem_new (hfrA q c hcc) hj),by cases o.dst <;> simp [Act.put,hsz],hdf.put he,hput S' w' β' v q he (fun j _ hj=>hb' j hj) (fun h=>absurd rfl h) (fun _=>⟨hb' kL (Ne.symm hAL),fun _ h=>.inr h⟩) (fun h=>absurd h hich) hv⟩)
      rw [hX',← hlq j hj]
      constructor
      ·rintro (rfl | h)
       ·exact absurd hj hich
       ·exact h
      ·exact .inr
     by_cases hich:i∈ch
     ·
      obtain⟨sL,cL,c',e1,e2,e3,e4,e5,hop⟩:=hyL i o hich ho
      rw [q1] at e1;simp only [Option.some.injEq] at e1;subst e1
      rw [q2] at e2;simp only [Option.some.injEq] at e2;subst e2
      have hiq:i=q:=by
       have h1:¬ i < q:=fun h=>by have:=(hlq i hich).2 h;rw [hnot'] at this;simp at this
       rcases Nat.lt_or_ge q i with h | h
       ·have hqch:q∈ch:=hq.resolve_left (by omega)
        have:=hL.down (X:=fun j=>listed.getD j false=true) hdown i o hich ho hpre q hqch h
        have:=(hlq q hqch).1 this;omega
       ·omega
      subst hiq
      rw [hcc] at e4;simp only [Option.some.injEq] at e4;subst e4
      obtain⟨oL,g1,g2⟩:=hL.op i hich
      rw [ho] at g1;simp only [Option.some.injEq] at g1;subst g1
      have hw:Region.wanted o (yielded ops a.tmps)=true:=by simp [Region.wanted,g2]
      rw [hw]
      simp only [if_true]
      have harg:∀ t,t∈o.looksAt ops→RepV S w β (sget s t) (a.tmps.getD t undef):=by
       intro t ht
       refine hc t _ (hcur t ht) fun hx=>?_
       rcases htext i s (by omega) q1 t with ⟨k,ok,g1,g2',g3',g4⟩ | ⟨g1,g2'⟩
       ·by_cases hkc:k∈ch
        ·exact⟨k,ok,hkc,g1,fun j hj hji=>hL.newest i hich o ho t ht k hkc ok g2' g3' j hj hji,g2',g3'⟩
        ·by_cases hkA:k=iA
         ·subst hkA
          obtain⟨_,_,y5,_⟩:=hA1
          rw [g4] at y5;simp only [Option.some.injEq] at y5
          rw [y5] at hx;simp [SV.has,hAL] at hx
         ·obtain⟨_,f2,_,w2,_,w4,_⟩:=hy k ok (by omega) hkc g2'
          rw [g4] at w2;simp only [Option.some.injEq] at w2
          rw [w2,(w4 (by rw [g3'];simp)).1] at hx;cases hx
       ·rw [g2',hsl t] at hx;cases hx
      have hargs:∀ x,x∈o.op.operands→RepV S w β (opnd s x) (a.eval x):=fun x hx=>by
       cases x with
       | tmp t=>exact harg t (mem_looksAt_op hx)
       | const v=>exact repV_const S w β v
       | global g=>exact .undef _
       | func f=>exact .clo f [] [] rfl (by simp)
      have hgc:∀ (k:Nat) (Y:Yld) st,(k,BoxC.ghost Y st)∈bxC kL (some c') bx→(k,BoxC.ghost Y st)∈bx:=fun k Y st hm=>by
       rcases List.mem_cons.1 hm with he | hm
       ·simp only [Prod.mk.injEq] at he
        exact absurd he.2.symm (hgh (i+1) (some c') e5 c' rfl Y st)
       ·exact hm
      have hgd:∀ (k:Nat) (Y:Yld) st,(k,BoxC.ghost Y st)∈bxC kL c bx→(k,BoxC.ghost Y st)∈bx:=fun k Y st hm=>by
       cases c with
       | none=>exact hm
       | some x =>
        rcases List.mem_cons.1 hm with he | hm
        ·simp only [Prod.mk.injEq] at he
         exact absurd he.2.symm (hgh i (some x) hcc x rfl Y st)
        ·exact hm
      have hup:∀ (k:Nat) (x:BoxC) (d:Option BoxC),(k,x)∈bx→(k,x)∈bxC kL d bx:=fun k x d hm=>by
       cases d with
       | none=>exact hm
       | some y=>exact List.mem_cons_of_mem _ hm
      have hpg:∀ k,k∈chP kp kL i→k=kL:=fun k hk=>by unfold chP at hk;split at hk <;> simp at hk;exact hk
      have hrun:o.wpx P a w (fun a' w'=>∃ v S' β',a'=a.put o.dst v∧(∃ bxy,((listed.getD iA false=true∧bxy=(kA,.cells (zA.map (spurge kA)))::bxC kL (some c') bx)∨(listed.getD iA false=false∧bxy=bxC kL (some c') bx))∧Inv C S' w' β' bxy)∧SExt S w S' w'∧RepV S' w' β' (chFA kp fK fL i) v∧∀ k,k ∉ chP kp kL i→β' k = β k):=by
       rcases hbb with ⟨hl,rfl⟩ | ⟨hl,rfl⟩
       ·refine Oper.wpx_mono (OpT.frameG hop [(kA,.cells (zA.map (spurge kA)))] (fun k x hm=>?_) (fun k Y st hm=>hup _ _ _ (hgc k Y st hm)) (fun k Y st hm=>hup _ _ _ (hgd k Y st hm)) C S w β a hi hargs) ?_
        ·simp only [List.mem_cons,Prod.mk.injEq,List.not_mem_nil,or_false] at hm
         obtain⟨rfl,rfl⟩:=hm
         refine⟨rfl,fun h=>hAL (hpg _ h),fun q hq h=>?_,fun x hx=>(hasBx_mem (hfrA i c hcc) _ _ hx).1 rfl⟩
         rw [hpg _ h,hzA] at hq;cases hq
        ·rintro a' w' ⟨v,S',β',z1,z2,z3,z4,z5⟩
         exact⟨v,S',β',z1,⟨_,.inl ⟨hl,rfl⟩,z2⟩,z3,z4,z5⟩
       ·refine Oper.wpx_mono (hop C S w β a hi hargs) ?_
        rintro a' w' ⟨v,S',β',z1,z2,z3,z4,z5⟩
        exact⟨v,S',β',z1,⟨_,.inr ⟨hl,rfl⟩,z2⟩,z3,z4,z5⟩
      refine Oper.wpIn_ofQ (hnd o hmemo) hrun ?_
      rintro a' w' ⟨v,S',β',rfl,⟨bxy,hby,hi'⟩,he,hv,hb⟩
      obtain⟨q',n1,n2,n3,n4,n5⟩:=next_chain hcq (iA - (i+1)) (i+1) (by have:=hchA i hich;omega)
      rw [e5] at n5
      refine ih _ _ _ (by simpa using hs) hleft' hdown' (.inl ⟨hA',S',β',q',some c',bxy,n2,n3,fun j hj=>?_,n5,by rw [getD_set_ne false hiA];exact hby,hi',by cases o.dst <;> simp [Act.put,hsz],hdf.put he,hput S' w' β' v q' he (fun j hj _=>hb j fun h=>hj (hpg _ h)) (fun _=>hb kA fun h=>hAL (hpg _ h)) (fun h=>⟨hb kL (by unfold chP;rw [if_pos (h hich)];simp),fun t ht=>?_⟩) (fun _ hkp t ht=>?_) hv⟩)
      ·rw [hX']
       constructor
       ·rintro (rfl | h)
        ·omega
        ·have:=(hlq j hj).1 h;omega
       ·intro h
        rcases Nat.lt_or_ge j (i+1) with h2 | h2
        ·rcases Nat.lt_or_ge j i with h3 | h3
         ·exact .inr ((hlq j hj).2 h3)
         ·exact .inl (by omega)
        ·exact absurd hj (n4 j h2 h)
      ·obtain⟨k,ok,k1,k2,k3,k4,k5⟩:=ht
       rcases Nat.lt_trichotomy k i with h2 | h2 | h2
       ·exact .inr ⟨k,ok,k1,h2,fun j hj hji=>k3 j hj (by omega),k4,k5⟩
       ·subst h2
        rw [ho] at k4;simp only [Option.some.injEq] at k4;subst k4;exact .inl k5
       ·exact absurd k1 (n4 k (by omega) k2)
      ·obtain⟨k,ok,k1,k2,k3,k4,k5⟩:=ht
       have hik:=(k3 i hich (by omega)).resolve_right hkp
       have:k=i:=by
        rcases Nat.lt_or_ge i k with h | h
        ·exact absurd k1 (n4 k (by omega) k2)
        ·omega
       subst this
       rw [ho] at k4;simp only [Option.some.injEq] at k4;subst k4;exact k5
     ·obtain⟨s',f',r1,r2,hyd,r4,r5⟩:=hy i o (by omega) hich ho
      rw [q1] at r1;simp only [Option.some.injEq] at r1;subst r1
      rw [q2] at r2;simp only [Option.some.injEq] at r2;subst r2
      have hno:∀ t,t∈o.looksAt ops→(sget s t).has kL=false:=by
       intro t ht
       rcases htext i s (by omega) q1 t with ⟨k,ok,g1,g2,g3,g4⟩ | ⟨g1,g2⟩
       ·by_cases hkc:k∈ch
        ·exact absurd g3 (hL.apart i him hich o ho t ht k hkc ok g2)
        ·obtain⟨_,f2,_,w2,_,w4,_⟩:=hy k ok (by omega) hkc g2
         rw [g4] at w2;simp only [Option.some.injEq] at w2
         rw [w2];exact (w4 (by rw [g3];simp)).1
       ·rw [g2];exact hsl t
      have harg:∀ t,t∈o.looksAt ops→RepV S w β (sget s t) (a.tmps.getD t undef):=fun t ht=>hc t _ (hcur t ht) fun hx=>by rw [hno t ht] at hx;cases hx
      obtain⟨g,hg⟩:=hyd.some
      have hw:=guard_rep (a:=a) (S:=S) (w:=w) (β:=β) (fun t ht=>by
       obtain⟨j,want,hgd,hj⟩:=ht
       exact⟨harg t (mem_looksAt_guard hgd hj),by rw [hsz];exact dst_lt_of_gslot hdst hj⟩) hg
      rw [hw]
      have hlq':∀ j,j∈ch→((listed.setIfInBounds i true).getD j false=true↔j < q):=fun j hj=>by
       rw [hX',← hlq j hj]
       constructor
       ·rintro (rfl | h)
        ·exact absurd hj hich
        ·exact h
       ·exact .inr
      cases g with
      | true =>
       simp only [if_true]
       have hargs:∀ x,x∈o.op.operands→RepV S w β (opnd s x) (a.eval x):=fun x hx=>by
        cases x with
        | tmp t=>exact harg t (mem_looksAt_op hx)
        | const v=>exact repV_const S w β v
        | global g=>exact .undef _
        | func f=>exact .clo f [] [] rfl (by simp)
       have hF:∃ F:Boxes,bxx=F++bx∧∀ k x,(k,x)∈F→x.real=true∧∀ y,(k,y) ∉ bx:=by
        have h1:∃ F:Boxes,bxC kL c bx=F++bx∧∀ k x,(k,x)∈F→x.real=true∧∀ y,(k,y) ∉ bx:=by
         cases c with
         | none=>exact⟨[],rfl,by simp⟩
         | some c =>
          refine⟨[(kL,c)],rfl,fun k x hm=>?_⟩
          simp only [List.mem_cons,Prod.mk.injEq,List.not_mem_nil,or_false] at hm
          obtain⟨rfl,rfl⟩:=hm
          exact⟨hreal q _ hcc,hfr⟩
        rcases hbb with ⟨_,rfl⟩ | ⟨_,rfl⟩
        ·obtain⟨F,e1,e2⟩:=h1
         refine⟨(kA,.cells (zA.map (spurge kA)))::F,by rw [e1];rfl,fun k x hm=>?_⟩
         rcases List.mem_cons.1 hm with he | hm
         ·simp only [Prod.mk.injEq] at he
          obtain⟨rfl,rfl⟩:=he
          exact⟨rfl,fun y hy'=>(hasBx_mem (hfrA q c hcc) _ _ (by rw [e1];exact List.mem_append.2 (.inr hy'))).1 rfl⟩
         ·exact e2 k x hm
        ·exact h1
       have hrun:o.wpx P a w (fun a' w'=>∃ v S' β',a'=a.put o.dst v∧Inv C S' w' β' bxx∧SExt S w S' w'∧RepV S' w' β' f v∧β' = β):=by
        obtain⟨F,rfl,hF2⟩:=hF
        refine Oper.wpx_mono (OpT.frameG (hyd.yes hg) F (fun k x hm=>⟨(hF2 k x hm).1,by simp,fun _ _=>by simp,(hF2 k x hm).2⟩) (fun _ _ _ h=>h) (fun _ _ _ h=>h) C S w β a hi hargs) ?_
        rintro a' w' ⟨v,S',β',z1,z2,z3,z4,z5⟩
        exact⟨v,S',β',z1,z2,z3,z4,funext fun k=>z5 k (by simp)⟩
       refine Oper.wpIn_ofQ (hnd o hmemo) hrun ?_
       rintro a' w' ⟨v,S',β',rfl,hi',he,hv,hb⟩
       subst hb
       exact ih _ _ _ (by simpa using hs) hleft' hdown' (.inl ⟨hA',S',β',q,c,bxx,hqm,hq,hlq',hcc,by rw [getD_set_ne false hiA];exact hbb,hi',by cases o.dst <;> simp [Act.put,hsz],hdf.put he,hput S' w' β' v q he (fun _ _ _=>rfl) (fun _=>rfl) (fun _=>⟨rfl,fun _ h=>.inr h⟩) (fun h=>absurd h hich) hv⟩)
      | false =>
       simp only [Bool.false_eq_true,if_false]
       have hf:=hyd.no hg
       refine⟨fun _ _=>trivial,?_⟩
       exact ih _ _ _ (by simpa using hs) hleft' hdown' (.inl ⟨hA',S,β,q,c,bxx,hqm,hq,hlq',hcc,by rw [getD_set_ne false hiA];exact hbb,hi,by cases o.dst <;> simp [Act.put,hsz],hdf.put (SExt.refl S w),hput S w β undef q (SExt.refl S w) (fun _ _ _=>rfl) (fun _=>rfl) (fun _=>⟨rfl,fun _ h=>.inr h⟩) (fun h=>absurd h hich) (by rw [hf];exact .tuple [] [] rfl (by simp))⟩)
    ·have hbe:=hbehind (by omega)
     have him':i=m:=by
      rcases Nat.lt_or_ge m i with h | h
      ·have:=hA m (hbe m h);omega
      ·omega
     subst him'
     obtain⟨sl',bx',S,β,hst,hrun⟩:=conv listed a w hA hbe hA2
     exact stepB sl' bx' S β (Nat.le_refl _) (fun k=>⟨hA k,hbe k⟩) hst hrun
   ·have hij:j≤i:=by
     rcases Nat.lt_or_ge i j with h | h
     ·have:=(hj3 i).2 h;rw [hnot'] at this;simp at this
     ·exact h
    have hbe:=hbehind (by omega)
    have:i=j:=by
     rcases Nat.lt_or_ge j i with h | h
     ·have:=(hj3 j).1 (hbe j h);omega
     ·omega
    subst this
    exact stepB sl' bx' S β (by omega) hj3 hst hrun
def GG (k:Nat)(c:BoxC):Prop:=c.real=true∧c.has k=false
def ChRA (P:Program)(n:Nat)(ops:Array Oper)(m kL kA:Nat)(kp:List Nat)(fK:Nat→SV)(fL:SV)(bx:Boxes)(T:Option BoxC→SL→Prop):List Nat→Option BoxC→SL→Prop
 | [],c,sl=>T c sl
 | i::is,c,sl=>∃ c':BoxC,GG kA c'∧∀ o,ops[i]? = some o→OpT P o (opnd sl) (bxC kL c bx) (chFA kp fK fL i) (bxC kL (some c') bx) (chP kp kL i) ∧
   QRun P n ops ((ops.toList.take (is.headD m)).drop (i+1)) (sput sl o.dst (chFA kp fK fL i)) bx (ChRA P n ops m kL kA kp fK fL bx T is (some c'))
theorem ChRA.lists {m kL kA:Nat} {kp:List Nat} {fK:Nat→SV} {T:Option BoxC→SL→Prop} (hm:m≤ops.size):∀ (is:List Nat)(i0:Nat)(sl0:SL)(c0:Option BoxC),(∀ c,c0=some c→GG kA c)→is.Pairwise (· < ·)→(∀ i,i∈is→i0≤i∧i < m)→i0≤m →
  QRun P n ops ((ops.toList.take (is.headD m)).drop i0) sl0 bx (ChRA P n ops m kL kA kp fK fL bx T is c0) →
  ∃ (fs:List SV) (sls:List SL) (css:List (Option BoxC)),fs.length=m - i0∧sls.length=m - i0+1∧css.length=m - i0+1∧sls[0]? = some sl0∧css[0]? = some c0∧(∃ e c,sls[m - i0]? = some e∧css[m - i0]? = some c∧T c e) ∧
   (∀ j o,i0+j < m→i0+j ∉ is→ops[i0+j]? = some o→∃ s f,sls[j]? = some s∧fs[j]? = some f∧Yield P ops s bx o f∧sls[j+1]? = some (sput s o.dst f)) ∧
   (∀ j,i0+j < m→i0+j ∉ is→css[j+1]? = css[j]?) ∧
   (∀ j o,i0+j∈is→ops[i0+j]? = some o→∃ s c c',sls[j]? = some s∧fs[j]? = some (chFA kp fK fL (i0+j))∧sls[j+1]? = some (sput s o.dst (chFA kp fK fL (i0+j)))∧css[j]? = some c∧css[j+1]? = some (some c')∧OpT P o (opnd s) (bxC kL c bx) (chFA kp fK fL (i0+j)) (bxC kL (some c') bx) (chP kp kL (i0+j))) ∧
   (∀ (j:Nat) (c:BoxC),css[j]? = some (some c)→GG kA c)
 | [],i0,sl0,c0,hr,_,_,h0,h=>by
  obtain⟨fs,sls,a1,a2,a3,⟨e,a4,a5⟩,a6⟩:=h.yields
  have hlen:((ops.toList.take m).drop i0).length=m - i0:=by simp;omega
  simp only [List.headD_nil] at a1 a2 a4 a6
  rw [hlen] at a1 a2 a4
  refine⟨fs,sls,List.replicate (m - i0+1) c0,a1,a2,by simp,a3,by simp,⟨e,c0,a4,by simp,a5⟩,fun j o hj _ ho=>?_,fun j hj _=>?_,fun j o hj=>by simp at hj,fun j c hc=>?_⟩
  ·exact a6 j o (by rw [getElem?_seg hj];exact ho)
  ·rw [List.getElem?_replicate,List.getElem?_replicate,if_pos (by omega),if_pos (by omega)]
  ·rw [List.getElem?_replicate] at hc
   split at hc
   ·simp only [Option.some.injEq] at hc;exact hr c hc
   ·cases hc
 | i::is,i0,sl0,c0,hr,hp,hin,h0,h=>by
  obtain⟨hi0,him⟩:=hin i (by simp)
  rw [List.pairwise_cons] at hp
  obtain⟨fs1,sls1,a1,a2,a3,⟨e1,a4,c',hc',hop⟩,a6⟩:=h.yields
  have hlen:((ops.toList.take i).drop i0).length=i - i0:=by simp;omega
  simp only [List.headD_cons] at a1 a2 a4 a6
  rw [hlen] at a1 a2 a4
  have hio:ops[i]? = some (ops[i]'(by omega)):=Array.getElem?_eq_getElem _
  generalize ops[i]'(by omega)=oi at hio
  obtain⟨hT,hq⟩:=hop oi hio
  obtain⟨fs2,sls2,css2,b1,b2,b3,b4,b5,⟨e2,c2,b6,b7,b8⟩,b9,b10,b11,b12⟩:=ChRA.lists hm is (i+1) _ (some c') (fun c hc=>by cases hc;exact hc') hp.2 (fun k hk=>⟨by have:=hp.1 k hk;omega,(hin k (by simp [hk])).2⟩) (by omega) hq
  have s1:∀ j,j≤i - i0→(sls1++sls2)[j]? = sls1[j]?:=fun j hj=>List.getElem?_append_left (by omega)
  have s2:∀ j,(sls1++sls2)[i - i0+1+j]? = sls2[j]?:=fun j=>by rw [List.getElem?_append_right (by omega)];congr 1;omega
  have f1:∀ j,j < i - i0→(fs1++chFA kp fK fL i::fs2)[j]? = fs1[j]?:=fun j hj=>List.getElem?_append_left (by omega)
  have f2:(fs1++chFA kp fK fL i::fs2)[i - i0]? = some (chFA kp fK fL i):=by rw [List.getElem?_append_right (by omega),a1];simp
  have f3:∀ j,(fs1++chFA kp fK fL i::fs2)[i - i0+1+j]? = fs2[j]?:=fun j=>by
   rw [List.getElem?_append_right (by omega),a1,show i - i0+1+j - (i - i0)=j+1 by omega,List.getElem?_cons_succ]
  have c1:∀ j,j≤i - i0→(List.replicate (i - i0+1) c0++css2)[j]? = some c0:=fun j hj=>by
   rw [List.getElem?_append_left (by simp;omega),List.getElem?_replicate,if_pos (by omega)]
  have c3:∀ j,(List.replicate (i - i0+1) c0++css2)[i - i0+1+j]? = css2[j]?:=fun j=>by
   rw [List.getElem?_append_right (by simp),List.length_replicate];congr 1;omega
  have hmi:m - i0=i - i0+1+(m - (i+1)):=by omega
  refine⟨fs1++chFA kp fK fL i::fs2,sls1++sls2,List.replicate (i - i0+1) c0++css2,by simp;omega,by simp;omega,by simp;omega,by rw [s1 0 (by omega)];exact a3,c1 0 (by omega),⟨e2,c2,by rw [hmi,s2];exact b6,by rw [hmi,c3];exact b7,b8⟩,fun j o hj hn ho=>?_,fun j hj hn=>?_,fun j o hj ho=>?_,fun j c hc=>?_⟩
  ·rcases Nat.lt_or_ge j (i - i0) with hlt | hge
   ·obtain⟨s,f,g1,g2,g3,g4⟩:=a6 j o (by rw [getElem?_seg (by omega)];exact ho)
    exact⟨s,f,by rw [s1 j (by omega)];exact g1,by rw [f1 j hlt];exact g2,g3,by rw [s1 (j+1) (by omega)];exact g4⟩
   ·have hne:i0+j≠i:=fun he=>hn (by rw [he];simp)
    obtain⟨k,rfl⟩:∃ k,j=i - i0+1+k:=⟨j - (i - i0+1),by omega⟩
    have hidx:i0+(i - i0+1+k)=i+1+k:=by omega
    rw [hidx] at hj hn ho
    obtain⟨s,f,g1,g2,g3,g4⟩:=b9 k o hj (fun h=>hn (by simp [h])) ho
    exact⟨s,f,by rw [s2];exact g1,by rw [f3];exact g2,g3,by rw [show i - i0+1+k+1=i - i0+1+(k+1) by omega,s2];exact g4⟩
  ·rcases Nat.lt_or_ge j (i - i0) with hlt | hge
   ·rw [c1 j (by omega),c1 (j+1) (by omega)]
   ·have hne:i0+j≠i:=fun he=>hn (by rw [he];simp)
    obtain⟨k,rfl⟩:∃ k,j=i - i0+1+k:=⟨j - (i - i0+1),by omega⟩
    have hidx:i0+(i - i0+1+k)=i+1+k:=by omega
    rw [hidx] at hj hn
    have:=b10 k hj (fun h=>hn (by simp [h]))
    rw [c3,show i - i0+1+k+1=i - i0+1+(k+1) by omega,c3];exact this
  ·rcases List.mem_cons.1 hj with he | hj'
   ·have hji:j=i - i0:=by omega
    subst hji
    rw [he,hio] at ho;simp only [Option.some.injEq] at ho;subst ho
    rw [he]
    refine⟨e1,c0,c',by rw [s1 _ (Nat.le_refl _)];exact a4,f2,?_,c1 _ (Nat.le_refl _),?_,hT⟩
    ·have:=s2 0;rw [Nat.add_zero] at this;rw [this];exact b4
    ·have:=c3 0;rw [Nat.add_zero] at this;rw [this];exact b5
   ·have hlt:=hp.1 _ hj'
    obtain⟨k,rfl⟩:∃ k,j=i - i0+1+k:=⟨j - (i - i0+1),by omega⟩
    have hidx:i0+(i - i0+1+k)=i+1+k:=by omega
    rw [hidx] at hj' ho
    obtain⟨s,c,c'',g1,g2,g3,g4,g5,g6⟩:=b11 k o hj' ho
    rw [hidx]
    exact⟨s,c,c'',by rw [s2];exact g1,by rw [f3];exact g2,by rw [show i - i0+1+k+1=i - i0+1+(k+1) by omega,s2];exact g3,by rw [c3];exact g4,by rw [show i - i0+1+k+1=i - i0+1+(k+1) by omega,c3];exact g5,g6⟩
  ·rcases Nat.lt_or_ge j (i - i0+1) with hlt | hge
   ·rw [c1 j (by omega)] at hc;simp only [Option.some.injEq] at hc;exact hr c hc
   ·obtain⟨k,rfl⟩:∃ k,j=i - i0+1+k:=⟨j - (i - i0+1),by omega⟩
    rw [c3] at hc;exact b12 k c hc
variable {id:Nat}
theorem AWp.regionDrawCA (m iA kA:Nat)(TA:TypeId)(zA:List SV)(kL dL:Nat)(ch kp:List Nat)(fK:Nat→SV)(fL:SV)(B:Array Nat)(ks kb:List Nat)(hm:P.follows .mixedOrders=true)(hc:drawOK ops m B=true)(hd:dstsOK n ops.toList=true)(hL:chainOK ops m ch kp=true)(hA0:LateOK P ops m iA kA zA TA)(hmA:m=iA+1)
  (hchA:∀ i,i∈ch→i < iA) (hsort:ch.Pairwise (· < ·))
  (hlast:∃ i,i∈ch∧i ∉ kp∧(∀ j,j∈ch→j≤i∨j∈kp)∧dstAt ops i=some dL) (hfr:∀ x,(kL,x) ∉ bx) (hfs:freeCh kL [] sl=true) (hAL:kA≠kL) (hfA:fL.has kA=false) (hfK:∀ i,i∈kp→(fK i).has kA=false) (hzA:(BoxC.cells (zA.map (spurge kA))).has kL=false)
  (h:QRun P n ops (ops.toList.take (ch.headD iA)) sl bx (ChRA P n ops iA kL kA kp fK fL bx (fun c e=>freeCh kL (chDsts ops ch) e=true∧freeCh kA [] e=true∧hasBx kA bx=false ∧
   Run P n ops (ops.toList.drop m) (sput (sput (purge1 kL e) (some dL) fL) (some kA) (.box kA 0)) ((kA,.cells (zA.map (spurge kA)))::bxC kL c bx) fun sl' bx'=>Q .normal (keepSl ks sl') (keepBx kb bx')) ch none)) :
  AWp ro P n (.region id ops true) Q sl bx:=by
 intro C S w β a hs
 refine wpIn_region_any hm ?_
 have hdo:=drawOK_spec hc
 have hco:=chainOK_spec hL
 have hml:m≤ops.size:=hdo.le
 have hchF:∀ i,(chFA kp fK fL i).has kA=false:=fun i=>by
  unfold chFA
  split
  ·rename_i h;exact hfK i h
  ·exact hfA
 obtain⟨fs,sls,css,a1,a2,a3,a4,a5,⟨e,c,a6,a7,hfree,hfreeA,hbxA,hrun⟩,a8,a9,a10,a11⟩:=ChRA.lists (ops:=ops) (m:=iA) (by omega) ch 0 sl none (fun c hc=>by cases hc) hsort (fun i hi=>⟨Nat.zero_le _,hchA i hi⟩) (Nat.zero_le _) (by rw [List.drop_zero];exact h)
 rw [Nat.sub_zero] at a1 a2 a3 a6 a7
 simp only [Nat.zero_add] at a8 a9 a10
 have hsub:=sls_sub (os:=ops.toList.take iA) (fs:=fs) (sls:=sls) (fun i o ho=>by
  have him:i < iA:=by have:=(List.getElem?_eq_some_iff.1 ho).1;simp at this;omega
  rw [List.getElem?_take_of_lt him] at ho
  have ho:ops[i]? = some o:=by simpa using ho
  by_cases hi:i∈ch
  ·obtain⟨s,_,_,g1,g2,g3,_⟩:=a10 i o hi ho
   exact⟨s,_,g1,g2,g3⟩
  ·obtain⟨s,f,g1,g2,_,g4⟩:=a8 i o him hi ho
   exact⟨s,f,g1,g2,g4⟩)
 have hlen:(ops.toList.take iA).length=iA:=by simp;omega
 have hin:∀ i s,i≤iA→sls[i]? = some s→∀ p,p∈s→p∈e:=fun i s hi h1 p hp =>
  hsub (iA - i) i s e (by rw [hlen];omega) h1 (by rw [show i+(iA - i)=iA by omega];exact a6) p hp
 have hnd:∀ (i d:Nat) (o:Oper),i < iA→i ∉ ch→ops[i]? = some o→o.dst=some d→d ∉ chDsts ops ch:=by
  intro i d o him hi ho hdd hmem
  unfold chDsts at hmem
  obtain⟨j,hj,hj2⟩:=List.mem_filterMap.1 hmem
  obtain⟨oj,g1,_⟩:=hco.op j hj
  unfold dstAt at hj2
  rw [g1] at hj2
  simp only [Option.map_some,Option.getD_some] at hj2
  have:=hdo.uniq i j o oj d (by omega) (hco.lt j hj) ho g1 hdd hj2
  exact hi (this ▸ hj)
 have s1:∀ i,i≤iA→(sls++[sput e (some kA) (.box kA 0)])[i]? = sls[i]?:=fun i hi=>List.getElem?_append_left (by omega)
 have s2:(sls++[sput e (some kA) (.box kA 0)])[iA+1]? = some (sput e (some kA) (.box kA 0)):=by rw [List.getElem?_append_right (by omega),a2];simp
 have f1:∀ i,i < iA→(fs++[SV.box kA 0])[i]? = fs[i]?:=fun i hi=>List.getElem?_append_left (by omega)
 have f2:(fs++[SV.box kA 0])[iA]? = some (.box kA 0):=by rw [List.getElem?_append_right (by omega),a1];simp
 have hsl0:∀ p,p∈sl→p∈e:=fun p hp=>hin 0 sl (Nat.zero_le _) a4 p hp
 refine draw_chainA (P:=P) (sl:=sl) (bx:=bx) (dL:=dL) (kL:=kL) (iA:=iA) (kA:=kA) (zA:=zA) (TA:=TA) (ch:=ch) (kp:=kp) (fK:=fK) (fL:=fL) (css:=css) (K:=fun sl' bx'=>Q .normal (keepSl ks sl') (keepBx kb bx')) hdo (dstsOK_spec hd) (dstsOK_nd hd) hco hA0 hmA hchA ?_ ?_ hchF hzA hAL
  ⟨e,by rw [s1 iA (Nat.le_refl _)];exact a6,f2,s2⟩ (fun i c hc x hx Y st hg=>?_) (fun i c hc=>(a11 i c hc).1) a3 (fun sl' bx' S' w' β' a' hK hs'=>⟨_,_,S',β',hK,hs'.keep ks kb⟩) (sls:=sls++[sput e (some kA) (.box kA 0)]) (fs:=fs++[.box kA 0]) (by rw [s1 0 (Nat.zero_le _)];exact a4) hfr ?_ ?_ ?_ a9 ?_ ⟨e,c,by rw [s1 iA (Nat.le_refl _)];exact a6,a7,hrun⟩
  ops.size _ a _ (by simp) ?_ ?_ (.inl ⟨?_,S,β,?_⟩)
 ·intro i c hc
  cases c with
  | none=>exact hbxA
  | some c =>
   have:=(a11 i c hc).2
   simp only [bxC,hasBx,Bool.or_eq_false_iff,beq_eq_false_iff_ne]
   exact⟨⟨fun h=>hAL h.symm,this⟩,hbxA⟩
 ·intro t
  rcases sget_mem (sl:=sl) (t:=t) with h | h
  ·exact freeCh_mem hfreeA t _ (hsl0 _ h) (by simp)
  ·rw [h];rfl
 ·subst hx;subst hg
  have:=(a11 i _ hc).1
  simp [BoxC.real] at this
 ·intro t
  rcases sget_mem (sl:=sl) (t:=t) with h | h
  ·exact freeCh_mem hfs t _ h (by simp)
  ·rw [h];rfl
 ·intro i o hi ho
  have hlt:=hchA i hi
  obtain⟨s,c,c',g1,g2,g3,g4,g5,g6⟩:=a10 i o hi ho
  exact⟨s,c,c',by rw [s1 i (by omega)];exact g1,by rw [f1 i hlt];exact g2,by rw [s1 (i+1) (by omega)];exact g3,g4,g5,g6⟩
 ·intro i o him hi ho
  obtain⟨s,f,g1,g2,g3,g4⟩:=a8 i o him hi ho
  refine⟨s,f,by rw [s1 i (by omega)];exact g1,by rw [f1 i him];exact g2,g3,fun hne=>?_,by rw [s1 (i+1) (by omega)];exact g4⟩
  cases hdd:o.dst with
  | none=>exact absurd hdd hne
  | some d =>
   have hm':=hin (i+1) _ (by omega) g4 (d,f) (by rw [hdd];exact List.mem_cons_self ..)
   exact⟨freeCh_mem hfree d f hm' (hnd i d o him hi ho hdd),freeCh_mem hfreeA d f hm' (by simp)⟩
 ·obtain⟨i,hi,hkp,hle,hdd⟩:=hlast
  obtain⟨o,g1,_⟩:=hco.op i hi
  refine⟨i,o,hi,hkp,hle,g1,?_⟩
  unfold dstAt at hdd
  rw [g1] at hdd
  simpa using hdd
 ·unfold left
  exact Nat.le_trans (List.countP_le_length) (by simp)
 ·intro i o ho hx
  simp [Array.getD] at hx
 ·intro i hx
  simp [Array.getD] at hx
 ·obtain⟨q,n1,n2,n3,n4,n5⟩:=next_chain (m:=iA) (ch:=ch) (css:=css) a9 iA 0 (by omega)
  refine⟨q,none,bx,n2,n3,fun j hj=>?_,by rw [n5];exact a5,.inr ⟨by simp [Array.getD],rfl⟩,?_,hs.size,hs.defers.ext ⟨fun _ h=>h,fun _ _=>rfl⟩,?_⟩
  ·constructor
   ·intro h;simp [Array.getD] at h
   ·intro h;exact absurd hj (n4 j (Nat.zero_le _) h)
  ·exact (hs.inv.grow (w':={ w with drawn:=w.drawn+1 }) (fun _ h=>h) (fun _ h=>.inl h) hs.inv.Slt (fun _ _=>rfl) rfl rfl rfl (Nat.le_refl _)).1
  ·intro t x hcur _
   rcases hcur with ⟨i,o,h1,_⟩ | ⟨_,h2⟩
   ·simp [Array.getD] at h1
   ·rw [h2];exact (hs.slot t).ext ⟨fun _ h=>h,fun _ _=>rfl⟩ (fun _ _=>rfl)
def chKA (P:Program)(own:List Nat)(ops:Array Oper)(kL kA:Nat)(f:SV)(ps:List Nat)(bx:Boxes)(dst:Option Nat)(seg:List Oper)(sl:SL)(N:Option BoxC→SL→Prop):KB:=fun r bx' pg =>
 r=f∧(∀ k,k∈pg→k∈ps)∧∃ c':BoxC,bx'=(kL,c')::bx∧GG kA c'∧qrunV P own ops bx seg (sput sl dst f) (N (some c'))
def chVA (P:Program)(own:List Nat)(ops:Array Oper)(m kL kA:Nat)(kp:List Nat)(fK:Nat→SV)(fL:SV)(bx:Boxes)(T:Option BoxC→SL→Prop):List Nat→Option BoxC→SL→Prop
 | [],c,sl=>T c sl
 | i::is,c,sl=>opK P own (dstAt ops i) sl (bxC kL c bx) (opAt ops i) (chKA P own ops kL kA (chFA kp fK fL i) (chP kp kL i) bx (dstAt ops i) ((ops.toList.take (is.headD m)).drop (i+1)) sl (chVA P own ops m kL kA kp fK fL bx T is))
def chTA (P:Program)(own:List Nat)(ops:Array Oper)(m kL dL kA:Nat)(zA:List SV)(fL:SV)(ds:List Nat)(bx:Boxes)(K:SL→Boxes→Prop):Option BoxC→SL→Prop:=fun c sl =>
 freeCh kL ds sl=true∧freeCh kA [] sl=true∧hasBx kA bx=false∧runV P own ops (ops.toList.drop m) (sput (sput (purge1 kL sl) (some dL) fL) (some kA) (.box kA 0)) ((kA,.cells (zA.map (spurge kA)))::bxC kL c bx) K
variable {ps:List Nat} {dst:Option Nat}
theorem chVA_step0 {own:List Nat} {m kL kA i:Nat} {is kp:List Nat} {fK:Nat→SV} {fL f:SV} {T:Option BoxC→SL→Prop} {op:Op} {e i1:Nat} (h1:opAt ops i=op)(h2:dstAt ops i=dst)(h3:is.headD m=e)(h4:i+1=i1)(h5:chFA kp fK fL i=f)(h6:chP kp kL i=ps)
  (h:opK P own dst sl bx op (chKA P own ops kL kA f ps bx dst ((ops.toList.take e).drop i1) sl (chVA P own ops m kL kA kp fK fL bx T is))):chVA P own ops m kL kA kp fK fL bx T (i::is) none sl:=by
 subst h1;subst h2;subst h3;subst h4;subst h5;subst h6;exact h
theorem chVA_step1 {own:List Nat} {m kL kA i:Nat} {is kp:List Nat} {fK:Nat→SV} {fL f:SV} {c:BoxC} {T:Option BoxC→SL→Prop} {op:Op} {e i1:Nat} (h1:opAt ops i=op)(h2:dstAt ops i=dst)(h3:is.headD m=e)(h4:i+1=i1)(h5:chFA kp fK fL i=f)(h6:chP kp kL i=ps)
  (h:opK P own dst sl ((kL,c)::bx) op (chKA P own ops kL kA f ps bx dst ((ops.toList.take e).drop i1) sl (chVA P own ops m kL kA kp fK fL bx T is))):chVA P own ops m kL kA kp fK fL bx T (i::is) (some c) sl:=by
 subst h1;subst h2;subst h3;subst h4;subst h5;subst h6;exact h
theorem chKA_ok {own:List Nat} {kL kA:Nat} {f:SV} {seg:List Oper} {N:Option BoxC→SL→Prop} {c':BoxC} {pg:List Nat} (h1:c'.real=true)(h0:c'.has kA=false)(h2:∀ k,k∈pg→k∈ps)(h:qrunV P own ops bx seg (sput sl dst f) (N (some c'))) :
  chKA P own ops kL kA f ps bx dst seg sl N f ((kL,c')::bx) pg:=⟨rfl,h2,c',rfl,⟨h1,h0⟩,h⟩
theorem chVA_end {own:List Nat} {m iA kL dL kA:Nat} {zA:List SV} {ds kp:List Nat} {fK:Nat→SV} {c:BoxC} {K:SL→Boxes→Prop} (h1:freeCh kL ds sl=true)(h2:freeCh kA [] sl=true)(h3:hasBx kA bx=false)(h:runV P own ops (ops.toList.drop m) (sput (sput (purge1 kL sl) (some dL) fL) (some kA) (.box kA 0)) ((kA,.cells (zA.map (spurge kA)))::(kL,c)::bx) K) :
  chVA P own ops iA kL kA kp fK fL bx (chTA P own ops m kL dL kA zA fL ds bx K) [] (some c) sl:=⟨h1,h2,h3,h⟩
theorem chVA_sound {own:List Nat} {m kL kA:Nat} {kp:List Nat} {fK:Nat→SV} {T T':Option BoxC→SL→Prop} (hT:∀ c sl,T c sl→T' c sl)(hd:dstsOK n ops.toList=true):∀ (is:List Nat)(c:Option BoxC)(sl:SL),chVA P own ops m kL kA kp fK fL bx T is c sl→ChRA P n ops m kL kA kp fK fL bx T' is c sl
 | [],c,sl,h=>hT c sl h
 | i::is,c,sl,h=>by
  unfold chVA at h
  cases ho:ops[i]? with
  | none =>
   have e1:opAt ops i=.move (.const undef):=by simp [opAt,ho]
   have e2:dstAt ops i=none:=by simp [dstAt,ho]
   rw [e1,e2] at h
   obtain⟨r,bx',pg,_,q1,q2,c',q3,q4,_⟩:=opK_sound (o:={ (default:Oper) with op:=.move (.const undef),dst:=none }) h
   exact⟨c',q4,fun o ho'=>by rw [ho] at ho';cases ho'⟩
  | some o =>
   have e1:opAt ops i=o.op:=by simp [opAt,ho]
   have e2:dstAt ops i=o.dst:=by simp [dstAt,ho]
   rw [e1,e2] at h
   obtain⟨r,bx',pg,q,rfl,q2,c',rfl,q4,q5⟩:=opK_sound (o:=o) h
   refine⟨c',q4,fun o' ho'=>?_⟩
   rw [ho] at ho';simp only [Option.some.injEq] at ho';subst ho'
   refine⟨fun C S w β a hi ha=>Oper.wpx_mono (q C S w β a hi ha) ?_,qrunV_sound (fun sl' h'=>chVA_sound hT hd is (some c') sl' h') _ _ ?_ q5⟩
   ·rintro a' w' ⟨v,S',β',z1,z2,z3,z4,z5⟩
    exact⟨v,S',β',z1,z2,z3,z4,fun k hk=>z5 k fun h=>hk (q2 k h)⟩
   ·unfold dstsOK at *;rw [List.all_eq_true] at *;exact fun o ho=>hd o (List.mem_of_mem_take (List.mem_of_mem_drop ho))
theorem AWp.regDCA (ks own:List Nat)(m iA kA:Nat)(TA:TypeId)(zA:List SV)(kL dL i0:Nat)(ch kp:List Nat)(fK:Nat→SV)(fL:SV)(hi0:ch.headD iA=i0)(hm:P.follows .mixedOrders=true)(hc:drawOK ops m (Region.before ops)=true)(hd:dstsOK n ops.toList=true)(hL:chainOK ops m ch kp=true)(hA0:LateOK P ops m iA kA zA TA)(hmA:m=iA+1)
  (hchA:∀ i,i∈ch→i < iA) (hsort:ch.Pairwise (· < ·))
  (hlast:∃ i,i∈ch∧i ∉ kp∧(∀ j,j∈ch→j≤i∨j∈kp)∧dstAt ops i=some dL) (hfr:∀ x,(kL,x) ∉ bx) (hfs:freeCh kL [] sl=true) (hAL:kA≠kL) (hfA:fL.has kA=false) (hfK:∀ i,i∈kp→(fK i).has kA=false) (hzA:(BoxC.cells (zA.map (spurge kA))).has kL=false)
  (h:qrunV P own ops bx (ops.toList.take i0) sl (chVA P own ops iA kL kA kp fK fL bx (chTA P own ops m kL dL kA zA fL (chDsts ops ch) bx (keepK ks (Q .normal))) ch none)):AWp ro P n (.region id ops true) Q sl bx:=by
 have sub:∀ {l:List Oper},(∀ o,o∈l→o∈ops.toList)→dstsOK n l=true:=fun {l} hl=>by
  unfold dstsOK at *;rw [List.all_eq_true] at *;exact fun o ho=>hd o (hl o ho)
 subst hi0
 exact AWp.regionDrawCA m iA kA TA zA kL dL ch kp fK fL _ ks ks hm hc hd hL hA0 hmA hchA hsort hlast hfr hfs hAL hfA hfK hzA (qrunV_sound (fun sl1 h1=>chVA_sound (fun c sl2 h2=>⟨h2.1,h2.2.1,h2.2.2.1,runV_sound _ _ _ (sub fun o ho=>List.mem_of_mem_drop ho) h2.2.2.2⟩) hd ch none sl1 h1) _ _ (sub fun o ho=>List.mem_of_mem_take ho) h)
theorem AWp.seqDCA {y:Code} (ks own:List Nat)(m iA kA:Nat)(TA:TypeId)(zA:List SV)(kL dL i0:Nat)(ch kp:List Nat)(fK:Nat→SV)(fL:SV)(hi0:ch.headD iA=i0)(hm:P.follows .mixedOrders=true)(hc:drawOK ops m (Region.before ops)=true)(hd:dstsOK n ops.toList=true)(hL:chainOK ops m ch kp=true)(hA0:LateOK P ops m iA kA zA TA)(hmA:m=iA+1)
  (hchA:∀ i,i∈ch→i < iA) (hsort:ch.Pairwise (· < ·))
  (hlast:∃ i,i∈ch∧i ∉ kp∧(∀ j,j∈ch→j≤i∨j∈kp)∧dstAt ops i=some dL) (hfr:∀ x,(kL,x) ∉ bx) (hfs:freeCh kL [] sl=true) (hAL:kA≠kL) (hfA:fL.has kA=false) (hfK:∀ i,i∈kp→(fK i).has kA=false) (hzA:(BoxC.cells (zA.map (spurge kA))).has kL=false)
  (h:∀ K:SL→Boxes→Prop,(∀ sl' bx',AWp ro P n y Q sl' bx'→K sl' bx')→qrunV P own ops bx (ops.toList.take i0) sl (chVA P own ops iA kL kA kp fK fL bx (chTA P own ops m kL dL kA zA fL (chDsts ops ch) bx (keepK ks K)) ch none)) :
  AWp ro P n (.seq (.region id ops true) y) Q sl bx :=
 AWp.seq (AWp.regDCA ks own m iA kA TA zA kL dL i0 ch kp fK fL hi0 hm hc hd hL hA0 hmA hchA hsort hlast hfr hfs hAL hfA hfK hzA (h _ fun _ _ h=>h))
def D.flat2:D→Bool
 | .agg cs=>cs.all D.flat
 | .iface _ (.agg cs)=>cs.all D.flat
 | .iface _ d=>d.flat
 | d=>d.flat
def SV.scalar2:SV→Bool
 | .d x=>x.flat2
 | .agg cs=>cs.all SV.scalar
 | x=>x.scalar
theorem RepC.scalar2 {S S':Nat→Prop} {w w':World} {x:D} {v:Value} (h:RepC S w x v)(hs:x.flat2=true):RepC S' w' x v:=by
 have agg:∀ {cs:List D} {u:Value},RepC S w (.agg cs) u→cs.all D.flat=true→RepC S' w' (.agg cs) u:=fun {cs u} h1 h2=>by
  cases h1 with
  | agg _ vs a1 a2 a3=>exact .agg _ vs a1 a2 fun j d v hd hv=>(a3 j d v hd hv).scalar (List.all_eq_true.1 h2 d (List.mem_of_getElem? hd))
 cases x with
 | agg cs=>exact agg h hs
 | iface t d =>
  cases h with
  | iface _ _ u hu =>
   refine .iface t d u ?_
   cases d with
   | agg cs=>exact agg hu hs
   | _=>exact hu.scalar hs
 | _=>exact h.scalar hs
theorem RepV.scalar2 {S S':Nat→Prop} {w w':World} {β β':Names} {x:SV} {v:Value} (h:RepV S w β x v)(hs:x.scalar2=true):RepV S' w' β' x v:=by
 cases x with
 | d x =>
  cases h with
  | d _ _ h=>exact .d _ _ (h.scalar2 hs)
 | agg cs =>
  cases h with
  | agg _ vs a1 a2 a3=>exact .agg _ vs a1 a2 fun j c v hc hv=>(a3 j c v hc hv).scalar (List.all_eq_true.1 hs c (List.mem_of_getElem? hc))
 | _=>exact h.scalar hs
theorem opT_callLendD {f:FuncId} {fo:Operand} {args:Array Operand} {tys:Array TypeId} (ho:o.op=.call { callee:=.value fo,args:=args,argTypes:=tys }) {caps args':List SV} {r:SV}
  (hf:ρ fo=.clo f caps) (hargs:coerceL bx (args.toList.map ρ++caps)=some args') (hc:CallOK P f args' r) (hr:r.scalar2=true):OpT P o ρ bx r bx []:=by
 intro C S w β a hi ha
 have mo:∀ {op:Op},o.op=op→∀ {x},x∈op.operands→x∈o.op.operands:=fun h _ hx=>by rw [h];exact hx
 have hf1:=(ha fo (mC ho));rw [hf] at hf1
 generalize hfv:a.eval fo=v at hf1
 cases hf1 with
 | clo _ _ cs h1 h2 =>
  have hall:RepL S w β (args.toList.map ρ++caps) (args.toList.map a.eval++cs):=(RepL.evals _ fun x hx=>ha x (mo ho (by simp [Op.operands,Call.operands];simp at hx;exact .inr hx))).append ⟨h1,h2⟩
  have hin:Inv ⟨w,all w,fun _=>False,fun _ _=>False,C.G⟩ (all w) w β []:=hi.begin (fun _ hb=>hb) hi.Slt
  obtain⟨g1,g2⟩:=coerceL_rep hi hi.bd (fun k c hk b hb=>(hi.priv k c hk b hb).2.1) hargs hall
  have hcall:=hc.2 ⟨w,all w,fun _=>False,fun _ _=>False,C.G⟩ β _ hin g1
  refine Or.inl ?_
  unfold Oper.wp
  rw [run_enter hc.1 ho hfv,Oper.upon_enter]
  have hargsEq:args.map a.eval++(⟨cs⟩:Array Value)=⟨args.toList.map a.eval++cs⟩:=by apply Array.ext';simp
  rw [hargsEq]
  refine hcall.mono ?_
  rintro e w' ⟨v,S',β',rfl,hk,hv⟩
  obtain⟨q1,q2⟩:=hi.back hk
  exact⟨v,_,β,rfl,q1,q2,hv.scalar2 hr,fun _ _=>rfl⟩
theorem opB_lendD {f:FuncId} {fo:Operand} {args:List Operand} {tys:List TypeId} {caps args':List SV} {r:SV} 
  (hf:opnd sl fo=.clo f caps) (hargs:coerceL bx (args.map (opnd sl)++caps)=some args') (hc:CallOK P f args' r) (hr:r.scalar2=true):OpB P sl bx dst (.call ⟨.value fo,args.toArray,tys.toArray⟩) r bx [] :=
 fun o ho _=>opT_callLendD ho hf (by simpa using hargs) hc hr
end Go.Abs
