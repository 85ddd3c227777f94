/- Drawn regions in which a slice of one's own grows while other operations only look. Own framework. -/
import Derived.Test.YtdohpbjgaaneeaaGreatDoorQAb8
set_option linter.unusedVariables false
set_option linter.unusedSimpArgs false
namespace Go.Abs
open Go
variable {ro:Option Nat} {P:Program} {n:Nat} {Q:Exit→SL→Boxes→Prop} {sl:SL} {bx:Boxes} {o:Oper} {ρ:Rho}
def bxC (k:Nat)(c:Option BoxC)(bx:Boxes):Boxes:=match c with
 | some c=>(k,c)::bx
 | none=>bx
def chainOK (ops:Array Oper)(m:Nat)(ch kp:List Nat):Bool :=
 (ch.all fun i=>decide (i < m) && decide (i < ops.size) && (ops.getD i default).guard.isNone) &&
 (ch.all fun i=>ch.all fun j=>!decide (j < i) || baseEdge (ops.getD i default) j || ch.any fun k=>decide (j < k) && decide (k < i) && baseEdge (ops.getD i default) k) &&
 ((List.range m).all fun i=>ch.contains i || ((usesOf ops (ops.getD i default)).all fun t=>ch.all fun j=>(ops.getD j default).dst != some t)) &&
 (ch.all fun i=>(usesOf ops (ops.getD i default)).all fun t=>ch.all fun k=>(ops.getD k default).dst != some t || ch.all fun j=>!decide (j < i) || decide (j≤k) || kp.contains j)
structure ChainOK (ops:Array Oper)(m:Nat)(ch kp:List Nat):Prop where
 lt:∀ i,i∈ch→i < m
 op:∀ i,i∈ch→∃ o,ops[i]? = some o∧o.guard=none
 link:∀ i j,i∈ch→j∈ch→j < i→∀ o,ops[i]? = some o→(∃ e,e∈o.after∧Region.binds .any e=true∧e.on=j)∨∃ k,k∈ch∧j < k∧k < i∧∃ e,e∈o.after∧Region.binds .any e=true∧e.on=k
 apart:∀ i,i < m→i ∉ ch→∀ o,ops[i]? = some o→∀ t,t∈usesOf ops o→∀ j,j∈ch→∀ oj,ops[j]? = some oj→oj.dst≠some t
 newest:∀ i,i∈ch→∀ o,ops[i]? = some o→∀ t,t∈usesOf ops o→∀ k,k∈ch→∀ ok,ops[k]? = some ok→ok.dst=some t→∀ j,j∈ch→j < i→j≤k∨j∈kp
theorem baseEdge_spec {o:Oper} {j:Nat} (h:baseEdge o j=true):∃ e,e∈o.after∧Region.binds .any e=true∧e.on=j:=by
 unfold baseEdge at h
 rw [List.any_eq_true] at h
 obtain⟨e,he,hb⟩:=h
 simp only [Bool.and_eq_true,beq_iff_eq] at hb
 exact⟨e,by simpa using he,hb.1,hb.2⟩
variable {ops:Array Oper} {m:Nat}
theorem chainOK_spec {ch kp:List Nat} (h:chainOK ops m ch kp=true):ChainOK ops m ch kp:=by
 unfold chainOK at h
 rw [Bool.and_eq_true,Bool.and_eq_true,Bool.and_eq_true] at h
 obtain⟨⟨⟨h1,h2⟩,h3⟩,h4⟩:=h
 rw [List.all_eq_true] at h1 h2 h3 h4
 have hget:∀ {i:Nat} {o:Oper},ops[i]? = some o→ops.getD i default=o:=by
  intro i o ho
  obtain⟨hlt,he⟩:=Array.getElem?_eq_some_iff.1 ho
  simp [Array.getD,hlt,he]
 refine⟨fun i hi=>?_,fun i hi=>?_,fun i j hi hj hji o ho=>?_,fun i hi hn o ho t ht j hj oj hoj=>?_,fun i hi o ho t ht k hk ok hok hd j hj hji=>?_⟩
 ·have:=h1 i hi
  simp only [Bool.and_eq_true,decide_eq_true_eq] at this
  exact this.1.1
 ·have:=h1 i hi
  simp only [Bool.and_eq_true,decide_eq_true_eq] at this
  obtain⟨⟨_,g1⟩,g2⟩:=this
  have he:ops[i]? = some ops[i]:=Array.getElem?_eq_getElem g1
  rw [hget he] at g2
  exact⟨_,he,by simpa using g2⟩
 ·have:=h2 i hi
  rw [List.all_eq_true] at this
  have:=this j hj
  rw [hget ho] at this
  simp only [Bool.or_eq_true,Bool.not_eq_true',decide_eq_false_iff_not] at this
  rcases this with (h | h) | h
  ·exact absurd hji h
  ·exact .inl (baseEdge_spec h)
  ·rw [List.any_eq_true] at h
   obtain⟨k,hk,hb⟩:=h
   simp only [Bool.and_eq_true,decide_eq_true_eq] at hb
   exact .inr ⟨k,hk,hb.1.1,hb.1.2,baseEdge_spec hb.2⟩
 ·have:=h3 i (List.mem_range.2 hi)
  rw [Bool.or_eq_true] at this
  rcases this with h | h
  ·exact absurd (by simpa using h) hn
  ·rw [List.all_eq_true] at h
   have:=h t (by rw [hget ho];exact ht)
   rw [List.all_eq_true] at this
   have:=this j hj
   rw [hget hoj] at this
   simpa using this
 ·have:=h4 i hi
  rw [List.all_eq_true] at this
  have:=this t (by rw [hget ho];exact ht)
  rw [List.all_eq_true] at this
  have:=this k hk
  rw [hget hok,hd] at this
  simp only [bne_self_eq_false,Bool.false_or,List.all_eq_true] at this
  have:=this j hj
  simp only [Bool.or_eq_true,Bool.not_eq_true',decide_eq_false_iff_not,decide_eq_true_eq] at this
  rcases this with (h | h) | h
  ·exact absurd hji h
  ·exact .inl h
  ·exact .inr (by simpa using h)
theorem ChainOK.down {ch kp:List Nat} (h:ChainOK ops m ch kp) {X:Nat→Prop} (hX:∀ (i:Nat)(o:Oper),ops[i]? = some o→X i→∀ e,e∈o.after→Region.binds .any e=true→X e.on) :
  ∀ (i:Nat) (o:Oper),i∈ch→ops[i]? = some o→(∀ e,e∈o.after→Region.binds .any e=true→X e.on)→∀ j,j∈ch→j < i→X j:=by
 intro i
 induction i using Nat.strongRecOn with
 | _ i ih =>
  intro o hi ho hpre j hj hji
  rcases h.link i j hi hj hji o ho with ⟨e,he,hb,hon⟩ | ⟨k,hk,hjk,hki,e,he,hb,hon⟩
  ·rw [← hon];exact hpre e he hb
  ·have hxk:X k:=by rw [← hon];exact hpre e he hb
   obtain⟨ok,hok,_⟩:=h.op k hk
   exact ih k hki ok hk hok (hX k ok hok hxk) j hj hjk
def LiveC (ops:Array Oper)(ch kp:List Nat)(q t:Nat):Prop:=∃ i o,i∈ch∧i < q∧(∀ j,j∈ch→j < q→j≤i∨j∈kp)∧ops[i]? = some o∧o.dst=some t
def chF (kp:List Nat)(fL:SV)(i:Nat):SV:=if i∈kp then .tuple [] else fL
def chP (kp:List Nat)(kL i:Nat):List Nat:=if i∈kp then [] else [kL]
theorem next_chain {ch:List Nat} {css:List (Option BoxC)} (hq:∀ i,i < m→i ∉ ch→css[i+1]? = css[i]?):∀ (d i:Nat),i+d=m→∃ q,i≤q∧q≤m∧(q=m∨q∈ch)∧(∀ j,i≤j→j < q→j ∉ ch)∧css[q]? = css[i]?
 | 0,i,h=>⟨i,Nat.le_refl _,by omega,.inl (by omega),fun j h1 h2=>by omega,rfl⟩
 | d+1,i,h=>by
  by_cases hi:i∈ch
  ·exact⟨i,Nat.le_refl _,by omega,.inr hi,fun j h1 h2=>by omega,rfl⟩
  ·obtain⟨q,h1,h2,h3,h4,h5⟩:=next_chain hq d (i+1) (by omega)
   refine⟨q,by omega,h2,h3,fun j h6 h7=>?_,by rw [h5,hq i (by omega) hi]⟩
   by_cases hj:j=i
   ·rw [hj];exact hi
   ·exact h4 j (by omega) h7
variable {fL:SV}
theorem draw_chain {C:Ctx} {m kL dL:Nat} {ch kp:List Nat} {css:List (Option BoxC)} {QQ:Exit→Act→World→Prop} {fs:List SV} {sls:List SL} {K:SL→Boxes→Prop} (hd:DrawOK ops m)(hdst:∀ o,o∈ops.toList→dstOK n o.dst)(hnd:∀ o,o∈ops.toList→notDefer o=true)(hL:ChainOK ops m ch kp)
  (hreal:∀ (i:Nat) (c:BoxC),css[i]? = some (some c)→c.real=true) (hclen:css.length=m+1)
  (hK:∀ sl bx S w β a,K sl bx→St C n S w β a sl bx→QQ .normal a w) (h0:sls[0]? = some sl) (hfr:∀ x,(kL,x) ∉ bx) (hsl:∀ t,(sget sl t).has kL=false)
  (hyL:∀ i o,i∈ch→ops[i]? = some o→∃ s c c',sls[i]? = some s∧fs[i]? = some (chF kp fL i)∧sls[i+1]? = some (sput s o.dst (chF kp fL i))∧css[i]? = some c∧css[i+1]? = some (some c')∧OpT P o (opnd s) (bxC kL c bx) (chF kp fL i) (bxC kL (some c') bx) (chP kp kL i))
  (hy:∀ (i:Nat) (o:Oper),i < m→i ∉ ch→ops[i]? = some o→∃ s f,sls[i]? = some s∧fs[i]? = some f∧Yield P ops s bx o f∧(o.dst≠none→f.has kL=false)∧sls[i+1]? = some (sput s o.dst f))
  (hcq:∀ i,i < m→i ∉ ch→css[i+1]? = css[i]?)
  (hlast:∃ i o,i∈ch∧i ∉ kp∧(∀ j,j∈ch→j≤i∨j∈kp)∧ops[i]? = some o∧o.dst=some dL)
  (hend:∃ e c,sls[m]? = some e∧css[m]? = some c∧Run P n ops (ops.toList.drop m) (sput (purge1 kL e) (some dL) fL) (bxC kL c bx) K) :
  ∀ (fuel:Nat) (listed:Array Bool) (a:Act) (w:World),listed.size=ops.size→left ops.size listed≤fuel →
   (∀ (i:Nat) (o:Oper),ops[i]? = some o→listed.getD i false=true→∀ e,e∈o.after→Region.binds .any e=true→listed.getD e.on false=true) →
   (((∀ i,listed.getD i false=true→i < m)∧(∃ S β q c,q≤m∧(q=m∨q∈ch)∧(∀ j,j∈ch→(listed.getD j false=true↔j < q))∧css[q]? = some c∧Inv C S w β (bxC kL c bx)∧a.tmps.size=n∧Marks C S w a.defers∧∀ t x,Cur ops fs sl (fun i=>listed.getD i false=true) t x→(x.has kL=true→LiveC ops ch kp q t)→RepV S w β x (a.tmps.getD t undef))) ∨
    (∃ j,m≤j∧j≤ops.size∧(∀ i,listed.getD i false=true↔i < j)∧∃ sl' bx' S β,St C n S w β a sl' bx'∧Run P n ops (ops.toList.drop j) sl' bx' K)) →
   wpAnyIn (FW ro) 0 P .any ops QQ fuel listed a w:=by
 have hyA:∀ (i:Nat) (o:Oper),i < m→ops[i]? = some o→∃ s f,sls[i]? = some s∧fs[i]? = some f∧sls[i+1]? = some (sput s o.dst f):=by
  intro i o hi ho
  by_cases he:i∈ch
  ·obtain⟨s,c,c',h1,h2,h3,_⟩:=hyL i o he ho
   exact⟨s,_,h1,h2,h3⟩
  ·obtain⟨s,f,a1,a2,_,_,a3⟩:=hy i o hi he ho;exact⟨s,f,a1,a2,a3⟩
 have htext:=cur_text (fs:=fs) (sls:=sls) (sl:=sl) hd h0 hyA
 have conv:∀ (listed:Array Bool) (a:Act) (w:World),(∀ i,listed.getD i false=true→i < m)→(∀ i,i < m→listed.getD i false=true)→(∃ S β q c,q≤m∧(q=m∨q∈ch)∧(∀ j,j∈ch→(listed.getD j false=true↔j < q))∧css[q]? = some c∧Inv C S w β (bxC kL c bx)∧a.tmps.size=n∧Marks C S w a.defers∧∀ t x,Cur ops fs sl (fun i=>listed.getD i false=true) t x→(x.has kL=true→LiveC ops ch kp q t)→RepV S w β x (a.tmps.getD t undef)) →
   ∃ sl' bx' S β,St C n S w β a sl' bx'∧Run P n ops (ops.toList.drop m) sl' bx' K:=by
  rintro listed a w hA hall ⟨S,β,q,c,hqm,hq,hlq,hcc,hi,hsz,hdf,hc⟩
  obtain⟨e,c1,he,hc1,hr⟩:=hend
  have hqm':q=m:=by
   rcases hq with h | h
   ·exact h
   ·have:=(hlq q h).1 (hall q (hL.lt q h));omega
  subst hqm'
  rw [hcc] at hc1;simp only [Option.some.injEq] at hc1;subst hc1
  obtain⟨iz,oz,z1,z0,z2,z3,z4⟩:=hlast
  have hlive:LiveC ops ch kp q dL:=⟨iz,oz,z1,hL.lt iz z1,fun j hj _=>z2 j hj,z3,z4⟩
  refine⟨_,_,S,β,⟨hi,hsz,hdf,fun t=>?_⟩,hr⟩
  simp only [sput,sget]
  split
  ·rename_i ht
   subst ht
   obtain⟨_,_,_,_,f2,_⟩:=hyL iz oz z1 z3
   unfold chF at f2
   rw [if_neg z0] at f2
   exact hc _ _ (.inl ⟨iz,oz,hall iz (hL.lt iz z1),z3,z4,f2⟩) (fun _=>hlive)
  ·rw [sget_purge1]
   unfold spurge
   split
   ·exact .undef _
   ·rename_i hno
    refine hc t _ ?_ (fun h=>absurd h hno)
    rcases htext q e (Nat.le_refl _) he t with ⟨i,o,h1,h2,h3,h4⟩ | ⟨h1,h2⟩
    ·exact .inl ⟨i,o,hall i h1,h2,h3,h4⟩
    ·exact .inr ⟨fun i o hx=>h1 i o (hA i hx),h2⟩
 have hall_of_ready:∀ listed:Array Bool,listed.size=ops.size→Region.ready .any ops listed=[]→∀ i,i < ops.size→listed.getD i false=true:=by
  intro listed hs hr i
  induction i using Nat.strongRecOn with
  | _ i ih =>
   intro hi
   cases hl:listed.getD i false with
   | true=>rfl
   | false =>
    exfalso
    have:i∈Region.ready .any ops listed:=by
     rw [mem_ready]
     refine⟨?_,ops[i],Array.getElem?_eq_getElem hi,fun e he hb=>?_⟩
     ·have hi':i < listed.size:=by omega
      simp [Array.getD,hi'] at hl ⊢;exact hl
     ·have hlt:=hd.back i _ (Array.getElem?_eq_getElem hi) e he hb
      exact ih e.on hlt (by omega)
    rw [hr] at this;simp at this
 intro fuel
 induction fuel with
 | zero =>
  intro listed a w hs hleft hdown hinv
  have hall:∀ i,i < ops.size→listed.getD i false=true:=by
   intro i hi
   cases hl:listed.getD i false with
   | true=>rfl
   | false =>
    exfalso
    have:0 < left ops.size listed:=by
     unfold left
     rw [List.countP_pos_iff]
     exact⟨i,List.mem_range.2 hi,by simp [hl]⟩
    omega
  have hready:Region.ready .any ops listed=[]:=by
   rw [List.eq_nil_iff_forall_not_mem]
   intro i hi
   rw [mem_ready] at hi
   obtain⟨h1,o,ho,_⟩:=hi
   have hlt:=(Array.getElem?_eq_some_iff.1 ho).1
   have:=hall i hlt
   have hi':i < listed.size:=by omega
   simp [Array.getD,hi'] at this h1
   rw [this] at h1;simp at h1
  refine⟨hready,?_⟩
  rcases hinv with ⟨hA,hA2⟩ | ⟨j,hj1,hj2,hj3,sl',bx',S,β,hst,hrun⟩
  ·have hm:m=ops.size:=by
    rcases Nat.lt_or_ge m ops.size with h | h
    ·have:=hA m (hall m h);omega
    ·have:=hd.le;omega
   obtain⟨sl',bx',S,β,hst,hrun⟩:=conv listed a w hA (fun i hi=>hall i (by omega)) hA2
   rw [List.drop_eq_nil_of_le (by simp;omega)] at hrun
   exact hK sl' bx' S w β a hrun hst
  ·have hj:j=ops.size:=by
    rcases Nat.lt_or_ge j ops.size with h | h
    ·have:=(hj3 j).1 (hall j h);omega
    ·omega
   rw [List.drop_eq_nil_of_le (by simp;omega)] at hrun
   exact hK sl' bx' S w β a hrun hst
 | succ fuel ih =>
  intro listed a w hs hleft hdown hinv
  refine⟨?_,?_⟩
  ·intro hready
   have hall:=hall_of_ready listed hs hready
   rcases hinv with ⟨hA,hA2⟩ | ⟨j,hj1,hj2,hj3,sl',bx',S,β,hst,hrun⟩
   ·have hm:m=ops.size:=by
     rcases Nat.lt_or_ge m ops.size with h | h
     ·have:=hA m (hall m h);omega
     ·have:=hd.le;omega
    obtain⟨sl',bx',S,β,hst,hrun⟩:=conv listed a w hA (fun i hi=>hall i (by omega)) hA2
    rw [List.drop_eq_nil_of_le (by simp;omega)] at hrun
    exact hK sl' bx' S w β a hrun hst
   ·have hj:j=ops.size:=by
     rcases Nat.lt_or_ge j ops.size with h | h
     ·have:=(hj3 j).1 (hall j h);omega
     ·omega
    rw [List.drop_eq_nil_of_le (by simp;omega)] at hrun
    exact hK sl' bx' S w β a hrun hst
  ·intro i hi
   rw [mem_ready] at hi
   obtain⟨hnot,o,ho,hpre⟩:=hi
   have hilt:i < ops.size:=(Array.getElem?_eq_some_iff.1 ho).1
   have hil:i < listed.size:=by omega
   have hnot':listed.getD i false=false:=by simp [Array.getD,hil] at hnot ⊢;exact hnot
   have hleft':left ops.size (listed.setIfInBounds i true)≤fuel:=by have:=left_set hs hilt hnot';omega
   have hX':∀ j,(listed.setIfInBounds i true).getD j false=true↔(j=i∨listed.getD j false=true):=by
    intro j
    by_cases hj:i=j
    ·subst hj;simp [hil]
    ·rw [getD_set_ne false hj];simp [Ne.symm hj]
   have hdown':∀ (k:Nat) (o':Oper),ops[k]? = some o'→(listed.setIfInBounds i true).getD k false=true→∀ e,e∈o'.after→Region.binds .any e=true→(listed.setIfInBounds i true).getD e.on false=true:=by
    intro k o' ho' hk e he hb
    rw [hX'] at hk ⊢
    rcases hk with rfl | hk
    ·rw [ho] at ho';simp only [Option.some.injEq] at ho';subst ho'
     exact .inr (hpre e he hb)
    ·exact .inr (hdown k o' ho' hk e he hb)
   have hbehind:m≤i→∀ j,j < i→listed.getD j false=true:=fun hm=>hd.tail _ hdown i o ho hm hpre
   simp only [wpOpIn,ho]
   have hmemo:o∈ops.toList:=by have:=Array.mem_of_getElem? ho;simpa using this
   have stepB:∀ (sl':SL) (bx':Boxes) (S:Nat→Prop) (β:Names),m≤i→(∀ k,listed.getD k false=true↔k < i)→St C n S w β a sl' bx'→Run P n ops (ops.toList.drop i) sl' bx' K →
     (if Region.wanted o (yielded ops a.tmps)=true then Oper.wpIn (FW ro) 0 P o a w (wpAnyIn (FW ro) 0 P .any ops QQ fuel (listed.setIfInBounds i true)) QQ
      else (∀ f,o.about P w a.eval=some f→(FW ro).fn f)∧wpAnyIn (FW ro) 0 P .any ops QQ fuel (listed.setIfInBounds i true) (a.put o.dst undef) w):=by
    intro sl' bx' S β hm hX hst hrun
    have dp:ops.toList.drop i=o::ops.toList.drop (i+1):=by
     rw [List.drop_eq_getElem_cons (by simpa using hilt)]
     have:=(Array.getElem?_eq_some_iff.1 ho).2
     simp [this]
    rw [dp] at hrun
    obtain⟨g,hg,hdo,h1,h2⟩:=hrun
    have hw:=guard_rep (a:=a) (S:=S) (w:=w) (β:=β) (fun t ht=>by
     obtain⟨j,want,_,hj⟩:=ht
     exact⟨hst.slot t,by rw [hst.size];exact dst_lt_of_gslot hdst hj⟩) hg
    rw [hw]
    have hXn:∀ k,(listed.setIfInBounds i true).getD k false=true↔k < i+1:=by intro k;rw [hX',hX];omega
    cases g with
    | true =>
     simp only [if_true]
     obtain⟨r,bx1,pg,hop,hrun'⟩:=h1 rfl
     refine Oper.wpIn_ofQ (hnd o hmemo) (hop C S w β a hst.inv fun x _=>hst.opnd x) ?_
     rintro a' w' ⟨v,S',β',rfl,hi',he,hv,hb⟩
     exact ih _ _ _ (by simpa using hs) hleft' hdown' (.inr ⟨i+1,by omega,by omega,hXn,_,bx1,S',β',hst.put hdo hi' he hv hb,hrun'⟩)
    | false =>
     simp only [Bool.false_eq_true,if_false]
     refine⟨fun _ _=>trivial,?_⟩
     exact ih _ _ _ (by simpa using hs) hleft' hdown' (.inr ⟨i+1,by omega,by omega,hXn,_,bx',S,β,hst.put (pg:=[]) hdo hst.inv (SExt.refl S w) (.tuple [] [] rfl (by simp)) (fun _ _=>rfl),h2 rfl⟩)
   rcases hinv with ⟨hA,hA2⟩ | ⟨j,hj1,hj2,hj3,sl',bx',S,β,hst,hrun⟩
   ·by_cases him:i < m
    ·
     obtain⟨s,f,q1,q2,q3⟩:=hyA i o him ho
     obtain⟨S,β,q,c,hqm,hq,hlq,hcc,hi,hsz,hdf,hc⟩:=hA2
     have hcur:∀ t,t∈o.looksAt ops→Cur ops fs sl (fun i=>listed.getD i false=true) t (sget s t):=by
      intro t ht
      rcases htext i s (by omega) q1 t with ⟨k,ok,g1,g2,g3,g4⟩ | ⟨g1,g2⟩
      ·obtain⟨_,e,he,hb,hon⟩:=hd.reads i k o ok t him (by omega) ho g2 ht g3
       exact .inl ⟨k,ok,by rw [← hon];exact hpre e he hb,g2,g3,g4⟩
      ·refine .inr ⟨fun k ok hk hok hdk=>?_,g2⟩
       have hkm:=hA k hk
       obtain⟨hki,_⟩:=hd.reads i k o ok t him hkm ho hok ht hdk
       exact g1 k ok hki hok hdk
     have hA':∀ k,(listed.setIfInBounds i true).getD k false=true→k < m:=by
      intro k hk;rw [hX'] at hk;rcases hk with rfl | hk
      ·exact him
      ·exact hA k hk
     have hput:∀ (S':Nat→Prop) (w':World) (β':Names) (v:Value) (q':Nat),SExt S w S' w'→(∀ j,j≠kL→β' j = β j)→((i∈ch→i∈kp)→β' = β∧∀ t,LiveC ops ch kp q' t→o.dst=some t∨LiveC ops ch kp q t)→(i∈ch→i ∉ kp→∀ t,LiveC ops ch kp q' t→o.dst=some t)→RepV S' w' β' f v →
       ∀ t x,Cur ops fs sl (fun k=>(listed.setIfInBounds i true).getD k false=true) t x→(x.has kL=true→LiveC ops ch kp q' t)→RepV S' w' β' x ((a.put o.dst v).tmps.getD t undef):=by
      intro S' w' β' v q' he hb1 hb2 hb3 hv t x hcur' hlv
      have hdo:=hdst o hmemo
      have old:(∀ d,o.dst=some d→d≠t)→RepV S' w' β' x ((a.put o.dst v).tmps.getD t undef):=by
       intro hne
       have hsame:(a.put o.dst v).tmps.getD t undef=a.tmps.getD t undef:=by
        cases hdd:o.dst with
        | none=>rfl
        | some d=>rw [hdd] at hdo;rw [getD_put (by rw [hsz];exact hdo),if_neg (hne d hdd)]
       rw [hsame]
       have hlow:x.has kL=true→i∈ch→i∈kp:=fun hx hich=>Classical.byContradiction fun hkp=>hne t (hb3 hich hkp t (hlv hx)) rfl
       refine (hc t x ?_ ?_).ext he (fun k hk=>?_)
       ·rcases hcur' with ⟨k,ok,g1,g2,g3,g4⟩ | ⟨g1,g2⟩
        ·rw [hX'] at g1
         rcases g1 with rfl | g1
         ·rw [ho] at g2;simp only [Option.some.injEq] at g2;subst g2
          exact absurd rfl (hne t g3)
         ·exact .inl ⟨k,ok,g1,g2,g3,g4⟩
        ·exact .inr ⟨fun k ok hk hok=>g1 k ok ((hX' k).2 (.inr hk)) hok,g2⟩
       ·intro hx
        exact ((hb2 (hlow hx)).2 t (hlv hx)).resolve_left fun h=>hne t h rfl
       ·by_cases hich:i∈ch→i∈kp
        ·rw [(hb2 hich).1]
        ·refine hb1 k fun hkk=>?_
         subst hkk
         exact hich (hlow hk)
      cases hdd:o.dst with
      | none=>rw [← hdd];exact old (by simp [hdd])
      | some d =>
       by_cases hdt:d=t
       ·subst hdt
        rw [hdd] at hdo
        rw [getD_put (by rw [hsz];exact hdo),if_pos rfl]
        rcases hcur' with ⟨k,ok,g1,g2,g3,g4⟩ | ⟨g1,g2⟩
        ·rw [hX'] at g1
         have hki:k=i:=by
          rcases g1 with h | h
          ·exact h
          ·exact hd.uniq k i ok o d (hA k h) him g2 ho g3 hdd
         subst hki
         rw [q2] at g4;simp only [Option.some.injEq] at g4;subst g4;exact hv
        ·exact absurd hdd (g1 i o ((hX' i).2 (.inl rfl)) ho)
       ·rw [← hdd];exact old (by intro d' hd';rw [hdd] at hd';simp only [Option.some.injEq] at hd';subst hd';exact hdt)
     by_cases hich:i∈ch
     ·
      obtain⟨sL,cL,c',e1,e2,e3,e4,e5,hop⟩:=hyL i o hich ho
      rw [q1] at e1;simp only [Option.some.injEq] at e1;subst e1
      rw [q2] at e2;simp only [Option.some.injEq] at e2;subst e2
      have hiq:i=q:=by
       have h1:¬ i < q:=fun h=>by have:=(hlq i hich).2 h;rw [hnot'] at this;simp at this
       rcases Nat.lt_or_ge q i with h | h
       ·have hqch:q∈ch:=hq.resolve_left (by omega)
        have:=hL.down (X:=fun j=>listed.getD j false=true) hdown i o hich ho hpre q hqch h
        have:=(hlq q hqch).1 this;omega
       ·omega
      subst hiq
      rw [hcc] at e4;simp only [Option.some.injEq] at e4;subst e4
      obtain⟨oL,g1,g2⟩:=hL.op i hich
      rw [ho] at g1;simp only [Option.some.injEq] at g1;subst g1
      have hw:Region.wanted o (yielded ops a.tmps)=true:=by simp [Region.wanted,g2]
      rw [hw]
      simp only [if_true]
      have harg:∀ t,t∈o.looksAt ops→RepV S w β (sget s t) (a.tmps.getD t undef):=by
       intro t ht
       refine hc t _ (hcur t ht) fun hx=>?_
       rcases htext i s (by omega) q1 t with ⟨k,ok,g1,g2',g3',g4⟩ | ⟨g1,g2'⟩
       ·by_cases hkc:k∈ch
        ·exact⟨k,ok,hkc,g1,fun j hj hji=>hL.newest i hich o ho t ht k hkc ok g2' g3' j hj hji,g2',g3'⟩
        ·obtain⟨_,f2,_,w2,_,w4,_⟩:=hy k ok (by omega) hkc g2'
         rw [g4] at w2;simp only [Option.some.injEq] at w2
         rw [w2,w4 (by rw [g3'];simp)] at hx;cases hx
       ·rw [g2',hsl t] at hx;cases hx
      refine Oper.wpIn_ofQ (hnd o hmemo) (hop C S w β a hi (fun x hx=>by
       cases x with
       | tmp t=>exact harg t (mem_looksAt_op hx)
       | const v=>exact repV_const S w β v
       | global g=>exact .undef _
       | func f=>exact .clo f [] [] rfl (by simp))) ?_
      rintro a' w' ⟨v,S',β',rfl,hi',he,hv,hb⟩
      obtain⟨q',n1,n2,n3,n4,n5⟩:=next_chain hcq (m - (i+1)) (i+1) (by omega)
      rw [e5] at n5
      refine ih _ _ _ (by simpa using hs) hleft' hdown' (.inl ⟨hA',S',β',q',some c',n2,n3,fun j hj=>?_,n5,hi',by cases o.dst <;> simp [Act.put,hsz],hdf.put he,hput S' w' β' v q' he (fun j hj=>hb j (by unfold chP;split <;> simp [hj])) (fun h=>⟨funext fun j=>hb j (by unfold chP;rw [if_pos (h hich)];simp),fun t ht=>?_⟩) (fun _ hkp t ht=>?_) hv⟩)
      ·rw [hX']
       constructor
       ·rintro (rfl | h)
        ·omega
        ·have:=(hlq j hj).1 h;omega
       ·intro h
        rcases Nat.lt_or_ge j (i+1) with h2 | h2
        ·rcases Nat.lt_or_ge j i with h3 | h3
         ·exact .inr ((hlq j hj).2 h3)
         ·exact .inl (by omega)
        ·exact absurd hj (n4 j h2 h)
      ·obtain⟨k,ok,k1,k2,k3,k4,k5⟩:=ht
       rcases Nat.lt_trichotomy k i with h2 | h2 | h2
       ·exact .inr ⟨k,ok,k1,h2,fun j hj hji=>k3 j hj (by omega),k4,k5⟩
       ·subst h2
        rw [ho] at k4;simp only [Option.some.injEq] at k4;subst k4;exact .inl k5
       ·exact absurd k1 (n4 k (by omega) k2)
      ·obtain⟨k,ok,k1,k2,k3,k4,k5⟩:=ht
       have hik:=(k3 i hich (by omega)).resolve_right hkp
       have:k=i:=by
        rcases Nat.lt_or_ge i k with h | h
        ·exact absurd k1 (n4 k (by omega) k2)
        ·omega
       subst this
       rw [ho] at k4;simp only [Option.some.injEq] at k4;subst k4;exact k5
     ·obtain⟨s',f',r1,r2,hyd,r4,r5⟩:=hy i o him hich ho
      rw [q1] at r1;simp only [Option.some.injEq] at r1;subst r1
      rw [q2] at r2;simp only [Option.some.injEq] at r2;subst r2
      have hno:∀ t,t∈o.looksAt ops→(sget s t).has kL=false:=by
       intro t ht
       rcases htext i s (by omega) q1 t with ⟨k,ok,g1,g2,g3,g4⟩ | ⟨g1,g2⟩
       ·by_cases hkc:k∈ch
        ·exact absurd g3 (hL.apart i him hich o ho t ht k hkc ok g2)
        ·obtain⟨_,f2,_,w2,_,w4,_⟩:=hy k ok (by omega) hkc g2
         rw [g4] at w2;simp only [Option.some.injEq] at w2
         rw [w2];exact w4 (by rw [g3];simp)
       ·rw [g2];exact hsl t
      have harg:∀ t,t∈o.looksAt ops→RepV S w β (sget s t) (a.tmps.getD t undef):=fun t ht=>hc t _ (hcur t ht) fun hx=>by rw [hno t ht] at hx;cases hx
      obtain⟨g,hg⟩:=hyd.some
      have hw:=guard_rep (a:=a) (S:=S) (w:=w) (β:=β) (fun t ht=>by
       obtain⟨j,want,hgd,hj⟩:=ht
       exact⟨harg t (mem_looksAt_guard hgd hj),by rw [hsz];exact dst_lt_of_gslot hdst hj⟩) hg
      rw [hw]
      have hlq':∀ j,j∈ch→((listed.setIfInBounds i true).getD j false=true↔j < q):=fun j hj=>by
       rw [hX',← hlq j hj]
       constructor
       ·rintro (rfl | h)
        ·exact absurd hj hich
        ·exact h
       ·exact .inr
      cases g with
      | true =>
       simp only [if_true]
       have hargs:∀ x,x∈o.op.operands→RepV S w β (opnd s x) (a.eval x):=fun x hx=>by
        cases x with
        | tmp t=>exact harg t (mem_looksAt_op hx)
        | const v=>exact repV_const S w β v
        | global g=>exact .undef _
        | func f=>exact .clo f [] [] rfl (by simp)
       have hrun:o.wpx P a w (fun a' w'=>∃ v S' β',a'=a.put o.dst v∧Inv C S' w' β' (bxC kL c bx)∧SExt S w S' w'∧RepV S' w' β' f v∧β' = β):=by
        cases c with
        | some c=>exact (hyd.yes hg).frame hfr (hreal q c hcc) C S w β a hi hargs
        | none =>
         refine Oper.wpx_mono (hyd.yes hg C S w β a hi hargs) ?_
         rintro a' w' ⟨v,S',β',z1,z2,z3,z4,z5⟩
         exact⟨v,S',β',z1,z2,z3,z4,funext fun k=>z5 k (by simp)⟩
       refine Oper.wpIn_ofQ (hnd o hmemo) hrun ?_
       rintro a' w' ⟨v,S',β',rfl,hi',he,hv,hb⟩
       subst hb
       exact ih _ _ _ (by simpa using hs) hleft' hdown' (.inl ⟨hA',S',β',q,c,hqm,hq,hlq',hcc,hi',by cases o.dst <;> simp [Act.put,hsz],hdf.put he,hput S' w' β' v q he (fun _ _=>rfl) (fun _=>⟨rfl,fun _ h=>.inr h⟩) (fun h=>absurd h hich) hv⟩)
      | false =>
       simp only [Bool.false_eq_true,if_false]
       have hf:=hyd.no hg
       refine⟨fun _ _=>trivial,?_⟩
       exact ih _ _ _ (by simpa using hs) hleft' hdown' (.inl ⟨hA',S,β,q,c,hqm,hq,hlq',hcc,hi,by cases o.dst <;> simp [Act.put,hsz],hdf.put (SExt.refl S w),hput S w β undef q (SExt.refl S w) (fun _ _=>rfl) (fun _=>⟨rfl,fun _ h=>.inr h⟩) (fun h=>absurd h hich) (by rw [hf];exact .tuple [] [] rfl (by simp))⟩)
    ·have hbe:=hbehind (by omega)
     have him':i=m:=by
      rcases Nat.lt_or_ge m i with h | h
      ·have:=hA m (hbe m h);omega
      ·omega
     subst him'
     obtain⟨sl',bx',S,β,hst,hrun⟩:=conv listed a w hA hbe hA2
     exact stepB sl' bx' S β (Nat.le_refl _) (fun k=>⟨hA k,hbe k⟩) hst hrun
   ·have hij:j≤i:=by
     rcases Nat.lt_or_ge i j with h | h
     ·have:=(hj3 i).2 h;rw [hnot'] at this;simp at this
     ·exact h
    have hbe:=hbehind (by omega)
    have:i=j:=by
     rcases Nat.lt_or_ge j i with h | h
     ·have:=(hj3 j).1 (hbe j h);omega
     ·omega
    subst this
    exact stepB sl' bx' S β (by omega) hj3 hst hrun
def dstAt (ops:Array Oper)(i:Nat):Option Nat:=(ops[i]?.map (·.dst)).getD none
def ChR (P:Program)(n:Nat)(ops:Array Oper)(m kL:Nat)(kp:List Nat)(fL:SV)(bx:Boxes)(T:Option BoxC→SL→Prop):List Nat→Option BoxC→SL→Prop
 | [],c,sl=>T c sl
 | i::is,c,sl=>∃ c':BoxC,c'.real=true∧∀ o,ops[i]? = some o→OpT P o (opnd sl) (bxC kL c bx) (chF kp fL i) (bxC kL (some c') bx) (chP kp kL i) ∧
   QRun P n ops ((ops.toList.take (is.headD m)).drop (i+1)) (sput sl o.dst (chF kp fL i)) bx (ChR P n ops m kL kp fL bx T is (some c'))
theorem getElem?_seg {a b j:Nat} (h:b+j < a):((ops.toList.take a).drop b)[j]? = ops[b+j]?:=by
 rw [List.getElem?_drop,List.getElem?_take_of_lt h];simp
theorem ChR.lists {m kL:Nat} {kp:List Nat} {T:Option BoxC→SL→Prop} (hm:m≤ops.size):∀ (is:List Nat)(i0:Nat)(sl0:SL)(c0:Option BoxC),(∀ c,c0=some c→c.real=true)→is.Pairwise (· < ·)→(∀ i,i∈is→i0≤i∧i < m)→i0≤m →
  QRun P n ops ((ops.toList.take (is.headD m)).drop i0) sl0 bx (ChR P n ops m kL kp fL bx T is c0) →
  ∃ (fs:List SV) (sls:List SL) (css:List (Option BoxC)),fs.length=m - i0∧sls.length=m - i0+1∧css.length=m - i0+1∧sls[0]? = some sl0∧css[0]? = some c0∧(∃ e c,sls[m - i0]? = some e∧css[m - i0]? = some c∧T c e) ∧
   (∀ j o,i0+j < m→i0+j ∉ is→ops[i0+j]? = some o→∃ s f,sls[j]? = some s∧fs[j]? = some f∧Yield P ops s bx o f∧sls[j+1]? = some (sput s o.dst f)) ∧
   (∀ j,i0+j < m→i0+j ∉ is→css[j+1]? = css[j]?) ∧
   (∀ j o,i0+j∈is→ops[i0+j]? = some o→∃ s c c',sls[j]? = some s∧fs[j]? = some (chF kp fL (i0+j))∧sls[j+1]? = some (sput s o.dst (chF kp fL (i0+j)))∧css[j]? = some c∧css[j+1]? = some (some c')∧OpT P o (opnd s) (bxC kL c bx) (chF kp fL (i0+j)) (bxC kL (some c') bx) (chP kp kL (i0+j))) ∧
   (∀ (j:Nat) (c:BoxC),css[j]? = some (some c)→c.real=true)
 | [],i0,sl0,c0,hr,_,_,h0,h=>by
  obtain⟨fs,sls,a1,a2,a3,⟨e,a4,a5⟩,a6⟩:=h.yields
  have hlen:((ops.toList.take m).drop i0).length=m - i0:=by simp;omega
  simp only [List.headD_nil] at a1 a2 a4 a6
  rw [hlen] at a1 a2 a4
  refine⟨fs,sls,List.replicate (m - i0+1) c0,a1,a2,by simp,a3,by simp,⟨e,c0,a4,by simp,a5⟩,fun j o hj _ ho=>?_,fun j hj _=>?_,fun j o hj=>by simp at hj,fun j c hc=>?_⟩
  ·exact a6 j o (by rw [getElem?_seg hj];exact ho)
  ·rw [List.getElem?_replicate,List.getElem?_replicate,if_pos (by omega),if_pos (by omega)]
  ·rw [List.getElem?_replicate] at hc
   split at hc
   ·simp only [Option.some.injEq] at hc;exact hr c hc
   ·cases hc
 | i::is,i0,sl0,c0,hr,hp,hin,h0,h=>by
  obtain⟨hi0,him⟩:=hin i (by simp)
  rw [List.pairwise_cons] at hp
  obtain⟨fs1,sls1,a1,a2,a3,⟨e1,a4,c',hc',hop⟩,a6⟩:=h.yields
  have hlen:((ops.toList.take i).drop i0).length=i - i0:=by simp;omega
  simp only [List.headD_cons] at a1 a2 a4 a6
  rw [hlen] at a1 a2 a4
  have hio:ops[i]? = some (ops[i]'(by omega)):=Array.getElem?_eq_getElem _
  generalize ops[i]'(by omega)=oi at hio
  obtain⟨hT,hq⟩:=hop oi hio
  obtain⟨fs2,sls2,css2,b1,b2,b3,b4,b5,⟨e2,c2,b6,b7,b8⟩,b9,b10,b11,b12⟩:=ChR.lists hm is (i+1) _ (some c') (fun c hc=>by cases hc;exact hc') hp.2 (fun k hk=>⟨by have:=hp.1 k hk;omega,(hin k (by simp [hk])).2⟩) (by omega) hq
  have s1:∀ j,j≤i - i0→(sls1++sls2)[j]? = sls1[j]?:=fun j hj=>List.getElem?_append_left (by omega)
  have s2:∀ j,(sls1++sls2)[i - i0+1+j]? = sls2[j]?:=fun j=>by rw [List.getElem?_append_right (by omega)];congr 1;omega
  have f1:∀ j,j < i - i0→(fs1++chF kp fL i::fs2)[j]? = fs1[j]?:=fun j hj=>List.getElem?_append_left (by omega)
  have f2:(fs1++chF kp fL i::fs2)[i - i0]? = some (chF kp fL i):=by rw [List.getElem?_append_right (by omega),a1];simp
  have f3:∀ j,(fs1++chF kp fL i::fs2)[i - i0+1+j]? = fs2[j]?:=fun j=>by
   rw [List.getElem?_append_right (by omega),a1,show i - i0+1+j - (i - i0)=j+1 by omega,List.getElem?_cons_succ]
  have c1:∀ j,j≤i - i0→(List.replicate (i - i0+1) c0++css2)[j]? = some c0:=fun j hj=>by
   rw [List.getElem?_append_left (by simp;omega),List.getElem?_replicate,if_pos (by omega)]
  have c3:∀ j,(List.replicate (i - i0+1) c0++css2)[i - i0+1+j]? = css2[j]?:=fun j=>by
   rw [List.getElem?_append_right (by simp),List.length_replicate];congr 1;omega
  have hmi:m - i0=i - i0+1+(m - (i+1)):=by omega
  refine⟨fs1++chF kp fL i::fs2,sls1++sls2,List.replicate (i - i0+1) c0++css2,by simp;omega,by simp;omega,by simp;omega,by rw [s1 0 (by omega)];exact a3,c1 0 (by omega),⟨e2,c2,by rw [hmi,s2];exact b6,by rw [hmi,c3];exact b7,b8⟩,fun j o hj hn ho=>?_,fun j hj hn=>?_,fun j o hj ho=>?_,fun j c hc=>?_⟩
  ·rcases Nat.lt_or_ge j (i - i0) with hlt | hge
   ·obtain⟨s,f,g1,g2,g3,g4⟩:=a6 j o (by rw [getElem?_seg (by omega)];exact ho)
    exact⟨s,f,by rw [s1 j (by omega)];exact g1,by rw [f1 j hlt];exact g2,g3,by rw [s1 (j+1) (by omega)];exact g4⟩
   ·have hne:i0+j≠i:=fun he=>hn (by rw [he];simp)
    obtain⟨k,rfl⟩:∃ k,j=i - i0+1+k:=⟨j - (i - i0+1),by omega⟩
    have hidx:i0+(i - i0+1+k)=i+1+k:=by omega
    rw [hidx] at hj hn ho
    obtain⟨s,f,g1,g2,g3,g4⟩:=b9 k o hj (fun h=>hn (by simp [h])) ho
    exact⟨s,f,by rw [s2];exact g1,by rw [f3];exact g2,g3,by rw [show i - i0+1+k+1=i - i0+1+(k+1) by omega,s2];exact g4⟩
  ·rcases Nat.lt_or_ge j (i - i0) with hlt | hge
   ·rw [c1 j (by omega),c1 (j+1) (by omega)]
   ·have hne:i0+j≠i:=fun he=>hn (by rw [he];simp)
    obtain⟨k,rfl⟩:∃ k,j=i - i0+1+k:=⟨j - (i - i0+1),by omega⟩
    have hidx:i0+(i - i0+1+k)=i+1+k:=by omega
    rw [hidx] at hj hn
    have:=b10 k hj (fun h=>hn (by simp [h]))
    rw [c3,show i - i0+1+k+1=i - i0+1+(k+1) by omega,c3];exact this
  ·rcases List.mem_cons.1 hj with he | hj'
   ·have hji:j=i - i0:=by omega
    subst hji
    rw [he,hio] at ho;simp only [Option.some.injEq] at ho;subst ho
    rw [he]
    refine⟨e1,c0,c',by rw [s1 _ (Nat.le_refl _)];exact a4,f2,?_,c1 _ (Nat.le_refl _),?_,hT⟩
    ·have:=s2 0;rw [Nat.add_zero] at this;rw [this];exact b4
    ·have:=c3 0;rw [Nat.add_zero] at this;rw [this];exact b5
   ·have hlt:=hp.1 _ hj'
    obtain⟨k,rfl⟩:∃ k,j=i - i0+1+k:=⟨j - (i - i0+1),by omega⟩
    have hidx:i0+(i - i0+1+k)=i+1+k:=by omega
    rw [hidx] at hj' ho
    obtain⟨s,c,c'',g1,g2,g3,g4,g5,g6⟩:=b11 k o hj' ho
    rw [hidx]
    exact⟨s,c,c'',by rw [s2];exact g1,by rw [f3];exact g2,by rw [show i - i0+1+k+1=i - i0+1+(k+1) by omega,s2];exact g3,by rw [c3];exact g4,by rw [show i - i0+1+k+1=i - i0+1+(k+1) by omega,c3];exact g5,g6⟩
  ·rcases Nat.lt_or_ge j (i - i0+1) with hlt | hge
   ·rw [c1 j (by omega)] at hc;simp only [Option.some.injEq] at hc;exact hr c hc
   ·obtain⟨k,rfl⟩:∃ k,j=i - i0+1+k:=⟨j - (i - i0+1),by omega⟩
    rw [c3] at hc;exact b12 k c hc
def freeCh (k:Nat)(ds:List Nat):SL→Bool
 | []=>true
 | (u,x)::r=>(ds.contains u || !x.has k) && freeCh k ds r
theorem freeCh_mem {k:Nat} {ds:List Nat} :∀ {sl:SL},freeCh k ds sl=true→∀ u x,(u,x)∈sl→u ∉ ds→x.has k=false
 | [],_,u,x,h,_=>by simp at h
 | (v,y)::r,h,u,x,hm,hu=>by
  simp only [freeCh,Bool.and_eq_true,Bool.or_eq_true,Bool.not_eq_true'] at h
  rcases List.mem_cons.1 hm with he | hm
  ·simp only [Prod.mk.injEq] at he
   obtain⟨rfl,rfl⟩:=he
   exact h.1.resolve_left fun h=>hu (by simpa using h)
  ·exact freeCh_mem h.2 u x hm hu
def chDsts (ops:Array Oper)(ch:List Nat):List Nat:=ch.filterMap fun i=>dstAt ops i
variable {id:Nat}
theorem AWp.regionDrawC (m kL dL:Nat)(ch kp:List Nat)(fL:SV)(B:Array Nat)(ks kb:List Nat)(hm:P.follows .mixedOrders=true)(hc:drawOK ops m B=true)(hd:dstsOK n ops.toList=true)(hL:chainOK ops m ch kp=true)(hsort:ch.Pairwise (· < ·))
  (hlast:∃ i,i∈ch∧i ∉ kp∧(∀ j,j∈ch→j≤i∨j∈kp)∧dstAt ops i=some dL) (hfr:∀ x,(kL,x) ∉ bx) (hfs:freeCh kL [] sl=true)
  (h:QRun P n ops (ops.toList.take (ch.headD m)) sl bx (ChR P n ops m kL kp fL bx (fun c e=>freeCh kL (chDsts ops ch) e=true∧Run P n ops (ops.toList.drop m) (sput (purge1 kL e) (some dL) fL) (bxC kL c bx) fun sl' bx'=>Q .normal (keepSl ks sl') (keepBx kb bx')) ch none)) :
  AWp ro P n (.region id ops true) Q sl bx:=by
 intro C S w β a hs
 refine wpIn_region_any hm ?_
 have hdo:=drawOK_spec hc
 have hco:=chainOK_spec hL
 have hml:m≤ops.size:=hdo.le
 obtain⟨fs,sls,css,a1,a2,a3,a4,a5,⟨e,c,a6,a7,hfree,hrun⟩,a8,a9,a10,a11⟩:=ChR.lists hml ch 0 sl none (fun c hc=>by cases hc) hsort (fun i hi=>⟨Nat.zero_le _,hco.lt i hi⟩) (Nat.zero_le _) (by rw [List.drop_zero];exact h)
 rw [Nat.sub_zero] at a1 a2 a3 a6 a7
 simp only [Nat.zero_add] at a8 a9 a10
 have hsub:=sls_sub (os:=ops.toList.take m) (fs:=fs) (sls:=sls) (fun i o ho=>by
  have him:i < m:=by have:=(List.getElem?_eq_some_iff.1 ho).1;simp at this;omega
  rw [List.getElem?_take_of_lt him] at ho
  have ho:ops[i]? = some o:=by simpa using ho
  by_cases hi:i∈ch
  ·obtain⟨s,_,_,g1,g2,g3,_⟩:=a10 i o hi ho
   exact⟨s,_,g1,g2,g3⟩
  ·obtain⟨s,f,g1,g2,_,g4⟩:=a8 i o him hi ho
   exact⟨s,f,g1,g2,g4⟩)
 have hlen:(ops.toList.take m).length=m:=by simp;omega
 have hin:∀ i s,i≤m→sls[i]? = some s→∀ p,p∈s→p∈e:=fun i s hi h1 p hp =>
  hsub (m - i) i s e (by rw [hlen];omega) h1 (by rw [show i+(m - i)=m by omega];exact a6) p hp
 have hnd:∀ (i d:Nat) (o:Oper),i < m→i ∉ ch→ops[i]? = some o→o.dst=some d→d ∉ chDsts ops ch:=by
  intro i d o him hi ho hdd hmem
  unfold chDsts at hmem
  obtain⟨j,hj,hj2⟩:=List.mem_filterMap.1 hmem
  obtain⟨oj,g1,_⟩:=hco.op j hj
  unfold dstAt at hj2
  rw [g1] at hj2
  simp only [Option.map_some,Option.getD_some] at hj2
  have:=hdo.uniq i j o oj d him (hco.lt j hj) ho g1 hdd hj2
  exact hi (this ▸ hj)
 refine draw_chain (P:=P) (sl:=sl) (bx:=bx) (dL:=dL) (kL:=kL) (ch:=ch) (kp:=kp) (fL:=fL) (css:=css) (K:=fun sl' bx'=>Q .normal (keepSl ks sl') (keepBx kb bx')) hdo (dstsOK_spec hd) (dstsOK_nd hd) hco a11 a3 (fun sl' bx' S' w' β' a' hK hs'=>⟨_,_,S',β',hK,hs'.keep ks kb⟩) (sls:=sls) (fs:=fs) a4 hfr ?_ a10 ?_ a9 ?_ ⟨e,c,a6,a7,hrun⟩
  ops.size _ a _ (by simp) ?_ ?_ (.inl ⟨?_,S,β,?_⟩)
 ·intro t
  rcases sget_mem (sl:=sl) (t:=t) with h | h
  ·exact freeCh_mem hfs t _ h (by simp)
  ·rw [h];rfl
 ·intro i o him hi ho
  obtain⟨s,f,g1,g2,g3,g4⟩:=a8 i o him hi ho
  refine⟨s,f,g1,g2,g3,fun hne=>?_,g4⟩
  cases hdd:o.dst with
  | none=>exact absurd hdd hne
  | some d=>exact freeCh_mem hfree d f (hin (i+1) _ (by omega) g4 _ (by rw [hdd];exact List.mem_cons_self ..)) (hnd i d o him hi ho hdd)
 ·obtain⟨i,hi,hkp,hle,hdd⟩:=hlast
  obtain⟨o,g1,_⟩:=hco.op i hi
  refine⟨i,o,hi,hkp,hle,g1,?_⟩
  unfold dstAt at hdd
  rw [g1] at hdd
  simpa using hdd
 ·unfold left
  exact Nat.le_trans (List.countP_le_length) (by simp)
 ·intro i o ho hx
  simp [Array.getD] at hx
 ·intro i hx
  simp [Array.getD] at hx
 ·obtain⟨q,n1,n2,n3,n4,n5⟩:=next_chain (m:=m) (ch:=ch) (css:=css) a9 m 0 (by omega)
  refine⟨q,none,n2,n3,fun j hj=>?_,by rw [n5];exact a5,?_,hs.size,hs.defers.ext ⟨fun _ h=>h,fun _ _=>rfl⟩,?_⟩
  ·constructor
   ·intro h;simp [Array.getD] at h
   ·intro h;exact absurd hj (n4 j (Nat.zero_le _) h)
  ·exact (hs.inv.grow (w':={ w with drawn:=w.drawn+1 }) (fun _ h=>h) (fun _ h=>.inl h) hs.inv.Slt (fun _ _=>rfl) rfl rfl rfl (Nat.le_refl _)).1
  ·intro t x hcur _
   rcases hcur with ⟨i,o,h1,_⟩ | ⟨_,h2⟩
   ·simp [Array.getD] at h1
   ·rw [h2];exact (hs.slot t).ext ⟨fun _ h=>h,fun _ _=>rfl⟩ (fun _ _=>rfl)
def chK (P:Program)(own:List Nat)(ops:Array Oper)(kL:Nat)(f:SV)(ps:List Nat)(bx:Boxes)(dst:Option Nat)(seg:List Oper)(sl:SL)(N:Option BoxC→SL→Prop):KB:=fun r bx' pg =>
 r=f∧(∀ k,k∈pg→k∈ps)∧∃ c':BoxC,bx'=(kL,c')::bx∧c'.real=true∧qrunV P own ops bx seg (sput sl dst f) (N (some c'))
def chV (P:Program)(own:List Nat)(ops:Array Oper)(m kL:Nat)(kp:List Nat)(fL:SV)(bx:Boxes)(T:Option BoxC→SL→Prop):List Nat→Option BoxC→SL→Prop
 | [],c,sl=>T c sl
 | i::is,c,sl=>opK P own (dstAt ops i) sl (bxC kL c bx) (opAt ops i) (chK P own ops kL (chF kp fL i) (chP kp kL i) bx (dstAt ops i) ((ops.toList.take (is.headD m)).drop (i+1)) sl (chV P own ops m kL kp fL bx T is))
def chT (P:Program)(own:List Nat)(ops:Array Oper)(m kL dL:Nat)(fL:SV)(ds:List Nat)(bx:Boxes)(K:SL→Boxes→Prop):Option BoxC→SL→Prop:=fun c sl =>
 freeCh kL ds sl=true∧runV P own ops (ops.toList.drop m) (sput (purge1 kL sl) (some dL) fL) (bxC kL c bx) K
variable {dst:Option Nat}
theorem chV_step0 {own:List Nat} {m kL i:Nat} {is kp:List Nat} {fL f:SV} {ps:List Nat} {T:Option BoxC→SL→Prop} {op:Op} {e i1:Nat} (h1:opAt ops i=op)(h2:dstAt ops i=dst)(h3:is.headD m=e)(h4:i+1=i1)(h5:chF kp fL i=f)(h6:chP kp kL i=ps)
  (h:opK P own dst sl bx op (chK P own ops kL f ps bx dst ((ops.toList.take e).drop i1) sl (chV P own ops m kL kp fL bx T is))):chV P own ops m kL kp fL bx T (i::is) none sl:=by
 subst h1;subst h2;subst h3;subst h4;subst h5;subst h6;exact h
theorem chV_step1 {own:List Nat} {m kL i:Nat} {is kp:List Nat} {fL f:SV} {ps:List Nat} {c:BoxC} {T:Option BoxC→SL→Prop} {op:Op} {e i1:Nat} (h1:opAt ops i=op)(h2:dstAt ops i=dst)(h3:is.headD m=e)(h4:i+1=i1)(h5:chF kp fL i=f)(h6:chP kp kL i=ps)
  (h:opK P own dst sl ((kL,c)::bx) op (chK P own ops kL f ps bx dst ((ops.toList.take e).drop i1) sl (chV P own ops m kL kp fL bx T is))):chV P own ops m kL kp fL bx T (i::is) (some c) sl:=by
 subst h1;subst h2;subst h3;subst h4;subst h5;subst h6;exact h
theorem chK_ok {own:List Nat} {kL:Nat} {f:SV} {ps:List Nat} {seg:List Oper} {N:Option BoxC→SL→Prop} {c':BoxC} {pg:List Nat} (h1:c'.real=true)(h2:∀ k,k∈pg→k∈ps)(h:qrunV P own ops bx seg (sput sl dst f) (N (some c'))) :
  chK P own ops kL f ps bx dst seg sl N f ((kL,c')::bx) pg:=⟨rfl,h2,c',rfl,h1,h⟩
theorem chV_end {own:List Nat} {m kL dL:Nat} {ds kp:List Nat} {c:BoxC} {K:SL→Boxes→Prop} (h1:freeCh kL ds sl=true)(h:runV P own ops (ops.toList.drop m) (sput (purge1 kL sl) (some dL) fL) ((kL,c)::bx) K) :
  chV P own ops m kL kp fL bx (chT P own ops m kL dL fL ds bx K) [] (some c) sl:=⟨h1,h⟩
theorem chV_sound {own:List Nat} {m kL:Nat} {kp:List Nat} {T T':Option BoxC→SL→Prop} (hT:∀ c sl,T c sl→T' c sl)(hd:dstsOK n ops.toList=true):∀ (is:List Nat)(c:Option BoxC)(sl:SL),chV P own ops m kL kp fL bx T is c sl→ChR P n ops m kL kp fL bx T' is c sl
 | [],c,sl,h=>hT c sl h
 | i::is,c,sl,h=>by
  unfold chV at h
  cases ho:ops[i]? with
  | none =>
   have e1:opAt ops i=.move (.const undef):=by simp [opAt,ho]
   have e2:dstAt ops i=none:=by simp [dstAt,ho]
   rw [e1,e2] at h
   obtain⟨r,bx',pg,_,q1,q2,c',q3,q4,_⟩:=opK_sound (o:={ (default:Oper) with op:=.move (.const undef),dst:=none }) h
   exact⟨c',q4,fun o ho'=>by rw [ho] at ho';cases ho'⟩
  | some o =>
   have e1:opAt ops i=o.op:=by simp [opAt,ho]
   have e2:dstAt ops i=o.dst:=by simp [dstAt,ho]
   rw [e1,e2] at h
   obtain⟨r,bx',pg,q,rfl,q2,c',rfl,q4,q5⟩:=opK_sound (o:=o) h
   refine⟨c',q4,fun o' ho'=>?_⟩
   rw [ho] at ho';simp only [Option.some.injEq] at ho';subst ho'
   refine⟨fun C S w β a hi ha=>Oper.wpx_mono (q C S w β a hi ha) ?_,qrunV_sound (fun sl' h'=>chV_sound hT hd is (some c') sl' h') _ _ ?_ q5⟩
   ·rintro a' w' ⟨v,S',β',z1,z2,z3,z4,z5⟩
    exact⟨v,S',β',z1,z2,z3,z4,fun k hk=>z5 k fun h=>hk (q2 k h)⟩
   ·unfold dstsOK at *;rw [List.all_eq_true] at *;exact fun o ho=>hd o (List.mem_of_mem_take (List.mem_of_mem_drop ho))
theorem AWp.regDC (ks own:List Nat)(m kL dL i0:Nat)(ch kp:List Nat)(fL:SV)(hi0:ch.headD m=i0)(hm:P.follows .mixedOrders=true)(hc:drawOK ops m (Region.before ops)=true)(hd:dstsOK n ops.toList=true)(hL:chainOK ops m ch kp=true)(hsort:ch.Pairwise (· < ·))
  (hlast:∃ i,i∈ch∧i ∉ kp∧(∀ j,j∈ch→j≤i∨j∈kp)∧dstAt ops i=some dL) (hfr:∀ x,(kL,x) ∉ bx) (hfs:freeCh kL [] sl=true)
  (h:qrunV P own ops bx (ops.toList.take i0) sl (chV P own ops m kL kp fL bx (chT P own ops m kL dL fL (chDsts ops ch) bx (keepK ks (Q .normal))) ch none)):AWp ro P n (.region id ops true) Q sl bx:=by
 have sub:∀ {l:List Oper},(∀ o,o∈l→o∈ops.toList)→dstsOK n l=true:=fun {l} hl=>by
  unfold dstsOK at *;rw [List.all_eq_true] at *;exact fun o ho=>hd o (hl o ho)
 subst hi0
 exact AWp.regionDrawC m kL dL ch kp fL _ ks ks hm hc hd hL hsort hlast hfr hfs (qrunV_sound (fun sl1 h1=>chV_sound (fun c sl2 h2=>⟨h2.1,runV_sound _ _ _ (sub fun o ho=>List.mem_of_mem_drop ho) h2.2⟩) hd ch none sl1 h1) _ _ (sub fun o ho=>List.mem_of_mem_take ho) h)
theorem AWp.seqDC {y:Code} (ks own:List Nat)(m kL dL i0:Nat)(ch kp:List Nat)(fL:SV)(hi0:ch.headD m=i0)(hm:P.follows .mixedOrders=true)(hc:drawOK ops m (Region.before ops)=true)(hd:dstsOK n ops.toList=true)(hL:chainOK ops m ch kp=true)(hsort:ch.Pairwise (· < ·))
  (hlast:∃ i,i∈ch∧i ∉ kp∧(∀ j,j∈ch→j≤i∨j∈kp)∧dstAt ops i=some dL) (hfr:∀ x,(kL,x) ∉ bx) (hfs:freeCh kL [] sl=true)
  (h:∀ K:SL→Boxes→Prop,(∀ sl' bx',AWp ro P n y Q sl' bx'→K sl' bx')→qrunV P own ops bx (ops.toList.take i0) sl (chV P own ops m kL kp fL bx (chT P own ops m kL dL fL (chDsts ops ch) bx (keepK ks K)) ch none)) :
  AWp ro P n (.seq (.region id ops true) y) Q sl bx :=
 AWp.seq (AWp.regDC ks own m kL dL i0 ch kp fL hi0 hm hc hd hL hsort hlast hfr hfs (h _ fun _ _ h=>h))
end Go.Abs
/- Function values with first arguments, as data: kept in a map, called. Own framework. -/
set_option linter.unusedVariables false
set_option linter.unusedSimpArgs false
namespace Go.Abs
set_option linter.unusedSimpArgs false
set_option linter.unusedVariables false
open Go
variable {P:Program} {sl:SL} {bx:Boxes} {o:Oper} {ρ:Rho}
theorem rec_data {S:Nat→Prop} {w:World} {β:Names} {cells:List D} {v:Value} (h:RepV S w β (.agg [.dptr cells 0]) v):RepC S w (.agg [.ptr cells]) v:=by
 cases h with
 | agg cs vs h1 h2 h3 =>
  match vs,h1 with
  | [u],_ =>
   have:=h3 0 _ u rfl rfl
   obtain⟨b,base,q⟩:=this.inv_dptr
   refine .agg _ _ rfl (by simp [D.one]) ?_
   intro j d x hd hx
   match j with
   | 0 =>
    simp only [List.getElem?_cons_zero,Option.some.injEq] at hd hx
    subst hd;subst hx
    rw [q.v,Nat.add_zero]
    exact .ptr _ b base q.inS q.one q.there q.rep
   | j+1=>simp at hd
theorem data_rec {S:Nat→Prop} {w:World} {β:Names} {cells:List D} {v:Value} (h:RepC S w (.agg [.ptr cells]) v):RepV S w β (.agg [.dptr cells 0]) v:=by
 cases h with
 | agg cs vs h1 h2 h3 =>
  match vs,h1 with
  | [u],_ =>
   have h4:=h3 0 _ u rfl rfl
   refine .agg _ _ rfl (by simp [SV.one]) ?_
   intro j d x hd hx
   match j with
   | 0 =>
    simp only [List.getElem?_cons_zero,Option.some.injEq] at hd hx
    subst hd;subst hx
    cases h4 with
    | ptr _ b base q1 q2 q3 q4=>exact .dptr cells 0 b base q1 q2 q3 q4
   | j+1=>simp at hd
variable {f:FuncId}
theorem opT_bound {x:Operand} {cells:List D} (ho:o.op=.makeFunc (.func f) #[x] #[])(hx:ρ x=.agg [.dptr cells 0]):OpT P o ρ bx (.d (.fn f [.agg [.ptr cells]])) bx []:=by
 refine OpT.of_value fun C S w β a hi ha=>?_
 have h1:=ha x (mC ho)
 rw [hx] at h1
 refine⟨.func (.func f) #[a.eval x] #[],by simp [execOp,ho,Instr.makeFunc],.d _ _ (.fn f _ [a.eval x] rfl ?_)⟩
 intro j d v hd hv
 match j with
 | 0 =>
  simp only [List.getElem?_cons_zero,Option.some.injEq] at hd hv
  subst hd;subst hv
  exact rec_data h1
 | j+1=>simp at hd
theorem run_enterF (hE:Enters P f) {fo:Operand} {args:Array Operand} {tys:Array TypeId} (ho:o.op=.call { callee:=.value fo,args:=args,argTypes:=tys }) {a:Act} {vs:Array Value} {w:World} (hf:a.eval fo=.func (.func f) vs #[]) :
  (execOp a.eval o).run P w=.ok (.enter f (vs++args.map a.eval)) w:=by
 obtain⟨fn,h1,h2,h3⟩:=hE
 simp only [execOp,ho,resolve,Deferred.ofValue,hf,invoke,callFunc,Sem.run_bind,Sem.run_pure,Result.andThen_ok,run_program,h1,h2,h3,Bool.false_eq_true,if_false,Array.append_empty]
theorem opQ_callBound {fo:Operand} {args:List Operand} {tys:List TypeId} {cells:List D} {args':List SV} {r:SV} (hf:opnd sl fo=.d (.fn f [.agg [.ptr cells]]))(hargs:coerceL [] (.agg [.dptr cells 0]::args.map (opnd sl))=some args')(hc:CallOK P f args' r)(hr:r.closed=true) :
  OpQ P sl bx (.call ⟨.value fo,args.toArray,tys.toArray⟩) r:=by
 intro o ho C S w β a hi ha
 have hf1:=ha fo (mC ho);rw [hf] at hf1
 have hf2:=hf1.inv_d
 generalize hfv:a.eval fo=v at hf2
 cases hf2 with
 | fn _ _ vs h1 h2 =>
  match vs,h1 with
  | [u],_ =>
   have hu:=data_rec (β:=β) (h2 0 _ u rfl rfl)
   have hall:RepL S w β (.agg [.dptr cells 0]::args.map (opnd sl)) (u::args.map a.eval):=.cons hu (RepL.evals _ fun x hx=>ha x (mo ho (by simp [Op.operands,Call.operands];exact .inr hx)))
   have hin:Inv ⟨w,S,fun _=>False,fun _ _=>False,C.G⟩ S w β []:=hi.begin hi.Slt (fun _ h=>h)
   obtain⟨g1,g2⟩:=coerceL_rep hin (SExt.refl S w) (by simp) hargs hall
   have hcall:=hc.2 ⟨w,S,fun _=>False,fun _ _=>False,C.G⟩ β _ hin g1
   refine Or.inl ?_
   unfold Oper.wp
   rw [run_enterF hc.1 ho hfv,Oper.upon_enter]
   have hargsEq:(⟨[u]⟩:Array Value)++args.toArray.map a.eval=⟨u::args.map a.eval⟩:=by apply Array.ext';simp
   rw [hargsEq]
   refine hcall.mono ?_
   rintro e w' ⟨v,S',β',rfl,hk,hv⟩
   obtain⟨q1,q2⟩:=hi.back hk
   have e':SExt S' w' (fun b=>S b∨(S' b∧w.heap.size≤b)) w':=⟨fun b hb=>by
    rcases hk.Snew b hb with h | h | h
    ·exact .inl h
    ·exact h.elim
    ·exact .inr ⟨hb,h⟩,fun _ _=>rfl⟩
   exact⟨v,_,β,rfl,q1,q2,(hv.ext e' (fun _ _=>rfl)).closed hr,fun _ _=>rfl⟩
variable {ik:IntKind}
theorem find_nowI {kt:TypeId} (hs:P.underlying kt=some (.int ik))(n:Int):∀ (es:List MapEntry)(kvs:List (D × D))(i:Nat),es.length=kvs.length →
  (∀ (j:Nat) (e:MapEntry) (kv:D × D),es[j]? = some e→kvs[j]? = some kv→e.key=kv.1.kv∧KeyAt P kt kv.1) →
  ∃ r,Instr.findNow (.int ik) (.int ik n) es i=some r∧Found es i (kfind [.int ik n] kvs i) r kvs
 | [],[],i,_,_=>⟨none,by simp [Instr.findNow],rfl⟩
 | [],_::_,_,h,_=>by simp at h
 | _::_,[],_,h,_=>by simp at h
 | e::es,kv::kvs,i,h,hall=>by
  obtain⟨h1,h2⟩:=hall 0 e kv rfl rfl
  have str:∀ {d:D},KeyAt P kt d→∃ s,d=.int ik s:=fun {d} hd=>by
   have f:=hd.formed
   have l:=hd.lits
   have k:=hd.isKey
   cases d with
   | int kk s =>
    have hk:kk=ik:=by
     simp [D.kv,D.lit,D.lits,Lit.value,Program.keyLits,hs,Value.cells] at l
     exact l.1.1
    exact⟨s,by rw [hk]⟩
   | agg cs=>simp [D.kv,Value.formed,hs] at f
   | str n=>simp [D.kv,D.lit,Lit.value,Program.keyLits,hs,Value.cells] at l
   | bool b=>simp [D.kv,D.lit,Lit.value,Program.keyLits,hs,Value.cells] at l
   | _=>simp [D.isKey,D.flatK] at k
  obtain⟨k,d⟩:=kv
  obtain⟨t,rfl⟩:=str h2
  simp only [kfind]
  have hsame:Instr.sameNow (.int ik) (.int ik n) e.key=some (decide (n=t)):=by
   rw [h1]
   simp only [D.kv,D.lit,Lit.value,Instr.sameNow,if_true,Option.some.injEq]
   rw [Bool.eq_iff_iff]
   simp
  by_cases he:n=t
  ·subst he
   rw [if_pos (show [Lit.int ik n]=(D.int ik n).lits from rfl)]
   exact⟨some (i,e.val),by simp [Instr.findNow,hsame],e,_,by omega,by simp,by simp;rfl,rfl⟩
  ·rw [if_neg (by simpa [D.lits,D.lit] using he)]
   obtain⟨r,g1,g2⟩:=find_nowI hs n es kvs (i+1) (by simpa using h) (fun j e kv he hkv=>hall (j+1) e kv (by simpa using he) (by simpa using hkv))
   refine⟨r,by simp [Instr.findNow,hsame,he,g1],?_⟩
   generalize kfind [Lit.int ik n] kvs (i+1)=q at *
   cases q with
   | none=>exact g2
   | some jd =>
    obtain⟨j,d⟩:=jd
    obtain⟨e',k',q1,q2,q3,q4⟩:=g2
    refine⟨e',k',by omega,?_,?_,q4⟩
    ·rw [show j - i=(j - (i+1))+1 by omega];simpa using q2
    ·rw [show j - i=(j - (i+1))+1 by omega];simpa using q3
theorem keyI_check {kt:TypeId} (hs:P.underlying kt=some (.int ik))(em:Bool)(w:World)(n:Int):(Instr.checkKey em 10000 kt (.int ik n)).run P w=.ok () w:=by
 rw [show (10000:Nat)=9999+1 from rfl,Instr.checkKey]
 simp [run_underlying hs]
theorem find_keyI {kt:TypeId} (hs:P.underlying kt=some (.int ik))(w:World)(n:Int)(es:List MapEntry)(kvs:List (D × D))(hl:es.length=kvs.length)
  (hall:∀ (j:Nat) (e:MapEntry) (kv:D × D),es[j]? = some e→kvs[j]? = some kv→e.key=kv.1.kv∧KeyAt P kt kv.1) :
  ∃ r,(Instr.findKey kt (.int ik n) es).run P w=.ok r w∧Found es 0 (kfind [.int ik n] kvs 0) r kvs:=by
 obtain⟨r,h1,h2⟩:=find_nowI hs n es kvs 0 hl hall
 exact⟨r,MapKept.run_findKey hs h1,h2⟩
theorem opT_insertI {T kt et k:Nat} {m x y:Operand} (ho:o.op=.insert T m x y) {kvs:List (D × D)} {kn:Int} {vd:D} (hm:ρ m=.mp k)(hb:(k,BoxC.map kvs)∈bx)
  (hT:P.underlying T=some (.map kt et)) (hik:P.underlying kt=some (.int ik)) (hnew:kfind [.int ik kn] kvs 0=none) (hx:ρ x=.d (.int ik kn)) (hall:∀ kv,kv∈kvs→KeyAt P kt kv.1) (hy:asD (ρ y)=some vd) :
  OpT P o ρ bx (.tuple []) ((k,.map (kvs++[(.int ik kn,vd)]))::berase k bx) []:=by
 intro C S w β a hi ha
 have hm1:=ha m (mC ho);rw [hm] at hm1
 have hx0:=ha x (mC ho);rw [hx] at hx0
 have hx1:=hx0.inv_d
 have hy1:=asD_rep (ha y (mC ho)) hy
 have hxv:a.eval x=.int ik kn:=hx0.inv_int
 obtain⟨r,es,clock,hbase,hh,hmz,hes⟩:=hi.box k _ hb
 have hsz:=hmz.1
 generalize hmv:a.eval m=mv at hm1
 cases hm1 with
 | mp _ b hbase' =>
  rw [hbase] at hbase';cases hbase'
  obtain⟨q,hq,hf⟩:=find_keyI hik w kn es.toList kvs (by simpa using hsz) (entries_key hsz (fun r kv e h1 h2=>(hes r kv e h1 h2).1) hall)
  have hchk:=keyI_check hik false w kn
  have hlt:r < w.heap.size:=(hi.priv k _ hb r hbase).2.1
  rw [← hxv] at hq hchk
  have hfd:=hnew
  ·rw [hfd] at hf
   simp only [Found] at hf
   subst hf
   obtain⟨h1,h2⟩:=mapSet (kvs:=kvs++[(.int ik kn,vd)]) hi hb hbase hlt (es.push { key:=a.eval x,val:=a.eval y,born:=clock }) (clock+1) ⟨by simp [hsz],hmz.2.push _ _⟩ (by
    intro j kv e hk he
    rw [List.getElem?_append] at hk
    rw [Array.getElem?_push] at he
    split at hk
    ·rw [if_neg (by omega)] at he
     exact hes j kv e hk he
    ·rename_i hj
     have hj2:j - kvs.length=0:=by
      have:=(List.getElem?_eq_some_iff.1 hk).1
      simp at this;omega
     rw [hj2] at hk
     rw [if_pos (by omega)] at he
     simp only [List.getElem?_cons_zero,Option.some.injEq] at hk he
     subst hk he
     exact⟨hx1,hy1⟩)
   refine Or.inl ?_
   unfold Oper.wp
   rw [show (execOp a.eval o).run P w=.ok .skip { w with heap:=w.heap.setIfInBounds r (.map (es.push { key:=a.eval x,val:=a.eval y,born:=clock }) (clock+1)) } by
    simp [execOp,ho,hmv,Instr.mapUpdate,run_underlying hT,MapKept.run_getObj_map hh,hchk,hq,MapKept.run_setObj_map _ hh]]
   exact⟨undef,S,β,rfl,h1,h2,.tuple [] [] rfl (by simp),fun _ _=>rfl⟩
theorem opT_lookupI {T kt et:Nat} {m x:Operand} {ok:Bool} (ho:o.op=.lookup T m x ok) {kvs:List (D × D)} {kn:Int} {z:SV} (hm:IsMap bx (ρ m) kvs)
  (hT:P.underlying T=some (.map kt et)) (hik:P.underlying kt=some (.int ik)) (hx:ρ x=.d (.int ik kn)) (hall:∀ kv,kv∈kvs→KeyAt P kt kv.1) (hz:zone P et=some z) :
  OpT P o ρ bx (lookR ok (.int ik kn) kvs z) bx []:=by
 refine OpT.of_value fun C S w β a hi ha=>?_
 have hx0:=ha x (mC ho);rw [hx] at hx0
 have hx1:=hx0.inv_d
 obtain⟨r,es,clock,hmv,hh,hsz,hes⟩:=hm.rep hi (ha m (mC ho))
 have hxv:a.eval x=.int ik kn:=hx0.inv_int
 obtain⟨q,hq,hf⟩:=find_keyI hik w kn es.toList kvs (by simpa using hsz) (entries_key hsz (fun r kv e h1 h2=>(hes r kv e h1 h2).1) hall)
 have hchk:=keyI_check hik es.isEmpty w kn
 rw [← hxv] at hq hchk
 obtain⟨zv,hzr,hzz⟩:=run_zone hz w
 cases hfd:kfind [.int ik kn] kvs 0 with
 | none =>
  rw [hfd] at hf
  simp only [Found] at hf
  subst hf
  have hzrep:RepV S w β z zv:=by rw [hzz];exact repV_const S w β zv
  cases ok with
  | true =>
   refine⟨.tuple #[zv,.bool false],by simp [execOp,ho,hmv,Instr.lookup,run_underlying hT,MapKept.run_getObj_map hh,hchk,hq,hzr],?_⟩
   simp only [lookR,lookV,show (D.int ik kn).lits=[Lit.int ik kn] from rfl,hfd,Option.isSome_none]
   exact .tuple _ _ rfl (RepL.cons hzrep (RepL.cons (.d _ _ (.bool _)) .nil)).2
  | false =>
   refine⟨zv,by simp [execOp,ho,hmv,Instr.lookup,run_underlying hT,MapKept.run_getObj_map hh,hchk,hq,hzr],?_⟩
   simpa only [lookR,lookV,show (D.int ik kn).lits=[Lit.int ik kn] from rfl,hfd] using hzrep
 | some jd =>
  obtain⟨j,d⟩:=jd
  rw [hfd] at hf
  obtain⟨e,k',_,g1,g2,rfl⟩:=hf
  simp only [Nat.sub_zero,Array.getElem?_toList] at g1 g2
  have hrep:RepV S w β (ofD d) e.val:=ofD_rep (hes j (k',d) e g2 g1).2
  cases ok with
  | true =>
   refine⟨.tuple #[e.val,.bool true],by simp [execOp,ho,hmv,Instr.lookup,run_underlying hT,MapKept.run_getObj_map hh,hchk,hq],?_⟩
   simp only [lookR,lookV,show (D.int ik kn).lits=[Lit.int ik kn] from rfl,hfd,Option.isSome_some]
   exact .tuple _ _ rfl (RepL.cons hrep (RepL.cons (.d _ _ (.bool _)) .nil)).2
  | false =>
   refine⟨e.val,by simp [execOp,ho,hmv,Instr.lookup,run_underlying hT,MapKept.run_getObj_map hh,hchk,hq],?_⟩
   simpa only [lookR,lookV,show (D.int ik kn).lits=[Lit.int ik kn] from rfl,hfd] using hrep
end Go.Abs
/- Methods bound to a record of several cells, kept in an array variable. Own framework. -/
set_option linter.unusedVariables false
set_option linter.unusedSimpArgs false
namespace Go.Abs
set_option linter.unusedSimpArgs false
set_option linter.unusedVariables false
open Go
variable {P:Program} {sl:SL} {bx:Boxes} {o:Oper} {ρ:Rho}
variable {ro:Option Nat} {P:Program} {n:Nat} {Q:Exit→SL→Boxes→Prop} {sl:SL} {bx:Boxes}
variable {ops:Array Oper}
theorem dC {id:Nat} {y:Code} (ks own:List Nat)(m kL dL i0:Nat)(ch kp:List Nat)(fL:SV)(i:Nat)(hm:P.follows .mixedOrders=true)(h:∀ K:SL→Boxes→Prop,(∀ sl' bx',AWp ro P n y Q sl' bx'→K sl' bx')→qrunV P own ops bx (ops.toList.take i0) sl (chV P own ops m kL kp fL bx (chT P own ops m kL dL fL (chDsts ops ch) bx (keepK ks K)) ch none))(hi0:ch.headD m=i0:=by rfl)(hc:drawOK ops m (Region.before ops)=true:=by decide +kernel)(hd:dstsOK n ops.toList=true:=by decide +kernel)(hL:chainOK ops m ch kp=true:=by decide +kernel)(hs:ch.Pairwise (· < ·):=by decide)(l1:i∈ch:=by decide)(l2:i∉kp:=by decide)(l3:∀ j,j∈ch→j≤i∨j∈kp:=by decide)(l4:dstAt ops i=some dL:=by rfl)(hfr:∀ x,(kL,x)∉bx:=by simp)(hfs:freeCh kL [] sl=true:=by rfl):AWp ro P n (.seq (.region id ops true) y) Q sl bx:=AWp.seqDC ks own m kL dL i0 ch kp fL hi0 hm hc hd hL hs ⟨i,l1,l2,l3,l4⟩ hfr hfs h
theorem cS0 {own:List Nat} {m kL i:Nat} {is kp:List Nat} {fL:SV} {T:Option BoxC→SL→Prop} {op:Op} (dst:Option Nat)(e i1:Nat)(f:SV)(ps:List Nat)(h:opK P own dst sl bx op (chK P own ops kL f ps bx dst ((ops.toList.take e).drop i1) sl (chV P own ops m kL kp fL bx T is)))(h1:opAt ops i=op:=by rfl)(h2:dstAt ops i=dst:=by rfl)(h3:is.headD m=e:=by rfl)(h4:i+1=i1:=by rfl)(h5:chF kp fL i=f:=by rfl)(h6:chP kp kL i=ps:=by rfl):chV P own ops m kL kp fL bx T (i::is) none sl:=chV_step0 h1 h2 h3 h4 h5 h6 h
theorem cS1 {own:List Nat} {m kL i:Nat} {is kp:List Nat} {fL:SV} {c:BoxC} {T:Option BoxC→SL→Prop} {op:Op} (dst:Option Nat)(e i1:Nat)(f:SV)(ps:List Nat)(h:opK P own dst sl ((kL,c)::bx) op (chK P own ops kL f ps bx dst ((ops.toList.take e).drop i1) sl (chV P own ops m kL kp fL bx T is)))(h1:opAt ops i=op:=by rfl)(h2:dstAt ops i=dst:=by rfl)(h3:is.headD m=e:=by rfl)(h4:i+1=i1:=by rfl)(h5:chF kp fL i=f:=by rfl)(h6:chP kp kL i=ps:=by rfl):chV P own ops m kL kp fL bx T (i::is) (some c) sl:=chV_step1 h1 h2 h3 h4 h5 h6 h
theorem cSk {own:List Nat} {kL:Nat} {f:SV} {ps:List Nat} {dst:Option Nat} {seg:List Oper} {N:Option BoxC→SL→Prop} {c':BoxC} {pg:List Nat} (h:qrunV P own ops bx seg (sput sl dst f) (N (some c')))(h1:c'.real=true:=by rfl)(h2:∀ k,k∈pg→k∈ps:=by simp):chK P own ops kL f ps bx dst seg sl N f ((kL,c')::bx) pg:=chK_ok h1 h2 h
end Go.Abs
/- Closures kept as data: made, called; variables that hold addresses, frozen. Own framework. -/
set_option linter.unusedVariables false
set_option linter.unusedSimpArgs false
namespace Go.Abs
set_option linter.unusedSimpArgs false
set_option linter.unusedVariables false
open Go
variable {P:Program} {sl:SL} {bx:Boxes} {o:Oper} {ρ:Rho}
theorem CallOK.ptr {f:FuncId} {c:List D} {args:List SV} {r:SV} (h:CallOK P f (.dptr c 0::args) r):CallOK P f (.d (.ptr c)::args) r:=by
 refine⟨h.1,fun C β vs hi hv=>h.2 C β vs hi ?_⟩
 cases vs with
 | nil=>exact absurd hv.1 (by simp)
 | cons v vs =>
  have h0:=hv.2 0 _ v rfl rfl
  refine .cons ?_ ?_
  ·have:=h0.inv_d
   cases this with
   | ptr _ b base q1 q2 q3 q4=>exact .dptr _ 0 b base q1 q2 q3 q4
  ·exact⟨by have:=hv.1;simp at this ⊢;omega,fun j c u hc hu=>hv.2 (j+1) c u hc hu⟩
variable {ro:Option Nat} {n:Nat} {Q:Exit→SL→Boxes→Prop}
end Go.Abs
/- the greater of two numbers; the address of an element of a package variable that is laid. Own framework. -/
set_option linter.unusedVariables false
set_option linter.unusedSimpArgs false
namespace Go.Abs
set_option linter.unusedSimpArgs false
set_option linter.unusedVariables false
open Go
variable {P:Program} {sl:SL} {bx:Boxes}
theorem opQ_max {x y:Operand} {tys:Array TypeId} {m n:Int} (hx:opnd sl x=.d (.int .i64 m))(hy:opnd sl y=.d (.int .i64 n)) :
  OpQ P sl bx (.call ⟨.builtin .max,#[x,y],tys⟩) (.d (.int .i64 (if m < n then n else m))):=by
 intro o ho
 refine OpT.of_value fun C S w β a hi ha=>?_
 have h1:=ha x (mC ho);rw [hx] at h1;have h1:=h1.inv_int
 have h2:=ha y (mC ho);rw [hy] at h2;have h2:=h2.inv_int
 refine⟨.int .i64 (if m < n then n else m),?_,.d _ _ (.int _ _)⟩
 simp [execOp,ho,resolve,invoke,builtin,Builtin.max_,Builtin.max2,h1,h2]
theorem opQ_indexGlob {T e len g j:Nat} {y:Operand} {ik:IntKind} {i:Int} {cells:List D} {cs:Array Value} (hy:opnd sl y=.d (.int ik i))(hi:i=j)
  (hT:P.underlying T=some (.array len e)) (hs:tsize P e=some 1) (h1:j < len)
  (hfix:∀ sy ra,fixedRow sy ra g cs) (hone:∀ d,d∈cells→d.one=true) (hlen:cs.size=cells.length)
  (hrep:∀ (S:Nat→Prop) (w:World) (j:Nat) (d:D) (v:Value),cells[j]? = some d→cs[j]? = some v→RepC S w d v) :
  OpQ P sl bx (.indexAddr T (.global g) y) (.dptr cells j):=by
 intro o ho
 subst hi
 refine OpT.of_value fun C S w β a hi ha=>?_
 have hy1:=(ha y (mC ho));rw [hy] at hy1;have hy1:=hy1.inv_int
 obtain⟨hS,ty,fr,hb⟩:=hi.tab g cs (hfix _ _)
 have hcell:∀ k,w.cell? ⟨g,k,none⟩=cs[k]?:=fun k=>by simp [World.cell?,hb]
 have hj:(0:Int)≤(j:Int)∧(j:Int) < (len:Int):=by omega
 refine⟨.pointer (some ⟨g,0+j,none⟩),?_,.dptr cells j g 0 hS hone (fun k hk=>?_) fun k d v hd hv=>?_⟩
 ·have hg:a.eval (.global g)=.pointer (some ⟨g,0,none⟩):=rfl
  simp only [execOp,ho,Instr.indexAt,hg,hy1,Sem.run_bind,asIntOf,Sem.run_pure,Result.andThen_ok,underlying,run_program,hT,Instr.sureAddr]
  simp only [hj,and_self,if_true,Sem.run_bind,run_sizeOf' hs,Result.andThen_ok,Sem.run_pure,Addr.add,Int.toNat_natCast,Nat.mul_one]
  split
  ·rename_i hz;simp only [hz,Nat.add_zero]
  ·rfl
 ·rw [hcell]
  exact⟨_,Array.getElem?_eq_getElem (by omega)⟩
 ·rw [hcell,Nat.zero_add] at hv
  exact hrep S w k d v hd hv
end Go.Abs
