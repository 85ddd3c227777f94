/- Drawn regions whose first operations hold several late ones (new variables, a store), unordered among the others. Own framework. -/
import Derived.Test.YtdohpbjgaaneeaaGreatDoorQAb8
set_option linter.unusedVariables false
set_option linter.unusedSimpArgs false
namespace Go.Abs
set_option linter.unusedSimpArgs false
set_option linter.unusedVariables false
open Go
variable {ro:Option Nat} {P:Program} {n:Nat} {Q:Exit→SL→Boxes→Prop} {sl:SL} {bx:Boxes} {o:Oper} {ρ:Rho}
def Dn (ops:Array Oper)(X:Nat→Bool):Prop:=∀ (i:Nat)(o:Oper),ops[i]? = some o→X i=true→∀ e,e∈o.after→Region.binds .any e=true→X e.on=true
def one (X:Nat→Bool)(i:Nat):Nat→Bool:=fun j=>if j=i then true else X j
variable {ops:Array Oper} {K:SL→Boxes→Prop}
theorem draw_set {C:Ctx} {m:Nat} {L:Nat→Prop} {bxf:(Nat→Bool)→Boxes} {bxE:Boxes} {QQ:Exit→Act→World→Prop} {fs:List SV} {sls:List SL} (hd:DrawOK ops m)(hdst:∀ o,o∈ops.toList→dstOK n o.dst)(hnd:∀ o,o∈ops.toList→notDefer o=true)(hLd:∀ i,L i∨¬ L i)
  (hK:∀ sl bx S w β a,K sl bx→St C n S w β a sl bx→QQ .normal a w) (h0:sls[0]? = some sl)
  (hE:∀ X:Nat→Bool,(∀ i,i < m→X i=true)→bxf X=bxE)
  (hyL:∀ (i:Nat) (o:Oper),i < m→L i→ops[i]? = some o→∃ s f pg,sls[i]? = some s∧fs[i]? = some f∧o.guard=none∧sls[i+1]? = some (sput s o.dst f) ∧
   (∀ k,k∈pg→(∀ t,o.dst≠some t→(sget sl t).has k=false)∧∀ (j:Nat) (oj:Oper) (fj:SV),j < m→j≠i→ops[j]? = some oj→oj.dst≠none→fs[j]? = some fj→fj.has k=false) ∧
   ∀ X:Nat→Bool,X i=false→Dn ops X→(∀ e,e∈o.after→Region.binds .any e=true→X e.on=true)→OpT P o (opnd s) (bxf X) f (bxf (one X i)) pg)
  (hy:∀ (i:Nat) (o:Oper),i < m→¬ L i→ops[i]? = some o→∃ s f,sls[i]? = some s∧fs[i]? = some f∧sls[i+1]? = some (sput s o.dst f)∧∀ X:Nat→Bool,Dn ops X→Yield P ops s (bxf X) o f∧bxf (one X i)=bxf X)
  (hend:∃ e,sls[m]? = some e∧Run P n ops (ops.toList.drop m) e bxE K) :
  ∀ (fuel:Nat) (listed:Array Bool) (a:Act) (w:World),listed.size=ops.size→left ops.size listed≤fuel →
   (∀ (i:Nat) (o:Oper),ops[i]? = some o→listed.getD i false=true→∀ e,e∈o.after→Region.binds .any e=true→listed.getD e.on false=true) →
   (((∀ i,listed.getD i false=true→i < m)∧∃ S β,Inv C S w β (bxf fun i=>listed.getD i false)∧a.tmps.size=n∧Marks C S w a.defers∧∀ t x,Cur ops fs sl (fun i=>listed.getD i false=true) t x→RepV S w β x (a.tmps.getD t undef)) ∨
    (∃ j,m≤j∧j≤ops.size∧(∀ i,listed.getD i false=true↔i < j)∧∃ sl' bx' S β,St C n S w β a sl' bx'∧Run P n ops (ops.toList.drop j) sl' bx' K)) →
   wpAnyIn (FW ro) 0 P .any ops QQ fuel listed a w:=by
 have hyA:∀ (i:Nat) (o:Oper),i < m→ops[i]? = some o→∃ s f,sls[i]? = some s∧fs[i]? = some f∧sls[i+1]? = some (sput s o.dst f):=by
  intro i o hi ho
  rcases hLd i with h | h
  ·obtain⟨s,f,_,h1,h2,_,h3,_⟩:=hyL i o hi h ho;exact⟨s,f,h1,h2,h3⟩
  ·obtain⟨s,f,h1,h2,h3,_⟩:=hy i o hi h ho;exact⟨s,f,h1,h2,h3⟩
 have htext:=cur_text (fs:=fs) (sls:=sls) (sl:=sl) hd h0 hyA
 have conv:∀ (listed:Array Bool) (a:Act) (w:World),(∀ i,listed.getD i false=true→i < m)→(∀ i,i < m→listed.getD i false=true)→(∃ S β,Inv C S w β (bxf fun i=>listed.getD i false)∧a.tmps.size=n∧Marks C S w a.defers∧∀ t x,Cur ops fs sl (fun i=>listed.getD i false=true) t x→RepV S w β x (a.tmps.getD t undef)) →
   ∃ sl' bx' S β,St C n S w β a sl' bx'∧Run P n ops (ops.toList.drop m) sl' bx' K:=by
  rintro listed a w hA hall ⟨S,β,hi,hsz,hdf,hc⟩
  obtain⟨e,he,hr⟩:=hend
  rw [hE _ hall] at hi
  refine⟨e,_,S,β,⟨hi,hsz,hdf,fun t=>hc t _ ?_⟩,hr⟩
  have:=htext m e (Nat.le_refl _) he t
  rcases this with ⟨i,o,h1,h2,h3,h4⟩ | ⟨h1,h2⟩
  ·exact .inl ⟨i,o,hall i h1,h2,h3,h4⟩
  ·exact .inr ⟨fun i o hx=>h1 i o (hA i hx),h2⟩
 have hall_of_ready:∀ listed:Array Bool,listed.size=ops.size→Region.ready .any ops listed=[]→∀ i,i < ops.size→listed.getD i false=true:=by
  intro listed hs hr i
  induction i using Nat.strongRecOn with
  | _ i ih =>
   intro hi
   cases hl:listed.getD i false with
   | true=>rfl
   | false =>
    exfalso
    have:i∈Region.ready .any ops listed:=by
     rw [mem_ready]
     refine⟨?_,ops[i],Array.getElem?_eq_getElem hi,fun e he hb=>?_⟩
     ·have hi':i < listed.size:=by omega
      simp [Array.getD,hi'] at hl ⊢;exact hl
     ·have hlt:=hd.back i _ (Array.getElem?_eq_getElem hi) e he hb
      exact ih e.on hlt (by omega)
    rw [hr] at this;simp at this
 intro fuel
 induction fuel with
 | zero =>
  intro listed a w hs hleft hdown hinv
  have hall:∀ i,i < ops.size→listed.getD i false=true:=by
   intro i hi
   cases hl:listed.getD i false with
   | true=>rfl
   | false =>
    exfalso
    have:0 < left ops.size listed:=by
     unfold left
     rw [List.countP_pos_iff]
     exact⟨i,List.mem_range.2 hi,by simp [hl]⟩
    omega
  have hready:Region.ready .any ops listed=[]:=by
   rw [List.eq_nil_iff_forall_not_mem]
   intro i hi
   rw [mem_ready] at hi
   obtain⟨h1,o,ho,_⟩:=hi
   have hlt:=(Array.getElem?_eq_some_iff.1 ho).1
   have:=hall i hlt
   have hi':i < listed.size:=by omega
   simp [Array.getD,hi'] at this h1
   rw [this] at h1;simp at h1
  refine⟨hready,?_⟩
  rcases hinv with ⟨hA,hA2⟩ | ⟨j,hj1,hj2,hj3,sl',bx',S,β,hst,hrun⟩
  ·have hm:m=ops.size:=by
    rcases Nat.lt_or_ge m ops.size with h | h
    ·have:=hA m (hall m h);omega
    ·have:=hd.le;omega
   obtain⟨sl',bx',S,β,hst,hrun⟩:=conv listed a w hA (fun i hi=>hall i (by omega)) hA2
   rw [List.drop_eq_nil_of_le (by simp;omega)] at hrun
   exact hK sl' bx' S w β a hrun hst
  ·have hj:j=ops.size:=by
    rcases Nat.lt_or_ge j ops.size with h | h
    ·have:=(hj3 j).1 (hall j h);omega
    ·omega
   rw [List.drop_eq_nil_of_le (by simp;omega)] at hrun
   exact hK sl' bx' S w β a hrun hst
 | succ fuel ih =>
  intro listed a w hs hleft hdown hinv
  refine⟨?_,?_⟩
  ·intro hready
   have hall:=hall_of_ready listed hs hready
   rcases hinv with ⟨hA,hA2⟩ | ⟨j,hj1,hj2,hj3,sl',bx',S,β,hst,hrun⟩
   ·have hm:m=ops.size:=by
     rcases Nat.lt_or_ge m ops.size with h | h
     ·have:=hA m (hall m h);omega
     ·have:=hd.le;omega
    obtain⟨sl',bx',S,β,hst,hrun⟩:=conv listed a w hA (fun i hi=>hall i (by omega)) hA2
    rw [List.drop_eq_nil_of_le (by simp;omega)] at hrun
    exact hK sl' bx' S w β a hrun hst
   ·have hj:j=ops.size:=by
     rcases Nat.lt_or_ge j ops.size with h | h
     ·have:=(hj3 j).1 (hall j h);omega
     ·omega
    rw [List.drop_eq_nil_of_le (by simp;omega)] at hrun
    exact hK sl' bx' S w β a hrun hst
  ·intro i hi
   rw [mem_ready] at hi
   obtain⟨hnot,o,ho,hpre⟩:=hi
   have hilt:i < ops.size:=(Array.getElem?_eq_some_iff.1 ho).1
   have hil:i < listed.size:=by omega
   have hnot':listed.getD i false=false:=by simp [Array.getD,hil] at hnot ⊢;exact hnot
   have hleft':left ops.size (listed.setIfInBounds i true)≤fuel:=by have:=left_set hs hilt hnot';omega
   have hX':∀ j,(listed.setIfInBounds i true).getD j false=true↔(j=i∨listed.getD j false=true):=by
    intro j
    by_cases hj:i=j
    ·subst hj;simp [hil]
    ·rw [getD_set_ne false hj];simp [Ne.symm hj]
   have hdown':∀ (k:Nat) (o':Oper),ops[k]? = some o'→(listed.setIfInBounds i true).getD k false=true→∀ e,e∈o'.after→Region.binds .any e=true→(listed.setIfInBounds i true).getD e.on false=true:=by
    intro k o' ho' hk e he hb
    rw [hX'] at hk ⊢
    rcases hk with rfl | hk
    ·rw [ho] at ho';simp only [Option.some.injEq] at ho';subst ho'
     exact .inr (hpre e he hb)
    ·exact .inr (hdown k o' ho' hk e he hb)
   have hbehind:m≤i→∀ j,j < i→listed.getD j false=true:=fun hm=>hd.tail _ hdown i o ho hm hpre
   simp only [wpOpIn,ho]
   have hmemo:o∈ops.toList:=by have:=Array.mem_of_getElem? ho;simpa using this
   have stepB:∀ (sl':SL) (bx':Boxes) (S:Nat→Prop) (β:Names),m≤i→(∀ k,listed.getD k false=true↔k < i)→St C n S w β a sl' bx'→Run P n ops (ops.toList.drop i) sl' bx' K →
     (if Region.wanted o (yielded ops a.tmps)=true then Oper.wpIn (FW ro) 0 P o a w (wpAnyIn (FW ro) 0 P .any ops QQ fuel (listed.setIfInBounds i true)) QQ
      else (∀ f,o.about P w a.eval=some f→(FW ro).fn f)∧wpAnyIn (FW ro) 0 P .any ops QQ fuel (listed.setIfInBounds i true) (a.put o.dst undef) w):=by
    intro sl' bx' S β hm hX hst hrun
    have dp:ops.toList.drop i=o::ops.toList.drop (i+1):=by
     rw [List.drop_eq_getElem_cons (by simpa using hilt)]
     have:=(Array.getElem?_eq_some_iff.1 ho).2
     simp [this]
    rw [dp] at hrun
    obtain⟨g,hg,hdo,h1,h2⟩:=hrun
    have hw:=guard_rep (a:=a) (S:=S) (w:=w) (β:=β) (fun t ht=>by
     obtain⟨j,want,_,hj⟩:=ht
     exact⟨hst.slot t,by rw [hst.size];exact dst_lt_of_gslot hdst hj⟩) hg
    rw [hw]
    have hXn:∀ k,(listed.setIfInBounds i true).getD k false=true↔k < i+1:=by intro k;rw [hX',hX];omega
    cases g with
    | true =>
     simp only [if_true]
     obtain⟨r,bx1,pg,hop,hrun'⟩:=h1 rfl
     refine Oper.wpIn_ofQ (hnd o hmemo) (hop C S w β a hst.inv fun x _=>hst.opnd x) ?_
     rintro a' w' ⟨v,S',β',rfl,hi',he,hv,hb⟩
     exact ih _ _ _ (by simpa using hs) hleft' hdown' (.inr ⟨i+1,by omega,by omega,hXn,_,bx1,S',β',hst.put hdo hi' he hv hb,hrun'⟩)
    | false =>
     simp only [Bool.false_eq_true,if_false]
     refine⟨fun _ _=>trivial,?_⟩
     exact ih _ _ _ (by simpa using hs) hleft' hdown' (.inr ⟨i+1,by omega,by omega,hXn,_,bx',S,β,hst.put (pg:=[]) hdo hst.inv (SExt.refl S w) (.tuple [] [] rfl (by simp)) (fun _ _=>rfl),h2 rfl⟩)
   rcases hinv with ⟨hA,hA2⟩ | ⟨j,hj1,hj2,hj3,sl',bx',S,β,hst,hrun⟩
   ·by_cases him:i < m
    ·
     obtain⟨s,f,q1,q2,q3⟩:=hyA i o him ho
     obtain⟨S,β,hi,hsz,hdf,hc⟩:=hA2
     have harg:∀ t,t∈o.looksAt ops→RepV S w β (sget s t) (a.tmps.getD t undef):=by
      intro t ht
      refine hc t _ ?_
      rcases htext i s (by omega) q1 t with ⟨k,ok,g1,g2,g3,g4⟩ | ⟨g1,g2⟩
      ·obtain⟨_,e,he,hb,hon⟩:=hd.reads i k o ok t him (by omega) ho g2 ht g3
       exact .inl ⟨k,ok,by rw [← hon];exact hpre e he hb,g2,g3,g4⟩
      ·refine .inr ⟨fun k ok hk hok hdk=>?_,g2⟩
       have hkm:=hA k hk
       obtain⟨hki,_⟩:=hd.reads i k o ok t him hkm ho hok ht hdk
       exact g1 k ok hki hok hdk
     have hput:∀ (S':Nat→Prop) (w':World) (β':Names) (v:Value) (pg:List Nat),SExt S w S' w'→(∀ k,k ∉ pg→β' k = β k) →
       (∀ k,k∈pg→(∀ t,o.dst≠some t→(sget sl t).has k=false)∧∀ (j:Nat) (oj:Oper) (fj:SV),j < m→j≠i→ops[j]? = some oj→oj.dst≠none→fs[j]? = some fj→fj.has k=false)→RepV S' w' β' f v →
       ∀ t x,Cur ops fs sl (fun k=>(listed.setIfInBounds i true).getD k false=true) t x→RepV S' w' β' x ((a.put o.dst v).tmps.getD t undef):=by
      intro S' w' β' v pg he hβ hfr hv t x hcur
      have hdo:=hdst o hmemo
      have old:(∀ d,o.dst=some d→d≠t)→RepV S' w' β' x ((a.put o.dst v).tmps.getD t undef):=by
       intro hne
       have hsame:(a.put o.dst v).tmps.getD t undef=a.tmps.getD t undef:=by
        cases hdd:o.dst with
        | none=>rfl
        | some d=>rw [hdd] at hdo;rw [getD_put (by rw [hsz];exact hdo),if_neg (hne d hdd)]
       rw [hsame]
       have hold:Cur ops fs sl (fun i=>listed.getD i false=true) t x∧∀ k,k∈pg→x.has k=false:=by
        rcases hcur with ⟨k,ok,g1,g2,g3,g4⟩ | ⟨g1,g2⟩
        ·rw [hX'] at g1
         by_cases hki:k=i
         ·subst hki
          rw [ho] at g2;simp only [Option.some.injEq] at g2;subst g2
          exact absurd rfl (hne t g3)
         ·have g1':=g1.resolve_left hki
          exact⟨.inl ⟨k,ok,g1',g2,g3,g4⟩,fun q hq=>(hfr q hq).2 k ok x (hA k g1') hki g2 (by rw [g3];simp) g4⟩
        ·exact⟨.inr ⟨fun k ok hk hok=>g1 k ok ((hX' k).2 (.inr hk)) hok,g2⟩,fun q hq=>by rw [g2];exact (hfr q hq).1 t (fun he=>hne t he rfl)⟩
       refine (hc t x hold.1).ext he (fun k hk=>hβ k fun hkp=>?_)
       rw [hold.2 k hkp] at hk;cases hk
      cases hdd:o.dst with
      | none=>rw [← hdd];exact old (by simp [hdd])
      | some d =>
       by_cases hdt:d=t
       ·subst hdt
        rw [hdd] at hdo
        rw [getD_put (by rw [hsz];exact hdo),if_pos rfl]
        rcases hcur with ⟨k,ok,g1,g2,g3,g4⟩ | ⟨g1,g2⟩
        ·rw [hX'] at g1
         have hki:k=i:=by
          rcases g1 with h | h
          ·exact h
          ·exact hd.uniq k i ok o d (hA k h) him g2 ho g3 hdd
         subst hki
         rw [q2] at g4;simp only [Option.some.injEq] at g4;subst g4;exact hv
        ·exact absurd hdd (g1 i o ((hX' i).2 (.inl rfl)) ho)
       ·rw [← hdd];exact old (by intro d' hd';rw [hdd] at hd';simp only [Option.some.injEq] at hd';subst hd';exact hdt)
     have hA':∀ k,(listed.setIfInBounds i true).getD k false=true→k < m:=by
      intro k hk;rw [hX'] at hk;rcases hk with rfl | hk
      ·exact him
      ·exact hA k hk
     have hone:(fun j=>(listed.setIfInBounds i true).getD j false)=one (fun j=>listed.getD j false) i:=by
      funext j
      unfold one
      have:=hX' j
      by_cases hj:j=i
      ·rw [if_pos hj];exact this.2 (.inl hj)
      ·rw [if_neg hj]
       show (listed.setIfInBounds i true).getD j false=listed.getD j false
       cases hl:listed.getD j false with
       | true=>exact this.2 (.inr hl)
       | false =>
        cases hl':(listed.setIfInBounds i true).getD j false with
        | false=>rfl
        | true =>
         rcases this.1 hl' with h | h
         ·exact absurd h hj
         ·rw [hl] at h;cases h
     have hargs:∀ x,x∈o.op.operands→RepV S w β (opnd s x) (a.eval x):=fun x hx=>by
      cases x with
      | tmp t=>exact harg t (mem_looksAt_op hx)
      | const v=>exact repV_const S w β v
      | global g=>exact .undef _
      | func f=>exact .clo f [] [] rfl (by simp)
     rcases hLd i with hiL | hiL
     ·obtain⟨s',f',pg,r1,r2,r3,_,r5,r6⟩:=hyL i o him hiL ho
      rw [q1] at r1;simp only [Option.some.injEq] at r1;subst r1
      rw [q2] at r2;simp only [Option.some.injEq] at r2;subst r2
      have hw:Region.wanted o (yielded ops a.tmps)=true:=by simp [Region.wanted,r3]
      rw [hw]
      simp only [if_true]
      refine Oper.wpIn_ofQ (hnd o hmemo) (r6 (fun j=>listed.getD j false) hnot' hdown hpre C S w β a hi hargs) ?_
      rintro a' w' ⟨v,S',β',rfl,hi',he,hv,hb⟩
      exact ih _ _ _ (by simpa using hs) hleft' hdown' (.inl ⟨hA',S',β',by rw [hone];exact hi',by cases o.dst <;> simp [Act.put,hsz],hdf.put he,hput S' w' β' v pg he hb r5 hv⟩)
     ·obtain⟨s',f',r1,r2,_,r4⟩:=hy i o him hiL ho
      rw [q1] at r1;simp only [Option.some.injEq] at r1;subst r1
      rw [q2] at r2;simp only [Option.some.injEq] at r2;subst r2
      obtain⟨hyd,hsame⟩:=r4 (fun j=>listed.getD j false) hdown
      obtain⟨g,hg⟩:=hyd.some
      have hw:=guard_rep (a:=a) (S:=S) (w:=w) (β:=β) (fun t ht=>by
       obtain⟨j,want,hgd,hj⟩:=ht
       exact⟨harg t (mem_looksAt_guard hgd hj),by rw [hsz];exact dst_lt_of_gslot hdst hj⟩) hg
      rw [hw]
      cases g with
      | true =>
       simp only [if_true]
       refine Oper.wpIn_ofQ (hnd o hmemo) (hyd.yes hg C S w β a hi hargs) ?_
       rintro a' w' ⟨v,S',β',rfl,hi',he,hv,hb⟩
       exact ih _ _ _ (by simpa using hs) hleft' hdown' (.inl ⟨hA',S',β',by rw [hone,hsame];exact hi',by cases o.dst <;> simp [Act.put,hsz],hdf.put he,hput S' w' β' v [] he hb (fun k hk=>by simp at hk) hv⟩)
      | false =>
       simp only [Bool.false_eq_true,if_false]
       have hf:=hyd.no hg
       refine⟨fun _ _=>trivial,?_⟩
       exact ih _ _ _ (by simpa using hs) hleft' hdown' (.inl ⟨hA',S,β,by rw [hone,hsame];exact hi,by cases o.dst <;> simp [Act.put,hsz],hdf.put (SExt.refl S w),hput S w β undef [] (SExt.refl S w) (fun _ _=>rfl) (fun k hk=>by simp at hk) (by rw [hf];exact .tuple [] [] rfl (by simp))⟩)
    ·have hbe:=hbehind (by omega)
     have him':i=m:=by
      rcases Nat.lt_or_ge m i with h | h
      ·have:=hA m (hbe m h);omega
      ·omega
     subst him'
     obtain⟨sl',bx',S,β,hst,hrun⟩:=conv listed a w hA hbe hA2
     exact stepB sl' bx' S β (Nat.le_refl _) (fun k=>⟨hA k,hbe k⟩) hst hrun
   ·have hij:j≤i:=by
     rcases Nat.lt_or_ge i j with h | h
     ·have:=(hj3 i).2 h;rw [hnot'] at this;simp at this
     ·exact h
    have hbe:=hbehind (by omega)
    have:i=j:=by
     rcases Nat.lt_or_ge j i with h | h
     ·have:=(hj3 j).1 (hbe j h);omega
     ·omega
    subst this
    exact stepB sl' bx' S β (by omega) hj3 hst hrun
structure TwoOK (P:Program)(ops:Array Oper)(m0 kA kB:Nat)(zA zB:List SV)(TA TB:TypeId):Prop where
 opA:∃ o,ops[m0]? = some o∧o.op=.alloc TA∧o.guard=none∧o.dst=some kA
 opB:∃ o,ops[m0+1]? = some o∧o.op=.alloc TB∧o.guard=none∧o.dst=some kB
 opS:∃ o,ops[m0+2]? = some o∧o.guard=none∧o.dst=none∧(o.after.any fun e=>Region.binds .any e && e.on == m0)=true∧(o.after.any fun e=>Region.binds .any e && e.on == m0+1)=true
 ne:kA≠kB
 keyA:kA≤999999
 keyB:kB≤999999
 zeroA:tzero P TA=some zA
 zeroB:tzero P TB=some zB
 closedA:SV.closedAll zA=true
 closedB:SV.closedAll zB=true
variable {k:Nat}
theorem cells_has {zs:List SV} (h:SV.closedAll zs=true):(BoxC.cells zs).has k=false:=by
 have:∀ l:List SV,SV.closedAll l=true→SV.hasAny k l=false:=by
  intro l
  induction l with
  | nil=>intro _;rfl
  | cons x l ih =>
   intro hl
   simp only [SV.closedAll,Bool.and_eq_true] at hl
   simp only [SV.hasAny,SV.not_has_of_closed k hl.1,ih hl.2,Bool.or_self]
 exact this zs h
def add2 (b:Bool)(k:Nat)(c:BoxC):Boxes:=if b=true then [(k,c)] else []
theorem mem_add2 {b:Bool} {c:BoxC} {j:Nat} {x:BoxC} (h:(j,x)∈add2 b k c):j=k∧x=c:=by
 unfold add2 at h;split at h
 ·simpa using h
 ·simp at h
def bx2 (m0 kA kB:Nat)(zA zB:List SV)(c':BoxC)(bx:Boxes)(X:Nat→Bool):Boxes :=
 if X (m0+2)=true then (kA,c')::(kB,.cells zB)::bx else add2 (X m0) kA (.cells zA)++(add2 (X (m0+1)) kB (.cells zB)++bx)
theorem hasBx_iff {bx:Boxes} :hasBx k bx=false↔∀ j c,(j,c)∈bx→j≠k∧c.has k=false:=by
 constructor
 ·exact hasBx_mem
 ·intro h
  induction bx with
  | nil=>rfl
  | cons y l ih =>
   obtain⟨i,y⟩:=y
   obtain⟨h1,h2⟩:=h i y (List.mem_cons_self ..)
   have:=ih fun j c hj=>h j c (List.mem_cons_of_mem _ hj)
   simp [hasBx] at this ⊢
   simp_all
variable {id:Nat}
theorem AWp.regionDraw2 (m0 kA kB:Nat)(zA zB:List SV)(TA TB:TypeId)(B:Array Nat)(ks kb:List Nat)(hm:P.follows .mixedOrders=true)(hc:drawOK ops (m0+3) B=true)(hd:dstsOK n ops.toList=true)(hL:TwoOK P ops m0 kA kB zA zB TA TB)
  (h:QRun P n ops (ops.toList.take m0) sl bx fun sl1=>freeSl kA sl1=true∧freeSl kB sl1=true∧hasBx kA bx=false∧hasBx kB bx=false∧∃ c',c'.real=true ∧
   (∀ o,ops[m0+2]? = some o→OpT P o (opnd (sput (sput sl1 (some kA) (.box kA 0)) (some kB) (.box kB 0))) ((kA,.cells zA)::(kB,.cells zB)::bx) (.tuple []) ((kA,c')::(kB,.cells zB)::bx) []) ∧
   Run P n ops (ops.toList.drop (m0+3)) (sput (sput sl1 (some kA) (.box kA 0)) (some kB) (.box kB 0)) ((kA,c')::(kB,.cells zB)::bx) fun sl' bx'=>Q .normal (keepSl ks sl') (keepBx kb bx')):AWp ro P n (.region id ops true) Q sl bx:=by
 intro C S w β a hs
 refine wpIn_region_any hm ?_
 have hdo:=drawOK_spec hc
 obtain⟨fs1,sls1,a1,a2,a3,⟨e1,a4,hfA,hfB,hbA,hbB,c',hcr,hop,hrun⟩,a5⟩:=h.yields
 have hml:m0+3≤ops.size:=hdo.le
 have hlen1:(ops.toList.take m0).length=m0:=by simp;omega
 rw [hlen1] at a1 a2 a4
 obtain⟨oA,A1,A2,A3,A4⟩:=hL.opA
 obtain⟨oB,B1,B2,B3,B4⟩:=hL.opB
 obtain⟨oS,S1,S2,S3,S4,S5⟩:=hL.opS
 have hne:=hL.ne
 have edge:∀ {i:Nat},(oS.after.any fun e=>Region.binds .any e && e.on == i)=true→∃ e,e∈oS.after∧Region.binds .any e=true∧e.on=i:=fun h=>by
  simp only [Array.any_eq_true,Bool.and_eq_true,beq_iff_eq] at h
  obtain⟨j,hj,h1,h2⟩:=h
  exact⟨_,Array.getElem_mem hj,h1,h2⟩
 obtain⟨eA,eA1,eA2,eA3⟩:=edge S4
 obtain⟨eB,eB1,eB2,eB3⟩:=edge S5
 have g1:∀ i,i < m0→(ops.toList.take m0)[i]? = ops[i]?:=fun i hi=>by rw [List.getElem?_take_of_lt hi];simp
 have sub1:=sls_sub (os:=ops.toList.take m0) (fs:=fs1) (sls:=sls1) (fun i o ho=>by obtain⟨s,f,c1,c2,_,c4⟩:=a5 i o ho;exact⟨s,f,c1,c2,c4⟩)
 have in1:∀ i s,i≤m0→sls1[i]? = some s→∀ p,p∈s→p∈e1:=fun i s hi hs p hp =>
  sub1 (m0 - i) i s e1 (by rw [hlen1];omega) hs (by rw [show i+(m0 - i)=m0 by omega];exact a4) p hp
 have hslk:∀ k,freeSl k e1=true→∀ t,t≠k→(sget sl t).has k=false:=by
  intro k hk t ht
  rcases sget_mem (sl:=sl) (t:=t) with h | h
  ·exact freeSl_mem hk t _ (in1 0 sl (by omega) a3 _ h) ht
  ·rw [h];rfl
 have hfs1:∀ (k iK:Nat) (oK:Oper),freeSl k e1=true→m0≤iK→iK < m0+3→ops[iK]? = some oK→oK.dst=some k→∀ (j:Nat) (oj:Oper) (fj:SV),j < m0→ops[j]? = some oj→oj.dst≠none→fs1[j]? = some fj→fj.has k=false:=by
  intro k iK oK hk hi1 hi2 hoK hdK j oj fj hj hoj hdj hfj
  obtain⟨s,f,c1,c2,_,c4⟩:=a5 j oj (by rw [g1 j hj];exact hoj)
  rw [hfj] at c2;cases c2
  cases hdd:oj.dst with
  | none=>exact absurd hdd hdj
  | some d =>
   refine freeSl_mem hk d fj (in1 (j+1) _ (by omega) c4 _ (by rw [hdd];exact List.mem_cons_self ..)) fun he=>?_
   subst he
   have:=hdo.uniq j iK oj oK d (by omega) (by omega) hoj hoK hdd hdK
   omega
 have f1:∀ i,i < m0→(fs1++[SV.box kA 0,.box kB 0,.tuple []])[i]? = fs1[i]?:=fun i hi=>List.getElem?_append_left (by omega)
 have f2:∀ i,(fs1++[SV.box kA 0,.box kB 0,.tuple []])[m0+i]? = [SV.box kA 0,.box kB 0,.tuple []][i]?:=fun i=>by rw [List.getElem?_append_right (by omega)];congr 1;omega
 have s1:∀ i,i≤m0→(sls1++[sput e1 (some kA) (.box kA 0),sput (sput e1 (some kA) (.box kA 0)) (some kB) (.box kB 0),sput (sput e1 (some kA) (.box kA 0)) (some kB) (.box kB 0)])[i]? = sls1[i]?:=fun i hi=>List.getElem?_append_left (by omega)
 have s2:∀ i,(sls1++[sput e1 (some kA) (.box kA 0),sput (sput e1 (some kA) (.box kA 0)) (some kB) (.box kB 0),sput (sput e1 (some kA) (.box kA 0)) (some kB) (.box kB 0)])[m0+1+i]? = [sput e1 (some kA) (.box kA 0),sput (sput e1 (some kA) (.box kA 0)) (some kB) (.box kB 0),sput (sput e1 (some kA) (.box kA 0)) (some kB) (.box kB 0)][i]?:=fun i=>by rw [List.getElem?_append_right (by omega)];congr 1;omega
 have hasA:∀ b,hasBx kA (add2 b kB (.cells zB)++bx)=false:=fun b=>hasBx_iff.2 fun j c hj=>by
  rcases List.mem_append.1 hj with h | h
  ·obtain⟨rfl,rfl⟩:=mem_add2 h;exact⟨fun e=>hne e.symm,cells_has hL.closedB⟩
  ·exact hasBx_mem hbA j c h
 have hasB:∀ b,hasBx kB (add2 b kA (.cells zA)++bx)=false:=fun b=>hasBx_iff.2 fun j c hj=>by
  rcases List.mem_append.1 hj with h | h
  ·obtain⟨rfl,rfl⟩:=mem_add2 h;exact⟨hne,cells_has hL.closedA⟩
  ·exact hasBx_mem hbB j c h
 refine draw_set (P:=P) (sl:=sl) (bxf:=bx2 m0 kA kB zA zB c' bx) (bxE:=(kA,c')::(kB,.cells zB)::bx) (L:=fun i=>i=m0∨i=m0+1∨i=m0+2) (K:=fun sl' bx'=>Q .normal (keepSl ks sl') (keepBx kb bx')) hdo (dstsOK_spec hd) (dstsOK_nd hd) (fun i=>by omega) (fun sl' bx' S' w' β' a' hK hs'=>⟨_,_,S',β',hK,hs'.keep ks kb⟩)
  (sls:=sls1++[sput e1 (some kA) (.box kA 0),sput (sput e1 (some kA) (.box kA 0)) (some kB) (.box kB 0),sput (sput e1 (some kA) (.box kA 0)) (some kB) (.box kB 0)]) (fs:=fs1++[.box kA 0,.box kB 0,.tuple []])
  (by rw [s1 0 (by omega)];exact a3) (fun X hX=>by unfold bx2;rw [if_pos (hX _ (by omega))]) ?_ ?_ ⟨_,by rw [show m0+3=m0+1+2 by omega,s2];rfl,hrun⟩
  ops.size _ a _ (by simp) ?_ ?_ (.inl ⟨?_,S,β,?_,hs.size,hs.defers.ext ⟨fun _ h=>h,fun _ _=>rfl⟩,?_⟩)
 ·intro i o hi hLi ho
  rcases hLi with hLi | hLi | hLi <;> (replace hLi:=hLi.symm;subst hLi)
  ·rw [A1] at ho;cases ho
   refine⟨e1,.box kA 0,[kA],by rw [s1 _ (by omega)];exact a4,by have:=f2 0;simpa using this,A3,by have:=s2 0;rw [A4];simpa using this,?_,?_⟩
   ·intro k hk
    obtain rfl:k=kA:=by simpa using hk
    refine⟨fun t ht=>hslk k hfA t fun he=>ht (by rw [A4,he]),fun j oj fj hj hji hoj hdj hfj=>?_⟩
    by_cases hlt:j < m0
    ·exact hfs1 k m0 oA hfA (Nat.le_refl _) (by omega) A1 A4 j oj fj hlt hoj hdj (by rw [← f1 j hlt];exact hfj)
    ·obtain⟨q,rfl⟩:∃ q,j=m0+q:=⟨j - m0,by omega⟩
     rw [f2] at hfj
     match q,hfj with
     | 0,_=>omega
     | 1,hfj=>simp only [List.getElem?_cons_succ,List.getElem?_cons_zero,Option.some.injEq] at hfj;subst hfj;exact beq_eq_false_iff_ne.2 fun e=>hne e.symm
     | 2,_=>rw [S1] at hoj;cases hoj;exact absurd S3 hdj
     | q+3,_=>omega
   ·intro X hX hD _
    have hXS:X (m0+2)=false:=by
     cases hh:X (m0+2) with
     | false=>rfl
     | true=>have:=hD _ oS S1 hh eA eA1 eA2;rw [eA3,hX] at this;cases this
    intro C S w β a hi hargs
    have hb0:bx2 m0 kA kB zA zB c' bx X=add2 (X (m0+1)) kB (.cells zB)++bx:=by unfold bx2;rw [if_neg (by simp [hXS]),hX];rfl
    have hb1:bx2 m0 kA kB zA zB c' bx (one X m0)=(kA,.cells zA)::(add2 (X (m0+1)) kB (.cells zB)++bx):=by
     unfold bx2 one
     rw [if_neg (by simp [hXS]),if_pos rfl,if_neg (by omega)];rfl
    rw [hb0] at hi
    refine Oper.wpx_mono (opT_alloc (ρ:=opnd e1) hL.keyA A2 hL.zeroA C S w β a hi hargs) ?_
    rintro a' w' ⟨v,S',β',r1,r2,r3,r4,r5⟩
    exact⟨v,S',β',r1,r2.sub (fun j x hj=>by rw [hb1] at hj;rw [spurge_closedAll hL.closedA];exact mem_new (hasA _) hj),r3,r4,r5⟩
  ·rw [B1] at ho;cases ho
   refine⟨_,.box kB 0,[kB],by have:=s2 0;simpa using this,by have:=f2 1;simpa using this,B3,by have:=s2 1;rw [B4];simpa using this,?_,?_⟩
   ·intro k hk
    obtain rfl:k=kB:=by simpa using hk
    refine⟨fun t ht=>hslk k hfB t fun he=>ht (by rw [B4,he]),fun j oj fj hj hji hoj hdj hfj=>?_⟩
    by_cases hlt:j < m0
    ·exact hfs1 k (m0+1) oB hfB (by omega) (by omega) B1 B4 j oj fj hlt hoj hdj (by rw [← f1 j hlt];exact hfj)
    ·obtain⟨q,rfl⟩:∃ q,j=m0+q:=⟨j - m0,by omega⟩
     rw [f2] at hfj
     match q,hfj with
     | 0,hfj=>simp only [List.getElem?_cons_zero,Option.some.injEq] at hfj;subst hfj;exact beq_eq_false_iff_ne.2 hne
     | 1,_=>omega
     | 2,_=>rw [S1] at hoj;cases hoj;exact absurd S3 hdj
     | q+3,_=>omega
   ·intro X hX hD _
    have hXS:X (m0+2)=false:=by
     cases hh:X (m0+2) with
     | false=>rfl
     | true=>have:=hD _ oS S1 hh eB eB1 eB2;rw [eB3,hX] at this;cases this
    intro C S w β a hi hargs
    have hb0:bx2 m0 kA kB zA zB c' bx X=add2 (X m0) kA (.cells zA)++bx:=by unfold bx2;rw [if_neg (by simp [hXS]),hX];rfl
    have hb1:bx2 m0 kA kB zA zB c' bx (one X (m0+1))=add2 (X m0) kA (.cells zA)++((kB,.cells zB)::bx):=by
     unfold bx2 one
     rw [if_neg (by simp [hXS]),if_neg (by omega),if_pos rfl];rfl
    rw [hb0] at hi
    refine Oper.wpx_mono (opT_alloc (ρ:=opnd _) hL.keyB B2 hL.zeroB C S w β a hi hargs) ?_
    rintro a' w' ⟨v,S',β',r1,r2,r3,r4,r5⟩
    refine⟨v,S',β',r1,r2.sub (fun j x hj=>?_),r3,r4,r5⟩
    rw [hb1] at hj
    rw [spurge_closedAll hL.closedB]
    refine mem_new (hasB _) ?_
    rcases List.mem_append.1 hj with h | h
    ·exact List.mem_cons_of_mem _ (List.mem_append.2 (.inl h))
    ·rcases List.mem_cons.1 h with h | h
     ·rw [h];exact List.mem_cons_self ..
     ·exact List.mem_cons_of_mem _ (List.mem_append.2 (.inr h))
  ·rw [S1] at ho;cases ho
   refine⟨_,.tuple [],[],by have:=s2 1;rw [show m0+1+1=m0+2 by omega] at this;simpa using this,by have:=f2 2;simpa using this,S2,by have:=s2 2;rw [show m0+1+2=m0+2+1 by omega] at this;rw [S3];exact this,by simp,?_⟩
   intro X hX hD hpre
   have h1:X m0=true:=by have:=hpre eA eA1 eA2;rw [eA3] at this;exact this
   have h2:X (m0+1)=true:=by have:=hpre eB eB1 eB2;rw [eB3] at this;exact this
   have hb0:bx2 m0 kA kB zA zB c' bx X=(kA,.cells zA)::(kB,.cells zB)::bx:=by unfold bx2;rw [if_neg (by simp [hX]),h1,h2];rfl
   have hb1:bx2 m0 kA kB zA zB c' bx (one X (m0+2))=(kA,c')::(kB,.cells zB)::bx:=by unfold bx2 one;rw [if_pos (by simp)]
   rw [hb0,hb1]
   exact hop oS S1
 ·intro i o hi hLi ho
  have hlt:i < m0:=by omega
  obtain⟨s,f,c1,c2,c3,c4⟩:=a5 i o (by rw [g1 i hlt];exact ho)
  refine⟨s,f,by rw [s1 i (by omega)];exact c1,by rw [f1 i hlt];exact c2,by rw [s1 (i+1) (by omega)];exact c4,fun X hD=>⟨⟨fun hg=>?_,c3.no,c3.some⟩,?_⟩⟩
  ·obtain⟨F,hF,hFF⟩:∃ F:Boxes,bx2 m0 kA kB zA zB c' bx X=F++bx∧∀ k c,(k,c)∈F→c.real=true∧(k=kA∨k=kB):=by
    unfold bx2
    split
    ·exact⟨[(kA,c'),(kB,.cells zB)],rfl,fun k c hk=>by
      simp only [List.mem_cons,Prod.mk.injEq,List.not_mem_nil,or_false] at hk
      rcases hk with ⟨rfl,rfl⟩ | ⟨rfl,rfl⟩
      ·exact⟨hcr,.inl rfl⟩
      ·exact⟨rfl,.inr rfl⟩⟩
    ·refine⟨add2 (X m0) kA (.cells zA)++add2 (X (m0+1)) kB (.cells zB),by rw [List.append_assoc],fun k c hk=>?_⟩
     rcases List.mem_append.1 hk with h | h
     ·obtain⟨rfl,rfl⟩:=mem_add2 h;exact⟨rfl,.inl rfl⟩
     ·obtain⟨rfl,rfl⟩:=mem_add2 h;exact⟨rfl,.inr rfl⟩
   rw [hF]
   have:=OpT.frameL (add:=[]) (pg:=[]) (c3.yes hg) F (fun k c hk=>⟨(hFF k c hk).1,by simp,by simp,fun x hx=>by
    simp only [List.nil_append] at hx
    rcases (hFF k c hk).2 with rfl | rfl
    ·exact (hasBx_mem hbA _ _ hx).1 rfl
    ·exact (hasBx_mem hbB _ _ hx).1 rfl⟩) (by simp)
   intro C S w β a hi hargs
   exact this C S w β a hi hargs
  ·unfold bx2 one
   rw [if_neg (show ¬ m0=i by omega),if_neg (show ¬ m0+1=i by omega),if_neg (show ¬ m0+2=i by omega)]
 ·unfold left
  exact Nat.le_trans (List.countP_le_length) (by simp)
 ·intro i o ho hx
  simp [Array.getD] at hx
 ·intro i hx
  simp [Array.getD] at hx
 ·have:bx2 m0 kA kB zA zB c' bx (fun i=>(Array.replicate ops.size false).getD i false)=bx:=by
   have hz:∀ i,(Array.replicate ops.size false).getD i false=false:=fun i=>by simp [Array.getD]
   unfold bx2
   rw [if_neg (by simp [hz])]
   show add2 ((Array.replicate ops.size false).getD m0 false) kA _++(add2 ((Array.replicate ops.size false).getD (m0+1) false) kB _++bx)=bx
   rw [hz,hz];rfl
  rw [this]
  exact (hs.inv.grow (w':={ w with drawn:=w.drawn+1 }) (fun _ h=>h) (fun _ h=>.inl h) hs.inv.Slt (fun _ _=>rfl) rfl rfl rfl (Nat.le_refl _)).1
 ·intro t x hcur
  rcases hcur with ⟨i,o,h1,_⟩ | ⟨_,h2⟩
  ·simp [Array.getD] at h1
  ·rw [h2];exact (hs.slot t).ext ⟨fun _ h=>h,fun _ _=>rfl⟩ (fun _ _=>rfl)
def done2V (P:Program)(own:List Nat)(ops:Array Oper)(tail:List Oper)(kA kB:Nat)(zB:List SV)(bx:Boxes)(sl:SL)(K:SL→Boxes→Prop):KB:=fun r bx' pg =>
 r=.tuple []∧pg=[]∧∃ c',bx'=(kA,c')::(kB,.cells zB)::bx∧c'.real=true∧runV P own ops tail sl ((kA,c')::(kB,.cells zB)::bx) K
theorem done2V_ok {own:List Nat} {tail:List Oper} {kA kB:Nat} {zB:List SV} {bx:Boxes} {c':BoxC} (h1:c'.real=true)(h2:runV P own ops tail sl ((kA,c')::(kB,.cells zB)::bx) K) :
  done2V P own ops tail kA kB zB bx sl K (.tuple []) ((kA,c')::(kB,.cells zB)::bx) []:=⟨rfl,rfl,c',rfl,h1,h2⟩
def mid2V (P:Program)(own:List Nat)(ops:Array Oper)(op:Op)(tail:List Oper)(kA kB:Nat)(zA zB:List SV)(bx:Boxes)(K:SL→Boxes→Prop):SL→Prop:=fun sl1 =>
 freeSl kA sl1=true∧freeSl kB sl1=true∧hasBx kA bx=false∧hasBx kB bx=false ∧
  opK P own none (sput (sput sl1 (some kA) (.box kA 0)) (some kB) (.box kB 0)) ((kA,.cells zA)::(kB,.cells zB)::bx) op (done2V P own ops tail kA kB zB bx (sput (sput sl1 (some kA) (.box kA 0)) (some kB) (.box kB 0)) K)
theorem mid2V_ok {own:List Nat} {op:Op} {tail:List Oper} {kA kB:Nat} {zA zB:List SV} {bx:Boxes} {sl1:SL} (h1:freeSl kA sl1=true)(h2:freeSl kB sl1=true)(h3:hasBx kA bx=false)(h4:hasBx kB bx=false)
  (h:opK P own none ((kB,.box kB 0)::(kA,.box kA 0)::sl1) ((kA,.cells zA)::(kB,.cells zB)::bx) op (done2V P own ops tail kA kB zB bx ((kB,.box kB 0)::(kA,.box kA 0)::sl1) K)):mid2V P own ops op tail kA kB zA zB bx K sl1:=⟨h1,h2,h3,h4,h⟩
theorem AWp.regD2 (ks own:List Nat)(m0 kA kB:Nat)(zA zB:List SV)(TA TB:TypeId)(hm:P.follows .mixedOrders=true)(hc:drawOK ops (m0+3) (Region.before ops)=true)(hd:dstsOK n ops.toList=true)(hL:TwoOK P ops m0 kA kB zA zB TA TB)
  (h:qrunV P own ops bx (ops.toList.take m0) sl (mid2V P own ops (opAt ops (m0+2)) (ops.toList.drop (m0+3)) kA kB zA zB bx (keepK ks (Q .normal)))):AWp ro P n (.region id ops true) Q sl bx:=by
 have sub:∀ {l:List Oper},(∀ o,o∈l→o∈ops.toList)→dstsOK n l=true:=fun {l} hl=>by
  unfold dstsOK at *;rw [List.all_eq_true] at *;exact fun o ho=>hd o (hl o ho)
 have hd1:dstsOK n (ops.toList.take m0)=true:=sub fun o ho=>List.mem_of_mem_take ho
 have hd3:dstsOK n (ops.toList.drop (m0+3))=true:=sub fun o ho=>List.mem_of_mem_drop ho
 refine AWp.regionDraw2 m0 kA kB zA zB TA TB _ ks ks hm hc hd hL (qrunV_sound (fun sl1 h1=>?_) _ _ hd1 h)
 obtain⟨h1,h2,h3,h4,h5⟩:=h1
 obtain⟨oS,l1,l2,l3,_⟩:=hL.opS
 have hop:opAt ops (m0+2)=oS.op:=by simp [opAt,l1]
 rw [hop] at h5
 have h5':opK P own oS.dst (sput (sput sl1 (some kA) (.box kA 0)) (some kB) (.box kB 0)) ((kA,.cells zA)::(kB,.cells zB)::bx) oS.op (done2V P own ops (ops.toList.drop (m0+3)) kA kB zB bx (sput (sput sl1 (some kA) (.box kA 0)) (some kB) (.box kB 0)) (keepK ks (Q .normal))):=by rw [l3];exact h5
 obtain⟨r,bx',pg,q1,q2⟩:=opK_sound h5'
 obtain⟨rfl,rfl,c',rfl,q3,q4⟩:=q2
 exact⟨h1,h2,h3,h4,c',q3,fun o ho=>by rw [l1] at ho;cases ho;exact q1,runV_sound _ _ _ hd3 q4⟩
theorem AWp.seqD2 {y:Code} (ks own:List Nat)(m0 kA kB:Nat)(zA zB:List SV)(TA TB:TypeId)(hm:P.follows .mixedOrders=true)(hc:drawOK ops (m0+3) (Region.before ops)=true)(hd:dstsOK n ops.toList=true)(hL:TwoOK P ops m0 kA kB zA zB TA TB)
  (h:∀ K:SL→Boxes→Prop,(∀ sl' bx',AWp ro P n y Q sl' bx'→K sl' bx')→qrunV P own ops bx (ops.toList.take m0) sl (mid2V P own ops (opAt ops (m0+2)) (ops.toList.drop (m0+3)) kA kB zA zB bx (keepK ks K))) :
  AWp ro P n (.seq (.region id ops true) y) Q sl bx :=
 AWp.seq (AWp.regD2 ks own m0 kA kB zA zB TA TB hm hc hd hL (h _ fun _ _ h=>h))
end Go.Abs
