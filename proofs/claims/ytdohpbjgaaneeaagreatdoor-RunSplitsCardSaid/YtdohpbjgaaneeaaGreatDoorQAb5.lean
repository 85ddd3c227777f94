/- Drawn regions with one store that may run ahead; ranges over functions. Own framework. -/
import Derived.Test.YtdohpbjgaaneeaaGreatDoorQAb4
set_option linter.unusedVariables false
set_option linter.unusedSimpArgs false
namespace Go.Abs
open Go
variable {ro:Option Nat} {P:Program} {n:Nat} {Q:Exit→SL→Boxes→Prop} {sl:SL} {bx:Boxes} {o:Oper} {ρ:Rho}
structure StoreOK (ops:Array Oper)(m iL:Nat):Prop where
 lt:iL < m
 op:∃ o,ops[iL]? = some o∧o.guard=none∧o.dst=none
variable {ops:Array Oper}
theorem draw_store {C:Ctx} {m iL kL:Nat} {c c':BoxC} {QQ:Exit→Act→World→Prop} {fs:List SV} {sls:List SL} {K:SL→Boxes→Prop} (hd:DrawOK ops m)(hdst:∀ o,o∈ops.toList→dstOK n o.dst)(hnd:∀ o,o∈ops.toList→notDefer o=true)(hL:StoreOK ops m iL)(hcr:c.real=true)(hcr':c'.real=true)
  (hK:∀ sl bx S w β a,K sl bx→St C n S w β a sl bx→QQ .normal a w) (h0:sls[0]? = some sl) (hfr:∀ x,(kL,x) ∉ bx)
  (hyL:∃ s,sls[iL]? = some s∧fs[iL]? = some (.tuple [])∧sls[iL+1]? = some s∧∀ o,ops[iL]? = some o→OpT P o (opnd s) ((kL,c)::bx) (.tuple []) ((kL,c')::bx) [])
  (hy:∀ (i:Nat) (o:Oper),i < m→i≠iL→ops[i]? = some o→∃ s f,sls[i]? = some s∧fs[i]? = some f∧Yield P ops s bx o f∧sls[i+1]? = some (sput s o.dst f))
  (hend:∃ e,sls[m]? = some e∧Run P n ops (ops.toList.drop m) e ((kL,c')::bx) K) :
  ∀ (fuel:Nat) (listed:Array Bool) (a:Act) (w:World),listed.size=ops.size→left ops.size listed≤fuel →
   (∀ (i:Nat) (o:Oper),ops[i]? = some o→listed.getD i false=true→∀ e,e∈o.after→Region.binds .any e=true→listed.getD e.on false=true) →
   (((∀ i,listed.getD i false=true→i < m)∧∃ S β bxx,((listed.getD iL false=true∧bxx=(kL,c')::bx)∨(listed.getD iL false=false∧bxx=(kL,c)::bx))∧Inv C S w β bxx∧a.tmps.size=n∧Marks C S w a.defers∧∀ t x,Cur ops fs sl (fun i=>listed.getD i false=true) t x→RepV S w β x (a.tmps.getD t undef)) ∨
    (∃ j,m≤j∧j≤ops.size∧(∀ i,listed.getD i false=true↔i < j)∧∃ sl' bx' S β,St C n S w β a sl' bx'∧Run P n ops (ops.toList.drop j) sl' bx' K)) →
   wpAnyIn (FW ro) 0 P .any ops QQ fuel listed a w:=by
 have hyA:∀ (i:Nat) (o:Oper),i < m→ops[i]? = some o→∃ s f,sls[i]? = some s∧fs[i]? = some f∧sls[i+1]? = some (sput s o.dst f):=by
  intro i o hi ho
  by_cases he:i=iL
  ·subst he
   obtain⟨s,h1,h2,h3,_⟩:=hyL
   obtain⟨oL,g1,_,g4⟩:=hL.op
   rw [ho] at g1;simp only [Option.some.injEq] at g1;subst g1
   exact⟨s,_,h1,h2,by rw [g4];exact h3⟩
  ·obtain⟨s,f,a1,a2,_,a3⟩:=hy i o hi he ho;exact⟨s,f,a1,a2,a3⟩
 have htext:=cur_text (fs:=fs) (sls:=sls) (sl:=sl) hd h0 hyA
 have conv:∀ (listed:Array Bool) (a:Act) (w:World),(∀ i,listed.getD i false=true→i < m)→(∀ i,i < m→listed.getD i false=true)→(∃ S β bxx,((listed.getD iL false=true∧bxx=(kL,c')::bx)∨(listed.getD iL false=false∧bxx=(kL,c)::bx))∧Inv C S w β bxx∧a.tmps.size=n∧Marks C S w a.defers∧∀ t x,Cur ops fs sl (fun i=>listed.getD i false=true) t x→RepV S w β x (a.tmps.getD t undef)) →
   ∃ sl' bx' S β,St C n S w β a sl' bx'∧Run P n ops (ops.toList.drop m) sl' bx' K:=by
  rintro listed a w hA hall ⟨S,β,bxx,hbb,hi,hsz,hdf,hc⟩
  obtain⟨e,he,hr⟩:=hend
  have hbxx:bxx=(kL,c')::bx:=by
   rcases hbb with ⟨_,h⟩ | ⟨h,_⟩
   ·exact h
   ·rw [hall iL hL.lt] at h;simp at h
  subst hbxx
  refine⟨e,_,S,β,⟨hi,hsz,hdf,fun t=>hc t _ ?_⟩,hr⟩
  have:=htext m e (Nat.le_refl _) he t
  rcases this with ⟨i,o,h1,h2,h3,h4⟩ | ⟨h1,h2⟩
  ·exact .inl ⟨i,o,hall i h1,h2,h3,h4⟩
  ·exact .inr ⟨fun i o hx=>h1 i o (hA i hx),h2⟩
 have hall_of_ready:∀ listed:Array Bool,listed.size=ops.size→Region.ready .any ops listed=[]→∀ i,i < ops.size→listed.getD i false=true:=by
  intro listed hs hr i
  induction i using Nat.strongRecOn with
  | _ i ih =>
   intro hi
   cases hl:listed.getD i false with
   | true=>rfl
   | false =>
    exfalso
    have:i∈Region.ready .any ops listed:=by
     rw [mem_ready]
     refine⟨?_,ops[i],Array.getElem?_eq_getElem hi,fun e he hb=>?_⟩
     ·have hi':i < listed.size:=by omega
      simp [Array.getD,hi'] at hl ⊢;exact hl
     ·have hlt:=hd.back i _ (Array.getElem?_eq_getElem hi) e he hb
      exact ih e.on hlt (by omega)
    rw [hr] at this;simp at this
 intro fuel
 induction fuel with
 | zero =>
  intro listed a w hs hleft hdown hinv
  have hall:∀ i,i < ops.size→listed.getD i false=true:=by
   intro i hi
   cases hl:listed.getD i false with
   | true=>rfl
   | false =>
    exfalso
    have:0 < left ops.size listed:=by
     unfold left
     rw [List.countP_pos_iff]
     exact⟨i,List.mem_range.2 hi,by simp [hl]⟩
    omega
  have hready:Region.ready .any ops listed=[]:=by
   rw [List.eq_nil_iff_forall_not_mem]
   intro i hi
   rw [mem_ready] at hi
   obtain⟨h1,o,ho,_⟩:=hi
   have hlt:=(Array.getElem?_eq_some_iff.1 ho).1
   have:=hall i hlt
   have hi':i < listed.size:=by omega
   simp [Array.getD,hi'] at this h1
   rw [this] at h1;simp at h1
  refine⟨hready,?_⟩
  rcases hinv with ⟨hA,hA2⟩ | ⟨j,hj1,hj2,hj3,sl',bx',S,β,hst,hrun⟩
  ·have hm:m=ops.size:=by
    rcases Nat.lt_or_ge m ops.size with h | h
    ·have:=hA m (hall m h);omega
    ·have:=hd.le;omega
   obtain⟨sl',bx',S,β,hst,hrun⟩:=conv listed a w hA (fun i hi=>hall i (by omega)) hA2
   rw [List.drop_eq_nil_of_le (by simp;omega)] at hrun
   exact hK sl' bx' S w β a hrun hst
  ·have hj:j=ops.size:=by
    rcases Nat.lt_or_ge j ops.size with h | h
    ·have:=(hj3 j).1 (hall j h);omega
    ·omega
   rw [List.drop_eq_nil_of_le (by simp;omega)] at hrun
   exact hK sl' bx' S w β a hrun hst
 | succ fuel ih =>
  intro listed a w hs hleft hdown hinv
  refine⟨?_,?_⟩
  ·intro hready
   have hall:=hall_of_ready listed hs hready
   rcases hinv with ⟨hA,hA2⟩ | ⟨j,hj1,hj2,hj3,sl',bx',S,β,hst,hrun⟩
   ·have hm:m=ops.size:=by
     rcases Nat.lt_or_ge m ops.size with h | h
     ·have:=hA m (hall m h);omega
     ·have:=hd.le;omega
    obtain⟨sl',bx',S,β,hst,hrun⟩:=conv listed a w hA (fun i hi=>hall i (by omega)) hA2
    rw [List.drop_eq_nil_of_le (by simp;omega)] at hrun
    exact hK sl' bx' S w β a hrun hst
   ·have hj:j=ops.size:=by
     rcases Nat.lt_or_ge j ops.size with h | h
     ·have:=(hj3 j).1 (hall j h);omega
     ·omega
    rw [List.drop_eq_nil_of_le (by simp;omega)] at hrun
    exact hK sl' bx' S w β a hrun hst
  ·intro i hi
   rw [mem_ready] at hi
   obtain⟨hnot,o,ho,hpre⟩:=hi
   have hilt:i < ops.size:=(Array.getElem?_eq_some_iff.1 ho).1
   have hil:i < listed.size:=by omega
   have hnot':listed.getD i false=false:=by simp [Array.getD,hil] at hnot ⊢;exact hnot
   have hleft':left ops.size (listed.setIfInBounds i true)≤fuel:=by have:=left_set hs hilt hnot';omega
   have hX':∀ j,(listed.setIfInBounds i true).getD j false=true↔(j=i∨listed.getD j false=true):=by
    intro j
    by_cases hj:i=j
    ·subst hj;simp [hil]
    ·rw [getD_set_ne false hj];simp [Ne.symm hj]
   have hdown':∀ (k:Nat) (o':Oper),ops[k]? = some o'→(listed.setIfInBounds i true).getD k false=true→∀ e,e∈o'.after→Region.binds .any e=true→(listed.setIfInBounds i true).getD e.on false=true:=by
    intro k o' ho' hk e he hb
    rw [hX'] at hk ⊢
    rcases hk with rfl | hk
    ·rw [ho] at ho';simp only [Option.some.injEq] at ho';subst ho'
     exact .inr (hpre e he hb)
    ·exact .inr (hdown k o' ho' hk e he hb)
   have hbehind:m≤i→∀ j,j < i→listed.getD j false=true:=fun hm=>hd.tail _ hdown i o ho hm hpre
   simp only [wpOpIn,ho]
   have hmemo:o∈ops.toList:=by have:=Array.mem_of_getElem? ho;simpa using this
   have stepB:∀ (sl':SL) (bx':Boxes) (S:Nat→Prop) (β:Names),m≤i→(∀ k,listed.getD k false=true↔k < i)→St C n S w β a sl' bx'→Run P n ops (ops.toList.drop i) sl' bx' K →
     (if Region.wanted o (yielded ops a.tmps)=true then Oper.wpIn (FW ro) 0 P o a w (wpAnyIn (FW ro) 0 P .any ops QQ fuel (listed.setIfInBounds i true)) QQ
      else (∀ f,o.about P w a.eval=some f→(FW ro).fn f)∧wpAnyIn (FW ro) 0 P .any ops QQ fuel (listed.setIfInBounds i true) (a.put o.dst undef) w):=by
    intro sl' bx' S β hm hX hst hrun
    have dp:ops.toList.drop i=o::ops.toList.drop (i+1):=by
     rw [List.drop_eq_getElem_cons (by simpa using hilt)]
     have:=(Array.getElem?_eq_some_iff.1 ho).2
     simp [this]
    rw [dp] at hrun
    obtain⟨g,hg,hdo,h1,h2⟩:=hrun
    have hw:=guard_rep (a:=a) (S:=S) (w:=w) (β:=β) (fun t ht=>by
     obtain⟨j,want,_,hj⟩:=ht
     exact⟨hst.slot t,by rw [hst.size];exact dst_lt_of_gslot hdst hj⟩) hg
    rw [hw]
    have hXn:∀ k,(listed.setIfInBounds i true).getD k false=true↔k < i+1:=by intro k;rw [hX',hX];omega
    cases g with
    | true =>
     simp only [if_true]
     obtain⟨r,bx1,pg,hop,hrun'⟩:=h1 rfl
     refine Oper.wpIn_ofQ (hnd o hmemo) (hop C S w β a hst.inv fun x _=>hst.opnd x) ?_
     rintro a' w' ⟨v,S',β',rfl,hi',he,hv,hb⟩
     exact ih _ _ _ (by simpa using hs) hleft' hdown' (.inr ⟨i+1,by omega,by omega,hXn,_,bx1,S',β',hst.put hdo hi' he hv hb,hrun'⟩)
    | false =>
     simp only [Bool.false_eq_true,if_false]
     refine⟨fun _ _=>trivial,?_⟩
     exact ih _ _ _ (by simpa using hs) hleft' hdown' (.inr ⟨i+1,by omega,by omega,hXn,_,bx',S,β,hst.put (pg:=[]) hdo hst.inv (SExt.refl S w) (.tuple [] [] rfl (by simp)) (fun _ _=>rfl),h2 rfl⟩)
   rcases hinv with ⟨hA,hA2⟩ | ⟨j,hj1,hj2,hj3,sl',bx',S,β,hst,hrun⟩
   ·by_cases him:i < m
    ·
     obtain⟨s,f,q1,q2,q3⟩:=hyA i o him ho
     obtain⟨S,β,bxx,hbb,hi,hsz,hdf,hc⟩:=hA2
     have harg:∀ t,t∈o.looksAt ops→RepV S w β (sget s t) (a.tmps.getD t undef):=by
      intro t ht
      refine hc t _ ?_
      rcases htext i s (by omega) q1 t with ⟨k,ok,g1,g2,g3,g4⟩ | ⟨g1,g2⟩
      ·obtain⟨_,e,he,hb,hon⟩:=hd.reads i k o ok t him (by omega) ho g2 ht g3
       exact .inl ⟨k,ok,by rw [← hon];exact hpre e he hb,g2,g3,g4⟩
      ·refine .inr ⟨fun k ok hk hok hdk=>?_,g2⟩
       have hkm:=hA k hk
       obtain⟨hki,_⟩:=hd.reads i k o ok t him hkm ho hok ht hdk
       exact g1 k ok hki hok hdk
     have hput:∀ (S':Nat→Prop) (w':World) (v:Value),SExt S w S' w'→RepV S' w' β f v →
       ∀ t x,Cur ops fs sl (fun k=>(listed.setIfInBounds i true).getD k false=true) t x→RepV S' w' β x ((a.put o.dst v).tmps.getD t undef):=by
      intro S' w' v he hv t x hcur
      have hdo:=hdst o hmemo
      have old:(∀ d,o.dst=some d→d≠t)→RepV S' w' β x ((a.put o.dst v).tmps.getD t undef):=by
       intro hne
       have hsame:(a.put o.dst v).tmps.getD t undef=a.tmps.getD t undef:=by
        cases hdd:o.dst with
        | none=>rfl
        | some d=>rw [hdd] at hdo;rw [getD_put (by rw [hsz];exact hdo),if_neg (hne d hdd)]
       rw [hsame]
       refine (hc t x ?_).ext he (fun _ _=>rfl)
       rcases hcur with ⟨k,ok,g1,g2,g3,g4⟩ | ⟨g1,g2⟩
       ·rw [hX'] at g1
        rcases g1 with rfl | g1
        ·rw [ho] at g2;simp only [Option.some.injEq] at g2;subst g2
         exact absurd rfl (hne t g3)
        ·exact .inl ⟨k,ok,g1,g2,g3,g4⟩
       ·exact .inr ⟨fun k ok hk hok=>g1 k ok ((hX' k).2 (.inr hk)) hok,g2⟩
      cases hdd:o.dst with
      | none=>rw [← hdd];exact old (by simp [hdd])
      | some d =>
       by_cases hdt:d=t
       ·subst hdt
        rw [hdd] at hdo
        rw [getD_put (by rw [hsz];exact hdo),if_pos rfl]
        rcases hcur with ⟨k,ok,g1,g2,g3,g4⟩ | ⟨g1,g2⟩
        ·rw [hX'] at g1
         have hki:k=i:=by
          rcases g1 with h | h
          ·exact h
          ·exact hd.uniq k i ok o d (hA k h) him g2 ho g3 hdd
         subst hki
         rw [q2] at g4;simp only [Option.some.injEq] at g4;subst g4;exact hv
        ·exact absurd hdd (g1 i o ((hX' i).2 (.inl rfl)) ho)
       ·rw [← hdd];exact old (by intro d' hd';rw [hdd] at hd';simp only [Option.some.injEq] at hd';subst hd';exact hdt)
     have hA':∀ k,(listed.setIfInBounds i true).getD k false=true→k < m:=by
      intro k hk;rw [hX'] at hk;rcases hk with rfl | hk
      ·exact him
      ·exact hA k hk
     by_cases hiL:i=iL
     ·
      subst hiL
      obtain⟨oL,g1,g3,g4⟩:=hL.op
      rw [ho] at g1;simp only [Option.some.injEq] at g1;subst g1
      obtain⟨sL,e1,e2,_,e4⟩:=hyL
      rw [q1] at e1;simp only [Option.some.injEq] at e1;subst e1
      rw [q2] at e2;simp only [Option.some.injEq] at e2;subst e2
      have hbx:bxx=(kL,c)::bx:=by
       rcases hbb with ⟨h,_⟩ | ⟨_,h⟩
       ·rw [hnot'] at h;simp at h
       ·exact h
      subst hbx
      have hw:Region.wanted o (yielded ops a.tmps)=true:=by simp [Region.wanted,g3]
      rw [hw]
      simp only [if_true]
      refine Oper.wpIn_ofQ (hnd o hmemo) (e4 o ho C S w β a hi (fun x hx=>by
       cases x with
       | tmp t=>exact harg t (mem_looksAt_op hx)
       | const v=>exact repV_const S w β v
       | global g=>exact .undef _
       | func f=>exact .clo f [] [] rfl (by simp))) ?_
      rintro a' w' ⟨v,S',β',rfl,hi',he,hv,hb⟩
      have hβ:β' = β:=funext fun k=>hb k (by simp)
      subst hβ
      refine ih _ _ _ (by simpa using hs) hleft' hdown' (.inl ⟨hA',S',β',_,.inl ⟨(hX' i).2 (.inl rfl),rfl⟩,hi',by cases o.dst <;> simp [Act.put,hsz],hdf.put he,hput S' w' v he hv⟩)
     ·obtain⟨s',f',r1,r2,hyd,r5⟩:=hy i o him hiL ho
      rw [q1] at r1;simp only [Option.some.injEq] at r1;subst r1
      rw [q2] at r2;simp only [Option.some.injEq] at r2;subst r2
      obtain⟨g,hg⟩:=hyd.some
      have hw:=guard_rep (a:=a) (S:=S) (w:=w) (β:=β) (fun t ht=>by
       obtain⟨j,want,hgd,hj⟩:=ht
       exact⟨harg t (mem_looksAt_guard hgd hj),by rw [hsz];exact dst_lt_of_gslot hdst hj⟩) hg
      rw [hw]
      have hlate:∀ (w':World),((listed.setIfInBounds i true).getD iL false=true∧bxx=(kL,c')::bx)∨((listed.setIfInBounds i true).getD iL false=false∧bxx=(kL,c)::bx):=by
       intro _
       rw [getD_set_ne false hiL]
       exact hbb
      cases g with
      | true =>
       simp only [if_true]
       have hargs:∀ x,x∈o.op.operands→RepV S w β (opnd s x) (a.eval x):=fun x hx=>by
        cases x with
        | tmp t=>exact harg t (mem_looksAt_op hx)
        | const v=>exact repV_const S w β v
        | global g=>exact .undef _
        | func f=>exact .clo f [] [] rfl (by simp)
       have hrun:o.wpx P a w (fun a' w'=>∃ v S' β',a'=a.put o.dst v∧Inv C S' w' β' bxx∧SExt S w S' w'∧RepV S' w' β' f v∧β' = β):=by
        rcases hbb with ⟨_,rfl⟩ | ⟨_,rfl⟩
        ·exact (hyd.yes hg).frame hfr hcr' C S w β a hi hargs
        ·exact (hyd.yes hg).frame hfr hcr C S w β a hi hargs
       refine Oper.wpIn_ofQ (hnd o hmemo) hrun ?_
       rintro a' w' ⟨v,S',β',rfl,hi',he,hv,hb⟩
       subst hb
       exact ih _ _ _ (by simpa using hs) hleft' hdown' (.inl ⟨hA',S',β',bxx,hlate w',hi',by cases o.dst <;> simp [Act.put,hsz],hdf.put he,hput S' w' v he hv⟩)
      | false =>
       simp only [Bool.false_eq_true,if_false]
       have hf:=hyd.no hg
       refine⟨fun _ _=>trivial,?_⟩
       exact ih _ _ _ (by simpa using hs) hleft' hdown' (.inl ⟨hA',S,β,bxx,hlate w,hi,by cases o.dst <;> simp [Act.put,hsz],hdf.put (SExt.refl S w),hput S w undef (SExt.refl S w) (by rw [hf];exact .tuple [] [] rfl (by simp))⟩)
    ·have hbe:=hbehind (by omega)
     have him':i=m:=by
      rcases Nat.lt_or_ge m i with h | h
      ·have:=hA m (hbe m h);omega
      ·omega
     subst him'
     obtain⟨sl',bx',S,β,hst,hrun⟩:=conv listed a w hA hbe hA2
     exact stepB sl' bx' S β (Nat.le_refl _) (fun k=>⟨hA k,hbe k⟩) hst hrun
   ·have hij:j≤i:=by
     rcases Nat.lt_or_ge i j with h | h
     ·have:=(hj3 i).2 h;rw [hnot'] at this;simp at this
     ·exact h
    have hbe:=hbehind (by omega)
    have:i=j:=by
     rcases Nat.lt_or_ge j i with h | h
     ·have:=(hj3 j).1 (hbe j h);omega
     ·omega
    subst this
    exact stepB sl' bx' S β (by omega) hj3 hst hrun
def tailSV (P:Program)(own:List Nat)(ops:Array Oper)(os:List Oper)(bx:Boxes)(K:SL→Boxes→Prop):SL→Prop:=fun sl=>runV P own ops os sl bx K
theorem tailSV_app (P:Program)(own:List Nat)(ops:Array Oper)(os:List Oper)(bx:Boxes)(K:SL→Boxes→Prop)(sl:SL):tailSV P own ops os bx K sl=runV P own ops os sl bx K:=rfl
def doneSV (P:Program)(own:List Nat)(ops:Array Oper)(mid tail:List Oper)(k:Nat)(bx0:Boxes)(sl:SL)(K:SL→Boxes→Prop):KB:=fun r bx' pg =>
 r=.tuple []∧pg=[]∧∃ c',bx'=(k,c')::bx0∧c'.real=true∧qrunV P own ops bx0 mid sl (tailSV P own ops tail ((k,c')::bx0) K)
def midSV (P:Program)(own:List Nat)(ops:Array Oper)(op:Op)(mid tail:List Oper)(k:Nat)(c:BoxC)(bx0:Boxes)(K:SL→Boxes→Prop):SL→Prop:=fun sl=>opK P own none sl ((k,c)::bx0) op (doneSV P own ops mid tail k bx0 sl K)
theorem midSV_app (P:Program)(own:List Nat)(ops:Array Oper)(op:Op)(mid tail:List Oper)(k:Nat)(c:BoxC)(bx0:Boxes)(K:SL→Boxes→Prop)(sl:SL) :
  midSV P own ops op mid tail k c bx0 K sl=opK P own none sl ((k,c)::bx0) op (doneSV P own ops mid tail k bx0 sl K):=rfl
theorem doneSV_ok {own:List Nat} {mid tail:List Oper} {k:Nat} {bx0:Boxes} {K:SL→Boxes→Prop} {c':BoxC} (h1:c'.real=true)(h2:qrunV P own ops bx0 mid sl (tailSV P own ops tail ((k,c')::bx0) K)) :
  doneSV P own ops mid tail k bx0 sl K (.tuple []) ((k,c')::bx0) []:=⟨rfl,rfl,c',rfl,h1,h2⟩
variable {id:Nat}
theorem AWp.regionDrawS (m iL k:Nat)(c:BoxC)(bx0:Boxes)(B:Array Nat)(ks kb:List Nat)(hm:P.follows .mixedOrders=true)(hc:drawOK ops m B=true)(hd:dstsOK n ops.toList=true)(hL:StoreOK ops m iL)
  (hb:bget bx k=some c) (hcr:c.real=true) (hbx:bx0=berase k bx)
  (h:QRun P n ops (ops.toList.take iL) sl bx0 fun sl1=>∃ c',c'.real=true∧(∀ o,ops[iL]? = some o→OpT P o (opnd sl1) ((k,c)::bx0) (.tuple []) ((k,c')::bx0) []) ∧
   QRun P n ops ((ops.toList.take m).drop (iL+1)) sl1 bx0 fun sl2=>Run P n ops (ops.toList.drop m) sl2 ((k,c')::bx0) fun sl' bx'=>Q .normal (keepSl ks sl') (keepBx kb bx')):AWp ro P n (.region id ops true) Q sl bx:=by
 intro C S w β a hs0
 have hfr:∀ x,(k,x) ∉ bx0:=fun x hx=>by rw [hbx] at hx;exact (mem_berase.1 hx).1 rfl
 have hs:St C n S w β a sl ((k,c)::bx0):=⟨hs0.inv.sub (fun j x hj=>by
  rcases List.mem_cons.1 hj with he | hj
  ·cases he;exact mem_of_bget hb
  ·rw [hbx] at hj;exact (mem_berase.1 hj).2),hs0.size,hs0.defers,hs0.slot⟩
 refine wpIn_region_any hm ?_
 have hdo:=drawOK_spec hc
 obtain⟨fs1,sls1,a1,a2,a3,⟨e1,a4,c',hcr',hop,h2⟩,a5⟩:=h.yields
 obtain⟨fs2,sls2,b1,b2,b3,⟨e2,b4,hrun⟩,b5⟩:=h2.yields
 have hml:m≤ops.size:=hdo.le
 have hil:=hL.lt
 have hlen1:(ops.toList.take iL).length=iL:=by simp;omega
 have hlen2:((ops.toList.take m).drop (iL+1)).length=m - (iL+1):=by simp;omega
 rw [hlen1] at a1 a2 a4
 rw [hlen2] at b1 b2 b4
 have s1:∀ i,i≤iL→(sls1++sls2)[i]? = sls1[i]?:=fun i hi=>List.getElem?_append_left (by omega)
 have s2:∀ i,(sls1++sls2)[iL+1+i]? = sls2[i]?:=fun i=>by rw [List.getElem?_append_right (by omega)];congr 1;omega
 have f1:∀ i,i < iL→(fs1++.tuple []::fs2)[i]? = fs1[i]?:=fun i hi=>List.getElem?_append_left (by omega)
 have f2:(fs1++.tuple []::fs2)[iL]? = some (.tuple []):=by rw [List.getElem?_append_right (by omega),a1];simp
 have f3:∀ i,(fs1++.tuple []::fs2)[iL+1+i]? = fs2[i]?:=fun i=>by
  rw [List.getElem?_append_right (by omega),a1,show iL+1+i - iL=i+1 by omega,List.getElem?_cons_succ]
 have g1:∀ i,i < iL→(ops.toList.take iL)[i]? = ops[i]?:=fun i hi=>by rw [List.getElem?_take_of_lt hi];simp
 have g2:∀ i,iL+1+i < m→((ops.toList.take m).drop (iL+1))[i]? = ops[iL+1+i]?:=fun i hi=>by rw [List.getElem?_drop,List.getElem?_take_of_lt (by omega)];simp
 refine draw_store (P:=P) (sl:=sl) (bx:=bx0) (K:=fun sl' bx'=>Q .normal (keepSl ks sl') (keepBx kb bx')) hdo (dstsOK_spec hd) (dstsOK_nd hd) hL hcr hcr' (fun sl' bx' S' w' β' a' hK hs'=>⟨_,_,S',β',hK,hs'.keep ks kb⟩) (sls:=sls1++sls2) (fs:=fs1++.tuple []::fs2)
  (by rw [s1 0 (by omega)];exact a3) hfr ⟨e1,by rw [s1 iL (Nat.le_refl _)];exact a4,f2,by have:=s2 0;rw [Nat.add_zero] at this;rw [this];exact b3,hop⟩ ?_ ⟨e2,by have:=s2 (m - (iL+1));rw [show iL+1+(m - (iL+1))=m by omega] at this;rw [this];exact b4,hrun⟩
  ops.size _ a _ (by simp) ?_ ?_ (.inl ⟨?_,S,β,_,.inr ⟨?_,rfl⟩,?_,hs.size,hs.defers.ext ⟨fun _ h=>h,fun _ _=>rfl⟩,?_⟩)
 ·intro i o hi hne ho
  by_cases hlt:i < iL
  ·obtain⟨s,f,c1,c2,c3,c4⟩:=a5 i o (by rw [g1 i hlt];exact ho)
   exact⟨s,f,by rw [s1 i (by omega)];exact c1,by rw [f1 i hlt];exact c2,c3,by rw [s1 (i+1) (by omega)];exact c4⟩
  ·obtain⟨j,rfl⟩:∃ j,i=iL+1+j:=⟨i - (iL+1),by omega⟩
   obtain⟨s,f,c1,c2,c3,c4⟩:=b5 j o (by rw [g2 j hi];exact ho)
   exact⟨s,f,by rw [s2];exact c1,by rw [f3];exact c2,c3,by rw [show iL+1+j+1=iL+1+(j+1) by omega,s2];exact c4⟩
 ·unfold left
  exact Nat.le_trans (List.countP_le_length) (by simp)
 ·intro i o ho hx
  simp [Array.getD] at hx
 ·intro i hx
  simp [Array.getD] at hx
 ·simp [Array.getD]
 ·exact (hs.inv.grow (w':={ w with drawn:=w.drawn+1 }) (fun _ h=>h) (fun _ h=>.inl h) hs.inv.Slt (fun _ _=>rfl) rfl rfl rfl (Nat.le_refl _)).1
 ·intro t x hcur
  rcases hcur with ⟨i,o,h1,_⟩ | ⟨_,h2⟩
  ·simp [Array.getD] at h1
  ·rw [h2];exact (hs.slot t).ext ⟨fun _ h=>h,fun _ _=>rfl⟩ (fun _ _=>rfl)
def opAt (ops:Array Oper)(i:Nat):Op:=(ops[i]?.map (·.op)).getD (.move (.const undef))
theorem AWp.regDS (ks own:List Nat)(m iL k:Nat) {c:BoxC} (hb:bget bx k=some c)(hcr:c.real=true)(hm:P.follows .mixedOrders=true)(hc:drawOK ops m (Region.before ops)=true)(hd:dstsOK n ops.toList=true)(hL:StoreOK ops m iL)
  (h:qrunV P own ops (berase k bx) (ops.toList.take iL) sl (midSV P own ops (opAt ops iL) ((ops.toList.take m).drop (iL+1)) (ops.toList.drop m) k c (berase k bx) (keepK ks (Q .normal)))):AWp ro P n (.region id ops true) Q sl bx:=by
 have sub:∀ {l:List Oper},(∀ o,o∈l→o∈ops.toList)→dstsOK n l=true:=fun {l} hl=>by
  unfold dstsOK at *;rw [List.all_eq_true] at *;exact fun o ho=>hd o (hl o ho)
 have hd1:dstsOK n (ops.toList.take iL)=true:=sub fun o ho=>List.mem_of_mem_take ho
 have hd2:dstsOK n ((ops.toList.take m).drop (iL+1))=true:=sub fun o ho=>List.mem_of_mem_take (List.mem_of_mem_drop ho)
 have hd3:dstsOK n (ops.toList.drop m)=true:=sub fun o ho=>List.mem_of_mem_drop ho
 refine AWp.regionDrawS m iL k c (berase k bx) _ ks ks hm hc hd hL hb hcr rfl (qrunV_sound (fun sl1 h1=>?_) _ _ hd1 h)
 obtain⟨oL,l1,l2,l3⟩:=hL.op
 have hop:opAt ops iL=oL.op:=by simp [opAt,l1]
 rw [midSV_app,hop] at h1
 have h1':opK P own oL.dst sl1 ((k,c)::berase k bx) oL.op (doneSV P own ops ((ops.toList.take m).drop (iL+1)) (ops.toList.drop m) k (berase k bx) sl1 (keepK ks (Q .normal))):=by rw [l3];exact h1
 obtain⟨r,bx',pg,q1,q2⟩:=opK_sound h1'
 obtain⟨rfl,rfl,c',rfl,q3,q4⟩:=q2
 exact⟨c',q3,fun o ho=>by rw [l1] at ho;cases ho;exact q1,qrunV_sound (fun sl2 h2=>runV_sound _ _ _ hd3 h2) _ _ hd2 q4⟩
theorem AWp.seqDS {y:Code} (ks own:List Nat)(m iL k:Nat) {c:BoxC} (hb:bget bx k=some c)(hcr:c.real=true)(hm:P.follows .mixedOrders=true)(hc:drawOK ops m (Region.before ops)=true)(hd:dstsOK n ops.toList=true)(hL:StoreOK ops m iL)
  (h:∀ K:SL→Boxes→Prop,(∀ sl' bx',AWp ro P n y Q sl' bx'→K sl' bx')→qrunV P own ops (berase k bx) (ops.toList.take iL) sl (midSV P own ops (opAt ops iL) ((ops.toList.take m).drop (iL+1)) (ops.toList.drop m) k c (berase k bx) (keepK ks K))) :
  AWp ro P n (.seq (.region id ops true) y) Q sl bx :=
 AWp.seq (AWp.regDS ks own m iL k hb hcr hm hc hd hL (h _ fun _ _ h=>h))
theorem AWp.lastDS (ks own:List Nat)(m iL k:Nat) {c:BoxC} (hb:bget bx k=some c)(hcr:c.real=true)(hm:P.follows .mixedOrders=true)(hc:drawOK ops m (Region.before ops)=true)(hd:dstsOK n ops.toList=true)(hL:StoreOK ops m iL)
  (h:∀ K:SL→Boxes→Prop,(∀ sl' bx',Q .normal sl' bx'→K sl' bx')→qrunV P own ops (berase k bx) (ops.toList.take iL) sl (midSV P own ops (opAt ops iL) ((ops.toList.take m).drop (iL+1)) (ops.toList.drop m) k c (berase k bx) (keepK ks K))) :
  AWp ro P n (.region id ops true) Q sl bx :=
 AWp.regDS ks own m iL k hb hcr hm hc hd hL (h _ fun _ _ h=>h)
end Go.Abs
