/- Drawn regions in which a slice of one's own grows while other operations only look. Own framework. -/
import Derived.Test.YtgjfipagmicdnaaGreatDoorMAb8
set_option linter.unusedVariables false
set_option linter.unusedSimpArgs false
namespace Go.Abs
open Go
variable {ro:Option Nat} {P:Program} {n:Nat} {Q:Exit→SL→Boxes→Prop} {sl:SL} {bx:Boxes} {o:Oper} {ρ:Rho}
def bxC (k:Nat)(c:Option BoxC)(bx:Boxes):Boxes:=match c with
 | some c=>(k,c)::bx
 | none=>bx
def chainOK (ops:Array Oper)(m:Nat)(ch kp:List Nat):Bool :=
 (ch.all fun i=>decide (i < m) && decide (i < ops.size) && (ops.getD i default).guard.isNone) &&
 (ch.all fun i=>ch.all fun j=>!decide (j < i) || baseEdge (ops.getD i default) j || ch.any fun k=>decide (j < k) && decide (k < i) && baseEdge (ops.getD i default) k) &&
 ((List.range m).all fun i=>ch.contains i || ((usesOf ops (ops.getD i default)).all fun t=>ch.all fun j=>(ops.getD j default).dst != some t)) &&
 (ch.all fun i=>(usesOf ops (ops.getD i default)).all fun t=>ch.all fun k=>(ops.getD k default).dst != some t || ch.all fun j=>!decide (j < i) || decide (j≤k) || kp.contains j)
structure ChainOK (ops:Array Oper)(m:Nat)(ch kp:List Nat):Prop where
 lt:∀ i,i∈ch→i < m
 op:∀ i,i∈ch→∃ o,ops[i]? = some o∧o.guard=none
 link:∀ i j,i∈ch→j∈ch→j < i→∀ o,ops[i]? = some o→(∃ e,e∈o.after∧Region.binds .any e=true∧e.on=j)∨∃ k,k∈ch∧j < k∧k < i∧∃ e,e∈o.after∧Region.binds .any e=true∧e.on=k
 apart:∀ i,i < m→i ∉ ch→∀ o,ops[i]? = some o→∀ t,t∈usesOf ops o→∀ j,j∈ch→∀ oj,ops[j]? = some oj→oj.dst≠some t
 newest:∀ i,i∈ch→∀ o,ops[i]? = some o→∀ t,t∈usesOf ops o→∀ k,k∈ch→∀ ok,ops[k]? = some ok→ok.dst=some t→∀ j,j∈ch→j < i→j≤k∨j∈kp
theorem baseEdge_spec {o:Oper} {j:Nat} (h:baseEdge o j=true):∃ e,e∈o.after∧Region.binds .any e=true∧e.on=j:=by
 unfold baseEdge at h
 rw [List.any_eq_true] at h
 obtain⟨e,he,hb⟩:=h
 simp only [Bool.and_eq_true,beq_iff_eq] at hb
 exact⟨e,by simpa using he,hb.1,hb.2⟩
variable {ops:Array Oper} {m:Nat}
theorem chainOK_spec {ch kp:List Nat} (h:chainOK ops m ch kp=true):ChainOK ops m ch kp:=by
 unfold chainOK at h
 rw [Bool.and_eq_true,Bool.and_eq_true,Bool.and_eq_true] at h
 obtain⟨⟨⟨h1,h2⟩,h3⟩,h4⟩:=h
 rw [List.all_eq_true] at h1 h2 h3 h4
 have hget:∀ {i:Nat} {o:Oper},ops[i]? = some o→ops.getD i default=o:=by
  intro i o ho
  obtain⟨hlt,he⟩:=Array.getElem?_eq_some_iff.1 ho
  simp [Array.getD,hlt,he]
 refine⟨fun i hi=>?_,fun i hi=>?_,fun i j hi hj hji o ho=>?_,fun i hi hn o ho t ht j hj oj hoj=>?_,fun i hi o ho t ht k hk ok hok hd j hj hji=>?_⟩
 ·have:=h1 i hi
  simp only [Bool.and_eq_true,decide_eq_true_eq] at this
  exact this.1.1
 ·have:=h1 i hi
  simp only [Bool.and_eq_true,decide_eq_true_eq] at this
  obtain⟨⟨_,g1⟩,g2⟩:=this
  have he:ops[i]? = some ops[i]:=Array.getElem?_eq_getElem g1
  rw [hget he] at g2
  exact⟨_,he,by simpa using g2⟩
 ·have:=h2 i hi
  rw [List.all_eq_true] at this
  have:=this j hj
  rw [hget ho] at this
  simp only [Bool.or_eq_true,Bool.not_eq_true',decide_eq_false_iff_not] at this
  rcases this with (h | h) | h
  ·exact absurd hji h
  ·exact .inl (baseEdge_spec h)
  ·rw [List.any_eq_true] at h
   obtain⟨k,hk,hb⟩:=h
   simp only [Bool.and_eq_true,decide_eq_true_eq] at hb
   exact .inr ⟨k,hk,hb.1.1,hb.1.2,baseEdge_spec hb.2⟩
 ·have:=h3 i (List.mem_range.2 hi)
  rw [Bool.or_eq_true] at this
  rcases this with h | h
  ·exact absurd (by simpa using h) hn
  ·rw [List.all_eq_true] at h
   have:=h t (by rw [hget ho];exact ht)
   rw [List.all_eq_true] at this
   have:=this j hj
   rw [hget hoj] at this
   simpa using this
 ·have:=h4 i hi
  rw [List.all_eq_true] at this
  have:=this t (by rw [hget ho];exact ht)
  rw [List.all_eq_true] at this
  have:=this k hk
  rw [hget hok,hd] at this
  simp only [bne_self_eq_false,Bool.false_or,List.all_eq_true] at this
  have:=this j hj
  simp only [Bool.or_eq_true,Bool.not_eq_true',decide_eq_false_iff_not,decide_eq_true_eq] at this
  rcases this with (h | h) | h
  ·exact absurd hji h
  ·exact .inl h
  ·exact .inr (by simpa using h)
theorem ChainOK.down {ch kp:List Nat} (h:ChainOK ops m ch kp) {X:Nat→Prop} (hX:∀ (i:Nat)(o:Oper),ops[i]? = some o→X i→∀ e,e∈o.after→Region.binds .any e=true→X e.on) :
  ∀ (i:Nat) (o:Oper),i∈ch→ops[i]? = some o→(∀ e,e∈o.after→Region.binds .any e=true→X e.on)→∀ j,j∈ch→j < i→X j:=by
 intro i
 induction i using Nat.strongRecOn with
 | _ i ih =>
  intro o hi ho hpre j hj hji
  rcases h.link i j hi hj hji o ho with ⟨e,he,hb,hon⟩ | ⟨k,hk,hjk,hki,e,he,hb,hon⟩
  ·rw [← hon];exact hpre e he hb
  ·have hxk:X k:=by rw [← hon];exact hpre e he hb
   obtain⟨ok,hok,_⟩:=h.op k hk
   exact ih k hki ok hk hok (hX k ok hok hxk) j hj hjk
def LiveC (ops:Array Oper)(ch kp:List Nat)(q t:Nat):Prop:=∃ i o,i∈ch∧i < q∧(∀ j,j∈ch→j < q→j≤i∨j∈kp)∧ops[i]? = some o∧o.dst=some t
def chF (kp:List Nat)(fL:SV)(i:Nat):SV:=if i∈kp then .tuple [] else fL
def chP (kp:List Nat)(kL i:Nat):List Nat:=if i∈kp then [] else [kL]
theorem next_chain {ch:List Nat} {css:List (Option BoxC)} (hq:∀ i,i < m→i ∉ ch→css[i+1]? = css[i]?):∀ (d i:Nat),i+d=m→∃ q,i≤q∧q≤m∧(q=m∨q∈ch)∧(∀ j,i≤j→j < q→j ∉ ch)∧css[q]? = css[i]?
 | 0,i,h=>⟨i,Nat.le_refl _,by omega,.inl (by omega),fun j h1 h2=>by omega,rfl⟩
 | d+1,i,h=>by
  by_cases hi:i∈ch
  ·exact⟨i,Nat.le_refl _,by omega,.inr hi,fun j h1 h2=>by omega,rfl⟩
  ·obtain⟨q,h1,h2,h3,h4,h5⟩:=next_chain hq d (i+1) (by omega)
   refine⟨q,by omega,h2,h3,fun j h6 h7=>?_,by rw [h5,hq i (by omega) hi]⟩
   by_cases hj:j=i
   ·rw [hj];exact hi
   ·exact h4 j (by omega) h7
def dstAt (ops:Array Oper)(i:Nat):Option Nat:=(ops[i]?.map (·.dst)).getD none
def ChR (P:Program)(n:Nat)(ops:Array Oper)(m kL:Nat)(kp:List Nat)(fL:SV)(bx:Boxes)(T:Option BoxC→SL→Prop):List Nat→Option BoxC→SL→Prop
 | [],c,sl=>T c sl
 | i::is,c,sl=>∃ c':BoxC,c'.real=true∧∀ o,ops[i]? = some o→OpT P o (opnd sl) (bxC kL c bx) (chF kp fL i) (bxC kL (some c') bx) (chP kp kL i) ∧
   QRun P n ops ((ops.toList.take (is.headD m)).drop (i+1)) (sput sl o.dst (chF kp fL i)) bx (ChR P n ops m kL kp fL bx T is (some c'))
theorem getElem?_seg {a b j:Nat} (h:b+j < a):((ops.toList.take a).drop b)[j]? = ops[b+j]?:=by
 rw [List.getElem?_drop,List.getElem?_take_of_lt h];simp
theorem ChR.lists {m kL:Nat} {kp:List Nat} {fL:SV} {T:Option BoxC→SL→Prop} (hm:m≤ops.size):∀ (is:List Nat)(i0:Nat)(sl0:SL)(c0:Option BoxC),(∀ c,c0=some c→c.real=true)→is.Pairwise (· < ·)→(∀ i,i∈is→i0≤i∧i < m)→i0≤m →
  QRun P n ops ((ops.toList.take (is.headD m)).drop i0) sl0 bx (ChR P n ops m kL kp fL bx T is c0) →
  ∃ (fs:List SV) (sls:List SL) (css:List (Option BoxC)),fs.length=m - i0∧sls.length=m - i0+1∧css.length=m - i0+1∧sls[0]? = some sl0∧css[0]? = some c0∧(∃ e c,sls[m - i0]? = some e∧css[m - i0]? = some c∧T c e) ∧
   (∀ j o,i0+j < m→i0+j ∉ is→ops[i0+j]? = some o→∃ s f,sls[j]? = some s∧fs[j]? = some f∧Yield P ops s bx o f∧sls[j+1]? = some (sput s o.dst f)) ∧
   (∀ j,i0+j < m→i0+j ∉ is→css[j+1]? = css[j]?) ∧
   (∀ j o,i0+j∈is→ops[i0+j]? = some o→∃ s c c',sls[j]? = some s∧fs[j]? = some (chF kp fL (i0+j))∧sls[j+1]? = some (sput s o.dst (chF kp fL (i0+j)))∧css[j]? = some c∧css[j+1]? = some (some c')∧OpT P o (opnd s) (bxC kL c bx) (chF kp fL (i0+j)) (bxC kL (some c') bx) (chP kp kL (i0+j))) ∧
   (∀ (j:Nat) (c:BoxC),css[j]? = some (some c)→c.real=true)
 | [],i0,sl0,c0,hr,_,_,h0,h=>by
  obtain⟨fs,sls,a1,a2,a3,⟨e,a4,a5⟩,a6⟩:=h.yields
  have hlen:((ops.toList.take m).drop i0).length=m - i0:=by simp;omega
  simp only [List.headD_nil] at a1 a2 a4 a6
  rw [hlen] at a1 a2 a4
  refine⟨fs,sls,List.replicate (m - i0+1) c0,a1,a2,by simp,a3,by simp,⟨e,c0,a4,by simp,a5⟩,fun j o hj _ ho=>?_,fun j hj _=>?_,fun j o hj=>by simp at hj,fun j c hc=>?_⟩
  ·exact a6 j o (by rw [getElem?_seg hj];exact ho)
  ·rw [List.getElem?_replicate,List.getElem?_replicate,if_pos (by omega),if_pos (by omega)]
  ·rw [List.getElem?_replicate] at hc
   split at hc
   ·simp only [Option.some.injEq] at hc;exact hr c hc
   ·cases hc
 | i::is,i0,sl0,c0,hr,hp,hin,h0,h=>by
  obtain⟨hi0,him⟩:=hin i (by simp)
  rw [List.pairwise_cons] at hp
  obtain⟨fs1,sls1,a1,a2,a3,⟨e1,a4,c',hc',hop⟩,a6⟩:=h.yields
  have hlen:((ops.toList.take i).drop i0).length=i - i0:=by simp;omega
  simp only [List.headD_cons] at a1 a2 a4 a6
  rw [hlen] at a1 a2 a4
  have hio:ops[i]? = some (ops[i]'(by omega)):=Array.getElem?_eq_getElem _
  generalize ops[i]'(by omega)=oi at hio
  obtain⟨hT,hq⟩:=hop oi hio
  obtain⟨fs2,sls2,css2,b1,b2,b3,b4,b5,⟨e2,c2,b6,b7,b8⟩,b9,b10,b11,b12⟩:=ChR.lists hm is (i+1) _ (some c') (fun c hc=>by cases hc;exact hc') hp.2 (fun k hk=>⟨by have:=hp.1 k hk;omega,(hin k (by simp [hk])).2⟩) (by omega) hq
  have s1:∀ j,j≤i - i0→(sls1++sls2)[j]? = sls1[j]?:=fun j hj=>List.getElem?_append_left (by omega)
  have s2:∀ j,(sls1++sls2)[i - i0+1+j]? = sls2[j]?:=fun j=>by rw [List.getElem?_append_right (by omega)];congr 1;omega
  have f1:∀ j,j < i - i0→(fs1++chF kp fL i::fs2)[j]? = fs1[j]?:=fun j hj=>List.getElem?_append_left (by omega)
  have f2:(fs1++chF kp fL i::fs2)[i - i0]? = some (chF kp fL i):=by rw [List.getElem?_append_right (by omega),a1];simp
  have f3:∀ j,(fs1++chF kp fL i::fs2)[i - i0+1+j]? = fs2[j]?:=fun j=>by
   rw [List.getElem?_append_right (by omega),a1,show i - i0+1+j - (i - i0)=j+1 by omega,List.getElem?_cons_succ]
  have c1:∀ j,j≤i - i0→(List.replicate (i - i0+1) c0++css2)[j]? = some c0:=fun j hj=>by
   rw [List.getElem?_append_left (by simp;omega),List.getElem?_replicate,if_pos (by omega)]
  have c3:∀ j,(List.replicate (i - i0+1) c0++css2)[i - i0+1+j]? = css2[j]?:=fun j=>by
   rw [List.getElem?_append_right (by simp),List.length_replicate];congr 1;omega
  have hmi:m - i0=i - i0+1+(m - (i+1)):=by omega
  refine⟨fs1++chF kp fL i::fs2,sls1++sls2,List.replicate (i - i0+1) c0++css2,by simp;omega,by simp;omega,by simp;omega,by rw [s1 0 (by omega)];exact a3,c1 0 (by omega),⟨e2,c2,by rw [hmi,s2];exact b6,by rw [hmi,c3];exact b7,b8⟩,fun j o hj hn ho=>?_,fun j hj hn=>?_,fun j o hj ho=>?_,fun j c hc=>?_⟩
  ·rcases Nat.lt_or_ge j (i - i0) with hlt | hge
   ·obtain⟨s,f,g1,g2,g3,g4⟩:=a6 j o (by rw [getElem?_seg (by omega)];exact ho)
    exact⟨s,f,by rw [s1 j (by omega)];exact g1,by rw [f1 j hlt];exact g2,g3,by rw [s1 (j+1) (by omega)];exact g4⟩
   ·have hne:i0+j≠i:=fun he=>hn (by rw [he];simp)
    obtain⟨k,rfl⟩:∃ k,j=i - i0+1+k:=⟨j - (i - i0+1),by omega⟩
    have hidx:i0+(i - i0+1+k)=i+1+k:=by omega
    rw [hidx] at hj hn ho
    obtain⟨s,f,g1,g2,g3,g4⟩:=b9 k o hj (fun h=>hn (by simp [h])) ho
    exact⟨s,f,by rw [s2];exact g1,by rw [f3];exact g2,g3,by rw [show i - i0+1+k+1=i - i0+1+(k+1) by omega,s2];exact g4⟩
  ·rcases Nat.lt_or_ge j (i - i0) with hlt | hge
   ·rw [c1 j (by omega),c1 (j+1) (by omega)]
   ·have hne:i0+j≠i:=fun he=>hn (by rw [he];simp)
    obtain⟨k,rfl⟩:∃ k,j=i - i0+1+k:=⟨j - (i - i0+1),by omega⟩
    have hidx:i0+(i - i0+1+k)=i+1+k:=by omega
    rw [hidx] at hj hn
    have:=b10 k hj (fun h=>hn (by simp [h]))
    rw [c3,show i - i0+1+k+1=i - i0+1+(k+1) by omega,c3];exact this
  ·rcases List.mem_cons.1 hj with he | hj'
   ·have hji:j=i - i0:=by omega
    subst hji
    rw [he,hio] at ho;simp only [Option.some.injEq] at ho;subst ho
    rw [he]
    refine⟨e1,c0,c',by rw [s1 _ (Nat.le_refl _)];exact a4,f2,?_,c1 _ (Nat.le_refl _),?_,hT⟩
    ·have:=s2 0;rw [Nat.add_zero] at this;rw [this];exact b4
    ·have:=c3 0;rw [Nat.add_zero] at this;rw [this];exact b5
   ·have hlt:=hp.1 _ hj'
    obtain⟨k,rfl⟩:∃ k,j=i - i0+1+k:=⟨j - (i - i0+1),by omega⟩
    have hidx:i0+(i - i0+1+k)=i+1+k:=by omega
    rw [hidx] at hj' ho
    obtain⟨s,c,c'',g1,g2,g3,g4,g5,g6⟩:=b11 k o hj' ho
    rw [hidx]
    exact⟨s,c,c'',by rw [s2];exact g1,by rw [f3];exact g2,by rw [show i - i0+1+k+1=i - i0+1+(k+1) by omega,s2];exact g3,by rw [c3];exact g4,by rw [show i - i0+1+k+1=i - i0+1+(k+1) by omega,c3];exact g5,g6⟩
  ·rcases Nat.lt_or_ge j (i - i0+1) with hlt | hge
   ·rw [c1 j (by omega)] at hc;simp only [Option.some.injEq] at hc;exact hr c hc
   ·obtain⟨k,rfl⟩:∃ k,j=i - i0+1+k:=⟨j - (i - i0+1),by omega⟩
    rw [c3] at hc;exact b12 k c hc
def freeCh (k:Nat)(ds:List Nat):SL→Bool
 | []=>true
 | (u,x)::r=>(ds.contains u || !x.has k) && freeCh k ds r
theorem freeCh_mem {k:Nat} {ds:List Nat} :∀ {sl:SL},freeCh k ds sl=true→∀ u x,(u,x)∈sl→u ∉ ds→x.has k=false
 | [],_,u,x,h,_=>by simp at h
 | (v,y)::r,h,u,x,hm,hu=>by
  simp only [freeCh,Bool.and_eq_true,Bool.or_eq_true,Bool.not_eq_true'] at h
  rcases List.mem_cons.1 hm with he | hm
  ·simp only [Prod.mk.injEq] at he
   obtain⟨rfl,rfl⟩:=he
   exact h.1.resolve_left fun h=>hu (by simpa using h)
  ·exact freeCh_mem h.2 u x hm hu
def chDsts (ops:Array Oper)(ch:List Nat):List Nat:=ch.filterMap fun i=>dstAt ops i
end Go.Abs
/- Function values with first arguments, as data: kept in a map, called. Own framework. -/
set_option linter.unusedVariables false
set_option linter.unusedSimpArgs false
namespace Go.Abs
set_option linter.unusedSimpArgs false
set_option linter.unusedVariables false
open Go
variable {P:Program} {sl:SL} {bx:Boxes} {o:Oper} {ρ:Rho}
end Go.Abs
/- Methods bound to a record of several cells, kept in an array variable. Own framework. -/
set_option linter.unusedVariables false
set_option linter.unusedSimpArgs false
namespace Go.Abs
set_option linter.unusedSimpArgs false
set_option linter.unusedVariables false
open Go
variable {P:Program} {sl:SL} {bx:Boxes} {o:Oper} {ρ:Rho}
def recD:SV→D→Prop
 | .d x,y=>x=y∧x.one=true
 | .dptr cells off,y=>off=0∧y=.ptr cells
 | _,_=>False
theorem recD_to {S:Nat→Prop} {w:World} {β:Names} {x:SV} {y:D} {v:Value} (h:recD x y)(hr:RepV S w β x v):RepC S w y v:=by
 cases x <;> simp [recD] at h
 ·obtain⟨rfl,_⟩:=h;exact hr.inv_d
 ·obtain⟨rfl,rfl⟩:=h
  obtain⟨b,base,q⟩:=hr.inv_dptr
  rw [q.v,Nat.add_zero]
  exact .ptr _ b base q.inS q.one q.there q.rep
theorem recD_of {S:Nat→Prop} {w:World} {β:Names} {x:SV} {y:D} {v:Value} (h:recD x y)(hr:RepC S w y v):RepV S w β x v:=by
 cases x <;> simp [recD] at h
 ·obtain⟨rfl,_⟩:=h;exact .d _ _ hr
 ·obtain⟨rfl,rfl⟩:=h
  cases hr with
  | ptr _ b base q1 q2 q3 q4=>exact .dptr _ 0 b base q1 q2 q3 q4
def recDs:List SV→List D→Prop
 | [],[]=>True
 | x::xs,y::ys=>recD x y∧recDs xs ys
 | _,_=>False
theorem recDs_get:∀ {xs:List SV} {ys:List D},recDs xs ys→xs.length=ys.length∧∀ (j:Nat)(x:SV)(y:D),xs[j]? = some x→ys[j]? = some y→recD x y
 | [],[],_=>⟨rfl,fun j x y h=>by simp at h⟩
 | [],_::_,h=>h.elim
 | _::_,[],h=>h.elim
 | x::xs,y::ys,h=>by
  obtain⟨h1,h2⟩:=recDs_get h.2
  refine⟨by simp [h1],fun j a b ha hb=>?_⟩
  match j with
  | 0 =>
   simp only [List.getElem?_cons_zero,Option.some.injEq] at ha hb
   subst ha;subst hb;exact h.1
  | j+1 =>
   simp only [List.getElem?_cons_succ] at ha hb
   exact h2 j a b ha hb
variable {ro:Option Nat} {P:Program} {n:Nat} {Q:Exit→SL→Boxes→Prop} {sl:SL} {bx:Boxes}
end Go.Abs
/- Closures kept as data: made, called; variables that hold addresses, frozen. Own framework. -/
set_option linter.unusedVariables false
set_option linter.unusedSimpArgs false
namespace Go.Abs
set_option linter.unusedSimpArgs false
set_option linter.unusedVariables false
open Go
variable {P:Program} {sl:SL} {bx:Boxes} {o:Oper} {ρ:Rho}
theorem opQ_cl {f:FuncId} {caps:Array Operand} {xs:List SV} {ys:List D} (hd:recDs xs ys)(hx:caps.toList.map (opnd sl)=xs):OpQ P sl bx (.makeFunc (.func f) #[] caps) (.d (.cl f ys)):=by
 intro o ho
 refine OpT.of_value fun C S w β a hi ha=>?_
 obtain⟨hl,hg⟩:=recDs_get hd
 have hlen:caps.toList.length=xs.length:=by rw [← hx,List.length_map]
 refine⟨.func (.func f) #[] ⟨caps.toList.map a.eval⟩,by rw [show (⟨caps.toList.map a.eval⟩:Array Value)=caps.map a.eval by apply Array.ext';simp];simp [execOp,ho,Instr.makeFunc],.d _ _ (.cl f _ (caps.toList.map a.eval) (by simp at hlen ⊢;omega) ?_)⟩
 intro j d v hd' hv
 rw [List.getElem?_map,Option.map_eq_some_iff] at hv
 obtain⟨x,hx',rfl⟩:=hv
 have h1:=ha x (mo ho (by simp [Op.operands];exact Array.mem_toList_iff.1 (List.mem_of_getElem? hx')))
 exact recD_to (hg j _ d (by rw [← hx,List.getElem?_map,hx'];rfl) hd') h1
theorem opQ_callCl {f:FuncId} {fo:Operand} {args:List Operand} {tys:List TypeId} {xs:List SV} {ys:List D} (hd:recDs xs ys) {args':List SV} {r:SV} (hf:opnd sl fo=.d (.cl f ys))(hargs:coerceL [] (args.map (opnd sl)++xs)=some args')(hc:CallOK P f args' r)(hr:r.closed=true) :
  OpQ P sl bx (.call ⟨.value fo,args.toArray,tys.toArray⟩) r:=by
 intro o ho C S w β a hi ha
 have hf1:=ha fo (mC ho);rw [hf] at hf1
 have hf2:=hf1.inv_d
 generalize hfv:a.eval fo=v at hf2
 cases hf2 with
 | cl _ _ vs h1 h2 =>
  obtain⟨hl,hg⟩:=recDs_get hd
  have hcaps:RepL S w β xs vs:=⟨by omega,fun j c u hc hu=>by
   obtain⟨hlt,_⟩:=List.getElem?_eq_some_iff.1 hc
   have hj:ys[j]? = some ys[j]:=List.getElem?_eq_getElem (by omega)
   exact recD_of (hg j c _ hc hj) (h2 j _ u hj hu)⟩
  have hall:RepL S w β (args.map (opnd sl)++xs) (args.map a.eval++vs):=(RepL.evals _ fun x hx=>ha x (mo ho (by simp [Op.operands,Call.operands];exact .inr hx))).append hcaps
  have hin:Inv ⟨w,S,fun _=>False,fun _ _=>False,C.G⟩ S w β []:=hi.begin hi.Slt (fun _ h=>h)
  obtain⟨g1,g2⟩:=coerceL_rep hin (SExt.refl S w) (by simp) hargs hall
  have hcall:=hc.2 ⟨w,S,fun _=>False,fun _ _=>False,C.G⟩ β _ hin g1
  refine Or.inl ?_
  unfold Oper.wp
  rw [run_enter hc.1 ho hfv,Oper.upon_enter]
  have hargsEq:args.toArray.map a.eval++(⟨vs⟩:Array Value)=⟨args.map a.eval++vs⟩:=by apply Array.ext';simp
  rw [hargsEq]
  refine hcall.mono ?_
  rintro e w' ⟨v,S',β',rfl,hk,hv⟩
  obtain⟨q1,q2⟩:=hi.back hk
  have e':SExt S' w' (fun b=>S b∨(S' b∧w.heap.size≤b)) w':=⟨fun b hb=>by
   rcases hk.Snew b hb with h | h | h
   ·exact .inl h
   ·exact h.elim
   ·exact .inr ⟨hb,h⟩,fun _ _=>rfl⟩
  exact⟨v,_,β,rfl,q1,q2,(hv.ext e' (fun _ _=>rfl)).closed hr,fun _ _=>rfl⟩
theorem opQ_min {x y:Operand} {tys:Array TypeId} {m n:Int} (hx:opnd sl x=.d (.int .i64 m))(hy:opnd sl y=.d (.int .i64 n)) :
  OpQ P sl bx (.call ⟨.builtin .min,#[x,y],tys⟩) (.d (.int .i64 (if n < m then n else m))):=by
 intro o ho
 refine OpT.of_value fun C S w β a hi ha=>?_
 have h1:=ha x (mC ho);rw [hx] at h1;have h1:=h1.inv_int
 have h2:=ha y (mC ho);rw [hy] at h2;have h2:=h2.inv_int
 refine⟨.int .i64 (if n < m then n else m),?_,.d _ _ (.int _ _)⟩
 simp [execOp,ho,resolve,invoke,builtin,Builtin.min_,Builtin.min2,h1,h2]
def FnOK (P:Program)(d:D)(args:List SV)(r:SV):Prop:=∃ f xs ys args',d=.cl f ys∧recDs xs ys∧coerceL [] (args++xs)=some args'∧CallOK P f args' r
theorem opQ_callFn {d:D} {fo:Operand} {args:List Operand} {tys:List TypeId} {r:SV} (hf:opnd sl fo=.d d)(h:FnOK P d (args.map (opnd sl)) r)(hr:r.closed=true) :
  OpQ P sl bx (.call ⟨.value fo,args.toArray,tys.toArray⟩) r:=by
 obtain⟨f,xs,ys,args',rfl,h1,h2,h3⟩:=h
 exact opQ_callCl h1 hf h2 h3 hr
theorem CallOK.ptr {f:FuncId} {c:List D} {args:List SV} {r:SV} (h:CallOK P f (.dptr c 0::args) r):CallOK P f (.d (.ptr c)::args) r:=by
 refine⟨h.1,fun C β vs hi hv=>h.2 C β vs hi ?_⟩
 cases vs with
 | nil=>exact absurd hv.1 (by simp)
 | cons v vs =>
  have h0:=hv.2 0 _ v rfl rfl
  refine .cons ?_ ?_
  ·have:=h0.inv_d
   cases this with
   | ptr _ b base q1 q2 q3 q4=>exact .dptr _ 0 b base q1 q2 q3 q4
  ·exact⟨by have:=hv.1;simp at this ⊢;omega,fun j c u hc hu=>hv.2 (j+1) c u hc hu⟩
def toDsP:List SV→Option (List D)
 | []=>some []
 | .dptr c 0::r=>(toDsP r).map (.ptr c::·)
 | .clo f []::r=>(toDsP r).map (.cl f []::·)
 | x::r=>match toDs [x] with
  | some [d]=>(toDsP r).map (d::·)
  | _=>none
theorem toDsP_rep {S:Nat→Prop} {w:World} {β:Names}:∀ (cs:List SV)(ds:List D)(vs:List Value),toDsP cs=some ds→RepL S w β cs vs →
  ds.length=cs.length∧(∀ d,d∈ds→d.one=true)∧∀ (j:Nat) (d:D) (v:Value),ds[j]? = some d→vs[j]? = some v→RepC S w d v
 | [],ds,vs,h,hr=>by simp only [toDsP,Option.some.injEq] at h;subst h;simp
 | c::cs,ds,vs,h,hr=>by
  cases vs with
  | nil=>exact absurd hr.1 (by simp)
  | cons v vs =>
   have hr':RepL S w β cs vs:=⟨by have:=hr.1;simp at this ⊢;omega,fun j c u hc hu=>hr.2 (j+1) c u hc hu⟩
   have h0:=hr.2 0 c v rfl rfl
   have key:∃ d l,ds=d::l∧toDsP cs=some l∧d.one=true∧RepC S w d v:=by
    unfold toDsP at h
    split at h
    ·rename_i heq;cases heq
    ·rename_i c' r heq
     cases heq
     rw [Option.map_eq_some_iff] at h
     obtain⟨l,h1,rfl⟩:=h
     obtain⟨b,base,q⟩:=h0.inv_dptr
     refine⟨_,l,rfl,h1,rfl,?_⟩
     rw [q.v,Nat.add_zero]
     exact .ptr _ b base q.inS q.one q.there q.rep
    ·rename_i f r heq
     cases heq
     rw [Option.map_eq_some_iff] at h
     obtain⟨l,h1,rfl⟩:=h
     refine⟨_,l,rfl,h1,rfl,?_⟩
     cases h0 with
     | clo _ _ vs g1 g2 =>
      obtain rfl:vs=[]:=List.eq_nil_of_length_eq_zero (by simpa using g1)
      exact .cl f [] [] rfl (by simp)
    ·rename_i x r _ _ heq
     cases heq
     split at h
     ·rename_i d hd
      rw [Option.map_eq_some_iff] at h
      obtain⟨l,h1,rfl⟩:=h
      obtain⟨_,g2,g3⟩:=toDs_rep [_] [d] [v] hd (.cons h0 .nil)
      exact⟨d,l,rfl,h1,g2 d (by simp),g3 0 d v rfl rfl⟩
     ·cases h
   obtain⟨d,l,rfl,h1,h2,h3⟩:=key
   obtain⟨g1,g2,g3⟩:=toDsP_rep cs l vs h1 hr'
   refine⟨by simp [g1],fun x hx=>?_,fun j x u hx hu=>?_⟩
   ·rcases List.mem_cons.1 hx with rfl | hx
    ·exact h2
    ·exact g2 x hx
   ·match j with
    | 0 =>
     simp only [List.getElem?_cons_zero,Option.some.injEq] at hx hu
     subst hx;subst hu;exact h3
    | j+1 =>
     simp only [List.getElem?_cons_succ] at hx hu
     exact g3 j x u hx hu
variable {ro:Option Nat} {n:Nat} {Q:Exit→SL→Boxes→Prop}
theorem AWp.freezeP {c:Code} (k:Nat) {cs:List SV} {ds:List D} (hk:bget bx k=some (.cells cs))(hd:toDsP cs=some ds)
  (h:AWp ro P n c Q (subSl k ⟨fun off=>.dptr ds off,.acc k,.mp k⟩ sl) (subBx k ⟨fun off=>.dptr ds off,.acc k,.mp k⟩ (berase k bx))):AWp ro P n c Q sl bx:=by
 refine AWp.pubCore k (mem_of_bget hk) (fun S w β hb hS=>⟨fun off v hv=>?_,fun v hv=>hv,fun v hv=>hv,fun _=>rfl,rfl,rfl⟩) h
 obtain⟨b,ty,vs,h1,h2,h3⟩:=hb
 obtain⟨q1,q2,q3⟩:=toDsP_rep cs ds vs hd h3
 have hl:=h3.1
 cases hv with
 | box _ _ b' hb' =>
  rw [h1] at hb';cases hb'
  have:=RepV.dptr (S:=S) (w:=w) (β:=β) ds off b 0 (hS b h1) q2 (fun j hj=>⟨vs[j]'(by omega),by rw [cells_of_row h2,Nat.zero_add];exact List.getElem?_eq_getElem _⟩)
   (fun j d v hd hv=>q3 j d v hd (by rw [cells_of_row h2,Nat.zero_add] at hv;exact hv))
  simpa using this
end Go.Abs
