/- calls that are lent a variable and the own slice that it holds -/
import Derived.Test.YtbhbfpjnenekpaaGreatDoorJAb4
namespace Go.Abs
set_option linter.unusedSimpArgs false
set_option linter.unusedVariables false
open Go
set_option maxRecDepth 100000
variable {ro:Option Nat} {P:Program} {n:Nat} {Q:Exit→SL→Boxes→Prop} {sl:SL} {bx:Boxes} {o:Oper} {ρ:Rho}
theorem repL_acc {S S':Nat→Prop} {w w':World} {β β':Names} {q j:Nat} {cs:List SV} {vs:List Value} (h:RepL S w β (.acc q::cs) vs)(e:SExt S w S' w')(hj:β' j = β q)(hc:SV.closedAll cs=true):RepL S' w' β' (.acc j::cs) vs:=by
 refine⟨by have:=h.1;simpa using this,fun i c v hi hv=>?_⟩
 cases i with
 | zero =>
  simp only [List.getElem?_cons_zero,Option.some.injEq] at hi
  subst hi
  have h0:=h.2 0 (.acc q) v rfl hv
  cases h0
  rw [← hj]
  exact .acc j
 | succ i =>
  have h0:=h.2 (i+1) c v (by simpa using hi) hv
  exact (h0.ext (β':=β) e (fun _ _=>rfl)).closed (SV.closedAll_true hc i c (by simpa using hi))
theorem opT_callBox2 {f:FuncId} {fo:Operand} {args:Array Operand} {tys:Array TypeId} (ho:o.op=.call { callee:=.value fo,args:=args,argTypes:=tys }) {caps args':List SV} {r:SV} {k q sz:Nat} {cs cs':List SV} {rs rs':List (List D)}
  (hf:ρ fo=.clo f caps) (hb:(k,BoxC.cells (.acc q::cs))∈bx) (hq:(q,BoxC.rows sz rs)∈bx) (hkq:k≠q) (hq6:q < 1000000) (hcc:SV.closedAll cs=true) (hcc':SV.closedAll cs'=true)
  (hno:∀ k' c',(k',c')∈bx→k'≠k→c'.has q=false) (hreal:∀ k' c',(k',c')∈bx→c'.real=true)
  (hargs:lendL k 1000000 (args.toList.map ρ++caps)=some args') (h7:SV.hasAny 7 args'=false)
  (hc:CallB P f args' [(1000000,.cells (.acc 7::cs)),(7,.rows sz rs)] r [(1000000,.cells (.acc 7::cs')),(7,.rows sz rs')]) (hr:r.closed=true) :
  OpT P o ρ bx r ((k,.cells (.acc q::cs'))::(q,.rows sz rs')::berase k (berase q bx)) [q]:=by
 intro C S w β a hi ha
 have hf1:=(ha fo (mC ho));rw [hf] at hf1
 generalize hfv:a.eval fo=v at hf1
 cases hf1 with
 | clo _ _ cs0 h1 h2 =>
  have hall:RepL S w β (args.toList.map ρ++caps) (args.toList.map a.eval++cs0):=(RepL.evals _ fun x hx=>ha x (mo ho (by simp [Op.operands,Call.operands];simp at hx;exact .inr hx))).append ⟨h1,h2⟩
  have hin0:Inv ⟨w,S,fun _=>False,fun _ _=>False,C.G⟩ S w β []:=hi.begin hi.Slt (fun _ h=>h)
  have g0:=lendL_rep (j:=1000000) hin0 hargs hall
  obtain⟨β1,hβ1⟩:∃ β1,β1=upd (upd β 1000000 (β k)) 7 (β q):=⟨_,rfl⟩
  have hb6:β1 1000000 = β k:=by rw [hβ1,upd_ne (by decide),upd_same]
  have hb7:β1 7 = β q:=by rw [hβ1,upd_same]
  have g1:RepL S w β1 args' (args.toList.map a.eval++cs0):=⟨g0.1,fun i c v hc' hv=>(g0.2 i c v hc' hv).ext (SExt.refl S w) fun x hx=>by
   have hx7:x≠7:=by
    rintro rfl
    rw [SV.hasAny_false h7 i c hc'] at hx;simp at hx
   rw [hβ1,upd_ne hx7]⟩
  have hp:=hi.priv k _ hb
  have hpq:=hi.priv q _ hq
  have hbk:=hi.box k _ hb
  have hbq:=hi.box q _ hq
  have hin:Inv ⟨w,S,fun i=>(β k).base=some i∨(β q).base=some i,fun i x=>i=1000000∧x = β k,C.G⟩ S w β1 [(1000000,.cells (.acc 7::cs)),(7,.rows sz rs)]:={
   S0sub:=fun _ h=>h
   Snew:=fun _ h=>.inl h
   Slt:=hi.Slt
   kept:=fun _ _ _=>rfl
   os:=rfl
   tape:=rfl
   output:=rfl
   size:=Nat.le_refl _
   box:=fun k' c'' hk'=>by
    simp only [List.mem_cons,Prod.mk.injEq,List.not_mem_nil,or_false] at hk'
    rcases hk' with ⟨rfl,rfl⟩ | ⟨rfl,rfl⟩
    ·rw [hb6]
     obtain⟨b,ty,vs,e1,e2,e3⟩:=hbk
     exact⟨b,ty,vs,e1,e2,repL_acc e3 (SExt.refl S w) hb7 hcc⟩
    ·rw [hb7];exact hbq
   priv:=fun k' c'' hk' b' hb'=>by
    simp only [List.mem_cons,Prod.mk.injEq,List.not_mem_nil,or_false] at hk'
    rcases hk' with ⟨rfl,rfl⟩ | ⟨rfl,rfl⟩
    ·rw [hb6] at hb';exact⟨(hp b' hb').1,(hp b' hb').2.1,.inl (.inl hb')⟩
    ·rw [hb7] at hb';exact⟨(hpq b' hb').1,(hpq b' hb').2.1,.inl (.inr hb')⟩
   inj:=fun k1 c1 k2 c2 h1 h2 b' hb1 hb2=>by
    simp only [List.mem_cons,Prod.mk.injEq,List.not_mem_nil,or_false] at h1 h2
    rcases h1 with ⟨rfl,rfl⟩ | ⟨rfl,rfl⟩ <;> rcases h2 with ⟨rfl,rfl⟩ | ⟨rfl,rfl⟩
    ·exact⟨rfl,rfl⟩
    ·rw [hb6] at hb1;rw [hb7] at hb2;exact absurd (hi.inj k _ q _ hb hq b' hb1 hb2).1 hkq
    ·rw [hb7] at hb1;rw [hb6] at hb2;exact absurd (hi.inj k _ q _ hb hq b' hb2 hb1).1 hkq
    ·exact⟨rfl,rfl⟩
   tab:=hi.tab
   one:=fun k' Y st k'' Y' st' hk'=>by simp at hk'
   frn:=fun k' Y st hk'=>by simp at hk'
   fix:=fun k' b' h=>by
    obtain⟨rfl,rfl⟩:=h
    exact⟨Nat.le_refl _,hb6⟩ }
  have hcall:=hc.2 ⟨w,S,fun i=>(β k).base=some i∨(β q).base=some i,fun i x=>i=1000000∧x = β k,C.G⟩ _ _ hin g1
  refine Or.inl ?_
  unfold Oper.wp
  rw [run_enter hc.1 ho hfv,Oper.upon_enter]
  have hargsEq:args.map a.eval++(⟨cs0⟩:Array Value)=⟨args.toList.map a.eval++cs0⟩:=by apply Array.ext';simp
  rw [hargsEq]
  refine hcall.mono ?_
  rintro e w' ⟨v,S',β',rfl,hk,hv⟩
  have hfix:β' 1000000 = β k:=(hk.fix 1000000 _ ⟨rfl,rfl⟩).2
  have hpk:∀ b,(β k).base=some b→¬ S' b∧b < w'.heap.size:=fun b hb'=>by
   have:=hk.priv 1000000 (.cells (.acc 7::cs')) (by simp) b (by rw [hfix];exact hb');exact⟨this.1,this.2.1⟩
  have hp7:=hk.priv 7 (.rows sz rs') (by simp)
  have hsz:w.heap.size≤w'.heap.size:=hk.size
  have hkept:∀ b',b' < w.heap.size→(β k).base≠some b'→(β q).base≠some b'→w'.heap[b']? = w.heap[b']?:=fun b' h1 h2 h3=>hk.kept b' h1 (fun h=>h.elim h2 h3)
  obtain⟨S2,hS2⟩:∃ S2:Nat→Prop,S2=fun b=>S b∨(S' b∧(w.heap.size≤b∨(β q).base=some b)):=⟨_,rfl⟩
  have hS2l:∀ b,S b→S2 b:=fun b h=>by rw [hS2];exact .inl h
  have hS2r:∀ b,S2 b→S b∨(S' b∧(w.heap.size≤b∨(β q).base=some b)):=fun b h=>by rw [hS2] at h;exact h
  have e1:SExt S w S2 w':=⟨hS2l,fun b' hb'=>hkept b' (hi.Slt b' hb') (fun he=>(hp b' he).1 hb') fun he=>(hpq b' he).1 hb'⟩
  have e2:SExt S' w' S2 w':=⟨fun b' hb'=>by
   rcases hk.Snew b' hb' with h | h | h
   ·exact hS2l b' h
   ·rcases h with h | h
    ·exact ((hpk b' h).1 hb').elim
    ·rw [hS2];exact .inr ⟨hb',.inr h⟩
   ·rw [hS2];exact .inr ⟨hb',.inl h⟩,fun _ _=>rfl⟩
  obtain⟨β2,hβ2⟩:∃ β2,β2=upd β q (β' 7):=⟨_,rfl⟩
  have hb2q:β2 q = β' 7:=by rw [hβ2,upd_same]
  have hb2:∀ x,x≠q→β2 x = β x:=fun x hx=>by rw [hβ2,upd_ne hx]
  have hsplit:∀ k' c',(k',c')∈((k,BoxC.cells (.acc q::cs'))::(q,BoxC.rows sz rs')::berase k (berase q bx))→(k'=k∧c'=.cells (.acc q::cs'))∨(k'=q∧c'=.rows sz rs')∨(k'≠k∧k'≠q∧(k',c')∈bx):=fun k' c' h=>by
   simp only [List.mem_cons,Prod.mk.injEq] at h
   rcases h with h | h | h
   ·exact .inl h
   ·exact .inr (.inl h)
   ·obtain⟨n1,h⟩:=mem_berase.1 h
    obtain⟨n2,h⟩:=mem_berase.1 h
    exact .inr (.inr ⟨n1,n2,h⟩)
  have hbase:∀ k' c',(k',c')∈((k,BoxC.cells (.acc q::cs'))::(q,BoxC.rows sz rs')::berase k (berase q bx))→∀ b,(β2 k').base=some b→¬ S2 b∧b < w'.heap.size∧(C.pre b∨C.w0.heap.size≤b):=fun k' c' h b hb'=>by
   have hsz0:=hi.size
   rcases hsplit k' c' h with ⟨rfl,rfl⟩ | ⟨rfl,rfl⟩ | ⟨n1,n2,h⟩
   ·rw [hb2 _ hkq] at hb'
    exact⟨fun hs=>(hS2r b hs).elim (hp b hb').1 fun hs=>(hpk b hb').1 hs.1,(hpk b hb').2,(hp b hb').2.2⟩
   ·rw [hb2q] at hb'
    obtain⟨p1,p2,p3⟩:=hp7 b hb'
    refine⟨fun hs=>(hS2r b hs).elim (fun hs=>?_) fun hs=>p1 hs.1,p2,?_⟩
    ·exact p1 (hk.S0sub b hs)
    ·rcases p3 with (h3 | h3) | h3
     ·exact (hp b h3).2.2
     ·exact (hpq b h3).2.2
     ·exact .inr (Nat.le_trans hsz0 h3)
   ·rw [hb2 _ n2] at hb'
    obtain⟨p1,p2,p3⟩:=hi.priv k' c' h b hb'
    refine⟨fun hs=>(hS2r b hs).elim p1 fun hs=>?_,by omega,p3⟩
    rcases hs.2 with h4 | h4
    ·omega
    ·exact n2 (hi.inj k' c' q _ h hq b hb' h4).1
  refine⟨v,S2,β2,rfl,?_,e1,(hv.ext (β':=β') e2 (fun _ _=>rfl)).closed hr,fun x hx=>hb2 x (by simpa using hx)⟩
  exact {
   S0sub:=fun b hb'=>hS2l b (hi.S0sub b hb')
   Snew:=fun b hb'=>by
    rcases hS2r b hb' with h | ⟨_,h | h⟩
    ·exact hi.Snew b h
    ·exact .inr (.inr (Nat.le_trans hi.size h))
    ·exact .inr (hpq b h).2.2
   Slt:=fun b hb'=>by
    rcases hS2r b hb' with h | ⟨h,_⟩
    ·have:=hi.Slt b h;omega
    ·exact hk.Slt b h
   kept:=fun b hlt hn=>by
    have hsz0:=hi.size
    rw [hkept b (by omega) (fun he=>?_) fun he=>?_]
    ·exact hi.kept b hlt hn
    ·rcases (hp b he).2.2 with h | h
     ·exact hn h
     ·omega
    ·rcases (hpq b he).2.2 with h | h
     ·exact hn h
     ·omega
   os:=hk.os.trans hi.os
   tape:=hk.tape.trans hi.tape
   output:=hk.output.trans hi.output
   size:=Nat.le_trans hi.size hsz
   box:=fun k' c' h=>by
    rcases hsplit k' c' h with ⟨rfl,rfl⟩ | ⟨rfl,rfl⟩ | ⟨n1,n2,h⟩
    ·have h0:=hk.box 1000000 (.cells (.acc 7::cs')) (by simp)
     rw [hfix] at h0
     rw [hb2 _ hkq]
     obtain⟨b,ty,vs,q1,q2,q3⟩:=h0
     exact⟨b,ty,vs,q1,q2,repL_acc q3 e2 hb2q hcc'⟩
    ·have h0:=hk.box 7 (.rows sz rs') (by simp)
     rw [hb2q]
     exact h0.ext e2 (fun _ _=>rfl) (fun _ hx=>by simp [BoxC.has] at hx)
    ·rw [hb2 _ n2]
     have hn:=hno k' c' h n1
     refine (hi.box k' c' h).ext e1 (fun b hb'=>?_) fun x hx=>hb2 x (by rintro rfl;rw [hn] at hx;simp at hx)
     obtain⟨p1,p2,p3⟩:=hi.priv k' c' h b hb'
     exact hkept b p2 (fun he=>n1 (hi.inj k' c' k _ h hb b hb' he).1) fun he=>n2 (hi.inj k' c' q _ h hq b hb' he).1
   priv:=hbase
   inj:=fun k1 c1 k2 c2 h1 h2 b hb1 hb2'=>by
    have old:∀ k' c',(k',c')∈bx→k'≠k→k'≠q→∀ b,(β k').base=some b→(β' 7).base≠some b:=fun k' c' h n1 n2 b hb' h7'=>by
     obtain⟨p1,p2,p3⟩:=hi.priv k' c' h b hb'
     rcases (hp7 b h7').2.2 with (h3 | h3) | h3
     ·exact n1 (hi.inj k' c' k _ h hb b hb' h3).1
     ·exact n2 (hi.inj k' c' q _ h hq b hb' h3).1
     ·have:w.heap.size≤b:=h3
      omega
    have h67:∀ b,(β k).base=some b→(β' 7).base≠some b:=fun b hb' h7'=>by
     have:=(hk.inj 1000000 (.cells (.acc 7::cs')) 7 (.rows sz rs') (by simp) (by simp) b (by rw [hfix];exact hb') h7').1
     simp at this
    rcases hsplit k1 c1 h1 with ⟨rfl,rfl⟩ | ⟨rfl,rfl⟩ | ⟨n1,n2,g1'⟩ <;> rcases hsplit k2 c2 h2 with ⟨hk2,rfl⟩ | ⟨hk2,rfl⟩ | ⟨m1,m2,g2'⟩
    ·exact⟨hk2.symm,rfl⟩
    ·subst hk2;rw [hb2 _ hkq] at hb1;rw [hb2q] at hb2';exact absurd hb2' (h67 b hb1)
    ·rw [hb2 _ hkq] at hb1;rw [hb2 _ m2] at hb2';exact absurd (hi.inj _ _ _ _ g2' hb b hb2' hb1).1 m1
    ·subst hk2;rw [hb2q] at hb1;rw [hb2 _ hkq] at hb2';exact absurd hb1 (h67 b hb2')
    ·exact⟨hk2.symm,rfl⟩
    ·rw [hb2q] at hb1;rw [hb2 _ m2] at hb2';exact absurd hb1 (old _ _ g2' m1 m2 b hb2')
    ·subst hk2;rw [hb2 _ hkq] at hb2';rw [hb2 _ n2] at hb1;exact absurd (hi.inj _ _ _ _ g1' hb b hb1 hb2').1 n1
    ·subst hk2;rw [hb2q] at hb2';rw [hb2 _ n2] at hb1;exact absurd hb2' (old _ _ g1' n1 n2 b hb1)
    ·rw [hb2 _ n2] at hb1;rw [hb2 _ m2] at hb2';exact hi.inj _ _ _ _ g1' g2' b hb1 hb2'
   tab:=fun b cs'' h=>by
    obtain⟨t1,ty,fr,t2⟩:=hi.tab b cs'' h
    exact⟨hS2l b t1,ty,fr,by rw [e1.same b t1];exact t2⟩
   one:=fun k' Y st k'' Y' st' h=>by
    rcases hsplit k' _ h with ⟨_,h⟩ | ⟨_,h⟩ | ⟨_,_,h⟩
    ·cases h
    ·cases h
    ·have:=hreal _ _ h;simp [BoxC.real] at this
   frn:=fun k' Y st h=>by
    rcases hsplit k' _ h with ⟨_,h⟩ | ⟨_,h⟩ | ⟨_,_,h⟩
    ·cases h
    ·cases h
    ·have:=hreal _ _ h;simp [BoxC.real] at this
   fix:=fun k' i h=>by
    obtain⟨f1,f2⟩:=hi.fix k' i h
    exact⟨f1,by rw [hb2 k' (by omega)];exact f2⟩ }
end Go.Abs
