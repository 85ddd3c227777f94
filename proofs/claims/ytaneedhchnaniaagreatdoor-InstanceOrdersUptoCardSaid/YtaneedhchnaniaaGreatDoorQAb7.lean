/- Calls that hand back two slices of their own; bytes to a string. Own framework. -/
import Derived.Laws.IdiomStrings
import Derived.Test.YtaneedhchnaniaaGreatDoorQAb6
set_option linter.unusedVariables false
set_option linter.unusedSimpArgs false
namespace Go.Abs
open Go
variable {P:Program} {sl:SL} {bx:Boxes}
def two (q1 q2 k1 k2:Nat)(q:Nat):Nat:=if q=q1 then k1 else if q=q2 then k2 else q
theorem opB_call2 {f:FuncId} {fo:Operand} {args:List Operand} {tys:List TypeId} {dst:Option Nat} {caps args':List SV} {r:SV} {q1 q2 sz1 sz2:Nat} {rows1 rows2:List (List D)} (k1 k2:Nat)
  (hf:opnd sl fo=.clo f caps) (hargs:coerceL [] (args.map (opnd sl)++caps)=some args') (hc:CallB P f args' [] r [(q1,.rows sz1 rows1),(q2,.rows sz2 rows2)]) (hr:r.only [q1,q2]=true) (hq:q1≠q2)
  (h1:k1≤999999) (h2:k2≤999999) (hk:k1≠k2) (f1:hasBx k1 bx=false) (f2:hasBx k2 bx=false) :
  OpB P sl bx dst (.call ⟨.value fo,args.toArray,tys.toArray⟩) (r.ren (two q1 q2 k1 k2)) ((k1,.rows sz1 rows1)::(k2,.rows sz2 rows2)::bx) [k1,k2]:=by
 intro o ho _ C S w β a hi ha
 have hf1:=ha fo (mC ho)
 rw [hf] at hf1
 generalize hfv:a.eval fo=v at hf1
 cases hf1 with
 | clo _ _ cs g1 g2 =>
  have hall:RepL S w β (args.map (opnd sl)++caps) (args.map a.eval++cs):=(RepL.evals _ fun x hx=>ha x (mo ho (by simp [Op.operands,Call.operands];exact .inr hx))).append ⟨g1,g2⟩
  have hin:Inv ⟨w,S,fun _=>False,fun _ _=>False,C.G⟩ S w β []:=hi.begin hi.Slt (fun _ h=>h)
  obtain⟨r1,r2⟩:=coerceL_rep hin (SExt.refl S w) (by simp) hargs hall
  have hcall:=hc.2 ⟨w,S,fun _=>False,fun _ _=>False,C.G⟩ β _ hin r1
  refine Or.inl ?_
  unfold Oper.wp
  rw [run_enter hc.1 ho hfv,Oper.upon_enter]
  have hargsEq:(args.toArray.map a.eval)++(⟨cs⟩:Array Value)=⟨args.map a.eval++cs⟩:=by apply Array.ext';simp
  rw [hargsEq]
  refine hcall.mono ?_
  rintro e w' ⟨v,S',β',rfl,hI,hv⟩
  have hsz:w.heap.size≤w'.heap.size:=hI.size
  have hSn:∀ b,S' b→S b∨w.heap.size≤b:=fun b hb=>by
   rcases hI.Snew b hb with h | h | h
   ·exact .inl h
   ·exact h.elim
   ·exact .inr h
  have e:SExt S w S' w':=⟨hI.S0sub,fun b hb=>hI.kept b (hi.Slt b hb) id⟩
  have u1:upd (upd β k2 (β' q2)) k1 (β' q1) k1 = β' q1:=upd_same ..
  have u2:upd (upd β k2 (β' q2)) k1 (β' q1) k2 = β' q2:=by rw [upd_ne (Ne.symm hk),upd_same]
  have u3:∀ j,j≠k1→j≠k2→upd (upd β k2 (β' q2)) k1 (β' q1) j = β j:=fun j a b=>by rw [upd_ne a,upd_ne b]
  have m1:(q1,BoxC.rows sz1 rows1)∈[(q1,BoxC.rows sz1 rows1),(q2,.rows sz2 rows2)]:=by simp
  have m2:(q2,BoxC.rows sz2 rows2)∈[(q1,BoxC.rows sz1 rows1),(q2,.rows sz2 rows2)]:=by simp
  have hnew:∀ q c,(q,c)∈[(q1,BoxC.rows sz1 rows1),(q2,.rows sz2 rows2)]→∀ b,(β' q).base=some b→¬ S' b∧b < w'.heap.size∧w.heap.size≤b:=fun q c hm b hb=>by
   obtain⟨p1,p2,p3⟩:=hI.priv q c hm b hb
   exact⟨p1,p2,p3.resolve_left id⟩
  have hold:∀ k c,(k,c)∈bx→k≠k1∧k≠k2∧(∀ j,c.has j=true→j≠k1∧j≠k2):=fun k c hm=>by
   obtain⟨a1,a2⟩:=hasBx_mem f1 k c hm
   obtain⟨b1,b2⟩:=hasBx_mem f2 k c hm
   exact⟨a1,b1,fun j hj=>⟨fun he=>by subst he;rw [a2] at hj;simp at hj,fun he=>by subst he;rw [b2] at hj;simp at hj⟩⟩
  have hcase:∀ k c,(k,c)∈(k1,BoxC.rows sz1 rows1)::(k2,.rows sz2 rows2)::bx→(k=k1∧c=.rows sz1 rows1)∨(k=k2∧c=.rows sz2 rows2)∨(k,c)∈bx:=fun k c hm=>by
   simp only [List.mem_cons,Prod.mk.injEq] at hm
   exact hm
  refine⟨v,S',upd (upd β k2 (β' q2)) k1 (β' q1),rfl,?_,e,hv.ren fun k hkk=>?_,fun j hj=>?_⟩
  ·refine hi.step e hSn hI.Slt (fun b hb _=>hI.kept b hb id) hI.os hI.tape hI.output hsz ?_ ?_ (fun j hj=>u3 j (by omega) (by omega)) ?_
   ·intro k c hm
    rcases hcase k c hm with ⟨rfl,rfl⟩ | ⟨rfl,rfl⟩ | hm
    ·rw [u1]
     exact⟨BoxOK.ext (c:=.rows sz1 rows1) (hI.box q1 _ m1) (SExt.refl _ _) (fun _ _=>rfl) (by simp [BoxC.has]),fun b hb=>⟨(hnew _ _ m1 b hb).1,(hnew _ _ m1 b hb).2.1,.inl (hnew _ _ m1 b hb).2.2⟩⟩
    ·rw [u2]
     exact⟨BoxOK.ext (c:=.rows sz2 rows2) (hI.box q2 _ m2) (SExt.refl _ _) (fun _ _=>rfl) (by simp [BoxC.has]),fun b hb=>⟨(hnew _ _ m2 b hb).1,(hnew _ _ m2 b hb).2.1,.inl (hnew _ _ m2 b hb).2.2⟩⟩
    ·obtain⟨a1,a2,a3⟩:=hold k c hm
     rw [u3 k a1 a2]
     obtain⟨p1,p2,p3⟩:(∀ b,(β k).base=some b→¬ S b)∧(∀ b,(β k).base=some b→b < w.heap.size)∧True:=⟨fun b hb=>(hi.priv k c hm b hb).1,fun b hb=>(hi.priv k c hm b hb).2.1,trivial⟩
     refine⟨(hi.box k c hm).ext e (fun b hb=>hI.kept b (p2 b hb) id) (fun j hj=>u3 j (a3 j hj).1 (a3 j hj).2),fun b hb=>⟨fun hs=>?_,Nat.lt_of_lt_of_le (p2 b hb) hsz,.inr ⟨k,c,hm,hb⟩⟩⟩
     rcases hSn b hs with h | h
     ·exact p1 b hb h
     ·have:=p2 b hb;omega
   ·intro k c k' c' hm hm' b hb hb'
    have low:∀ k c,(k,c)∈bx→(upd (upd β k2 (β' q2)) k1 (β' q1) k).base=some b→b < w.heap.size:=fun k c hm hb=>by
     rw [u3 k (hold k c hm).1 (hold k c hm).2.1] at hb
     exact (hi.priv k c hm b hb).2.1
    rcases hcase k c hm with ⟨rfl,rfl⟩ | ⟨rfl,rfl⟩ | hm
    ·rw [u1] at hb
     rcases hcase k' c' hm' with ⟨rfl,rfl⟩ | ⟨rfl,rfl⟩ | hm'
     ·exact⟨rfl,rfl⟩
     ·rw [u2] at hb';exact absurd (hI.inj _ _ _ _ m1 m2 b hb hb').1 hq
     ·have:=low _ _ hm' hb';have:=(hnew _ _ m1 b hb).2.2;omega
    ·rw [u2] at hb
     rcases hcase k' c' hm' with ⟨rfl,rfl⟩ | ⟨rfl,rfl⟩ | hm'
     ·rw [u1] at hb';exact absurd (hI.inj _ _ _ _ m1 m2 b hb' hb).1 hq
     ·exact⟨rfl,rfl⟩
     ·have:=low _ _ hm' hb';have:=(hnew _ _ m2 b hb).2.2;omega
    ·have hlt:=low _ _ hm hb
     rcases hcase k' c' hm' with ⟨rfl,rfl⟩ | ⟨rfl,rfl⟩ | hm'
     ·rw [u1] at hb';have:=(hnew _ _ m1 b hb').2.2;omega
     ·rw [u2] at hb';have:=(hnew _ _ m2 b hb').2.2;omega
     ·rw [u3 k (hold k c hm).1 (hold k c hm).2.1] at hb
      rw [u3 k' (hold k' c' hm').1 (hold k' c' hm').2.1] at hb'
      exact hi.inj k c k' c' hm hm' b hb hb'
   ·intro k Y st hm
    rcases hcase k _ hm with ⟨_,h⟩ | ⟨_,h⟩ | hm
    ·cases h
    ·cases h
    ·exact hm
  ·have:=SV.only_has hr hkk
   simp only [List.mem_cons,List.not_mem_nil,or_false] at this
   rcases this with rfl | rfl
   ·simp only [two,if_true];exact u1
   ·simp only [two,if_neg (Ne.symm hq),if_true];exact u2
  ·simp only [List.mem_cons,List.not_mem_nil,or_false,not_or] at hj
   exact u3 j hj.1 hj.2
theorem CallB.pubAll {f:FuncId} {args:List SV} {r r':SV} {post:Boxes} (h:CallB P f args [] r post)(hr:bxReal post=true)(hc:coerce post r=some r'):CallOK P f args r':=by
 refine⟨h.1,fun C β vs hi hv=>(h.2 C β vs hi hv).mono ?_⟩
 rintro e w' ⟨v,S',β',rfl,hk,hv⟩
 refine⟨v,fun b=>S' b∨∃ k c,(k,c)∈post∧(β' k).base=some b,β',rfl,?_,(coerce_rep hk ⟨fun _ h=>.inl h,fun _ _=>rfl⟩ (fun k c hm b hb=>.inr ⟨k,c,hm,hb⟩) hc hv).1⟩
 exact {
  S0sub:=fun b hb=>.inl (hk.S0sub b hb)
  Snew:=fun b hb=>by
   rcases hb with hb | ⟨k,c,hm,hb⟩
   ·exact hk.Snew b hb
   ·exact .inr (hk.priv k c hm b hb).2.2
  Slt:=fun b hb=>by
   rcases hb with hb | ⟨k,c,hm,hb⟩
   ·exact hk.Slt b hb
   ·exact (hk.priv k c hm b hb).2.1
  kept:=hk.kept
  os:=hk.os
  tape:=hk.tape
  output:=hk.output
  size:=hk.size
  box:=fun k c hm=>by simp at hm
  priv:=fun k c hm=>by simp at hm
  inj:=fun k c k' c' hm=>by simp at hm
  tab:=fun b cs hb=>⟨.inl (hk.tab b cs hb).1,(hk.tab b cs hb).2⟩
  one:=fun k Y st k' Y' st' hm=>by simp at hm
  frn:=fun k Y st hm=>by simp at hm
  fix:=hk.fix }
end Go.Abs
