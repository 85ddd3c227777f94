/- slices.Grow of nil, slices.Concat[Formal] of two, bind.Join, table.Formals -/
import Derived.Test.YtenheogknlmohaaGreatDoorYShelf
import Derived.Test.YtenheogknlmohaaGreatDoorYS14
import Derived.Test.YtenheogknlmohaaGreatDoorYS10
namespace Go.Abs
set_option linter.unusedSimpArgs false
set_option linter.unusedVariables false
open Go Go.Proofs
set_option maxRecDepth 100000
set_option maxHeartbeats 1000000
def one1 (q1 k1:Nat)(q:Nat):Nat:=if q=q1 then k1 else q
theorem opB_call1 {P:Program} {sl:SL} {bx:Boxes} {f:FuncId} {fo:Operand} {args:List Operand} {tys:List TypeId} {dst:Option Nat} {caps args':List SV} {r:SV} {q1 sz1:Nat} {rows1:List (List D)} (k1:Nat)
  (hf:opnd sl fo=.clo f caps) (hargs:args.map (opnd sl)++caps=args') (hcl:SV.closedAll args'=true) (hc:CallB P f args' [] r [(q1,.rows sz1 rows1)]) (hr:r.only [q1]=true)
  (h1:k1≤999999) (f1:hasBx k1 bx=false) :
  OpB P sl bx dst (.call ⟨.value fo,args.toArray,tys.toArray⟩) (r.ren (one1 q1 k1)) ((k1,.rows sz1 rows1)::bx) [k1]:=by
 subst hargs
 intro o ho _ C S w β a hi ha
 have hf1:=ha fo (mo ho (by simp [Op.operands,Call.operands]))
 rw [hf] at hf1
 generalize hfv:a.eval fo=v at hf1
 cases hf1 with
 | clo _ _ cs g1 g2 =>
  have hall:RepL S w β (args.map (opnd sl)++caps) (args.map a.eval++cs):=(RepL.evals _ fun x hx=>ha x (mo ho (by simp [Op.operands,Call.operands];exact .inr hx))).append ⟨g1,g2⟩
  have hin:Inv ⟨w,S,fun _=>False,fun _ _=>False,C.G⟩ S w β []:=hi.begin hi.Slt (fun _ h=>h)
  have hcall:=hc.2 ⟨w,S,fun _=>False,fun _ _=>False,C.G⟩ β _ hin hall
  refine Or.inl ?_
  unfold Oper.wp
  rw [run_enter hc.1 ho hfv,Oper.upon_enter]
  have hargsEq:(args.toArray.map a.eval)++(⟨cs⟩:Array Value)=⟨args.map a.eval++cs⟩:=by apply Array.ext';simp
  rw [hargsEq]
  refine hcall.mono ?_
  rintro e w' ⟨v,S',β',rfl,hI,hv⟩
  have hsz:w.heap.size≤w'.heap.size:=hI.size
  have hSn:∀ b,S' b→S b∨w.heap.size≤b:=fun b hb=>by
   rcases hI.Snew b hb with h | h | h
   ·exact .inl h
   ·exact h.elim
   ·exact .inr h
  have e:SExt S w S' w':=⟨hI.S0sub,fun b hb=>hI.kept b (hi.Slt b hb) id⟩
  have u1:upd β k1 (β' q1) k1 = β' q1:=upd_same ..
  have u3:∀ j,j≠k1→upd β k1 (β' q1) j = β j:=fun j a=>by rw [upd_ne a]
  have m1:(q1,BoxC.rows sz1 rows1)∈[(q1,BoxC.rows sz1 rows1)]:=by simp
  have hnew:∀ b,(β' q1).base=some b→¬ S' b∧b < w'.heap.size∧w.heap.size≤b:=fun b hb=>by
   obtain⟨p1,p2,p3⟩:=hI.priv q1 _ m1 b hb
   exact⟨p1,p2,p3.resolve_left id⟩
  have hold:∀ k c,(k,c)∈bx→k≠k1∧(∀ j,c.has j=true→j≠k1):=fun k c hm=>by
   obtain⟨a1,a2⟩:=hasBx_mem f1 k c hm
   exact⟨a1,fun j hj he=>by subst he;rw [a2] at hj;simp at hj⟩
  have hcase:∀ k c,(k,c)∈(k1,BoxC.rows sz1 rows1)::bx→(k=k1∧c=.rows sz1 rows1)∨(k,c)∈bx:=fun k c hm=>by
   simp only [List.mem_cons,Prod.mk.injEq] at hm
   exact hm
  refine⟨v,S',upd β k1 (β' q1),rfl,?_,e,hv.ren fun k hkk=>?_,fun j hj=>?_⟩
  ·refine hi.step e hSn hI.Slt (fun b hb _=>hI.kept b hb id) hI.os hI.tape hI.output hsz ?_ ?_ (fun j hj=>u3 j (by omega)) ?_
   ·intro k c hm
    rcases hcase k c hm with ⟨rfl,rfl⟩ | hm
    ·rw [u1]
     exact⟨BoxOK.ext (c:=.rows sz1 rows1) (hI.box q1 _ m1) (SExt.refl _ _) (fun _ _=>rfl) (by simp [BoxC.has]),fun b hb=>⟨(hnew b hb).1,(hnew b hb).2.1,.inl (hnew b hb).2.2⟩⟩
    ·obtain⟨a1,a3⟩:=hold k c hm
     rw [u3 k a1]
     refine⟨(hi.box k c hm).ext e (fun b hb=>hI.kept b (hi.priv k c hm b hb).2.1 id) (fun j hj=>u3 j (a3 j hj)),fun b hb=>⟨fun hs=>?_,Nat.lt_of_lt_of_le (hi.priv k c hm b hb).2.1 hsz,.inr ⟨k,c,hm,hb⟩⟩⟩
     rcases hSn b hs with h | h
     ·exact (hi.priv k c hm b hb).1 h
     ·have:=(hi.priv k c hm b hb).2.1;omega
   ·intro k c k' c' hm hm' b hb hb'
    have low:∀ k c,(k,c)∈bx→(upd β k1 (β' q1) k).base=some b→b < w.heap.size:=fun k c hm hb=>by
     rw [u3 k (hold k c hm).1] at hb
     exact (hi.priv k c hm b hb).2.1
    rcases hcase k c hm with ⟨rfl,rfl⟩ | hm
    ·rw [u1] at hb
     rcases hcase k' c' hm' with ⟨rfl,rfl⟩ | hm'
     ·exact⟨rfl,rfl⟩
     ·have:=low _ _ hm' hb';have:=(hnew b hb).2.2;omega
    ·have hlt:=low _ _ hm hb
     rcases hcase k' c' hm' with ⟨rfl,rfl⟩ | hm'
     ·rw [u1] at hb';have:=(hnew b hb').2.2;omega
     ·rw [u3 k (hold k c hm).1] at hb
      rw [u3 k' (hold k' c' hm').1] at hb'
      exact hi.inj k c k' c' hm hm' b hb hb'
   ·intro k Y st hm
    rcases hcase k _ hm with ⟨_,h⟩ | hm
    ·cases h
    ·exact hm
  ·have:=SV.only_has hr hkk
   simp only [List.mem_cons,List.not_mem_nil,or_false] at this
   subst this
   simp only [one1,if_true];exact u1
  ·simp only [List.mem_cons,List.not_mem_nil,or_false] at hj
   exact u3 j hj
theorem grow_calls {P:Program} {ρ:Go.Shelf.Ren} (L:Go.Proofs.Lays8.n4 P ρ)(sz:Nat)(hsz:0 < sz)(hinfo:((P.info? (ρ.t 25)).any fun i=>i.size == sz && decide (i.bytes≤1000) && i.zero.any fun z=>z.cells.size == sz)=true)
  (hE:Enters P (ρ.f 4)) (n:Nat) (hn:n≤100000000000):CallB P (ρ.f 4) [.d .nil,intV n] [] (.acc 1) [(1,.rows sz [])]:=by
 refine⟨hE,fun C β vs hi hv=>?_⟩
 obtain⟨v0,hv0,hr0⟩:=hv.get (j:=0) (c:=.d .nil) rfl
 obtain⟨v1,hv1,hr1⟩:=hv.get (j:=1) (c:=intV n) rfl
 have hvs:vs=[.slice none 0 0,.int .i64 n]:=by
  have hl:=hv.1
  match vs,hl with
  | [u,v],_ =>
   simp only [List.getElem?_cons_zero,List.getElem?_cons_succ,Option.some.injEq] at hv0 hv1
   subst hv0;subst hv1
   rw [hr1.inv_int]
   have:=hr0.inv_d
   cases this;rfl
 subst hvs
 by_cases h0:n=0
 ·subst h0
  refine (Any8.slices_Grow_room L none 0 0 0 C.w0 (Nat.le_refl _) (by omega) (by omega) (by omega)).mono ?_
  rintro e w' ⟨rfl,rfl⟩
  obtain⟨h1,h2⟩:=hi.setNew (k:=1) (w':=C.w0) (c:=.rows sz []) { base:=none,sz:=sz } (by decide) (by simp) (fun _ _ _=>rfl) rfl rfl rfl (Nat.le_refl _) (fun _=>boxOK_nil)
  refine⟨_,C.S0,_,rfl,by simpa [berase,bpurge] using h1,?_⟩
  have:=RepV.acc (S:=C.S0) (w:=C.w0) (β:=upd β 1 { base:=none,sz:=sz }) 1
  rw [upd_same] at this
  simpa using this
 ·generalize hoi:P.info? (ρ.t 25)=oi at hinfo
  cases oi with
  | none=>simp at hinfo
  | some i0 =>
   simp only [Option.any_some,Bool.and_eq_true,beq_iff_eq,decide_eq_true_eq] at hinfo
   obtain⟨⟨g1,g2⟩,g3⟩:=hinfo
   generalize hoz:i0.zero=oz at g3
   cases oz with
   | none=>simp at g3
   | some z =>
    simp only [Option.any_some,beq_iff_eq] at g3
    refine (Any8.slices_Grow_grow L i0 z hoi hoz (by omega) none 0 0 n [] C.w0 (Nat.le_refl _) (by omega) (by
     have:(0+n)*i0.bytes≤(0+n)*1000:=Nat.mul_le_mul_left _ g2
     omega) (by omega) (by simp) (fun _=>rfl) (by simp)).mono ?_
    rintro e w' ⟨rfl,rfl⟩
    have hge:=grownCap_ge C.w0 (0+n) 0 (ρ.t 25)
    generalize grownCap C.w0 (0+n) 0 (ρ.t 25)=G at hge
    obtain⟨h1,h2⟩:=hi.setNew (k:=1) (w':=C.w0.drew.alloc (.cells (([]:List Value).toArray++Builtin.zeroCells z.cells (0+n - 0)++Builtin.zeroCells z.cells (G - (0+n))) (ρ.t 25))) (c:=.rows sz []) { base:=some C.w0.heap.size,len:=0,cap:=G,sz:=sz } (by decide)
     (by
       intro b hb;cases hb
       exact⟨fun h=>by have:=hi.Slt _ h;omega,by simp [-World.alloc_eq,-World.drew_eq,World.alloc,World.drew],.inl (Nat.le_refl _)⟩)
     (fun b hb _=>RowKit.Below.heap_alloc C.w0.drew _ b hb) rfl rfl rfl (by simp [-World.alloc_eq,-World.drew_eq,World.alloc,World.drew])
     (fun _=>by
      refine⟨rfl,rfl,by simp,by simp,by simp,by simp,?_⟩
      refine⟨ρ.t 25,(([]:List Value).toArray++Builtin.zeroCells z.cells (0+n - 0)++Builtin.zeroCells z.cells (G - (0+n))).toList,by simp [-World.alloc_eq,-World.drew_eq,World.alloc,World.drew],?_,by simp⟩
      simp only [Array.toList_append,List.length_append,Array.length_toList,zeroCells_size,g3]
      simp only [List.length_nil,Nat.zero_add,← Nat.add_mul]
      exact Nat.mul_le_mul_right _ (by omega))
    refine⟨_,C.S0,_,rfl,by simpa [berase,bpurge] using h1,?_⟩
    have:=RepV.acc (S:=C.S0) (w:=C.w0.drew.alloc (.cells (([]:List Value).toArray++Builtin.zeroCells z.cells (0+n - 0)++Builtin.zeroCells z.cells (G - (0+n))) (ρ.t 25))) (β:=upd β 1 { base:=some C.w0.heap.size,len:=0,cap:=G,sz:=sz }) 1
    rw [upd_same] at this
    simpa using this
theorem ok_GrowT (n:Nat)(hn:n≤100000000000):CallB Tryz.prog 194 [.d .nil,intV n] [] (.acc 1) [(1,.rows 3 [])] :=
 grow_calls Tryz.growT 3 (by decide) (by kernel_rfl) (Enters.of Tryz.func194 rfl (by decide)) n hn
theorem sum_take {α:Type} (ls:List (List α))(j:Nat):((ls.take j).map List.length).sum≤(ls.map List.length).sum:=by
 induction ls generalizing j with
 | nil=>simp
 | cons a l ih =>
  cases j with
  | zero=>simp
  | succ j=>simp only [List.take_succ_cons,List.map_cons,List.sum_cons];have:=ih j;omega
theorem declT_mem {p:Prog} {nm:Str} {d:Decl} (h:declT p nm=some d):d∈p.decls:=List.mem_of_find?_eq_some h
end Go.Abs
