/- (empty) -/
import Derived.Test.YtfjaahliphbklaaGreatDoorJAb7
import Derived.Scope
/- Function values with first arguments, as data: kept in a map, called. Own framework. -/
set_option linter.unusedVariables false
set_option linter.unusedSimpArgs false
namespace Go.Abs
set_option linter.unusedSimpArgs false
set_option linter.unusedVariables false
open Go
variable {P:Program} {sl:SL} {bx:A0b} {o:Oper} {ρ:Rho}
end Go.Abs
/- scopes through which no jump goes, labels -/
namespace Go.Abs
set_option linter.unusedSimpArgs false
set_option linter.unusedVariables false
open Go
section
variable {P:Program} {n:Nat} {Q:Exit→SL→A0b→Prop} {sl:SL} {bx:A0b}
end
end Go.Abs
/- Methods bound to a record of several cells, kept in an array variable. Own framework. -/
set_option linter.unusedVariables false
set_option linter.unusedSimpArgs false
namespace Go.Abs
set_option linter.unusedSimpArgs false
set_option linter.unusedVariables false
open Go
variable {P:Program} {sl:SL} {bx:A0b} {o:Oper} {ρ:Rho}
variable {ro:Option Nat} {P:Program} {n:Nat} {Q:Exit→SL→A0b→Prop} {sl:SL} {bx:A0b}
end Go.Abs
/- Closures kept as data: made, called; variables that hold addresses, frozen. Own framework. -/
set_option linter.unusedVariables false
set_option linter.unusedSimpArgs false
namespace Go.Abs
set_option linter.unusedSimpArgs false
set_option linter.unusedVariables false
open Go
variable {P:Program} {sl:SL} {bx:A0b} {o:Oper} {ρ:Rho}
theorem A0a.ptr {f:FuncId} {c:List D} {args:List SV} {r:SV} (h:A0a P f (.dptr c 0::args) r):A0a P f (.d (.ptr c)::args) r:=by
 refine⟨h.1,fun C β vs hi hv=>h.2 C β vs hi ?_⟩;cases vs with
 | nil=>exact absurd hv.1 (by simp)
 | cons v vs =>
  have h0:=hv.2 0 _ v rfl rfl;refine .cons ?_ ?_
  ·have:=h0.inv_d;cases this with
   | ptr _ b base q1 q2 q3 q4=>exact .dptr _ 0 b base q1 q2 q3 q4
  ·exact⟨by have:=hv.1;simp at this ⊢;omega,fun j c u hc hu=>hv.2 (j+1) c u hc hu⟩
variable {ro:Option Nat} {n:Nat} {Q:Exit→SL→A0b→Prop}
end Go.Abs
/- the greater of two numbers; the address of an element of a package variable that is laid. Own framework. -/
set_option linter.unusedVariables false
set_option linter.unusedSimpArgs false
namespace Go.Abs
set_option linter.unusedSimpArgs false
set_option linter.unusedVariables false
open Go
variable {P:Program} {sl:SL} {bx:A0b}
end Go.Abs
/- delete from a map of one's own. Own framework. -/
set_option linter.unusedVariables false
set_option linter.unusedSimpArgs false
namespace Go.Abs
set_option linter.unusedSimpArgs false
set_option linter.unusedVariables false
open Go
variable {P:Program} {sl:SL} {bx:A0b}
end Go.Abs
/- a drawn region with a slice built of one zero type (a constant aggregate) -/
namespace Go.Abs
set_option linter.unusedSimpArgs false
set_option linter.unusedVariables false
open Go
set_option maxRecDepth 100000
variable {ro:Option Nat} {P:Program} {n:Nat} {Q:Exit→SL→A0b→Prop} {sl:SL} {bx:A0b}
theorem C9r {C:Ctx} {ops:Array Oper} {QQ:Exit→Act→World→Prop} (hd:∀ o,o∈ops.toList→C4m n o.dst)(hnd:∀ o,o∈ops.toList→A8a o=true) {K:SL→A0b→Prop} {rest:List Nat}
  (hK:∀ sl bx S w β a,K sl bx→St C n S w β a sl bx→wpOpsIn (FW ro) 0 P ops QQ rest a w):∀ (k i:Nat) (sl:SL) (bx:A0b) (S:Nat→Prop) (w:World) (β:A0y) (a:Act),i+k≤ops.size→Run P n ops ((ops.toList.drop i).take k) sl bx K →
  St C n S w β a sl bx→wpOpsIn (FW ro) 0 P ops QQ (List.range' i k++rest) a w
 | 0,i,sl,bx,S,w,β,a,hik,hr,hs=>hK sl bx S w β a hr hs
 | k+1,i,sl,bx,S,w,β,a,hik,hr,hs=>by
  have hi:i < ops.size:=by omega
  have dp:ops.toList.drop i=ops[i]::ops.toList.drop (i+1):=by rw [List.drop_eq_getElem_cons (by simpa using hi)];simp
  rw [dp,List.take_succ_cons] at hr;obtain⟨g,hg,hdo,h1,h2⟩:=hr;simp only [List.range'_succ,List.cons_append,wpOpsIn,Array.getElem?_eq_getElem hi];have hw:=B5e (a:=a) (S:=S) (w:=w) (β:=β) (fun t ht=>by obtain⟨j,want,_,hj⟩:=ht;exact⟨hs.slot t,by rw [hs.size];exact A4y hd hj⟩) hg
  rw [hw];cases g with
  | true =>simp only [if_true];obtain⟨r,bx',pg,hop,hrun⟩:=h1 rfl;refine Oper.wpIn_ofQ (hnd _ (by simp)) (hop C S w β a hs.inv fun x _=>hs.opnd x) ?_;rintro a' w' ⟨v,S',β',rfl,hi',he,hv,hb⟩;exact C9r hd hnd hK k (i+1) _ bx' S' w' β' _ (by omega) hrun (hs.put hdo hi' he hv hb)
  | false =>simp only [Bool.false_eq_true,if_false];refine⟨fun _ _=>trivial,?_⟩;exact C9r hd hnd hK k (i+1) _ bx S w β _ (by omega) (h2 rfl) (hs.put (pg:=[]) hdo hs.inv (SExt.refl S w) (.tuple [] [] rfl (by simp)) (fun _ _=>rfl))
abbrev G5q (rs:List (List D))(k:Nat):Rep1:=⟨fun off=>.box k off,.d (.slice rs),.mp k⟩
theorem St.pubCore {C:Ctx} {S:Nat→Prop} {w:World} {β:A0y} {a:Act} (k:Nat) {bc:BoxC} {f:Rep1} (hk:(k,bc)∈bx)
  (hf:∀ (S:Nat→Prop) (w:World) (β:A0y),A2h S w β (β k) bc→(∀ b,(β k).base=some b→S b)→Rep1OK S S w β k f)
  (hs:St C n S w β a sl bx):∃ S',St C n S' w β a (B1e k f sl) (A9n k f (A0o k bx)):=by
 let S':Nat→Prop:=fun b=>S b∨(β k).base=some b
 have e:SExt S w S' w:=⟨fun _ h=>.inl h,fun _ _=>rfl⟩;have hi:=hs.inv;have hbox:A2h S' w β (β k) bc:=(hi.box k _ hk).ext e (fun _ _=>rfl) (fun _ _=>rfl);have hr1:=hf S' w β hbox (fun b hb=>.inr hb);have hr:Rep1OK S' S' w β k f:=hr1;have hsub:∀ {x:SV} {v:Value},RepV S w β x v→RepV S' w β (x.sub k f) v:=fun hv=>(hv.ext e (fun _ _=>rfl)).sub hr (SExt.refl _ _);refine⟨S',?_,hs.size,hs.defers.ext e,fun t=>by rw [B7n];exact hsub (hs.slot t)⟩;exact {
  S0sub:=fun b hb=>.inl (hi.S0sub b hb)
  Snew:=fun b hb=>by
   rcases hb with hb | hb
   ·exact hi.Snew b hb
   ·exact .inr (hi.priv k _ hk b hb).2.2
  Slt:=fun b hb=>by
   rcases hb with hb | hb
   ·exact hi.Slt b hb
   ·exact (hi.priv k _ hk b hb).2.1
  kept:=hi.kept
  os:=hi.os
  tape:=hi.tape
  output:=hi.output
  size:=hi.size
  box:=fun j c hj=>by
   obtain⟨x,hx,rfl⟩:=A2f hj;obtain⟨hne,hx⟩:=A0f.1 hx;have:=hi.box j x hx;cases x with
   | cells cs =>obtain⟨b,ty,vs,h1,h2,h3⟩:=this;refine⟨b,ty,vs,h1,h2,?_⟩;rw [SV.subL_eq];refine h3.map (by simp) ?_;intro i x y v hx' hy hv;simp only [List.getElem?_map,hx',Option.map_some,Option.some.injEq] at hy;subst hy;exact hsub hv
   | rows sz rs=>exact A2h.ext (c:=.rows sz rs) this e (fun _ _=>rfl) (fun _ _=>rfl)
   | map kvs=>exact A2h.ext (c:=.map kvs) this e (fun _ _=>rfl) (fun _ _=>rfl)
   | ghost Y st=>exact this
  priv:=fun j c hj b hb=>by
   obtain⟨x,hx,rfl⟩:=A2f hj;obtain⟨hne,hx⟩:=A0f.1 hx;obtain⟨h1,h2,h3⟩:=hi.priv j x hx b hb;refine⟨fun hs=>?_,h2,h3⟩;rcases hs with hs | hs
   ·exact h1 hs
   ·exact hne (hi.inj j x k _ hx hk b hb hs).1
  inj:=fun j c j' c' hj hj' b hb hb'=>by obtain⟨x,hx,rfl⟩:=A2f hj;obtain⟨x',hx',rfl⟩:=A2f hj';obtain⟨h1,h2⟩:=hi.inj j x j' x' (A0f.1 hx).2 (A0f.1 hx').2 b hb hb';exact⟨h1,by rw [h2]⟩
  tab:=fun b cs hv=>⟨.inl (hi.tab b cs hv).1,(hi.tab b cs hv).2⟩
  one:=fun j Y st j' Y' st' hj hj'=>by
   obtain⟨x,hx,hxe⟩:=A2f hj;obtain⟨x',hx',hxe'⟩:=A2f hj';have e1:x=.ghost Y st:=by cases x <;> simp only [BoxC.sub,reduceCtorEq] at hxe;exact hxe.symm
   have e2:x'=.ghost Y' st':=by cases x' <;> simp only [BoxC.sub,reduceCtorEq] at hxe';exact hxe'.symm
   subst e1;subst e2;exact hi.one j Y st j' Y' st' (A0f.1 hx).2 (A0f.1 hx').2
  frn:=fun j Y st hj=>by
   obtain⟨x,hx,hxe⟩:=A2f hj;have hxg:x=.ghost Y st:=by cases x <;> simp only [BoxC.sub,reduceCtorEq] at hxe;exact hxe.symm
   subst hxg;obtain⟨h1,h2,h3,h4,B,h5,h6⟩:=hi.frn j Y st (A0f.1 hx).2;have hsz:=hi.size;have hB:∀ b,B b→¬ S' b:=fun b hb hs=>hs.elim (h6 b hb).1 ((h6 b hb).2.2.2 k _ hk);have hold:∀ k' c',(k',c')∈A9n k f (A0o k bx)→∃ y,(k',y)∈bx:=fun k' c' hk'=>by obtain⟨y,hy,_⟩:=A2f hk';exact⟨y,(A0f.1 hy).2⟩
   refine⟨h1,h2,h3,fun k' c' hk'=>(hold k' c' hk').elim fun y hy=>h4 k' y hy,B,h2.keep st B S w _ w h5 ⟨fun _ h=>.inl h,fun b hb=>hb.imp id fun hb=>by rw [h1];exact h4 k _ hk b hb,fun b hb=>?_,hB,fun _ _=>rfl,rfl,rfl,rfl,Nat.le_refl _⟩,
    fun b hb=>⟨hB b hb,(h6 b hb).2.1,(h6 b hb).2.2.1,fun k' c' hk'=>(hold k' c' hk').elim fun y hy=>(h6 b hb).2.2.2 k' y hy⟩⟩
   rcases hb with hb | hb
   ·exact hi.Slt b hb
   ·exact (hi.priv k _ hk b hb).2.1
  fix:=hi.fix }
theorem St.publish {C:Ctx} {S:Nat→Prop} {w:World} {β:A0y} {a:Act} (k:Nat) {sz:Nat} {rs:List (List D)} (hk:A0h bx k=some (.rows sz rs))(hs:St C n S w β a sl bx) :
  ∃ S',St C n S' w β a (B1e k (G5q rs k) sl) (A9n k (G5q rs k) (A0o k bx)) :=
 hs.pubCore k (A0j hk) fun S w β hb hS=>⟨fun off v hv=>hv,fun v hv=>by cases hv;exact .d _ _ (hb.rows_slice hS),fun v hv=>hv,fun _=>rfl,rfl,rfl⟩
end Go.Abs
/- contracts with more than one possible result -/
namespace Go.Abs
set_option linter.unusedSimpArgs false
set_option linter.unusedVariables false
open Go
set_option maxRecDepth 100000
variable {ro:Option Nat} {P:Program} {n:Nat} {Q:Exit→SL→A0b→Prop} {sl:SL} {bx:A0b} {o:Oper} {ρ:Rho}
def B5n (P:Program)(f:FuncId)(args:List SV)(R:SV→Prop):Prop :=
 A1q P f∧∀ (C:Ctx) (β:A0y) (vs:List Value),Inv C C.S0 C.w0 β []→A3e C.S0 C.w0 β args vs →
  Calls P f ⟨vs⟩ C.w0 (fun e w'=>∃ r v S' β',R r∧e=.returned v∧Inv C S' w' β' []∧RepV S' w' β' r v)
theorem B5n.imp {f:FuncId} {args:List SV} {R R':SV→Prop} (h:B5n P f args R)(hr:∀ r,R r→R' r):B5n P f args R' :=
 ⟨h.1,fun C β vs hi hv=>(h.2 C β vs hi hv).mono fun _ _ ⟨r,v,S',β',h0,h1,h2,h3⟩=>⟨r,v,S',β',hr r h0,h1,h2,h3⟩⟩
def OpP (P:Program)(o:Oper) (ρ:Rho)(bx:A0b)(R:SV→A0b→Prop):Prop :=
 ∀ (C:Ctx) (S:Nat→Prop) (w:World) (β:A0y) (a:Act),Inv C S w β bx→(∀ x,x∈o.op.operands→RepV S w β (ρ x) (a.eval x)) →
  o.wpx P a w (fun a' w'=>∃ r bx' v S' β',R r bx'∧a'=a.put o.dst v∧Inv C S' w' β' bx'∧SExt S w S' w'∧RepV S' w' β' r v∧(∀ k,k ∉ ([]:List Nat)→β' k = β k))
theorem F5y {f:FuncId} {fo:Operand} {args:Array Operand} {tys:Array TypeId} (ho:o.op=.call { callee:=.value fo,args:=args,argTypes:=tys }) {caps args':List SV} {R:SV→Prop}
  (hf:ρ fo=.clo f caps) (hargs:A2e [] (args.toList.map ρ++caps)=some args') (hc:B5n P f args' R) (hr:∀ r,R r→r.closed=true):OpP P o ρ bx fun r bx'=>R r∧bx'=bx:=by
 intro C S w β a hi ha;have hf1:=(ha fo (mC ho));rw [hf] at hf1;generalize hfv:a.eval fo=v at hf1;cases hf1 with
 | clo _ _ cs h1 h2 =>
  have hall:A3e S w β (args.toList.map ρ++caps) (args.toList.map a.eval++cs):=(A3e.evals _ fun x hx=>ha x (mo ho (by simp [Op.operands,Call.operands];simp at hx;exact .inr hx))).append ⟨h1,h2⟩;have hin:Inv ⟨w,S,fun _=>False,fun _ _=>False,C.G⟩ S w β []:=hi.begin hi.Slt (fun _ h=>h);obtain⟨g1,g2⟩:=A2y hin (SExt.refl S w) (by simp) hargs hall;have hcall:=hc.2 ⟨w,S,fun _=>False,fun _ _=>False,C.G⟩ β _ hin g1;refine Or.inl ?_;unfold Oper.wp;rw [A3f hc.1 ho hfv,Oper.upon_enter];have hargsEq:args.map a.eval++(⟨cs⟩:Array Value)=⟨args.toList.map a.eval++cs⟩:=by apply Array.ext';simp
  rw [hargsEq];refine hcall.mono ?_;rintro e w' ⟨r,v,S',β',h0,rfl,hk,hv⟩;obtain⟨q1,q2⟩:=hi.back hk;have e':SExt S' w' (fun b=>S b∨(S' b∧w.heap.size≤b)) w':=⟨fun b hb=>by
   rcases hk.Snew b hb with h | h | h
   ·exact .inl h
   ·exact h.elim
   ·exact .inr ⟨hb,h⟩,fun _ _=>rfl⟩
  exact⟨r,bx,v,_,β,⟨h0,rfl⟩,rfl,q1,q2,(hv.ext e' (fun _ _=>rfl)).closed (hr r h0),fun _ _=>rfl⟩
theorem AWp.seqCP {id:Nat} {ops:Array Oper} {y:Code} (ks own:List Nat)(i:Nat)(o:Oper)(hi:ops[i]? = some o)(hg:o.guard=none)(hd:A1r n ops.toList=true)
  (h:∀ K:SL→A0b→Prop,(∀ sl' bx',AWp ro P n y Q sl' bx'→K sl' bx')→A7q P own ops (ops.toList.take i) sl bx fun sl1 bx1=>∃ R,OpP P o (opnd sl1) bx1 R∧∀ r bx2,R r bx2→A7q P own ops (ops.toList.drop (i+1)) (B1b sl1 o.dst r) bx2 (A5e ks K)) :
  AWp ro P n (.seq (.region id ops false) y) Q sl bx:=by
 have hd0:∀ l:List Oper,(∀ x,x∈l→x∈ops.toList)→A1r n l=true:=fun l hl=>by unfold A1r at *;rw [List.all_eq_true] at *;exact fun o ho=>hd o (hl o ho)
 obtain⟨his,hio⟩:=Array.getElem?_eq_some_iff.1 hi;have hmem:o∈ops.toList:=by rw [← hio];simp
 have h1:=h _ fun _ _ h=>h;refine AWp.seq fun C S w β a hs=>wpIn_region ?_;have hr:List.range ops.size=List.range' 0 i++List.range' i (ops.size - i - 1+1):=by
  have:=@List.range'_append_1 0 i (ops.size - i - 1+1);rw [Nat.zero_add] at this;rw [List.range_eq_range',this]
  congr 1
  omega
 rw [hr];refine C9r (A3w hd) (B2d hd) (fun sl1 bx1 S1 w1 β1 a1 hK hs1=>?_) i 0 sl bx S w β a (by omega) (A6u _ _ _ (hd0 _ fun x hx=>List.mem_of_mem_take (by simpa using hx)) (by simpa using h1)) hs;obtain⟨R,hop,hrest⟩:=hK;simp only [List.range'_succ,wpOpsIn,Array.getElem?_eq_getElem his,hio];have hgv:A7t ops sl1 o=some true:=by unfold A7t;rw [hg]
 have hw:=B5e (a:=a1) (S:=S1) (w:=w1) (β:=β1) (fun t ht=>by obtain⟨j,want,_,hj⟩:=ht;exact⟨hs1.slot t,by rw [hs1.size];exact A4y (A3w hd) hj⟩) hgv
 rw [hw];simp only [if_true];refine Oper.wpIn_ofQ (B2d hd o hmem) (hop C S1 w1 β1 a1 hs1.inv fun x _=>hs1.opnd x) ?_;rintro a' w' ⟨r,bx2,v,S',β',h0,rfl,hi',he,hv,hb⟩;have hs2:=hs1.put (pg:=[]) (A3w hd o hmem) hi' he hv hb;have e1:A1e [] sl1=sl1:=by simp [A1e]
 rw [e1] at hs2;exact C8w (A3w hd) (B2d hd) (fun sl' bx' S' w' β' a' hK hs'=>⟨_,_,S',β',hK,hs'.keep ks ks⟩) (ops.size - i - 1) (i+1) _ _ _ _ _ _ (by omega) (A6u _ _ _ (hd0 _ fun x hx=>List.mem_of_mem_drop hx) (hrest r bx2 h0)) hs2
def G5y (P:Program)(fn:Func)(R:SV→Prop)(e:Exit)(sl:SL)(bx:A0b):Prop :=
 match e with
 | .normal | .ret=>∃ xs r,E6p P bx sl fn.results.toList=some xs∧A2a bx (A8u xs)=some r∧R r
 | _=>False
theorem B5n.of_body {f:FuncId} {fn:Func} {c:Code} {args:List SV} {R:SV→Prop} (hf:P.funcs[f]? = some fn)(hb:fn.body=some c)(hn:(fn.name == "runtime.NumGoroutine")=false)(hm:args.length≤fn.ntmps)
  (h:AWp none P fn.ntmps c (G5y P fn R) (B9k 0 args) []):B5n P f args R:=by
 refine⟨⟨fn,hf,hn,by rw [hb];rfl⟩,?_⟩;intro C β vs hi hv;refine A8p hf hb ?_;refine wpIn_mono (h C C.S0 C.w0 β _ (St.start hi hv hm)) ?_;rintro e a' w' ⟨sl',bx',S',β',q,hs⟩;have key:(∃ xs r,E6p P bx' sl' fn.results.toList=some xs∧A2a bx' (A8u xs)=some r∧R r)→LeavesInM Fence.wide 0 P fn a'.tmps (fun e w'=>∃ r v S' β',R r∧e=.returned v∧Inv C S' w' β' []∧RepV S' w' β' r v) a'.defers .returning w':=by
  rintro⟨xs,r,h1,h2,hR⟩;refine hs.leave fun w' hs=>?_;obtain⟨v,h3,h4⟩:=B4h (P:=P) hs h1;refine⟨v,h3,r,v,fun b=>S' b∨∃ k c,(k,c)∈bx'∧(β' k).base=some b,β',hR,rfl,?_,?_⟩
  ·exact {
    S0sub:=fun b hb=>.inl (hs.inv.S0sub b hb)
    Snew:=fun b hb=>by
     rcases hb with hb | ⟨k,c,hk,hb⟩
     ·exact hs.inv.Snew b hb
     ·exact .inr (hs.inv.priv k c hk b hb).2.2
    Slt:=fun b hb=>by
     rcases hb with hb | ⟨k,c,hk,hb⟩
     ·exact hs.inv.Slt b hb
     ·exact (hs.inv.priv k c hk b hb).2.1
    kept:=hs.inv.kept
    os:=hs.inv.os
    tape:=hs.inv.tape
    output:=hs.inv.output
    size:=hs.inv.size
    box:=fun k c hk=>by simp at hk
    priv:=fun k c hk=>by simp at hk
    inj:=fun k c k' c' hk=>by simp at hk
    tab:=fun b cs hv=>⟨.inl (hs.inv.tab b cs hv).1,(hs.inv.tab b cs hv).2⟩
    one:=fun k Y st k' Y' st' hk=>by simp at hk
    frn:=fun k Y st hk=>by simp at hk
    fix:=hs.inv.fix }
  ·exact (A5j hs.inv ⟨fun _ h=>.inl h,fun _ _=>rfl⟩ (fun k c hk b hb=>.inr ⟨k,c,hk,hb⟩) h2 h4).1
 cases e with
 | normal=>exact key q
 | ret=>exact key q
 | _=>exact q.elim
end Go.Abs
/- calls that are lent a variable and the own slice that it holds -/
namespace Go.Abs
set_option linter.unusedSimpArgs false
set_option linter.unusedVariables false
open Go
set_option maxRecDepth 100000
variable {ro:Option Nat} {P:Program} {n:Nat} {Q:Exit→SL→A0b→Prop} {sl:SL} {bx:A0b} {o:Oper} {ρ:Rho}
theorem E0z {S S':Nat→Prop} {w w':World} {β β':A0y} {q j:Nat} {cs:List SV} {vs:List Value} (h:A3e S w β (.acc q::cs) vs)(e:SExt S w S' w')(hj:β' j = β q)(hc:SV.closedAll cs=true):A3e S' w' β' (.acc j::cs) vs:=by
 refine⟨by have:=h.1;simpa using this,fun i c v hi hv=>?_⟩;cases i with
 | zero =>simp only [List.getElem?_cons_zero,Option.some.injEq] at hi;subst hi;have h0:=h.2 0 (.acc q) v rfl hv;cases h0;rw [← hj];exact .acc j
 | succ i =>have h0:=h.2 (i+1) c v (by simpa using hi) hv;exact (h0.ext (β':=β) e (fun _ _=>rfl)).closed (SV.closedAll_true hc i c (by simpa using hi))
theorem D3d {f:FuncId} {fo:Operand} {args:Array Operand} {tys:Array TypeId} (ho:o.op=.call { callee:=.value fo,args:=args,argTypes:=tys }) {caps args':List SV} {r:SV} {k q sz:Nat} {cs cs':List SV} {rs rs':List (List D)}
  (hf:ρ fo=.clo f caps) (hb:(k,BoxC.cells (.acc q::cs))∈bx) (hq:(q,BoxC.rows sz rs)∈bx) (hkq:k≠q) (hq6:q < 1000000) (hcc:SV.closedAll cs=true) (hcc':SV.closedAll cs'=true)
  (hno:∀ k' c',(k',c')∈bx→k'≠k→c'.has q=false) (hreal:∀ k' c',(k',c')∈bx→c'.real=true)
  (hargs:C1f k 1000000 (args.toList.map ρ++caps)=some args') (h7:SV.hasAny 7 args'=false)
  (hc:A1p P f args' [(1000000,.cells (.acc 7::cs)),(7,.rows sz rs)] r [(1000000,.cells (.acc 7::cs')),(7,.rows sz rs')]) (hr:r.closed=true) :
  OpT P o ρ bx r ((k,.cells (.acc q::cs'))::(q,.rows sz rs')::A0o k (A0o q bx)) [q]:=by
 intro C S w β a hi ha;have hf1:=(ha fo (mC ho));rw [hf] at hf1;generalize hfv:a.eval fo=v at hf1;cases hf1 with
 | clo _ _ cs0 h1 h2 =>
  have hall:A3e S w β (args.toList.map ρ++caps) (args.toList.map a.eval++cs0):=(A3e.evals _ fun x hx=>ha x (mo ho (by simp [Op.operands,Call.operands];simp at hx;exact .inr hx))).append ⟨h1,h2⟩;have hin0:Inv ⟨w,S,fun _=>False,fun _ _=>False,C.G⟩ S w β []:=hi.begin hi.Slt (fun _ h=>h);have g0:=C2m (j:=1000000) hin0 hargs hall;obtain⟨β1,hβ1⟩:∃ β1,β1=upd (upd β 1000000 (β k)) 7 (β q):=⟨_,rfl⟩;have hb6:β1 1000000 = β k:=by rw [hβ1,A3z (by decide),A0x]
  have hb7:β1 7 = β q:=by rw [hβ1,A0x]
  have g1:A3e S w β1 args' (args.toList.map a.eval++cs0):=⟨g0.1,fun i c v hc' hv=>(g0.2 i c v hc' hv).ext (SExt.refl S w) fun x hx=>by
   have hx7:x≠7:=by rintro rfl;rw [SV.hasAny_false h7 i c hc'] at hx;simp at hx
   rw [hβ1,A3z hx7]⟩
  have hp:=hi.priv k _ hb;have hpq:=hi.priv q _ hq;have hbk:=hi.box k _ hb;have hbq:=hi.box q _ hq;have hin:Inv ⟨w,S,fun i=>(β k).base=some i∨(β q).base=some i,fun i x=>i=1000000∧x = β k,C.G⟩ S w β1 [(1000000,.cells (.acc 7::cs)),(7,.rows sz rs)]:={
   S0sub:=fun _ h=>h
   Snew:=fun _ h=>.inl h
   Slt:=hi.Slt
   kept:=fun _ _ _=>rfl
   os:=rfl
   tape:=rfl
   output:=rfl
   size:=Nat.le_refl _
   box:=fun k' c'' hk'=>by
    simp only [List.mem_cons,Prod.mk.injEq,List.not_mem_nil,or_false] at hk';rcases hk' with ⟨rfl,rfl⟩ | ⟨rfl,rfl⟩
    ·rw [hb6];obtain⟨b,ty,vs,e1,e2,e3⟩:=hbk;exact⟨b,ty,vs,e1,e2,E0z e3 (SExt.refl S w) hb7 hcc⟩
    ·rw [hb7];exact hbq
   priv:=fun k' c'' hk' b' hb'=>by
    simp only [List.mem_cons,Prod.mk.injEq,List.not_mem_nil,or_false] at hk';rcases hk' with ⟨rfl,rfl⟩ | ⟨rfl,rfl⟩
    ·rw [hb6] at hb';exact⟨(hp b' hb').1,(hp b' hb').2.1,.inl (.inl hb')⟩
    ·rw [hb7] at hb';exact⟨(hpq b' hb').1,(hpq b' hb').2.1,.inl (.inr hb')⟩
   inj:=fun k1 c1 k2 c2 h1 h2 b' hb1 hb2=>by
    simp only [List.mem_cons,Prod.mk.injEq,List.not_mem_nil,or_false] at h1 h2;rcases h1 with ⟨rfl,rfl⟩ | ⟨rfl,rfl⟩ <;> rcases h2 with ⟨rfl,rfl⟩ | ⟨rfl,rfl⟩
    ·exact⟨rfl,rfl⟩
    ·rw [hb6] at hb1;rw [hb7] at hb2;exact absurd (hi.inj k _ q _ hb hq b' hb1 hb2).1 hkq
    ·rw [hb7] at hb1;rw [hb6] at hb2;exact absurd (hi.inj k _ q _ hb hq b' hb2 hb1).1 hkq
    ·exact⟨rfl,rfl⟩
   tab:=hi.tab
   one:=fun k' Y st k'' Y' st' hk'=>by simp at hk'
   frn:=fun k' Y st hk'=>by simp at hk'
   fix:=fun k' b' h=>by obtain⟨rfl,rfl⟩:=h;exact⟨Nat.le_refl _,hb6⟩ }
  have hcall:=hc.2 ⟨w,S,fun i=>(β k).base=some i∨(β q).base=some i,fun i x=>i=1000000∧x = β k,C.G⟩ _ _ hin g1;refine Or.inl ?_;unfold Oper.wp;rw [A3f hc.1 ho hfv,Oper.upon_enter];have hargsEq:args.map a.eval++(⟨cs0⟩:Array Value)=⟨args.toList.map a.eval++cs0⟩:=by apply Array.ext';simp
  rw [hargsEq];refine hcall.mono ?_;rintro e w' ⟨v,S',β',rfl,hk,hv⟩;have hfix:β' 1000000 = β k:=(hk.fix 1000000 _ ⟨rfl,rfl⟩).2;have hpk:∀ b,(β k).base=some b→¬ S' b∧b < w'.heap.size:=fun b hb'=>by have:=hk.priv 1000000 (.cells (.acc 7::cs')) (by simp) b (by rw [hfix];exact hb');exact⟨this.1,this.2.1⟩
  have hp7:=hk.priv 7 (.rows sz rs') (by simp);have hsz:w.heap.size≤w'.heap.size:=hk.size;have hkept:∀ b',b' < w.heap.size→(β k).base≠some b'→(β q).base≠some b'→w'.heap[b']? = w.heap[b']?:=fun b' h1 h2 h3=>hk.kept b' h1 (fun h=>h.elim h2 h3);obtain⟨S2,hS2⟩:∃ S2:Nat→Prop,S2=fun b=>S b∨(S' b∧(w.heap.size≤b∨(β q).base=some b)):=⟨_,rfl⟩;have hS2l:∀ b,S b→S2 b:=fun b h=>by rw [hS2];exact .inl h
  have hS2r:∀ b,S2 b→S b∨(S' b∧(w.heap.size≤b∨(β q).base=some b)):=fun b h=>by rw [hS2] at h;exact h
  have e1:SExt S w S2 w':=⟨hS2l,fun b' hb'=>hkept b' (hi.Slt b' hb') (fun he=>(hp b' he).1 hb') fun he=>(hpq b' he).1 hb'⟩;have e2:SExt S' w' S2 w':=⟨fun b' hb'=>by
   rcases hk.Snew b' hb' with h | h | h
   ·exact hS2l b' h
   ·rcases h with h | h
    ·exact ((hpk b' h).1 hb').elim
    ·rw [hS2];exact .inr ⟨hb',.inr h⟩
   ·rw [hS2];exact .inr ⟨hb',.inl h⟩,fun _ _=>rfl⟩
  obtain⟨β2,hβ2⟩:∃ β2,β2=upd β q (β' 7):=⟨_,rfl⟩;have hb2q:β2 q = β' 7:=by rw [hβ2,A0x]
  have hb2:∀ x,x≠q→β2 x = β x:=fun x hx=>by rw [hβ2,A3z hx]
  have hsplit:∀ k' c',(k',c')∈((k,BoxC.cells (.acc q::cs'))::(q,BoxC.rows sz rs')::A0o k (A0o q bx))→(k'=k∧c'=.cells (.acc q::cs'))∨(k'=q∧c'=.rows sz rs')∨(k'≠k∧k'≠q∧(k',c')∈bx):=fun k' c' h=>by
   simp only [List.mem_cons,Prod.mk.injEq] at h;rcases h with h | h | h
   ·exact .inl h
   ·exact .inr (.inl h)
   ·obtain⟨n1,h⟩:=A0f.1 h;obtain⟨n2,h⟩:=A0f.1 h;exact .inr (.inr ⟨n1,n2,h⟩)
  have hbase:∀ k' c',(k',c')∈((k,BoxC.cells (.acc q::cs'))::(q,BoxC.rows sz rs')::A0o k (A0o q bx))→∀ b,(β2 k').base=some b→¬ S2 b∧b < w'.heap.size∧(C.pre b∨C.w0.heap.size≤b):=fun k' c' h b hb'=>by
   have hsz0:=hi.size;rcases hsplit k' c' h with ⟨rfl,rfl⟩ | ⟨rfl,rfl⟩ | ⟨n1,n2,h⟩
   ·rw [hb2 _ hkq] at hb';exact⟨fun hs=>(hS2r b hs).elim (hp b hb').1 fun hs=>(hpk b hb').1 hs.1,(hpk b hb').2,(hp b hb').2.2⟩
   ·rw [hb2q] at hb';obtain⟨p1,p2,p3⟩:=hp7 b hb';refine⟨fun hs=>(hS2r b hs).elim (fun hs=>?_) fun hs=>p1 hs.1,p2,?_⟩
    ·exact p1 (hk.S0sub b hs)
    ·rcases p3 with (h3 | h3) | h3
     ·exact (hp b h3).2.2
     ·exact (hpq b h3).2.2
     ·exact .inr (Nat.le_trans hsz0 h3)
   ·rw [hb2 _ n2] at hb';obtain⟨p1,p2,p3⟩:=hi.priv k' c' h b hb';refine⟨fun hs=>(hS2r b hs).elim p1 fun hs=>?_,by omega,p3⟩;rcases hs.2 with h4 | h4
    ·omega
    ·exact n2 (hi.inj k' c' q _ h hq b hb' h4).1
  refine⟨v,S2,β2,rfl,?_,e1,(hv.ext (β':=β') e2 (fun _ _=>rfl)).closed hr,fun x hx=>hb2 x (by simpa using hx)⟩;exact {
   S0sub:=fun b hb'=>hS2l b (hi.S0sub b hb')
   Snew:=fun b hb'=>by
    rcases hS2r b hb' with h | ⟨_,h | h⟩
    ·exact hi.Snew b h
    ·exact .inr (.inr (Nat.le_trans hi.size h))
    ·exact .inr (hpq b h).2.2
   Slt:=fun b hb'=>by
    rcases hS2r b hb' with h | ⟨h,_⟩
    ·have:=hi.Slt b h;omega
    ·exact hk.Slt b h
   kept:=fun b hlt hn=>by
    have hsz0:=hi.size;rw [hkept b (by omega) (fun he=>?_) fun he=>?_]
    ·exact hi.kept b hlt hn
    ·rcases (hp b he).2.2 with h | h
     ·exact hn h
     ·omega
    ·rcases (hpq b he).2.2 with h | h
     ·exact hn h
     ·omega
   os:=hk.os.trans hi.os
   tape:=hk.tape.trans hi.tape
   output:=hk.output.trans hi.output
   size:=Nat.le_trans hi.size hsz
   box:=fun k' c' h=>by
    rcases hsplit k' c' h with ⟨rfl,rfl⟩ | ⟨rfl,rfl⟩ | ⟨n1,n2,h⟩
    ·have h0:=hk.box 1000000 (.cells (.acc 7::cs')) (by simp);rw [hfix] at h0;rw [hb2 _ hkq];obtain⟨b,ty,vs,q1,q2,q3⟩:=h0;exact⟨b,ty,vs,q1,q2,E0z q3 e2 hb2q hcc'⟩
    ·have h0:=hk.box 7 (.rows sz rs') (by simp);rw [hb2q];exact h0.ext e2 (fun _ _=>rfl) (fun _ hx=>by simp [BoxC.has] at hx)
    ·rw [hb2 _ n2];have hn:=hno k' c' h n1;refine (hi.box k' c' h).ext e1 (fun b hb'=>?_) fun x hx=>hb2 x (by rintro rfl;rw [hn] at hx;simp at hx);obtain⟨p1,p2,p3⟩:=hi.priv k' c' h b hb';exact hkept b p2 (fun he=>n1 (hi.inj k' c' k _ h hb b hb' he).1) fun he=>n2 (hi.inj k' c' q _ h hq b hb' he).1
   priv:=hbase
   inj:=fun k1 c1 k2 c2 h1 h2 b hb1 hb2'=>by
    have old:∀ k' c',(k',c')∈bx→k'≠k→k'≠q→∀ b,(β k').base=some b→(β' 7).base≠some b:=fun k' c' h n1 n2 b hb' h7'=>by
     obtain⟨p1,p2,p3⟩:=hi.priv k' c' h b hb';rcases (hp7 b h7').2.2 with (h3 | h3) | h3
     ·exact n1 (hi.inj k' c' k _ h hb b hb' h3).1
     ·exact n2 (hi.inj k' c' q _ h hq b hb' h3).1
     ·have:w.heap.size≤b:=h3;omega
    have h67:∀ b,(β k).base=some b→(β' 7).base≠some b:=fun b hb' h7'=>by have:=(hk.inj 1000000 (.cells (.acc 7::cs')) 7 (.rows sz rs') (by simp) (by simp) b (by rw [hfix];exact hb') h7').1;simp at this
    rcases hsplit k1 c1 h1 with ⟨rfl,rfl⟩ | ⟨rfl,rfl⟩ | ⟨n1,n2,g1'⟩ <;> rcases hsplit k2 c2 h2 with ⟨hk2,rfl⟩ | ⟨hk2,rfl⟩ | ⟨m1,m2,g2'⟩
    ·exact⟨hk2.symm,rfl⟩
    ·subst hk2;rw [hb2 _ hkq] at hb1;rw [hb2q] at hb2';exact absurd hb2' (h67 b hb1)
    ·rw [hb2 _ hkq] at hb1;rw [hb2 _ m2] at hb2';exact absurd (hi.inj _ _ _ _ g2' hb b hb2' hb1).1 m1
    ·subst hk2;rw [hb2q] at hb1;rw [hb2 _ hkq] at hb2';exact absurd hb1 (h67 b hb2')
    ·exact⟨hk2.symm,rfl⟩
    ·rw [hb2q] at hb1;rw [hb2 _ m2] at hb2';exact absurd hb1 (old _ _ g2' m1 m2 b hb2')
    ·subst hk2;rw [hb2 _ hkq] at hb2';rw [hb2 _ n2] at hb1;exact absurd (hi.inj _ _ _ _ g1' hb b hb1 hb2').1 n1
    ·subst hk2;rw [hb2q] at hb2';rw [hb2 _ n2] at hb1;exact absurd hb2' (old _ _ g1' n1 n2 b hb1)
    ·rw [hb2 _ n2] at hb1;rw [hb2 _ m2] at hb2';exact hi.inj _ _ _ _ g1' g2' b hb1 hb2'
   tab:=fun b cs'' h=>by obtain⟨t1,ty,fr,t2⟩:=hi.tab b cs'' h;exact⟨hS2l b t1,ty,fr,by rw [e1.same b t1];exact t2⟩
   one:=fun k' Y st k'' Y' st' h=>by
    rcases hsplit k' _ h with ⟨_,h⟩ | ⟨_,h⟩ | ⟨_,_,h⟩
    ·cases h
    ·cases h
    ·have:=hreal _ _ h;simp [BoxC.real] at this
   frn:=fun k' Y st h=>by
    rcases hsplit k' _ h with ⟨_,h⟩ | ⟨_,h⟩ | ⟨_,_,h⟩
    ·cases h
    ·cases h
    ·have:=hreal _ _ h;simp [BoxC.real] at this
   fix:=fun k' i h=>by obtain⟨f1,f2⟩:=hi.fix k' i h;exact⟨f1,by rw [hb2 k' (by omega)];exact f2⟩ }
end Go.Abs
