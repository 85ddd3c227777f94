/- Drawn regions in which a slice of one's own grows while other operations only look. Own framework. -/
import Derived.Test.YtgjfipagmicdnaaGreatDoorLAb8
set_option linter.unusedVariables false
set_option linter.unusedSimpArgs false
namespace Go.Abs
open Go
variable {ro:Option Nat} {P:Program} {n:Nat} {Q:Exit→SL→Boxes→Prop} {sl:SL} {bx:Boxes} {o:Oper} {ρ:Rho}
structure ChainOK (ops:Array Oper)(m:Nat)(ch kp:List Nat):Prop where
 lt:∀ i,i∈ch→i < m
 op:∀ i,i∈ch→∃ o,ops[i]? = some o∧o.guard=none
 link:∀ i j,i∈ch→j∈ch→j < i→∀ o,ops[i]? = some o→(∃ e,e∈o.after∧Region.binds .any e=true∧e.on=j)∨∃ k,k∈ch∧j < k∧k < i∧∃ e,e∈o.after∧Region.binds .any e=true∧e.on=k
 apart:∀ i,i < m→i ∉ ch→∀ o,ops[i]? = some o→∀ t,t∈usesOf ops o→∀ j,j∈ch→∀ oj,ops[j]? = some oj→oj.dst≠some t
 newest:∀ i,i∈ch→∀ o,ops[i]? = some o→∀ t,t∈usesOf ops o→∀ k,k∈ch→∀ ok,ops[k]? = some ok→ok.dst=some t→∀ j,j∈ch→j < i→j≤k∨j∈kp
end Go.Abs
/- Function values with first arguments, as data: kept in a map, called. Own framework. -/
set_option linter.unusedVariables false
set_option linter.unusedSimpArgs false
namespace Go.Abs
set_option linter.unusedSimpArgs false
set_option linter.unusedVariables false
open Go
variable {P:Program} {sl:SL} {bx:Boxes} {o:Oper} {ρ:Rho}
end Go.Abs
/- Methods bound to a record of several cells, kept in an array variable. Own framework. -/
set_option linter.unusedVariables false
set_option linter.unusedSimpArgs false
namespace Go.Abs
set_option linter.unusedSimpArgs false
set_option linter.unusedVariables false
open Go
variable {P:Program} {sl:SL} {bx:Boxes} {o:Oper} {ρ:Rho}
def recD:SV→D→Prop
 | .d x,y=>x=y∧x.one=true
 | .dptr cells off,y=>off=0∧y=.ptr cells
 | _,_=>False
theorem recD_to {S:Nat→Prop} {w:World} {β:Names} {x:SV} {y:D} {v:Value} (h:recD x y)(hr:RepV S w β x v):RepC S w y v:=by
 cases x <;> simp [recD] at h
 ·obtain⟨rfl,_⟩:=h;exact hr.inv_d
 ·obtain⟨rfl,rfl⟩:=h
  obtain⟨b,base,q⟩:=hr.inv_dptr
  rw [q.v,Nat.add_zero]
  exact .ptr _ b base q.inS q.one q.there q.rep
theorem recD_of {S:Nat→Prop} {w:World} {β:Names} {x:SV} {y:D} {v:Value} (h:recD x y)(hr:RepC S w y v):RepV S w β x v:=by
 cases x <;> simp [recD] at h
 ·obtain⟨rfl,_⟩:=h;exact .d _ _ hr
 ·obtain⟨rfl,rfl⟩:=h
  cases hr with
  | ptr _ b base q1 q2 q3 q4=>exact .dptr _ 0 b base q1 q2 q3 q4
def recDs:List SV→List D→Prop
 | [],[]=>True
 | x::xs,y::ys=>recD x y∧recDs xs ys
 | _,_=>False
theorem recDs_get:∀ {xs:List SV} {ys:List D},recDs xs ys→xs.length=ys.length∧∀ (j:Nat)(x:SV)(y:D),xs[j]? = some x→ys[j]? = some y→recD x y
 | [],[],_=>⟨rfl,fun j x y h=>by simp at h⟩
 | [],_::_,h=>h.elim
 | _::_,[],h=>h.elim
 | x::xs,y::ys,h=>by
  obtain⟨h1,h2⟩:=recDs_get h.2
  refine⟨by simp [h1],fun j a b ha hb=>?_⟩
  match j with
  | 0 =>
   simp only [List.getElem?_cons_zero,Option.some.injEq] at ha hb
   subst ha;subst hb;exact h.1
  | j+1 =>
   simp only [List.getElem?_cons_succ] at ha hb
   exact h2 j a b ha hb
variable {ro:Option Nat} {P:Program} {n:Nat} {Q:Exit→SL→Boxes→Prop} {sl:SL} {bx:Boxes}
end Go.Abs
/- Closures kept as data: made, called; variables that hold addresses, frozen. Own framework. -/
set_option linter.unusedVariables false
set_option linter.unusedSimpArgs false
namespace Go.Abs
set_option linter.unusedSimpArgs false
set_option linter.unusedVariables false
open Go
variable {P:Program} {sl:SL} {bx:Boxes} {o:Oper} {ρ:Rho}
theorem opQ_cl {f:FuncId} {caps:Array Operand} {xs:List SV} {ys:List D} (hd:recDs xs ys)(hx:caps.toList.map (opnd sl)=xs):OpQ P sl bx (.makeFunc (.func f) #[] caps) (.d (.cl f ys)):=by
 intro o ho
 refine OpT.of_value fun C S w β a hi ha=>?_
 obtain⟨hl,hg⟩:=recDs_get hd
 have hlen:caps.toList.length=xs.length:=by rw [← hx,List.length_map]
 refine⟨.func (.func f) #[] ⟨caps.toList.map a.eval⟩,by rw [show (⟨caps.toList.map a.eval⟩:Array Value)=caps.map a.eval by apply Array.ext';simp];simp [execOp,ho,Instr.makeFunc],.d _ _ (.cl f _ (caps.toList.map a.eval) (by simp at hlen ⊢;omega) ?_)⟩
 intro j d v hd' hv
 rw [List.getElem?_map,Option.map_eq_some_iff] at hv
 obtain⟨x,hx',rfl⟩:=hv
 have h1:=ha x (mo ho (by simp [Op.operands];exact Array.mem_toList_iff.1 (List.mem_of_getElem? hx')))
 exact recD_to (hg j _ d (by rw [← hx,List.getElem?_map,hx'];rfl) hd') h1
theorem opQ_callCl {f:FuncId} {fo:Operand} {args:List Operand} {tys:List TypeId} {xs:List SV} {ys:List D} (hd:recDs xs ys) {args':List SV} {r:SV} (hf:opnd sl fo=.d (.cl f ys))(hargs:coerceL [] (args.map (opnd sl)++xs)=some args')(hc:CallOK P f args' r)(hr:r.closed=true) :
  OpQ P sl bx (.call ⟨.value fo,args.toArray,tys.toArray⟩) r:=by
 intro o ho C S w β a hi ha
 have hf1:=ha fo (mC ho);rw [hf] at hf1
 have hf2:=hf1.inv_d
 generalize hfv:a.eval fo=v at hf2
 cases hf2 with
 | cl _ _ vs h1 h2 =>
  obtain⟨hl,hg⟩:=recDs_get hd
  have hcaps:RepL S w β xs vs:=⟨by omega,fun j c u hc hu=>by
   obtain⟨hlt,_⟩:=List.getElem?_eq_some_iff.1 hc
   have hj:ys[j]? = some ys[j]:=List.getElem?_eq_getElem (by omega)
   exact recD_of (hg j c _ hc hj) (h2 j _ u hj hu)⟩
  have hall:RepL S w β (args.map (opnd sl)++xs) (args.map a.eval++vs):=(RepL.evals _ fun x hx=>ha x (mo ho (by simp [Op.operands,Call.operands];exact .inr hx))).append hcaps
  have hin:Inv ⟨w,S,fun _=>False,fun _ _=>False,C.G⟩ S w β []:=hi.begin hi.Slt (fun _ h=>h)
  obtain⟨g1,g2⟩:=coerceL_rep hin (SExt.refl S w) (by simp) hargs hall
  have hcall:=hc.2 ⟨w,S,fun _=>False,fun _ _=>False,C.G⟩ β _ hin g1
  refine Or.inl ?_
  unfold Oper.wp
  rw [run_enter hc.1 ho hfv,Oper.upon_enter]
  have hargsEq:args.toArray.map a.eval++(⟨vs⟩:Array Value)=⟨args.map a.eval++vs⟩:=by apply Array.ext';simp
  rw [hargsEq]
  refine hcall.mono ?_
  rintro e w' ⟨v,S',β',rfl,hk,hv⟩
  obtain⟨q1,q2⟩:=hi.back hk
  have e':SExt S' w' (fun b=>S b∨(S' b∧w.heap.size≤b)) w':=⟨fun b hb=>by
   rcases hk.Snew b hb with h | h | h
   ·exact .inl h
   ·exact h.elim
   ·exact .inr ⟨hb,h⟩,fun _ _=>rfl⟩
  exact⟨v,_,β,rfl,q1,q2,(hv.ext e' (fun _ _=>rfl)).closed hr,fun _ _=>rfl⟩
theorem opQ_min {x y:Operand} {tys:Array TypeId} {m n:Int} (hx:opnd sl x=.d (.int .i64 m))(hy:opnd sl y=.d (.int .i64 n)) :
  OpQ P sl bx (.call ⟨.builtin .min,#[x,y],tys⟩) (.d (.int .i64 (if n < m then n else m))):=by
 intro o ho
 refine OpT.of_value fun C S w β a hi ha=>?_
 have h1:=ha x (mC ho);rw [hx] at h1;have h1:=h1.inv_int
 have h2:=ha y (mC ho);rw [hy] at h2;have h2:=h2.inv_int
 refine⟨.int .i64 (if n < m then n else m),?_,.d _ _ (.int _ _)⟩
 simp [execOp,ho,resolve,invoke,builtin,Builtin.min_,Builtin.min2,h1,h2]
def FnOK (P:Program)(d:D)(args:List SV)(r:SV):Prop:=∃ f xs ys args',d=.cl f ys∧recDs xs ys∧coerceL [] (args++xs)=some args'∧CallOK P f args' r
theorem opQ_callFn {d:D} {fo:Operand} {args:List Operand} {tys:List TypeId} {r:SV} (hf:opnd sl fo=.d d)(h:FnOK P d (args.map (opnd sl)) r)(hr:r.closed=true) :
  OpQ P sl bx (.call ⟨.value fo,args.toArray,tys.toArray⟩) r:=by
 obtain⟨f,xs,ys,args',rfl,h1,h2,h3⟩:=h
 exact opQ_callCl h1 hf h2 h3 hr
theorem CallOK.ptr {f:FuncId} {c:List D} {args:List SV} {r:SV} (h:CallOK P f (.dptr c 0::args) r):CallOK P f (.d (.ptr c)::args) r:=by
 refine⟨h.1,fun C β vs hi hv=>h.2 C β vs hi ?_⟩
 cases vs with
 | nil=>exact absurd hv.1 (by simp)
 | cons v vs =>
  have h0:=hv.2 0 _ v rfl rfl
  refine .cons ?_ ?_
  ·have:=h0.inv_d
   cases this with
   | ptr _ b base q1 q2 q3 q4=>exact .dptr _ 0 b base q1 q2 q3 q4
  ·exact⟨by have:=hv.1;simp at this ⊢;omega,fun j c u hc hu=>hv.2 (j+1) c u hc hu⟩
def toDsP:List SV→Option (List D)
 | []=>some []
 | .dptr c 0::r=>(toDsP r).map (.ptr c::·)
 | .clo f []::r=>(toDsP r).map (.cl f []::·)
 | x::r=>match toDs [x] with
  | some [d]=>(toDsP r).map (d::·)
  | _=>none
theorem toDsP_rep {S:Nat→Prop} {w:World} {β:Names}:∀ (cs:List SV)(ds:List D)(vs:List Value),toDsP cs=some ds→RepL S w β cs vs →
  ds.length=cs.length∧(∀ d,d∈ds→d.one=true)∧∀ (j:Nat) (d:D) (v:Value),ds[j]? = some d→vs[j]? = some v→RepC S w d v
 | [],ds,vs,h,hr=>by simp only [toDsP,Option.some.injEq] at h;subst h;simp
 | c::cs,ds,vs,h,hr=>by
  cases vs with
  | nil=>exact absurd hr.1 (by simp)
  | cons v vs =>
   have hr':RepL S w β cs vs:=⟨by have:=hr.1;simp at this ⊢;omega,fun j c u hc hu=>hr.2 (j+1) c u hc hu⟩
   have h0:=hr.2 0 c v rfl rfl
   have key:∃ d l,ds=d::l∧toDsP cs=some l∧d.one=true∧RepC S w d v:=by
    unfold toDsP at h
    split at h
    ·rename_i heq;cases heq
    ·rename_i c' r heq
     cases heq
     rw [Option.map_eq_some_iff] at h
     obtain⟨l,h1,rfl⟩:=h
     obtain⟨b,base,q⟩:=h0.inv_dptr
     refine⟨_,l,rfl,h1,rfl,?_⟩
     rw [q.v,Nat.add_zero]
     exact .ptr _ b base q.inS q.one q.there q.rep
    ·rename_i f r heq
     cases heq
     rw [Option.map_eq_some_iff] at h
     obtain⟨l,h1,rfl⟩:=h
     refine⟨_,l,rfl,h1,rfl,?_⟩
     cases h0 with
     | clo _ _ vs g1 g2 =>
      obtain rfl:vs=[]:=List.eq_nil_of_length_eq_zero (by simpa using g1)
      exact .cl f [] [] rfl (by simp)
    ·rename_i x r _ _ heq
     cases heq
     split at h
     ·rename_i d hd
      rw [Option.map_eq_some_iff] at h
      obtain⟨l,h1,rfl⟩:=h
      obtain⟨_,g2,g3⟩:=toDs_rep [_] [d] [v] hd (.cons h0 .nil)
      exact⟨d,l,rfl,h1,g2 d (by simp),g3 0 d v rfl rfl⟩
     ·cases h
   obtain⟨d,l,rfl,h1,h2,h3⟩:=key
   obtain⟨g1,g2,g3⟩:=toDsP_rep cs l vs h1 hr'
   refine⟨by simp [g1],fun x hx=>?_,fun j x u hx hu=>?_⟩
   ·rcases List.mem_cons.1 hx with rfl | hx
    ·exact h2
    ·exact g2 x hx
   ·match j with
    | 0 =>
     simp only [List.getElem?_cons_zero,Option.some.injEq] at hx hu
     subst hx;subst hu;exact h3
    | j+1 =>
     simp only [List.getElem?_cons_succ] at hx hu
     exact g3 j x u hx hu
variable {ro:Option Nat} {n:Nat} {Q:Exit→SL→Boxes→Prop}
theorem AWp.freezeP {c:Code} (k:Nat) {cs:List SV} {ds:List D} (hk:bget bx k=some (.cells cs))(hd:toDsP cs=some ds)
  (h:AWp ro P n c Q (subSl k ⟨fun off=>.dptr ds off,.acc k,.mp k⟩ sl) (subBx k ⟨fun off=>.dptr ds off,.acc k,.mp k⟩ (berase k bx))):AWp ro P n c Q sl bx:=by
 refine AWp.pubCore k (mem_of_bget hk) (fun S w β hb hS=>⟨fun off v hv=>?_,fun v hv=>hv,fun v hv=>hv,fun _=>rfl,rfl,rfl⟩) h
 obtain⟨b,ty,vs,h1,h2,h3⟩:=hb
 obtain⟨q1,q2,q3⟩:=toDsP_rep cs ds vs hd h3
 have hl:=h3.1
 cases hv with
 | box _ _ b' hb' =>
  rw [h1] at hb';cases hb'
  have:=RepV.dptr (S:=S) (w:=w) (β:=β) ds off b 0 (hS b h1) q2 (fun j hj=>⟨vs[j]'(by omega),by rw [cells_of_row h2,Nat.zero_add];exact List.getElem?_eq_getElem _⟩)
   (fun j d v hd hv=>q3 j d v hd (by rw [cells_of_row h2,Nat.zero_add] at hv;exact hv))
  simpa using this
end Go.Abs
