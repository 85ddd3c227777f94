/- Function values with first arguments, as data: kept in a map, called. Own framework. -/
import Derived.Test.YtlpkdlopdccmmaaGreatDoorYAb7
set_option linter.unusedVariables false
set_option linter.unusedSimpArgs false
namespace Go.Abs
set_option linter.unusedSimpArgs false
set_option linter.unusedVariables false
open Go
variable {P:Program} {sl:SL} {bx:Boxes} {o:Oper} {ρ:Rho}
theorem run_enterF {f:FuncId} (hE:Enters P f) {fo:Operand} {args:Array Operand} {tys:Array TypeId} (ho:o.op=.call { callee:=.value fo,args:=args,argTypes:=tys }) {a:Act} {vs:Array Value} {w:World} (hf:a.eval fo=.func (.func f) vs #[]) :
  (execOp a.eval o).run P w=.ok (.enter f (vs++args.map a.eval)) w:=by
 obtain⟨fn,h1,h2,h3⟩:=hE
 simp only [execOp,ho,resolve,Deferred.ofValue,hf,invoke,callFunc,Sem.run_bind,Sem.run_pure,Result.andThen_ok,run_program,h1,h2,h3,Bool.false_eq_true,if_false,Array.append_empty]
end Go.Abs
/- Methods bound to a record of several cells, kept in an array variable. Own framework. -/
set_option linter.unusedVariables false
set_option linter.unusedSimpArgs false
namespace Go.Abs
set_option linter.unusedSimpArgs false
set_option linter.unusedVariables false
open Go
variable {P:Program} {sl:SL} {bx:Boxes} {o:Oper} {ρ:Rho}
def recD:SV→D→Prop
 | .d x,y=>x=y∧x.one=true
 | .dptr cells off,y=>off=0∧y=.ptr cells
 | _,_=>False
variable {x:SV} {y:D}
theorem recD_one (h:recD x y):x.one=true∧y.one=true:=by
 cases x <;> simp [recD] at h
 ·obtain⟨rfl,h2⟩:=h;exact⟨h2,h2⟩
 ·obtain⟨_,rfl⟩:=h;exact⟨rfl,rfl⟩
variable {S:Nat→Prop} {w:World} {β:Names}
theorem recD_to {v:Value} (h:recD x y)(hr:RepV S w β x v):RepC S w y v:=by
 cases x <;> simp [recD] at h
 ·obtain⟨rfl,_⟩:=h;exact hr.inv_d
 ·obtain⟨rfl,rfl⟩:=h
  obtain⟨b,base,q⟩:=hr.inv_dptr
  rw [q.v,Nat.add_zero]
  exact .ptr _ b base q.inS q.one q.there q.rep
theorem recD_of {v:Value} (h:recD x y)(hr:RepC S w y v):RepV S w β x v:=by
 cases x <;> simp [recD] at h
 ·obtain⟨rfl,_⟩:=h;exact .d _ _ hr
 ·obtain⟨rfl,rfl⟩:=h
  cases hr with
  | ptr _ b base q1 q2 q3 q4=>exact .dptr _ 0 b base q1 q2 q3 q4
def recDs:List SV→List D→Prop
 | [],[]=>True
 | x::xs,y::ys=>recD x y∧recDs xs ys
 | _,_=>False
theorem recDs_get:∀ {xs:List SV} {ys:List D},recDs xs ys→xs.length=ys.length∧∀ (j:Nat)(x:SV)(y:D),xs[j]? = some x→ys[j]? = some y→recD x y
 | [],[],_=>⟨rfl,fun j x y h=>by simp at h⟩
 | [],_::_,h=>h.elim
 | _::_,[],h=>h.elim
 | x::xs,y::ys,h=>by
  obtain⟨h1,h2⟩:=recDs_get h.2
  refine⟨by simp [h1],fun j a b ha hb=>?_⟩
  match j with
  | 0 =>
   simp only [List.getElem?_cons_zero,Option.some.injEq] at ha hb
   subst ha;subst hb;exact h.1
  | j+1 =>
   simp only [List.getElem?_cons_succ] at ha hb
   exact h2 j a b ha hb
variable {ys:List D}
theorem rec_dataL {xs:List SV} {v:Value} (hd:recDs xs ys)(h:RepV S w β (.agg xs) v):RepC S w (.agg ys) v:=by
 obtain⟨hl,hg⟩:=recDs_get hd
 cases h with
 | agg cs vs h1 h2 h3 =>
  refine .agg _ _ (by omega) ?_ ?_
  ·intro y hy
   obtain⟨j,hj⟩:=List.mem_iff_getElem?.1 hy
   obtain⟨hlt,_⟩:=List.getElem?_eq_some_iff.1 hj
   exact (recD_one (hg j _ y (List.getElem?_eq_getElem (by omega:j < xs.length)) hj)).2
  ·intro j d x hd hx
   obtain⟨hlt,_⟩:=List.getElem?_eq_some_iff.1 hd
   have hj:=List.getElem?_eq_getElem (by omega:j < xs.length)
   exact recD_to (hg j _ d hj hd) (h3 j _ x hj hx)
theorem data_recL {xs:List SV} {v:Value} (hd:recDs xs ys)(h:RepC S w (.agg ys) v):RepV S w β (.agg xs) v:=by
 obtain⟨hl,hg⟩:=recDs_get hd
 cases h with
 | agg cs vs h1 h2 h3 =>
  refine .agg _ _ (by omega) ?_ ?_
  ·intro y hy
   obtain⟨j,hj⟩:=List.mem_iff_getElem?.1 hy
   obtain⟨hlt,_⟩:=List.getElem?_eq_some_iff.1 hj
   exact (recD_one (hg j y _ hj (List.getElem?_eq_getElem (by omega:j < ys.length)))).1
  ·intro j d x hd hx
   obtain⟨hlt,_⟩:=List.getElem?_eq_some_iff.1 hd
   have hj:=List.getElem?_eq_getElem (by omega:j < ys.length)
   exact recD_of (hg j d _ hd hj) (h3 j _ x hj hx)
theorem opT_boundL {f:FuncId} {x:Operand} {xs:List SV} (hd:recDs xs ys)(ho:o.op=.makeFunc (.func f) #[x] #[])(hx:ρ x=.agg xs):OpT P o ρ bx (.d (.fn f [.agg ys])) bx []:=by
 refine OpT.of_value fun C S w β a hi ha=>?_
 have h1:=ha x (mC ho)
 rw [hx] at h1
 refine⟨.func (.func f) #[a.eval x] #[],by simp [execOp,ho,Instr.makeFunc],.d _ _ (.fn f _ [a.eval x] rfl ?_)⟩
 intro j d v hd' hv
 match j with
 | 0 =>
  simp only [List.getElem?_cons_zero,Option.some.injEq] at hd' hv
  subst hd';subst hv
  exact rec_dataL hd h1
 | j+1=>simp at hd'
theorem opQ_callBoundL {f:FuncId} {fo:Operand} {args:List Operand} {tys:List TypeId} {xs:List SV} (hd:recDs xs ys) {args':List SV} {r:SV} (hf:opnd sl fo=.d (.fn f [.agg ys]))(hargs:coerceL [] (.agg xs::args.map (opnd sl))=some args')(hc:CallOK P f args' r)(hr:r.closed=true) :
  OpQ P sl bx (.call ⟨.value fo,args.toArray,tys.toArray⟩) r:=by
 intro o ho C S w β a hi ha
 have hf1:=ha fo (mC ho);rw [hf] at hf1
 have hf2:=hf1.inv_d
 generalize hfv:a.eval fo=v at hf2
 cases hf2 with
 | fn _ _ vs h1 h2 =>
  match vs,h1 with
  | [u],_ =>
   have hu:=data_recL (β:=β) hd (h2 0 _ u rfl rfl)
   have hall:RepL S w β (.agg xs::args.map (opnd sl)) (u::args.map a.eval):=.cons hu (RepL.evals _ fun x hx=>ha x (mo ho (by simp [Op.operands,Call.operands];exact .inr hx)))
   have hin:Inv ⟨w,S,fun _=>False,fun _ _=>False,C.G⟩ S w β []:=hi.begin hi.Slt (fun _ h=>h)
   obtain⟨g1,g2⟩:=coerceL_rep hin (SExt.refl S w) (by simp) hargs hall
   have hcall:=hc.2 ⟨w,S,fun _=>False,fun _ _=>False,C.G⟩ β _ hin g1
   refine Or.inl ?_
   unfold Oper.wp
   rw [run_enterF hc.1 ho hfv,Oper.upon_enter]
   have hargsEq:(⟨[u]⟩:Array Value)++args.toArray.map a.eval=⟨u::args.map a.eval⟩:=by apply Array.ext';simp
   rw [hargsEq]
   refine hcall.mono ?_
   rintro e w' ⟨v,S',β',rfl,hk,hv⟩
   obtain⟨q1,q2⟩:=hi.back hk
   have e':SExt S' w' (fun b=>S b∨(S' b∧w.heap.size≤b)) w':=⟨fun b hb=>by
    rcases hk.Snew b hb with h | h | h
    ·exact .inl h
    ·exact h.elim
    ·exact .inr ⟨hb,h⟩,fun _ _=>rfl⟩
   exact⟨v,_,β,rfl,q1,q2,(hv.ext e' (fun _ _=>rfl)).closed hr,fun _ _=>rfl⟩
theorem opT_buildArr {T e len sz:Nat} {parts:Array (Nat × Operand)} (ho:o.op=.build T parts) {zs:List SV} {ps:List (Nat × Nat)} {l:List (Nat × List SV)} {out:List SV}
  (hT:P.underlying T=some (.array len e)) (hs:tsize P e=some sz) (hz:tzero P T=some zs) (hp:∀ (i:Nat) (q:Nat × Nat),ps[i]? = some q→q=(i*sz,sz)) (hl:partsSV ρ parts.toList=some l) (hf:fillSV ps zs l=some out) (h1:out.all SV.one=true):OpT P o ρ bx (.agg out) bx [] :=
 .of_value fun _ S w β a _ ha=>by
  obtain⟨z,hrun,rfl⟩:=run_zeroValue' hz w
  obtain⟨g1,g2,_⟩:=partsSV_rep parts.toList l (fun p hp=>ha p.2 (mo ho (by simp only [Op.operands,List.mem_toArray,List.mem_map];exact⟨p,hp,rfl⟩))) hl
  obtain⟨ws,q1,q2⟩:=fill_rep (fun i=>some (i*sz,sz)) ps l (parts.toList.map fun p=>(p.1,a.eval p.2)) _ out _ (repL_const S w β z.cells.toList) (fun i q hq=>by rw [hp i q hq]) g1 g2 hf
  refine⟨.agg ⟨ws⟩,?_,RepV.agg_of q2 h1⟩
  have hz':z.cells=⟨z.cells.toList⟩:=rfl
  have:Instr.fill (fun i=>some (i*sz,sz)) z.cells (Array.map (fun x=>(x.fst,a.eval x.snd)) parts).toList=some ⟨ws⟩:=by
   rw [hz',Array.toList_map];exact q1
  simp only [execOp,ho,Instr.build,Sem.run_bind,hrun,Result.andThen_ok,underlying,run_program,hT,Sem.run_pure,run_sizeOf' hs,this]
theorem opT_indexArr {T e len sz:Nat} {x y:Operand} (ho:o.op=.indexAddr T x y) {k off:Nat} {ik:IntKind} {i:Int} (hx:ρ x=.box k off)(hy:ρ y=.d (.int ik i))
  (hT:P.underlying T=some (.array len e)) (hs:tsize P e=some sz) (h0:0≤i) (h1:i < len):OpT P o ρ bx (.box k (off+i.toNat*sz)) bx [] :=
 .of_value fun _ S w β a hi ha=>by
  have hx1:=(ha x (mC ho));rw [hx] at hx1
  have hy1:=(ha y (mC ho));rw [hy] at hy1;have hy1:=hy1.inv_int
  obtain⟨b,hbase,hv⟩:=hx1.inv_box
  refine⟨.pointer (some ⟨b,off+i.toNat*sz,none⟩),?_,.box _ _ _ hbase⟩
  simp only [execOp,ho,Instr.indexAt,hv,hy1,Sem.run_bind,asIntOf,Sem.run_pure,Result.andThen_ok,underlying,run_program,hT,Instr.sureAddr,run_sizeOf' hs]
  simp only [h0,h1,and_self,if_true,Sem.run_bind,run_sizeOf' hs,Result.andThen_ok,Sem.run_pure,Addr.add]
  split
  ·rename_i hz;rw [hz,Nat.add_zero]
  ·rfl
theorem opQ_indexArr {T e len sz:Nat} {x y:Operand} {k off j q:Nat} {ik:IntKind} {i:Int} (hx:opnd sl x=.box k off)(hy:opnd sl y=.d (.int ik i))(hi:i=j)
  (hT:P.underlying T=some (.array len e)) (hs:tsize P e=some sz) (h1:j < len) (hq:off+j*sz=q):OpQ P sl bx (.indexAddr T x y) (.box k q):=by
 intro o ho
 subst hq
 have h:=opT_indexArr (P:=P) (bx:=bx) (ρ:=opnd sl) ho hx hy hT hs (by omega) (by omega)
 rw [hi,Int.toNat_natCast] at h
 exact h
variable {ro:Option Nat} {P:Program} {n:Nat} {Q:Exit→SL→Boxes→Prop} {sl:SL} {bx:Boxes}
end Go.Abs
/- Closures kept as data: made, called; variables that hold addresses, frozen. Own framework. -/
set_option linter.unusedVariables false
set_option linter.unusedSimpArgs false
namespace Go.Abs
set_option linter.unusedSimpArgs false
set_option linter.unusedVariables false
open Go
variable {P:Program} {sl:SL} {bx:Boxes} {o:Oper} {ρ:Rho}
theorem opQ_cl {f:FuncId} {caps:Array Operand} {xs:List SV} {ys:List D} (hd:recDs xs ys)(hx:caps.toList.map (opnd sl)=xs):OpQ P sl bx (.makeFunc (.func f) #[] caps) (.d (.cl f ys)):=by
 intro o ho
 refine OpT.of_value fun C S w β a hi ha=>?_
 obtain⟨hl,hg⟩:=recDs_get hd
 have hlen:caps.toList.length=xs.length:=by rw [← hx,List.length_map]
 refine⟨.func (.func f) #[] ⟨caps.toList.map a.eval⟩,by rw [show (⟨caps.toList.map a.eval⟩:Array Value)=caps.map a.eval by apply Array.ext';simp];simp [execOp,ho,Instr.makeFunc],.d _ _ (.cl f _ (caps.toList.map a.eval) (by simp at hlen ⊢;omega) ?_)⟩
 intro j d v hd' hv
 rw [List.getElem?_map,Option.map_eq_some_iff] at hv
 obtain⟨x,hx',rfl⟩:=hv
 have h1:=ha x (mo ho (by simp [Op.operands];exact Array.mem_toList_iff.1 (List.mem_of_getElem? hx')))
 exact recD_to (hg j _ d (by rw [← hx,List.getElem?_map,hx'];rfl) hd') h1
theorem opQ_callCl {f:FuncId} {fo:Operand} {args:List Operand} {tys:List TypeId} {xs:List SV} {ys:List D} (hd:recDs xs ys) {args':List SV} {r:SV} (hf:opnd sl fo=.d (.cl f ys))(hargs:coerceL [] (args.map (opnd sl)++xs)=some args')(hc:CallOK P f args' r)(hr:r.closed=true) :
  OpQ P sl bx (.call ⟨.value fo,args.toArray,tys.toArray⟩) r:=by
 intro o ho C S w β a hi ha
 have hf1:=ha fo (mC ho);rw [hf] at hf1
 have hf2:=hf1.inv_d
 generalize hfv:a.eval fo=v at hf2
 cases hf2 with
 | cl _ _ vs h1 h2 =>
  obtain⟨hl,hg⟩:=recDs_get hd
  have hcaps:RepL S w β xs vs:=⟨by omega,fun j c u hc hu=>by
   obtain⟨hlt,_⟩:=List.getElem?_eq_some_iff.1 hc
   have hj:ys[j]? = some ys[j]:=List.getElem?_eq_getElem (by omega)
   exact recD_of (hg j c _ hc hj) (h2 j _ u hj hu)⟩
  have hall:RepL S w β (args.map (opnd sl)++xs) (args.map a.eval++vs):=(RepL.evals _ fun x hx=>ha x (mo ho (by simp [Op.operands,Call.operands];exact .inr hx))).append hcaps
  have hin:Inv ⟨w,S,fun _=>False,fun _ _=>False,C.G⟩ S w β []:=hi.begin hi.Slt (fun _ h=>h)
  obtain⟨g1,g2⟩:=coerceL_rep hin (SExt.refl S w) (by simp) hargs hall
  have hcall:=hc.2 ⟨w,S,fun _=>False,fun _ _=>False,C.G⟩ β _ hin g1
  refine Or.inl ?_
  unfold Oper.wp
  rw [run_enter hc.1 ho hfv,Oper.upon_enter]
  have hargsEq:args.toArray.map a.eval++(⟨vs⟩:Array Value)=⟨args.map a.eval++vs⟩:=by apply Array.ext';simp
  rw [hargsEq]
  refine hcall.mono ?_
  rintro e w' ⟨v,S',β',rfl,hk,hv⟩
  obtain⟨q1,q2⟩:=hi.back hk
  have e':SExt S' w' (fun b=>S b∨(S' b∧w.heap.size≤b)) w':=⟨fun b hb=>by
   rcases hk.Snew b hb with h | h | h
   ·exact .inl h
   ·exact h.elim
   ·exact .inr ⟨hb,h⟩,fun _ _=>rfl⟩
  exact⟨v,_,β,rfl,q1,q2,(hv.ext e' (fun _ _=>rfl)).closed hr,fun _ _=>rfl⟩
theorem opQ_min {x y:Operand} {tys:Array TypeId} {m n:Int} (hx:opnd sl x=.d (.int .i64 m))(hy:opnd sl y=.d (.int .i64 n)) :
  OpQ P sl bx (.call ⟨.builtin .min,#[x,y],tys⟩) (.d (.int .i64 (if n < m then n else m))):=by
 intro o ho
 refine OpT.of_value fun C S w β a hi ha=>?_
 have h1:=ha x (mC ho);rw [hx] at h1;have h1:=h1.inv_int
 have h2:=ha y (mC ho);rw [hy] at h2;have h2:=h2.inv_int
 refine⟨.int .i64 (if n < m then n else m),?_,.d _ _ (.int _ _)⟩
 simp [execOp,ho,resolve,invoke,builtin,Builtin.min_,Builtin.min2,h1,h2]
def FnOK (P:Program)(d:D)(args:List SV)(r:SV):Prop:=∃ f xs ys args',d=.cl f ys∧recDs xs ys∧coerceL [] (args++xs)=some args'∧CallOK P f args' r
theorem opQ_callFn {d:D} {fo:Operand} {args:List Operand} {tys:List TypeId} {r:SV} (hf:opnd sl fo=.d d)(h:FnOK P d (args.map (opnd sl)) r)(hr:r.closed=true) :
  OpQ P sl bx (.call ⟨.value fo,args.toArray,tys.toArray⟩) r:=by
 obtain⟨f,xs,ys,args',rfl,h1,h2,h3⟩:=h
 exact opQ_callCl h1 hf h2 h3 hr
theorem CallOK.ptr {f:FuncId} {c:List D} {args:List SV} {r:SV} (h:CallOK P f (.dptr c 0::args) r):CallOK P f (.d (.ptr c)::args) r:=by
 refine⟨h.1,fun C β vs hi hv=>h.2 C β vs hi ?_⟩
 cases vs with
 | nil=>exact absurd hv.1 (by simp)
 | cons v vs =>
  have h0:=hv.2 0 _ v rfl rfl
  refine .cons ?_ ?_
  ·have:=h0.inv_d
   cases this with
   | ptr _ b base q1 q2 q3 q4=>exact .dptr _ 0 b base q1 q2 q3 q4
  ·exact⟨by have:=hv.1;simp at this ⊢;omega,fun j c u hc hu=>hv.2 (j+1) c u hc hu⟩
def toDsP:List SV→Option (List D)
 | []=>some []
 | .dptr c 0::r=>(toDsP r).map (.ptr c::·)
 | .clo f []::r=>(toDsP r).map (.cl f []::·)
 | x::r=>match toDs [x] with
  | some [d]=>(toDsP r).map (d::·)
  | _=>none
theorem toDsP_rep {S:Nat→Prop} {w:World} {β:Names}:∀ (cs:List SV)(ds:List D)(vs:List Value),toDsP cs=some ds→RepL S w β cs vs →
  ds.length=cs.length∧(∀ d,d∈ds→d.one=true)∧∀ (j:Nat) (d:D) (v:Value),ds[j]? = some d→vs[j]? = some v→RepC S w d v
 | [],ds,vs,h,hr=>by simp only [toDsP,Option.some.injEq] at h;subst h;simp
 | c::cs,ds,vs,h,hr=>by
  cases vs with
  | nil=>exact absurd hr.1 (by simp)
  | cons v vs =>
   have hr':RepL S w β cs vs:=⟨by have:=hr.1;simp at this ⊢;omega,fun j c u hc hu=>hr.2 (j+1) c u hc hu⟩
   have h0:=hr.2 0 c v rfl rfl
   have key:∃ d l,ds=d::l∧toDsP cs=some l∧d.one=true∧RepC S w d v:=by
    unfold toDsP at h
    split at h
    ·rename_i heq;cases heq
    ·rename_i c' r heq
     cases heq
     rw [Option.map_eq_some_iff] at h
     obtain⟨l,h1,rfl⟩:=h
     obtain⟨b,base,q⟩:=h0.inv_dptr
     refine⟨_,l,rfl,h1,rfl,?_⟩
     rw [q.v,Nat.add_zero]
     exact .ptr _ b base q.inS q.one q.there q.rep
    ·rename_i f r heq
     cases heq
     rw [Option.map_eq_some_iff] at h
     obtain⟨l,h1,rfl⟩:=h
     refine⟨_,l,rfl,h1,rfl,?_⟩
     cases h0 with
     | clo _ _ vs g1 g2 =>
      obtain rfl:vs=[]:=List.eq_nil_of_length_eq_zero (by simpa using g1)
      exact .cl f [] [] rfl (by simp)
    ·rename_i x r _ _ heq
     cases heq
     split at h
     ·rename_i d hd
      rw [Option.map_eq_some_iff] at h
      obtain⟨l,h1,rfl⟩:=h
      obtain⟨_,g2,g3⟩:=toDs_rep [_] [d] [v] hd (.cons h0 .nil)
      exact⟨d,l,rfl,h1,g2 d (by simp),g3 0 d v rfl rfl⟩
     ·cases h
   obtain⟨d,l,rfl,h1,h2,h3⟩:=key
   obtain⟨g1,g2,g3⟩:=toDsP_rep cs l vs h1 hr'
   refine⟨by simp [g1],fun x hx=>?_,fun j x u hx hu=>?_⟩
   ·rcases List.mem_cons.1 hx with rfl | hx
    ·exact h2
    ·exact g2 x hx
   ·match j with
    | 0 =>
     simp only [List.getElem?_cons_zero,Option.some.injEq] at hx hu
     subst hx;subst hu;exact h3
    | j+1 =>
     simp only [List.getElem?_cons_succ] at hx hu
     exact g3 j x u hx hu
variable {ro:Option Nat} {n:Nat} {Q:Exit→SL→Boxes→Prop}
theorem AWp.freezeP {c:Code} (k:Nat) {cs:List SV} {ds:List D} (hk:bget bx k=some (.cells cs))(hd:toDsP cs=some ds)
  (h:AWp ro P n c Q (subSl k ⟨fun off=>.dptr ds off,.acc k,.mp k⟩ sl) (subBx k ⟨fun off=>.dptr ds off,.acc k,.mp k⟩ (berase k bx))):AWp ro P n c Q sl bx:=by
 refine AWp.pubCore k (mem_of_bget hk) (fun S w β hb hS=>⟨fun off v hv=>?_,fun v hv=>hv,fun v hv=>hv,fun _=>rfl,rfl,rfl⟩) h
 obtain⟨b,ty,vs,h1,h2,h3⟩:=hb
 obtain⟨q1,q2,q3⟩:=toDsP_rep cs ds vs hd h3
 have hl:=h3.1
 cases hv with
 | box _ _ b' hb' =>
  rw [h1] at hb';cases hb'
  have:=RepV.dptr (S:=S) (w:=w) (β:=β) ds off b 0 (hS b h1) q2 (fun j hj=>⟨vs[j]'(by omega),by rw [cells_of_row h2,Nat.zero_add];exact List.getElem?_eq_getElem _⟩)
   (fun j d v hd hv=>q3 j d v hd (by rw [cells_of_row h2,Nat.zero_add] at hv;exact hv))
  simpa using this
end Go.Abs
