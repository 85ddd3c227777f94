/- (empty) -/
import Derived.Test.YtbhbfpjnenekpaaGreatDoorUAb7
/- Function values with first arguments, as data: kept in a map, called. Own framework. -/
set_option linter.unusedVariables false
set_option linter.unusedSimpArgs false
namespace Go.Abs
set_option linter.unusedSimpArgs false
set_option linter.unusedVariables false
open Go
variable {P:Program} {sl:SL} {bx:Boxes} {o:Oper} {ρ:Rho}
theorem rec_data {S:Nat→Prop} {w:World} {β:Names} {cells:List D} {v:Value} (h:RepV S w β (.agg [.dptr cells 0]) v):RepC S w (.agg [.ptr cells]) v:=by
 cases h with
 | agg cs vs h1 h2 h3 =>
  match vs,h1 with
  | [u],_ =>
   have:=h3 0 _ u rfl rfl
   obtain⟨b,base,q⟩:=this.inv_dptr
   refine .agg _ _ rfl (by simp [D.one]) ?_
   intro j d x hd hx
   match j with
   | 0 =>
    simp only [List.getElem?_cons_zero,Option.some.injEq] at hd hx
    subst hd;subst hx
    rw [q.v,Nat.add_zero]
    exact .ptr _ b base q.inS q.one q.there q.rep
   | j+1=>simp at hd
theorem data_rec {S:Nat→Prop} {w:World} {β:Names} {cells:List D} {v:Value} (h:RepC S w (.agg [.ptr cells]) v):RepV S w β (.agg [.dptr cells 0]) v:=by
 cases h with
 | agg cs vs h1 h2 h3 =>
  match vs,h1 with
  | [u],_ =>
   have h4:=h3 0 _ u rfl rfl
   refine .agg _ _ rfl (by simp [SV.one]) ?_
   intro j d x hd hx
   match j with
   | 0 =>
    simp only [List.getElem?_cons_zero,Option.some.injEq] at hd hx
    subst hd;subst hx
    cases h4 with
    | ptr _ b base q1 q2 q3 q4=>exact .dptr cells 0 b base q1 q2 q3 q4
   | j+1=>simp at hd
variable {f:FuncId}
theorem opT_bound {x:Operand} {cells:List D} (ho:o.op=.makeFunc (.func f) #[x] #[])(hx:ρ x=.agg [.dptr cells 0]):OpT P o ρ bx (.d (.fn f [.agg [.ptr cells]])) bx []:=by
 refine OpT.of_value fun C S w β a hi ha=>?_
 have h1:=ha x (mC ho)
 rw [hx] at h1
 refine⟨.func (.func f) #[a.eval x] #[],by simp [execOp,ho,Instr.makeFunc],.d _ _ (.fn f _ [a.eval x] rfl ?_)⟩
 intro j d v hd hv
 match j with
 | 0 =>
  simp only [List.getElem?_cons_zero,Option.some.injEq] at hd hv
  subst hd;subst hv
  exact rec_data h1
 | j+1=>simp at hd
theorem run_enterF (hE:Enters P f) {fo:Operand} {args:Array Operand} {tys:Array TypeId} (ho:o.op=.call { callee:=.value fo,args:=args,argTypes:=tys }) {a:Act} {vs:Array Value} {w:World} (hf:a.eval fo=.func (.func f) vs #[]) :
  (execOp a.eval o).run P w=.ok (.enter f (vs++args.map a.eval)) w:=by
 obtain⟨fn,h1,h2,h3⟩:=hE
 simp only [execOp,ho,resolve,Deferred.ofValue,hf,invoke,callFunc,Sem.run_bind,Sem.run_pure,Result.andThen_ok,run_program,h1,h2,h3,Bool.false_eq_true,if_false,Array.append_empty]
theorem opQ_callBound {fo:Operand} {args:List Operand} {tys:List TypeId} {cells:List D} {args':List SV} {r:SV} (hf:opnd sl fo=.d (.fn f [.agg [.ptr cells]]))(hargs:coerceL [] (.agg [.dptr cells 0]::args.map (opnd sl))=some args')(hc:CallOK P f args' r)(hr:r.closed=true) :
  OpQ P sl bx (.call ⟨.value fo,args.toArray,tys.toArray⟩) r:=by
 intro o ho C S w β a hi ha
 have hf1:=ha fo (mC ho);rw [hf] at hf1
 have hf2:=hf1.inv_d
 generalize hfv:a.eval fo=v at hf2
 cases hf2 with
 | fn _ _ vs h1 h2 =>
  match vs,h1 with
  | [u],_ =>
   have hu:=data_rec (β:=β) (h2 0 _ u rfl rfl)
   have hall:RepL S w β (.agg [.dptr cells 0]::args.map (opnd sl)) (u::args.map a.eval):=.cons hu (RepL.evals _ fun x hx=>ha x (mo ho (by simp [Op.operands,Call.operands];exact .inr hx)))
   have hin:Inv ⟨w,S,fun _=>False,fun _ _=>False,C.G⟩ S w β []:=hi.begin hi.Slt (fun _ h=>h)
   obtain⟨g1,g2⟩:=coerceL_rep hin (SExt.refl S w) (by simp) hargs hall
   have hcall:=hc.2 ⟨w,S,fun _=>False,fun _ _=>False,C.G⟩ β _ hin g1
   refine Or.inl ?_
   unfold Oper.wp
   rw [run_enterF hc.1 ho hfv,Oper.upon_enter]
   have hargsEq:(⟨[u]⟩:Array Value)++args.toArray.map a.eval=⟨u::args.map a.eval⟩:=by apply Array.ext';simp
   rw [hargsEq]
   refine hcall.mono ?_
   rintro e w' ⟨v,S',β',rfl,hk,hv⟩
   obtain⟨q1,q2⟩:=hi.back hk
   have e':SExt S' w' (fun b=>S b∨(S' b∧w.heap.size≤b)) w':=⟨fun b hb=>by
    rcases hk.Snew b hb with h | h | h
    ·exact .inl h
    ·exact h.elim
    ·exact .inr ⟨hb,h⟩,fun _ _=>rfl⟩
   exact⟨v,_,β,rfl,q1,q2,(hv.ext e' (fun _ _=>rfl)).closed hr,fun _ _=>rfl⟩
variable {ik:IntKind}
theorem find_nowI {kt:TypeId} (hs:P.underlying kt=some (.int ik))(n:Int):∀ (es:List MapEntry)(kvs:List (D × D))(i:Nat),es.length=kvs.length →
  (∀ (j:Nat) (e:MapEntry) (kv:D × D),es[j]? = some e→kvs[j]? = some kv→e.key=kv.1.kv∧KeyAt P kt kv.1) →
  ∃ r,Instr.findNow (.int ik) (.int ik n) es i=some r∧Found es i (kfind [.int ik n] kvs i) r kvs
 | [],[],i,_,_=>⟨none,by simp [Instr.findNow],rfl⟩
 | [],_::_,_,h,_=>by simp at h
 | _::_,[],_,h,_=>by simp at h
 | e::es,kv::kvs,i,h,hall=>by
  obtain⟨h1,h2⟩:=hall 0 e kv rfl rfl
  have str:∀ {d:D},KeyAt P kt d→∃ s,d=.int ik s:=fun {d} hd=>by
   have f:=hd.formed
   have l:=hd.lits
   have k:=hd.isKey
   cases d with
   | int kk s =>
    have hk:kk=ik:=by
     simp [D.kv,D.lit,D.lits,Lit.value,Program.keyLits,hs,Value.cells] at l
     exact l.1.1
    exact⟨s,by rw [hk]⟩
   | agg cs=>simp [D.kv,Value.formed,hs] at f
   | str n=>simp [D.kv,D.lit,Lit.value,Program.keyLits,hs,Value.cells] at l
   | bool b=>simp [D.kv,D.lit,Lit.value,Program.keyLits,hs,Value.cells] at l
   | _=>simp [D.isKey,D.flatK] at k
  obtain⟨k,d⟩:=kv
  obtain⟨t,rfl⟩:=str h2
  simp only [kfind]
  have hsame:Instr.sameNow (.int ik) (.int ik n) e.key=some (decide (n=t)):=by
   rw [h1]
   simp only [D.kv,D.lit,Lit.value,Instr.sameNow,if_true,Option.some.injEq]
   rw [Bool.eq_iff_iff]
   simp
  by_cases he:n=t
  ·subst he
   rw [if_pos (show [Lit.int ik n]=(D.int ik n).lits from rfl)]
   exact⟨some (i,e.val),by simp [Instr.findNow,hsame],e,_,by omega,by simp,by simp;rfl,rfl⟩
  ·rw [if_neg (by simpa [D.lits,D.lit] using he)]
   obtain⟨r,g1,g2⟩:=find_nowI hs n es kvs (i+1) (by simpa using h) (fun j e kv he hkv=>hall (j+1) e kv (by simpa using he) (by simpa using hkv))
   refine⟨r,by simp [Instr.findNow,hsame,he,g1],?_⟩
   generalize kfind [Lit.int ik n] kvs (i+1)=q at *
   cases q with
   | none=>exact g2
   | some jd =>
    obtain⟨j,d⟩:=jd
    obtain⟨e',k',q1,q2,q3,q4⟩:=g2
    refine⟨e',k',by omega,?_,?_,q4⟩
    ·rw [show j - i=(j - (i+1))+1 by omega];simpa using q2
    ·rw [show j - i=(j - (i+1))+1 by omega];simpa using q3
theorem keyI_check {kt:TypeId} (hs:P.underlying kt=some (.int ik))(em:Bool)(w:World)(n:Int):(Instr.checkKey em 10000 kt (.int ik n)).run P w=.ok () w:=by
 rw [show (10000:Nat)=9999+1 from rfl,Instr.checkKey]
 simp [run_underlying hs]
theorem find_keyI {kt:TypeId} (hs:P.underlying kt=some (.int ik))(w:World)(n:Int)(es:List MapEntry)(kvs:List (D × D))(hl:es.length=kvs.length)
  (hall:∀ (j:Nat) (e:MapEntry) (kv:D × D),es[j]? = some e→kvs[j]? = some kv→e.key=kv.1.kv∧KeyAt P kt kv.1) :
  ∃ r,(Instr.findKey kt (.int ik n) es).run P w=.ok r w∧Found es 0 (kfind [.int ik n] kvs 0) r kvs:=by
 obtain⟨r,h1,h2⟩:=find_nowI hs n es kvs 0 hl hall
 exact⟨r,MapKept.run_findKey hs h1,h2⟩
theorem opT_insertI {T kt et k:Nat} {m x y:Operand} (ho:o.op=.insert T m x y) {kvs:List (D × D)} {kn:Int} {vd:D} (hm:ρ m=.mp k)(hb:(k,BoxC.map kvs)∈bx)
  (hT:P.underlying T=some (.map kt et)) (hik:P.underlying kt=some (.int ik)) (hnew:kfind [.int ik kn] kvs 0=none) (hx:ρ x=.d (.int ik kn)) (hall:∀ kv,kv∈kvs→KeyAt P kt kv.1) (hy:asD (ρ y)=some vd) :
  OpT P o ρ bx (.tuple []) ((k,.map (kvs++[(.int ik kn,vd)]))::berase k bx) []:=by
 intro C S w β a hi ha
 have hm1:=ha m (mC ho);rw [hm] at hm1
 have hx0:=ha x (mC ho);rw [hx] at hx0
 have hx1:=hx0.inv_d
 have hy1:=asD_rep (ha y (mC ho)) hy
 have hxv:a.eval x=.int ik kn:=hx0.inv_int
 obtain⟨r,es,clock,hbase,hh,hmz,hes⟩:=hi.box k _ hb
 have hsz:=hmz.1
 generalize hmv:a.eval m=mv at hm1
 cases hm1 with
 | mp _ b hbase' =>
  rw [hbase] at hbase';cases hbase'
  obtain⟨q,hq,hf⟩:=find_keyI hik w kn es.toList kvs (by simpa using hsz) (entries_key hsz (fun r kv e h1 h2=>(hes r kv e h1 h2).1) hall)
  have hchk:=keyI_check hik false w kn
  have hlt:r < w.heap.size:=(hi.priv k _ hb r hbase).2.1
  rw [← hxv] at hq hchk
  have hfd:=hnew
  ·rw [hfd] at hf
   simp only [Found] at hf
   subst hf
   obtain⟨h1,h2⟩:=mapSet (kvs:=kvs++[(.int ik kn,vd)]) hi hb hbase hlt (es.push { key:=a.eval x,val:=a.eval y,born:=clock }) (clock+1) ⟨by simp [hsz],hmz.2.push _ _⟩ (by
    intro j kv e hk he
    rw [List.getElem?_append] at hk
    rw [Array.getElem?_push] at he
    split at hk
    ·rw [if_neg (by omega)] at he
     exact hes j kv e hk he
    ·rename_i hj
     have hj2:j - kvs.length=0:=by
      have:=(List.getElem?_eq_some_iff.1 hk).1
      simp at this;omega
     rw [hj2] at hk
     rw [if_pos (by omega)] at he
     simp only [List.getElem?_cons_zero,Option.some.injEq] at hk he
     subst hk he
     exact⟨hx1,hy1⟩)
   refine Or.inl ?_
   unfold Oper.wp
   rw [show (execOp a.eval o).run P w=.ok .skip { w with heap:=w.heap.setIfInBounds r (.map (es.push { key:=a.eval x,val:=a.eval y,born:=clock }) (clock+1)) } by
    simp [execOp,ho,hmv,Instr.mapUpdate,run_underlying hT,MapKept.run_getObj_map hh,hchk,hq,MapKept.run_setObj_map _ hh]]
   exact⟨undef,S,β,rfl,h1,h2,.tuple [] [] rfl (by simp),fun _ _=>rfl⟩
theorem opT_lookupI {T kt et:Nat} {m x:Operand} {ok:Bool} (ho:o.op=.lookup T m x ok) {kvs:List (D × D)} {kn:Int} {z:SV} (hm:IsMap bx (ρ m) kvs)
  (hT:P.underlying T=some (.map kt et)) (hik:P.underlying kt=some (.int ik)) (hx:ρ x=.d (.int ik kn)) (hall:∀ kv,kv∈kvs→KeyAt P kt kv.1) (hz:zone P et=some z) :
  OpT P o ρ bx (lookR ok (.int ik kn) kvs z) bx []:=by
 refine OpT.of_value fun C S w β a hi ha=>?_
 have hx0:=ha x (mC ho);rw [hx] at hx0
 have hx1:=hx0.inv_d
 obtain⟨r,es,clock,hmv,hh,hsz,hes⟩:=hm.rep hi (ha m (mC ho))
 have hxv:a.eval x=.int ik kn:=hx0.inv_int
 obtain⟨q,hq,hf⟩:=find_keyI hik w kn es.toList kvs (by simpa using hsz) (entries_key hsz (fun r kv e h1 h2=>(hes r kv e h1 h2).1) hall)
 have hchk:=keyI_check hik es.isEmpty w kn
 rw [← hxv] at hq hchk
 obtain⟨zv,hzr,hzz⟩:=run_zone hz w
 cases hfd:kfind [.int ik kn] kvs 0 with
 | none =>
  rw [hfd] at hf
  simp only [Found] at hf
  subst hf
  have hzrep:RepV S w β z zv:=by rw [hzz];exact repV_const S w β zv
  cases ok with
  | true =>
   refine⟨.tuple #[zv,.bool false],by simp [execOp,ho,hmv,Instr.lookup,run_underlying hT,MapKept.run_getObj_map hh,hchk,hq,hzr],?_⟩
   simp only [lookR,lookV,show (D.int ik kn).lits=[Lit.int ik kn] from rfl,hfd,Option.isSome_none]
   exact .tuple _ _ rfl (RepL.cons hzrep (RepL.cons (.d _ _ (.bool _)) .nil)).2
  | false =>
   refine⟨zv,by simp [execOp,ho,hmv,Instr.lookup,run_underlying hT,MapKept.run_getObj_map hh,hchk,hq,hzr],?_⟩
   simpa only [lookR,lookV,show (D.int ik kn).lits=[Lit.int ik kn] from rfl,hfd] using hzrep
 | some jd =>
  obtain⟨j,d⟩:=jd
  rw [hfd] at hf
  obtain⟨e,k',_,g1,g2,rfl⟩:=hf
  simp only [Nat.sub_zero,Array.getElem?_toList] at g1 g2
  have hrep:RepV S w β (ofD d) e.val:=ofD_rep (hes j (k',d) e g2 g1).2
  cases ok with
  | true =>
   refine⟨.tuple #[e.val,.bool true],by simp [execOp,ho,hmv,Instr.lookup,run_underlying hT,MapKept.run_getObj_map hh,hchk,hq],?_⟩
   simp only [lookR,lookV,show (D.int ik kn).lits=[Lit.int ik kn] from rfl,hfd,Option.isSome_some]
   exact .tuple _ _ rfl (RepL.cons hrep (RepL.cons (.d _ _ (.bool _)) .nil)).2
  | false =>
   refine⟨e.val,by simp [execOp,ho,hmv,Instr.lookup,run_underlying hT,MapKept.run_getObj_map hh,hchk,hq],?_⟩
   simpa only [lookR,lookV,show (D.int ik kn).lits=[Lit.int ik kn] from rfl,hfd] using hrep
end Go.Abs
/- Methods bound to a record of several cells, kept in an array variable. Own framework. -/
set_option linter.unusedVariables false
set_option linter.unusedSimpArgs false
namespace Go.Abs
set_option linter.unusedSimpArgs false
set_option linter.unusedVariables false
open Go
variable {P:Program} {sl:SL} {bx:Boxes} {o:Oper} {ρ:Rho}
variable {ro:Option Nat} {P:Program} {n:Nat} {Q:Exit→SL→Boxes→Prop} {sl:SL} {bx:Boxes}
end Go.Abs
/- Closures kept as data: made, called; variables that hold addresses, frozen. Own framework. -/
set_option linter.unusedVariables false
set_option linter.unusedSimpArgs false
namespace Go.Abs
set_option linter.unusedSimpArgs false
set_option linter.unusedVariables false
open Go
variable {P:Program} {sl:SL} {bx:Boxes} {o:Oper} {ρ:Rho}
theorem CallOK.ptr {f:FuncId} {c:List D} {args:List SV} {r:SV} (h:CallOK P f (.dptr c 0::args) r):CallOK P f (.d (.ptr c)::args) r:=by
 refine⟨h.1,fun C β vs hi hv=>h.2 C β vs hi ?_⟩
 cases vs with
 | nil=>exact absurd hv.1 (by simp)
 | cons v vs =>
  have h0:=hv.2 0 _ v rfl rfl
  refine .cons ?_ ?_
  ·have:=h0.inv_d
   cases this with
   | ptr _ b base q1 q2 q3 q4=>exact .dptr _ 0 b base q1 q2 q3 q4
  ·exact⟨by have:=hv.1;simp at this ⊢;omega,fun j c u hc hu=>hv.2 (j+1) c u hc hu⟩
variable {ro:Option Nat} {n:Nat} {Q:Exit→SL→Boxes→Prop}
end Go.Abs
/- the greater of two numbers; the address of an element of a package variable that is laid. Own framework. -/
set_option linter.unusedVariables false
set_option linter.unusedSimpArgs false
namespace Go.Abs
set_option linter.unusedSimpArgs false
set_option linter.unusedVariables false
open Go
variable {P:Program} {sl:SL} {bx:Boxes}
theorem opQ_max {x y:Operand} {tys:Array TypeId} {m n:Int} (hx:opnd sl x=.d (.int .i64 m))(hy:opnd sl y=.d (.int .i64 n)) :
  OpQ P sl bx (.call ⟨.builtin .max,#[x,y],tys⟩) (.d (.int .i64 (if m < n then n else m))):=by
 intro o ho
 refine OpT.of_value fun C S w β a hi ha=>?_
 have h1:=ha x (mC ho);rw [hx] at h1;have h1:=h1.inv_int
 have h2:=ha y (mC ho);rw [hy] at h2;have h2:=h2.inv_int
 refine⟨.int .i64 (if m < n then n else m),?_,.d _ _ (.int _ _)⟩
 simp [execOp,ho,resolve,invoke,builtin,Builtin.max_,Builtin.max2,h1,h2]
theorem opQ_indexGlob {T e len g j:Nat} {y:Operand} {ik:IntKind} {i:Int} {cells:List D} {cs:Array Value} (hy:opnd sl y=.d (.int ik i))(hi:i=j)
  (hT:P.underlying T=some (.array len e)) (hs:tsize P e=some 1) (h1:j < len)
  (hfix:∀ sy ra,fixedRow sy ra g cs) (hone:∀ d,d∈cells→d.one=true) (hlen:cs.size=cells.length)
  (hrep:∀ (S:Nat→Prop) (w:World) (j:Nat) (d:D) (v:Value),cells[j]? = some d→cs[j]? = some v→RepC S w d v) :
  OpQ P sl bx (.indexAddr T (.global g) y) (.dptr cells j):=by
 intro o ho
 subst hi
 refine OpT.of_value fun C S w β a hi ha=>?_
 have hy1:=(ha y (mC ho));rw [hy] at hy1;have hy1:=hy1.inv_int
 obtain⟨hS,ty,fr,hb⟩:=hi.tab g cs (hfix _ _)
 have hcell:∀ k,w.cell? ⟨g,k,none⟩=cs[k]?:=fun k=>by simp [World.cell?,hb]
 have hj:(0:Int)≤(j:Int)∧(j:Int) < (len:Int):=by omega
 refine⟨.pointer (some ⟨g,0+j,none⟩),?_,.dptr cells j g 0 hS hone (fun k hk=>?_) fun k d v hd hv=>?_⟩
 ·have hg:a.eval (.global g)=.pointer (some ⟨g,0,none⟩):=rfl
  simp only [execOp,ho,Instr.indexAt,hg,hy1,Sem.run_bind,asIntOf,Sem.run_pure,Result.andThen_ok,underlying,run_program,hT,Instr.sureAddr,run_sizeOf' hs]
  simp only [hj,and_self,if_true,Sem.run_bind,run_sizeOf' hs,Result.andThen_ok,Sem.run_pure,Addr.add,Int.toNat_natCast,Nat.mul_one]
  split
  ·rename_i hz;simp only [hz,Nat.add_zero]
  ·rfl
 ·rw [hcell]
  exact⟨_,Array.getElem?_eq_getElem (by omega)⟩
 ·rw [hcell,Nat.zero_add] at hv
  exact hrep S w k d v hd hv
end Go.Abs
