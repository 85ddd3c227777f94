/- Slices of one's own, calls, code on abstract states, regions. Own framework. -/
import Derived.Deep.LoopGhost
import Derived.Sort.LoopGhostIn
import Derived.OrdersIn
import Derived.Test.YtaneedhchnaniaaGreatDoorQAb1
set_option linter.unusedVariables false
set_option linter.unusedSimpArgs false
namespace Go.Abs
open Go
variable {P:Program} {o:Oper} {ρ:Rho} {bx:Boxes}
def toDs:List SV→Option (List D)
 | []=>some []
 | .d x::r=>match toDs r with
  | some l=>match x with
   | .nil=>some (.slice []::l)
   | .emp=>some (.slice []::l)
   | .agg _=>none
   | y=>some (y::l)
  | none=>none
 | _::_=>none
variable {S:Nat→Prop} {w:World} {β:Names}
theorem toDs_rep :∀ (cs:List SV)(ds:List D)(vs:List Value),toDs cs=some ds→RepL S w β cs vs →
  ds.length=cs.length∧(∀ d,d∈ds→d.one=true)∧∀ (j:Nat) (d:D) (v:Value),ds[j]? = some d→vs[j]? = some v→RepC S w d v
 | [],ds,vs,h,hr=>by simp only [toDs,Option.some.injEq] at h;subst h;simp
 | c::cs,ds,vs,h,hr=>by
  cases c <;> simp only [toDs,reduceCtorEq] at h
  rename_i x
  cases hl:toDs cs with
  | none=>simp [hl] at h
  | some l =>
   rw [hl] at h
   cases vs with
   | nil=>have:=hr.1;simp at this
   | cons v vs =>
    have hv:RepC S w x v:=(hr.2 0 (.d x) v rfl rfl).inv_d
    obtain⟨h1,h2,h3⟩:=toDs_rep cs l vs hl ⟨by have:=hr.1;simpa using this,fun j c v hc hv=>hr.2 (j+1) c v (by simpa using hc) (by simpa using hv)⟩
    have key:∃ y,ds=y::l∧y.one=true∧RepC S w y v:=by
     cases x <;> simp only [Option.some.injEq,reduceCtorEq] at h <;> first
      | exact⟨_,h.symm,rfl,hv⟩
      | exact⟨_,h.symm,rfl,hv.of_nil⟩
      | exact⟨_,h.symm,rfl,hv.of_emp⟩
    obtain⟨y,rfl,hy1,hy2⟩:=key
    refine⟨by simp [h1],?_,?_⟩
    ·intro d hd
     simp only [List.mem_cons] at hd
     rcases hd with rfl | hd
     ·exact hy1
     ·exact h2 d hd
    ·intro j d u hd hu
     cases j with
     | zero=>simp at hd hu;subst hd;subst hu;exact hy2
     | succ j=>exact h3 j d u (by simpa using hd) (by simpa using hu)
structure Flat (S:Nat→Prop)(w:World)(sz:Nat)(rows:List (List D))(vs:List Value):Prop where
 len:vs.length=rows.length*sz
 row:∀ row,row∈rows→row.length=sz
 one:∀ row,row∈rows→∀ d,d∈row→d.one=true
 rep:∀ (i j:Nat) (row:List D) (d:D) (v:Value),rows[i]? = some row→row[j]? = some d→vs[i*sz+j]? = some v→RepC S w d v
variable {vs:List Value}
theorem Flat.ext {S S':Nat→Prop} {w w':World} {sz:Nat} {rows:List (List D)} (h:Flat S w sz rows vs)(e:SExt S w S' w'):Flat S' w' sz rows vs :=
 ⟨h.len,h.row,h.one,fun i j row d v h1 h2 h3=>(h.rep i j row d v h1 h2 h3).ext e⟩
theorem Flat.nil {sz:Nat} :Flat S w sz [] []:=⟨by simp,by simp,by simp,by simp⟩
theorem Flat.cons {sz:Nat} {row:List D} {rows:List (List D)} {us vs:List Value} (hl:row.length=sz)(hu:us.length=sz)(ho:∀ d,d∈row→d.one=true)
  (hr:∀ (j:Nat) (d:D) (v:Value),row[j]? = some d→us[j]? = some v→RepC S w d v) (h:Flat S w sz rows vs):Flat S w sz (row::rows) (us++vs) where
 len:=by simp [hu,h.len,Nat.add_mul];omega
 row r hr:=by
  simp only [List.mem_cons] at hr
  rcases hr with rfl | hr
  ·exact hl
  ·exact h.row r hr
 one r hr:=by
  simp only [List.mem_cons] at hr
  rcases hr with rfl | hr
  ·exact ho
  ·exact h.one r hr
 rep i j r d v h1 h2 h3:=by
  have hj:j < sz:=by
   have e:=(List.getElem?_eq_some_iff.1 h2).1
   cases i with
   | zero=>simp at h1;subst h1;omega
   | succ i=>have:=h.row r (List.mem_of_getElem? (by simpa using h1));omega
  cases i with
  | zero =>
   simp at h1;subst h1
   rw [Nat.zero_mul,Nat.zero_add,List.getElem?_append_left (by omega)] at h3
   exact hr j d v h2 h3
  | succ i =>
   rw [Nat.add_mul,Nat.one_mul,List.getElem?_append_right (by omega)] at h3
   exact h.rep i j r d v (by simpa using h1) h2 (by rw [← h3];congr 1;omega)
theorem Flat.append {sz:Nat} {rows xs:List (List D)} {us vs:List Value} (h:Flat S w sz rows us)(k:Flat S w sz xs vs):Flat S w sz (rows++xs) (us++vs) where
 len:=by simp [h.len,k.len,Nat.add_mul]
 row r hr:=by
  simp only [List.mem_append] at hr
  rcases hr with hr | hr
  ·exact h.row r hr
  ·exact k.row r hr
 one r hr:=by
  simp only [List.mem_append] at hr
  rcases hr with hr | hr
  ·exact h.one r hr
  ·exact k.one r hr
 rep i j r d v h1 h2 h3:=by
  by_cases hi:i < rows.length
  ·rw [List.getElem?_append_left hi] at h1
   have hj:j < sz:=by have:=(List.getElem?_eq_some_iff.1 h2).1;have:=h.row r (List.mem_of_getElem? h1);omega
   have:(i+1)*sz≤rows.length*sz:=Nat.mul_le_mul_right _ hi
   rw [Nat.add_mul,Nat.one_mul] at this
   rw [List.getElem?_append_left (by rw [h.len];omega)] at h3
   exact h.rep i j r d v h1 h2 h3
  ·rw [List.getElem?_append_right (by omega)] at h1
   have:rows.length*sz≤i*sz:=Nat.mul_le_mul_right _ (by omega)
   rw [List.getElem?_append_right (by rw [h.len];omega)] at h3
   refine k.rep (i - rows.length) j r d v h1 h2 ?_
   rw [← h3,h.len];congr 1
   rw [Nat.sub_mul];omega
def rowsOf (ρ:Rho)(sz:Nat):Nat→List (Nat × Operand)→Option (List (List D))
 | _,[]=>some []
 | n,(i,x)::r=>match content (ρ x) with
  | some c=>match toDs c with
   | some row=>if i=n∧row.length=sz then (rowsOf ρ sz (n+1) r).map (row::·) else none
   | none=>none
  | none=>none
theorem rowsOf_fill {a:Act} (sz:Nat):∀ (parts:List (Nat × Operand))(n:Nat)(rows:List (List D))(pre rest:List Value),(∀ p,p∈parts→RepV S w β (ρ p.2) (a.eval p.2)) →
  rowsOf ρ sz n parts=some rows→pre.length=n*sz→rest.length=parts.length*sz →
  ∃ vs,Instr.fill (fun i=>some (i*sz,sz)) ⟨pre++rest⟩ (parts.map fun p=>(p.1,a.eval p.2))=some ⟨pre++vs⟩∧Flat S w sz rows vs∧rows.length=parts.length
 | [],n,rows,pre,rest,_,h,hp,hr=>by
  simp only [rowsOf,Option.some.injEq] at h;subst h
  have:rest=[]:=by cases rest <;> simp at hr;rfl
  subst this
  exact⟨[],rfl,.nil,rfl⟩
 | (i,x)::parts,n,rows,pre,rest,ha,h,hp,hr=>by
  simp only [rowsOf] at h
  cases hc:content (ρ x) with
  | none=>simp [hc] at h
  | some c =>
   cases hd:toDs c with
   | none=>simp [hc,hd] at h
   | some row =>
    simp only [hc,hd] at h
    split at h
    ·rename_i hin
     obtain⟨rfl,hrl⟩:=hin
     simp only [Option.map_eq_some_iff] at h
     obtain⟨rows',hrows,rfl⟩:=h
     obtain⟨g1,g2⟩:=(ha (i,x) (by simp)).content hc
     obtain⟨q1,q2,q3⟩:=toDs_rep c row _ hd g1
     have hsz:(a.eval x).cells.size=sz:=by have:=g1.1;simp at this;omega
     have hsz':(a.eval x).cells.toList.length=sz:=by simpa using hsz
     have hrest:sz≤rest.length:=by rw [hr];simp [Nat.add_mul]
     have hset:setAll (pre++rest) (i*sz) (a.eval x).cells.toList=(pre++(a.eval x).cells.toList)++rest.drop sz:=by
      apply List.ext_getElem?
      intro j
      rw [setAll_get _ _ _ _ (by simp only [List.length_append];omega)]
      by_cases h1:i*sz≤j∧j < i*sz+(a.eval x).cells.toList.length
      ·rw [if_pos h1,List.getElem?_append_left (by simp only [List.length_append];omega),List.getElem?_append_right (by omega),hp]
      ·rw [if_neg h1]
       by_cases h2:j < i*sz
       ·rw [List.getElem?_append_left (by omega),List.getElem?_append_left (by simp only [List.length_append];omega),List.getElem?_append_left (by omega)]
       ·rw [List.getElem?_append_right (by omega),List.getElem?_append_right (by simp only [List.length_append];omega),List.getElem?_drop]
        congr 1
        simp only [List.length_append];omega
     obtain⟨vs,f1,f2,f3⟩:=rowsOf_fill sz parts (i+1) rows' (pre++(a.eval x).cells.toList) (rest.drop sz) (fun p hp=>ha p (by simp [hp])) hrows (by simp only [List.length_append,hsz',hp,Nat.add_mul];omega)
      (by simp only [List.length_drop,hr,List.length_cons,Nat.add_mul];omega)
     refine⟨(a.eval x).cells.toList++vs,?_,.cons hrl hsz' q2 q3 f2,by simp [f3]⟩
     simp only [List.map_cons,Instr.fill]
     rw [if_neg (by simp only [ne_eq,Bool.or_eq_true,decide_eq_true_eq,not_or];simp;simp at hr;omega)]
     have hf:=setAll_foldl (a.eval x).cells.toList (pre++rest) (i*sz) 0
     simp only [Nat.add_zero] at hf
     have e:(a.eval x).cells.toList.zipIdx=(a.eval x).cells.zipIdx.toList:=by simp
     rw [e,Array.foldl_toList] at hf
     rw [hf,hset,f1,List.append_assoc]
    ·simp at h
theorem run_selem {T e:Nat} (h:selem P T=some e)(w:World):(underlying T).run P w=.ok (.slice e) w:=by
 unfold selem at h
 cases hu:P.underlying T with
 | none=>simp [hu] at h
 | some d =>
  rw [hu] at h
  cases d <;> simp only [reduceCtorEq,Option.some.injEq] at h
  subst h
  simp [underlying,hu]
theorem run_buildSlice {a:Act} {T e n sz:Nat} {parts:Array (Nat × Operand)} (ha:∀ p,p∈parts.toList→RepV S w β (ρ p.2) (a.eval p.2)) {rows:List (List D)} {zs:List SV}
  (hT:selem P T=some e) (hs:tsize P e=some sz) (hz:tzero P e=some zs) (hzl:zs.length=sz) (hn:n*sz≤16777216) (hp:parts.size=n) (hr:rowsOf ρ sz 0 parts.toList=some rows) :
  ∃ vs,(Instr.buildSlice T n (parts.map fun p=>(p.1,a.eval p.2))).run P w=.ok (.slice (some ⟨w.heap.size,0,none⟩) n n) { w with heap:=w.heap.push (.cells ⟨vs⟩ e) }∧Flat S w sz rows vs∧rows.length=n:=by
 obtain⟨z,hrun,rfl⟩:=run_zeroValue' hz w
 simp only [List.length_map,Array.length_toList] at hzl
 obtain⟨vs,f1,f2,f3⟩:=rowsOf_fill sz parts.toList 0 rows [] ((Array.range (n*sz)).map (fun j=>(if n*sz=0 then #[] else z.cells)[j % (if n*sz=0 then #[] else z.cells).size]!)).toList ha hr (by simp) (by simp [hp])
 refine⟨vs,?_,f2,by rw [f3];simpa using hp⟩
 simp only [List.nil_append] at f1
 simp only [Instr.buildSlice,Sem.run_bind,run_selem hT,Result.andThen_ok,run_sizeOf' hs]
 rw [if_neg (show ¬ n*sz > 2 ^ 24 by omega)]
 have hf:Instr.fill (fun i=>some (i*sz,sz)) (Array.map (fun x=>(if n*sz=0 then #[] else z.cells)[x % (if n*sz=0 then #[] else z.cells).size]!) (Array.range (n*sz))) (Array.map (fun p=>(p.fst,a.eval p.snd)) parts).toList=some ⟨vs⟩:=by
  rw [Array.toList_map];exact f1
 by_cases h0:n*sz=0
 ·rw [if_pos h0]
  simp only [if_pos h0] at hf
  simp only [Sem.run_bind,Sem.run_pure,Result.andThen_ok,hf,newRow,run_newObj]
 ·rw [if_neg h0]
  simp only [if_neg h0] at hf
  simp only [Sem.run_bind,Sem.run_pure,Result.andThen_ok,hrun,hf,newRow,run_newObj]
theorem Flat.slice {sz:Nat} {rows:List (List D)} (h:Flat S w sz rows vs) {b:Nat} {ty:TypeId} {fr:Nat × Nat} {us:List Value} {off cap:Nat} (hb:S b)
  (hh:w.heap[b]? = some (.cells ⟨us⟩ ty fr)) (hv:∀ (j:Nat) (v:Value),vs[j]? = some v→us[off+j]? = some v) (hl:rows.length≤lim) (hc:rows.length≤cap) :
  RepC S w (.slice rows) (.slice (some ⟨b,off,none⟩) rows.length cap):=by
 refine .slice rows b off cap sz hb hl hc h.row h.one ?_ ?_
 ·intro i j hi hj
  have hlt:i*sz+j < vs.length:=by
   rw [h.len]
   have:(i+1)*sz≤rows.length*sz:=Nat.mul_le_mul_right _ hi
   rw [Nat.add_mul,Nat.one_mul] at this;omega
  exact⟨vs[i*sz+j],by rw [cells_of_row hh];exact hv _ _ (List.getElem?_eq_getElem hlt)⟩
 ·intro i j row d v hr hd hc'
  have hi:=(List.getElem?_eq_some_iff.1 hr).1
  have hj:j < sz:=by have:=(List.getElem?_eq_some_iff.1 hd).1;have:=h.row row (List.mem_of_getElem? hr);omega
  have hlt:i*sz+j < vs.length:=by
   rw [h.len]
   have:(i+1)*sz≤rows.length*sz:=Nat.mul_le_mul_right _ hi
   rw [Nat.add_mul,Nat.one_mul] at this;omega
  rw [cells_of_row hh,hv _ _ (List.getElem?_eq_getElem hlt)] at hc'
  simp only [Option.some.injEq] at hc'
  exact h.rep i j row d v hr hd (by rw [← hc',List.getElem?_eq_getElem hlt])
theorem Inv.pubNew {C:Ctx} (h:Inv C S w β bx)(x:Obj) :
  Inv C (fun b=>S b∨b=w.heap.size) { w with heap:=w.heap.push x } β bx∧SExt S w (fun b=>S b∨b=w.heap.size) { w with heap:=w.heap.push x }:=by
 refine h.grow (fun b hb=>.inl hb) ?_ ?_ ?_ rfl rfl rfl (by simp)
 ·intro b hb
  rcases hb with hb | hb
  ·exact .inl hb
  ·exact .inr (by omega)
 ·intro b hb
  rcases hb with hb | hb
  ·have:=h.Slt b hb;simp;omega
  ·simp [hb]
 ·intro b hb;exact heap_push_old w x hb
theorem opT_buildSlicePub {T e n sz:Nat} {parts:Array (Nat × Operand)} (ho:o.op=.buildSlice T n parts) {rows:List (List D)} {zs:List SV}
  (hT:selem P T=some e) (hs:tsize P e=some sz) (hz:tzero P e=some zs) (hzl:zs.length=sz) (hn:n*sz≤16777216) (hp:parts.size=n) (hr:rowsOf ρ sz 0 parts.toList=some rows) (hlim:n≤lim) :
  OpT P o ρ bx (.d (.slice rows)) bx []:=by
 intro C S w β a hi ha
 obtain⟨vs,hrun,hf,hl⟩:=run_buildSlice (fun p hp=>ha p.2 (mo ho (by simp only [Op.operands,List.mem_toArray,List.mem_map];exact⟨p,hp,rfl⟩))) hT hs hz hzl hn hp hr
 obtain⟨h1,h2⟩:=hi.pubNew (.cells ⟨vs⟩ e)
 refine Or.inl ?_
 unfold Oper.wp
 have:(execOp a.eval o).run P w=.ok (.value (.slice (some ⟨w.heap.size,0,none⟩) n n)) { w with heap:=w.heap.push (.cells ⟨vs⟩ e) }:=by
  simp only [execOp,ho,Sem.run_bind,hrun,Result.andThen_ok,Sem.run_pure]
 rw [this]
 refine⟨_,_,β,rfl,h1,h2,?_,fun _ _=>rfl⟩
 subst hl
 exact .d _ _ ((hf.ext h2).slice (.inr rfl) (heap_push_new w _) (fun j v hv=>by simpa using hv) hlim (Nat.le_refl _))
theorem boxOK_rows {i:BI} {sz:Nat} {rows:List (List D)} {ty:TypeId} {b:Nat} (hb:i.base=some b)(hsz:i.sz=sz)(hlen:rows.length=i.len)(hcap:i.len≤i.cap)
  (hlim:rows.length≤lim) (hh:w.heap[b]? = some (.cells ⟨vs⟩ ty (0,0))) (hfit:(i.off+i.cap)*sz≤vs.length) (us:List Value) (hf:Flat S w sz rows us) (hu:∀ (j:Nat) (v:Value),us[j]? = some v→vs[i.off*sz+j]? = some v) :
  BoxOK S w β i (.rows sz rows):=by
 refine⟨hsz,hlen,hcap,hlim,hf.row,hf.one,?_⟩
 rw [hb]
 refine⟨ty,vs,hh,hfit,?_⟩
 intro r j row d v hr hd hv
 have hj:j < sz:=by have:=(List.getElem?_eq_some_iff.1 hd).1;have:=hf.row row (List.mem_of_getElem? hr);omega
 have hri:=(List.getElem?_eq_some_iff.1 hr).1
 have hlt:r*sz+j < us.length:=by
  rw [hf.len]
  have:(r+1)*sz≤rows.length*sz:=Nat.mul_le_mul_right _ hri
  rw [Nat.add_mul,Nat.one_mul] at this;omega
 have:=hu _ _ (List.getElem?_eq_getElem hlt)
 rw [Nat.add_mul,Nat.add_assoc,this] at hv
 simp only [Option.some.injEq] at hv
 exact hf.rep r j row d v hr hd (by rw [← hv,List.getElem?_eq_getElem hlt])
theorem opT_buildSliceOwn {T e n sz k:Nat} {parts:Array (Nat × Operand)} (hkf:k≤999999)(ho:o.op=.buildSlice T n parts) {rows:List (List D)} {zs:List SV}
  (hT:selem P T=some e) (hs:tsize P e=some sz) (hz:tzero P e=some zs) (hzl:zs.length=sz) (hn:n*sz≤16777216) (hp:parts.size=n) (hr:rowsOf ρ sz 0 parts.toList=some rows) (hlim:n≤lim) :
  OpT P o ρ bx (.acc k) ((k,.rows sz rows)::bpurge k (berase k bx)) [k]:=by
 intro C S w β a hi ha
 obtain⟨vs,hrun,hf,hl⟩:=run_buildSlice (fun p hp=>ha p.2 (mo ho (by simp only [Op.operands,List.mem_toArray,List.mem_map];exact⟨p,hp,rfl⟩))) hT hs hz hzl hn hp hr
 obtain⟨h1,h2⟩:=hi.setNew (k:=k) (w':={ w with heap:=w.heap.push (.cells ⟨vs⟩ e) }) (c:=.rows sz rows) { base:=some w.heap.size,len:=n,cap:=n,sz:=sz } hkf (by
   intro b hb;simp only [Option.some.injEq] at hb;subst hb
   exact⟨fun hs=>by have:=hi.Slt _ hs;omega,by simp,.inl (Nat.le_refl _)⟩)
  (fun b' hb' _=>heap_push_old w _ hb') rfl rfl rfl (by simp)
  (fun e0=>boxOK_rows rfl rfl hl (Nat.le_refl _) (by omega) (heap_push_new w _) (by simp [hf.len,hl]) vs (hf.ext e0) (fun j v hv=>by simpa using hv))
 refine Or.inl ?_
 unfold Oper.wp
 have:(execOp a.eval o).run P w=.ok (.value (.slice (some ⟨w.heap.size,0,none⟩) n n)) { w with heap:=w.heap.push (.cells ⟨vs⟩ e) }:=by
  simp only [execOp,ho,Sem.run_bind,hrun,Result.andThen_ok,Sem.run_pure]
 rw [this]
 refine⟨_,S,_,rfl,h1,h2,?_,fun j hj=>upd_ne (by simpa using hj)⟩
 have:=RepV.acc (S:=S) (w:={ w with heap:=w.heap.push (.cells ⟨vs⟩ e) }) (β:=upd β k { base:=some w.heap.size,len:=n,cap:=n,sz:=sz }) k
 rw [upd_same] at this
 simpa using this
end Go.Abs
namespace Go.Abs
open Go
variable {P:Program} {o:Oper} {ρ:Rho} {bx:Boxes}
def sval (i:BI):Value:=.slice (i.base.map fun b=>⟨b,i.off*i.sz,none⟩) i.len i.cap
structure Src (P:Program)(S:Nat→Prop)(w:World)(sz:Nat)(xs:List (List D))(v:Value)(vs:List Value):Prop where
 len:(Builtin.lenOf v).run P w=.ok xs.length w
 cells:∀ n w',n=xs.length→(∀ b,(∃ p l c,v=.slice (some ⟨b,p,none⟩) l c)→w'.heap[b]? = w.heap[b]?)→(Builtin.firstCells sz n v).run P w'=.ok ⟨vs⟩ w'
 flat:Flat S w sz xs vs
 one:vs.all (·.oneCell')=true
variable {S:Nat→Prop} {w:World}
theorem Src.nil {sz:Nat} {p:Option Addr} {c:Nat} :Src P S w sz [] (.slice p 0 c) [] where
 len:=rfl
 cells n w' hn _:=by
  subst hn
  cases p with
  | none=>rfl
  | some a=>simp [Builtin.firstCells,loadCells,loadCellsFrom]
 flat:=.nil
 one:=rfl
theorem exists_cells {b off n:Nat} (h:∀ j,j < n→∃ v,w.cell? ⟨b,off+j,none⟩=some v):∃ vs:List Value,vs.length=n∧∀ (j:Nat)(v:Value),vs[j]? = some v→w.cell? ⟨b,off+j,none⟩=some v:=by
 refine⟨(List.range n).map fun j=>(w.cell? ⟨b,off+j,none⟩).getD undef,by simp,?_⟩
 intro j v hv
 simp only [List.getElem?_map,List.getElem?_range] at hv
 by_cases hj:j < n
 ·obtain⟨u,hu⟩:=h j hj
  simp [hj,hu] at hv
  rw [← hv];exact hu
 ·simp [hj] at hv
theorem run_firstCells' {sz n b off len cap:Nat} {vs:List Value} (hl:vs.length=n*sz)(h:∀ (j:Nat)(v:Value),vs[j]? = some v→w.cell? ⟨b,off+j,none⟩=some v) :
  (Builtin.firstCells sz n (.slice (some ⟨b,off,none⟩) len cap)).run P w=.ok ⟨vs⟩ w:=by
 have:=run_loadCells_list (P:=P) w ⟨b,off,none⟩ vs (fun j v hv=>by rw [add_addr];exact h j v hv)
 rw [hl] at this
 simpa [Builtin.firstCells] using this
theorem cell_of_heap {w w':World} {b:Nat} (h:w'.heap[b]? = w.heap[b]?)(p:Nat):w'.cell? ⟨b,p,none⟩=w.cell? ⟨b,p,none⟩:=World.cell?_of_block (w:=w) h
theorem Src.slice {sz:Nat} {xs:List (List D)} {v:Value} (h:RepC S w (.slice xs) v)(hsz:∀ row,row∈xs→row.length=sz):∃ vs,Src P S w sz xs v vs:=by
 cases h with
 | slice0 a c _=>exact⟨[],.nil⟩
 | slice _ b off cap sz' hS h1 h2 h3 hone h4 h5 =>
  by_cases hx:xs=[]
  ·subst hx;exact⟨[],.nil⟩
  ·have hszz:sz'=sz:=by
    cases xs with
    | nil=>exact absurd rfl hx
    | cons r xs=>rw [← h3 r (by simp),hsz r (by simp)]
   subst hszz
   have hex:∀ j,j < xs.length*sz'→∃ v,w.cell? ⟨b,off+j,none⟩=some v:=by
    intro j hj
    have hpos:0 < sz':=by
                 rcases Nat.eq_zero_or_pos sz' with h | h;· subst h;simp at hj
                 ·exact h
    obtain⟨v,hv⟩:=h4 (j / sz') (j % sz') (Nat.div_lt_of_lt_mul (by rw [Nat.mul_comm];exact hj)) (Nat.mod_lt _ hpos)
    have:j / sz'*sz'+j % sz'=j:=by rw [Nat.mul_comm];exact Nat.div_add_mod j sz'
    exact⟨v,by rw [← this];exact hv⟩
   obtain⟨vs,hl,hvs⟩:=exists_cells hex
   have hflat:Flat S w sz' xs vs:=⟨hl,h3,hone,fun i j row d v hr hd hv=>h5 i j row d v hr hd (hvs _ _ hv)⟩
   refine⟨vs,?_,?_,hflat,?_⟩
   ·rfl
   ·intro n w' hn hb
    subst hn
    exact run_firstCells' hl fun j v hv=>by rw [cell_of_heap (hb b ⟨off,xs.length,cap,rfl⟩)];exact hvs j v hv
   ·rw [List.all_eq_true]
    intro v hv
    obtain⟨j,hj⟩:=List.mem_iff_getElem?.1 hv
    have hlt:=(List.getElem?_eq_some_iff.1 hj).1
    rw [hl] at hlt
    have hpos:0 < sz':=by
                 rcases Nat.eq_zero_or_pos sz' with h | h;· subst h;simp at hlt
                 ·exact h
    have hi:j / sz' < xs.length:=Nat.div_lt_of_lt_mul (by rw [Nat.mul_comm];exact hlt)
    have hrow:=h3 _ (List.getElem_mem hi)
    have hm:j % sz' < xs[j / sz'].length:=by rw [hrow];exact Nat.mod_lt _ hpos
    have e:j / sz'*sz'+j % sz'=j:=by rw [Nat.mul_comm];exact Nat.div_add_mod j sz'
    exact (hflat.rep (j / sz') (j % sz') _ _ v (List.getElem?_eq_getElem hi) (List.getElem?_eq_getElem hm) (by rw [e];exact hj)).one (hone _ (List.getElem_mem hi) _ (List.getElem_mem hm))
theorem Src.acc {β:Names} {i:BI} {sz:Nat} {xs:List (List D)} (h:BoxOK S w β i (.rows sz xs)):∃ vs,Src P S w sz xs (sval i) vs:=by
 obtain⟨g1,g2,g3,g4,g5,g6,g7⟩:=h
 subst g1
 cases hb:i.base with
 | none =>
  rw [hb] at g7
  simp only at g7
  have:xs=[]:=by cases xs with
   | nil=>rfl
   | cons r xs=>simp at g2;omega
  subst this
  refine⟨[],?_⟩
  simp only [sval,hb,Option.map_none,← g2]
  exact .nil
 | some b =>
  rw [hb] at g7
  obtain⟨ty,vs,hh,hfit,hrep⟩:=g7
  have hfit':i.off*i.sz+xs.length*i.sz≤vs.length:=by
   have:(i.off+xs.length)*i.sz≤(i.off+i.cap)*i.sz:=Nat.mul_le_mul_right _ (by omega)
   rw [Nat.add_mul] at this;omega
  have hl:((vs.drop (i.off*i.sz)).take (xs.length*i.sz)).length=xs.length*i.sz:=by simp;omega
  have hget:∀ (j:Nat) (v:Value),((vs.drop (i.off*i.sz)).take (xs.length*i.sz))[j]? = some v→vs[i.off*i.sz+j]? = some v:=by
   intro j v hv
   simp only [List.getElem?_take,List.getElem?_drop] at hv
   split at hv
   ·exact hv
   ·simp at hv
  have hflat:Flat S w i.sz xs ((vs.drop (i.off*i.sz)).take (xs.length*i.sz)):=by
   refine⟨hl,g5,g6,?_⟩
   intro r j row d v hr hd hv
   have:=hget _ _ hv
   exact hrep r j row d v hr hd (by rw [Nat.add_mul,Nat.add_assoc];exact this)
  refine⟨_,?_,?_,hflat,?_⟩
  ·simp [sval,hb,Builtin.lenOf,g2]
  ·intro n w' hn hb'
   subst hn
   simp only [sval,hb,Option.map_some]
   refine run_firstCells' hl fun j v hv=>?_
   rw [cell_of_heap (hb' b ⟨i.off*i.sz,i.len,i.cap,by simp [sval,hb]⟩),cells_of_row hh]
   exact hget j v hv
  ·rw [List.all_eq_true]
   intro v hv
   obtain⟨j,hj⟩:=List.mem_iff_getElem?.1 hv
   have hlt:=(List.getElem?_eq_some_iff.1 hj).1
   rw [hl] at hlt
   have hpos:0 < i.sz:=by
                 rcases Nat.eq_zero_or_pos i.sz with h | h;· rw [h] at hlt;simp at hlt
                 ·exact h
   have hi:j / i.sz < xs.length:=Nat.div_lt_of_lt_mul (by rw [Nat.mul_comm];exact hlt)
   have hrow:=g5 _ (List.getElem_mem hi)
   have hm:j % i.sz < xs[j / i.sz].length:=by rw [hrow];exact Nat.mod_lt _ hpos
   have e:j / i.sz*i.sz+j % i.sz=j:=by rw [Nat.mul_comm];exact Nat.div_add_mod j i.sz
   exact (hflat.rep (j / i.sz) (j % i.sz) _ _ v (List.getElem?_eq_getElem hi) (List.getElem?_eq_getElem hm) (by rw [e];exact hj)).one (g6 _ (List.getElem_mem hi) _ (List.getElem_mem hm))
structure ElemT (P:Program)(T e sz bytes:Nat):Prop where
 hT:selem P T=some e
 hsize:tsize P e=some sz
 hzero:(tzero P e).map List.length=some sz
 hbytes:(P.info? e).map (·.bytes)=some bytes
 hpos:bytes≠0
def notInt (P:Program)(T:TypeId):Bool :=
 match P.underlying T with
 | some (.slice _)=>true
 | some .string=>true
 | _=>false
theorem run_notInt {T:TypeId} (h:notInt P T=true)(w:World):(∃ e,(underlying T).run P w=.ok (.slice e) w)∨(underlying T).run P w=.ok .string w:=by
 unfold notInt at h
 cases hu:P.underlying T with
 | none=>simp [hu] at h
 | some d =>
  cases d <;> simp [hu] at h
  ·exact .inr (by simp [underlying,hu])
  ·rename_i e;exact .inl ⟨e,by simp [underlying,hu]⟩
theorem zeroCells_size (zero:Array Value)(n:Nat):(Builtin.zeroCells zero n).size=n*zero.size:=by simp [Builtin.zeroCells]
theorem append_core {β:Names} {i:BI} {T e sz bytes U:Nat} {rs xs:List (List D)} {v:Value} {vs:List Value} (hE:ElemT P T e sz bytes)(hU:notInt P U=true)(hbox:BoxOK S w β i (.rows sz rs))
  (hnS:∀ b,i.base=some b→¬ S b∧b < w.heap.size) (hsrc:Src P S w sz xs v vs) (hroom:(rs.length+xs.length)*bytes≤lim) (ty:TypeId) :
  ∃ (i':BI) (w':World),(Builtin.append_ #[T,U] ty #[sval i,v]).run P w=.ok (sval i') w'∧w'.os=w.os∧w'.tape=w.tape∧w'.output=w.output∧w.heap.size≤w'.heap.size ∧
   (∀ b,b < w.heap.size→i.base≠some b→w'.heap[b]? = w.heap[b]?)∧(∀ b,i'.base=some b→i.base=some b∨(w.heap.size≤b∧b < w'.heap.size)) ∧
   (SExt S w S w'→∀ β',BoxOK S w' β' i' (.rows sz (rs++xs))):=by
 have hbox':=hbox
 obtain⟨g1,g2,g3,g4,g5,g6,g7⟩:=hbox
 have hdu:=run_notInt hU w
 have hb1:1≤bytes:=by have:=hE.hpos;omega
 have hlimn:rs.length+xs.length≤lim:=Nat.le_trans (Nat.le_mul_of_pos_right _ hb1) hroom
 obtain⟨os,hos⟩:=Src.acc (P:=P) hbox'
 obtain⟨zs,hz,hzl⟩:∃ zs,tzero P e=some zs∧zs.length=sz:=by
  have:=hE.hzero;cases hz:tzero P e with
  | none=>simp [hz] at this
  | some zs=>exact⟨zs,rfl,by simpa [hz] using this⟩
 by_cases hc:i.len+xs.length≤i.cap
 ·
  cases hb:i.base with
  | none =>
   rw [hb] at g7;simp only at g7
   have hx:xs=[]:=by cases xs with
    | nil=>rfl
    | cons r xs=>simp at hc;omega
   have hr:rs=[]:=by cases rs with
    | nil=>rfl
    | cons r xs=>simp at g2;omega
   subst hx;subst hr
   simp only [List.length_nil,Nat.add_zero] at hc g2
   refine⟨i,w,?_,rfl,rfl,rfl,Nat.le_refl _,fun _ _ _=>rfl,fun b h=>.inl (by rw [← hb];exact h),fun _ _=>?_⟩
   ·have hcells:=hsrc.cells 0 w rfl (fun _ _=>rfl)
    have hl0:=hsrc.len
    simp only [List.length_nil] at hl0
    rcases hdu with ⟨eu,hdu⟩ | hdu <;> simp [sval,hb,Builtin.append_,run_selem hE.hT,run_sizeOf' hE.hsize,hdu,hl0,← g2,hcells]
   ·refine⟨g1,by simpa using g2,g3,by simp,by simp,by simp,?_⟩
    rw [hb];exact g7
  | some b =>
   rw [hb] at g7
   obtain⟨tyb,bs,hh,hfit,hrep⟩:=g7
   subst g1
   have hl:=hsrc.flat.len
   have hfit':(i.off*i.sz+i.len*i.sz)+0+vs.length≤bs.length:=by
    have:(i.off+(i.len+xs.length))*i.sz≤(i.off+i.cap)*i.sz:=Nat.mul_le_mul_right _ (by omega)
    simp only [Nat.add_mul] at this hfit;omega
   obtain⟨w',hrun,q1,q2,q3,q4,q5,q6⟩:=run_storeCells' (P:=P) vs bs b (i.off*i.sz+i.len*i.sz) 0 tyb w hh hfit' hsrc.one
   refine⟨{ i with len:=i.len+xs.length },w',?_,q3,q4,q5,by omega,?_,fun b' hb'=>.inl (by simpa [hb] using hb'),?_⟩
   ·have hcells:=hsrc.cells xs.length w rfl (fun _ _=>rfl)
    simp only [Builtin.append_,sval,hb,Option.map_some]
    rcases hdu with ⟨eu,hdu⟩ | hdu <;> simp [run_selem hE.hT,run_sizeOf' hE.hsize,hdu,hsrc.len,hc,hcells,add_addr,hrun]
   ·intro b' hb' hne
    exact q2 b' fun he=>hne (by rw [he])
   ·intro e0 β'
    refine boxOK_rows (b:=b) (us:=setAll os (rs.length*i.sz) []++vs) (by simpa using hb) rfl (by simp [g2]) hc (by simpa using hlimn) q1 (by rw [setAll_length];exact hfit) (by simp only [setAll];exact (hos.flat.ext e0).append (hsrc.flat.ext e0)) ?_
    intro j u hu
    simp only [setAll] at hu
    show (setAll bs _ vs)[i.off*i.sz+j]? = _
    rw [setAll_get _ _ _ _ hfit']
    by_cases hj:j < os.length
    ·rw [List.getElem?_append_left hj] at hu
     have hlo:=hos.flat.len
     rw [if_neg (by rw [hlo,g2] at hj;omega)]
     have:=hos.cells rs.length w rfl (fun _ _=>rfl)
     have hcell:∀ (j:Nat) (u:Value),os[j]? = some u→bs[i.off*i.sz+j]? = some u:=by
      intro j u hu
      have hjl:=(List.getElem?_eq_some_iff.1 hu).1
      have hrun2:(Builtin.firstCells i.sz rs.length (sval i)).run P w=.ok ⟨(bs.drop (i.off*i.sz)).take (rs.length*i.sz)⟩ w:=by
       simp only [sval,hb,Option.map_some]
       refine run_firstCells' ?_ ?_
       ·simp only [Nat.add_mul] at hfit
        have:i.len*i.sz≤i.cap*i.sz:=Nat.mul_le_mul_right _ g3
        rw [← g2] at this
        simp;omega
       ·intro j v hv
        rw [cells_of_row hh]
        simp only [List.getElem?_take,List.getElem?_drop] at hv
        split at hv
        ·exact hv
        ·simp at hv
      rw [this] at hrun2
      simp only [Result.ok.injEq,Array.mk.injEq,and_true] at hrun2
      rw [hrun2] at hu
      simp only [List.getElem?_take,List.getElem?_drop] at hu
      split at hu
      ·exact hu
      ·simp at hu
     exact hcell j u hu
    ·rw [List.getElem?_append_right (by omega)] at hu
     have hlo:=hos.flat.len
     rw [g2] at hlo
     have hlt:=(List.getElem?_eq_some_iff.1 hu).1
     rw [if_pos (by omega)]
     rw [← hu];congr 1;omega
 ·
  have hlt:i.cap < i.len+xs.length:=by omega
  have hlen:i.len=rs.length:=g2.symm
  have hfits:=growslice_fits hlt (bytes:=bytes) (by rw [hlen];exact hroom)
  obtain⟨inf,hinf,hinfb⟩:∃ inf,P.info? e=some inf∧inf.bytes=bytes:=by
   have:=hE.hbytes;cases hz:P.info? e with
   | none=>simp [hz] at this
   | some inf=>exact⟨inf,rfl,by simpa [hz] using this⟩
  obtain⟨z,hzrun,hzz⟩:=run_zeroValue' hz w.drew
  let newCap:=(Question.appendCap (i.len+xs.length) i.cap e).cut (w.tape w.drawn (.appendCap (i.len+xs.length) i.cap e))
  have hge:i.len+xs.length≤newCap:=by
   show _≤(i.len+xs.length)+_ % _
   omega
  let rest:=(Builtin.zeroCells z.cells (newCap - (i.len+xs.length))).toList
  let W:World:={ w.drew with heap:=w.drew.heap.push (.cells ⟨os++vs++rest⟩ e) }
  have hsize:z.cells.size=sz:=by rw [hzz] at hzl;simpa using hzl
  refine⟨{ base:=some w.heap.size,off:=0,len:=i.len+xs.length,cap:=newCap,sz:=sz },W,?_,rfl,rfl,rfl,?_,?_,?_,?_⟩
  ·have h1:=hos.cells i.len w.drew hlen (fun _ _=>rfl)
   have h2:=hsrc.cells xs.length w.drew rfl (fun _ _=>rfl)
   have hnofit:¬ (2 ^ 48 < Builtin.nextslicecap (i.len+xs.length) i.cap*inf.bytes):=by rw [hinfb];omega
   have hb0:inf.bytes≠0:=by rw [hinfb];exact hE.hpos
   have hchoose:(choose (.appendCap (i.len+xs.length) i.cap e)).run P w=.ok newCap w.drew:=by simp [run_choose,Question.forced,newCap]
   obtain⟨bse,hbse⟩:∃ bse,sval i=.slice bse i.len i.cap:=⟨_,rfl⟩
   have hsv:sval ({ base:=some w.heap.size,off:=0,len:=i.len+xs.length,cap:=newCap,sz:=sz }:BI)=.slice (some ⟨w.heap.size,0,none⟩) (i.len+xs.length) newCap:=by simp [sval]
   rw [hsv]
   rw [hbse] at h1 ⊢
   simp only [Builtin.append_]
   have hcat:(⟨os⟩:Array Value)++((⟨vs⟩:Array Value)++Builtin.zeroCells z.cells (newCap - (i.len+xs.length)))=⟨os++vs++rest⟩:=by apply Array.ext';simp [rest]
   have hforced:(Question.appendCap (i.len+xs.length) i.cap e).forced=false:=rfl
   rcases hdu with ⟨eu,hdu⟩ | hdu
   all_goals
    simp [-run_choose,run_selem hE.hT,run_sizeOf' hE.hsize,hdu,hsrc.len,hc,typeInfo,hinf,hb0,hnofit,hchoose,h1,h2,hzrun,newRow,hcat]
    rw [← List.append_assoc];rfl
  ·show w.heap.size≤(w.heap.push _).size
   simp
  ·intro b hb _;exact heap_push_old w _ hb
  ·intro b hb
   simp only [Option.some.injEq] at hb
   subst hb
   exact .inr ⟨Nat.le_refl _,by show w.heap.size < (w.heap.push _).size;simp⟩
  ·intro e0 β'
   have hl1:=hos.flat.len
   have hl2:=hsrc.flat.len
   have hl3:rest.length=(newCap - (i.len+xs.length))*sz:=by
    show (Builtin.zeroCells _ _).toList.length=_
    rw [Array.length_toList,zeroCells_size,hsize]
   refine boxOK_rows (b:=w.heap.size) (vs:=os++vs++rest) (ty:=e) (us:=os++vs) rfl rfl (by simp [g2]) hge (by simpa using hlimn) (by show (w.heap.push _)[w.heap.size]? = _;simp) ?_ ((hos.flat.ext e0).append (hsrc.flat.ext e0)) ?_
   ·simp only [List.length_append,hl1,hl2,hl3,Nat.zero_add]
    rw [← Nat.add_mul,← Nat.add_mul]
    exact Nat.mul_le_mul_right _ (by omega)
   ·intro j u hu
    have:=(List.getElem?_eq_some_iff.1 hu).1
    simp only [Nat.zero_mul,Nat.zero_add]
    rw [List.getElem?_append_left this]
    exact hu
end Go.Abs
namespace Go.Abs
open Go
variable {P:Program} {o:Oper} {ρ:Rho} {bx:Boxes}
inductive IsSrc (bx:Boxes) (sz:Nat):SV→List (List D)→Prop where
 | nil:IsSrc bx sz (.d .nil) []
 | emp:IsSrc bx sz (.d .emp) []
 | slice (xs:List (List D)):(∀ row,row∈xs→row.length=sz)→IsSrc bx sz (.d (.slice xs)) xs
 | acc (k:Nat) (xs:List (List D)):(k,BoxC.rows sz xs)∈bx→IsSrc bx sz (.acc k) xs
variable {S:Nat→Prop} {w:World} {β:Names}
theorem IsSrc.src {C:Ctx} {sz:Nat} {x:SV} {xs:List (List D)} {v:Value} (h:IsSrc bx sz x xs)(hi:Inv C S w β bx)(hv:RepV S w β x v):∃ vs,Src P S w sz xs v vs:=by
 cases h with
 | nil=>cases hv with | d _ _ h=>cases h;exact⟨[],.nil⟩
 | emp=>cases hv with | d _ _ h=>cases h;exact⟨[],.nil⟩
 | slice _ hs=>cases hv with | d _ _ h=>exact Src.slice h hs
 | acc k _ hk=>cases hv with | acc _=>exact Src.acc (hi.box k _ hk)
theorem run_append_op {T U:TypeId} {x y:Operand} (ho:o.op=.call { callee:=.builtin .append,args:=#[x,y],argTypes:=#[T,U] }) {a:Act} {w w':World} {s v r:Value} (hs:a.eval x=s)(hv:a.eval y=v)
  (h:(Builtin.append_ #[T,U] o.type #[s,v]).run P w=.ok r w'):(execOp a.eval o).run P w=.ok (.value r) w':=by
 simp [execOp,ho,resolve,invoke,builtin,hs,hv,h]
theorem opT_appendAcc {T U e sz bytes k:Nat} {x y:Operand} (hkf:k≤999999)(ho:o.op=.call { callee:=.builtin .append,args:=#[x,y],argTypes:=#[T,U] }) {rs xs:List (List D)} (hE:ElemT P T e sz bytes)(hU:notInt P U=true)
  (hx:ρ x=.acc k) (hb:(k,BoxC.rows sz rs)∈bx) (hy:IsSrc bx sz (ρ y) xs) (hroom:(rs.length+xs.length)*bytes≤lim) :
  OpT P o ρ bx (.acc k) ((k,.rows sz (rs++xs))::bpurge k (berase k bx)) [k]:=by
 intro C S w β a hi ha
 obtain⟨vs,hsrc⟩:=hy.src (P:=P) hi ((ha y (mC ho)))
 have hx1:=(ha x (mC ho));rw [hx] at hx1
 have hv:a.eval x=sval (β k):=by generalize a.eval x=v at hx1;cases hx1;rfl
 obtain⟨i',w',hrun,q1,q2,q3,q4,q5,q6,q7⟩:=append_core hE hU (hi.box k _ hb) (fun b hb'=>⟨(hi.priv k _ hb b hb').1,(hi.priv k _ hb b hb').2.1⟩) hsrc hroom o.type
 have hpriv:∀ b,i'.base=some b→¬ S b∧b < w'.heap.size∧(w.heap.size≤b∨∃ x,(k,x)∈bx∧(β k).base=some b):=by
  intro b hb'
  rcases q6 b hb' with h | ⟨h1,h2⟩
  ·obtain⟨g1,g2,_⟩:=hi.priv k _ hb b h
   exact⟨g1,by omega,.inr ⟨_,hb,h⟩⟩
  ·exact⟨fun hs=>by have:=hi.Slt b hs;omega,h2,.inl h1⟩
 obtain⟨h1,h2⟩:=hi.setNew (k:=k) (c:=.rows sz (rs++xs)) i' hkf hpriv (fun b' hb' hn=>q5 b' hb' (hn _ hb)) q1 q2 q3 q4 (fun e0=>q7 e0 _)
 refine Or.inl ?_
 unfold Oper.wp
 rw [run_append_op ho hv rfl hrun]
 refine⟨_,S,_,rfl,h1,h2,?_,fun j hj=>upd_ne (by simpa using hj)⟩
 have:=RepV.acc (S:=S) (w:=w') (β:=upd β k i') k
 rw [upd_same] at this
 exact this
theorem boxOK_nil {sz:Nat} :BoxOK S w β { base:=none,sz:=sz } (.rows sz []) :=
 ⟨rfl,rfl,Nat.le_refl _,by simp [lim],by simp,by simp,rfl⟩
theorem opT_appendNil {T U e sz bytes k:Nat} {x y:Operand} (hkf:k≤999999)(ho:o.op=.call { callee:=.builtin .append,args:=#[x,y],argTypes:=#[T,U] }) {xs:List (List D)} (hE:ElemT P T e sz bytes)(hU:notInt P U=true)
  (hx:ρ x=.d .nil) (hy:IsSrc bx sz (ρ y) xs) (hroom:xs.length*bytes≤lim) :
  OpT P o ρ bx (.acc k) ((k,.rows sz xs)::bpurge k (berase k bx)) [k]:=by
 intro C S w β a hi ha
 obtain⟨vs,hsrc⟩:=hy.src (P:=P) hi ((ha y (mC ho)))
 have hx1:=(ha x (mC ho));rw [hx] at hx1
 have hv:a.eval x=sval { base:=none,sz:=sz }:=by
  generalize a.eval x=v at hx1
  cases hx1 with | d _ _ h=>cases h;rfl
 obtain⟨i',w',hrun,q1,q2,q3,q4,q5,q6,q7⟩:=append_core (rs:=[]) hE hU (boxOK_nil (S:=S) (w:=w) (β:=β)) (by simp) hsrc (by simpa using hroom) o.type
 have hpriv:∀ b,i'.base=some b→¬ S b∧b < w'.heap.size∧(w.heap.size≤b∨∃ x,(k,x)∈bx∧(β k).base=some b):=by
  intro b hb'
  rcases q6 b hb' with h | ⟨h1,h2⟩
  ·simp at h
  ·exact⟨fun hs=>by have:=hi.Slt b hs;omega,h2,.inl h1⟩
 obtain⟨h1,h2⟩:=hi.setNew (k:=k) (c:=.rows sz xs) i' hkf hpriv (fun b' hb' _=>q5 b' hb' (by simp)) q1 q2 q3 q4 (fun e0=>by simpa using q7 e0 _)
 refine Or.inl ?_
 unfold Oper.wp
 rw [run_append_op ho hv rfl hrun]
 refine⟨_,S,_,rfl,h1,h2,?_,fun j hj=>upd_ne (by simpa using hj)⟩
 have:=RepV.acc (S:=S) (w:=w') (β:=upd β k i') k
 rw [upd_same] at this
 exact this
theorem BoxOK.rows_slice {i:BI} {sz:Nat} {rs:List (List D)} (h:BoxOK S w β i (.rows sz rs))(hS:∀ b,i.base=some b→S b):RepC S w (.slice rs) (sval i):=by
 obtain⟨vs,hs⟩:=Src.acc (P:=default) h
 obtain⟨g1,g2,g3,g4,g5,g6,g7⟩:=h
 subst g1
 unfold sval
 rw [← g2] at g3 ⊢
 cases hb:i.base with
 | none =>
  rw [hb] at g7
  simp only at g7
  have:rs=[]:=by cases rs with
   | nil=>rfl
   | cons r xs=>simp at g3;omega
  subst this
  rw [g7]
  exact .slice0 none 0 (fun _=>rfl)
 | some b =>
  rw [hb] at g7
  obtain⟨ty,us,hh,hfit,hrep⟩:=g7
  simp only [Option.map_some]
  refine .slice rs b _ _ i.sz (hS b hb) g4 g3 g5 g6 ?_ ?_
  ·intro r j hr hj
   have h1:(i.off+r+1)*i.sz≤(i.off+i.cap)*i.sz:=Nat.mul_le_mul_right _ (by omega)
   have h2:(i.off+r+1)*i.sz=i.off*i.sz+(r*i.sz+i.sz):=by rw [Nat.add_mul,Nat.add_mul,Nat.one_mul,Nat.add_assoc]
   have hlt:i.off*i.sz+(r*i.sz+j) < us.length:=by omega
   exact⟨us[i.off*i.sz+(r*i.sz+j)],by rw [cells_of_row hh];exact List.getElem?_eq_getElem hlt⟩
  ·intro r j row d v hr hd hv
   rw [cells_of_row hh] at hv
   exact hrep r j row d v hr hd (by rw [Nat.add_mul,Nat.add_assoc];exact hv)
theorem Inv.publish {C:Ctx} {k sz:Nat} {rs:List (List D)} (h:Inv C S w β bx)(hk:(k,BoxC.rows sz rs)∈bx) :
  Inv C (fun b=>S b∨(β k).base=some b) w β (berase k bx)∧SExt S w (fun b=>S b∨(β k).base=some b) w∧RepC (fun b=>S b∨(β k).base=some b) w (.slice rs) (sval (β k)):=by
 have e:SExt S w (fun b=>S b∨(β k).base=some b) w:=⟨fun _ h=>.inl h,fun _ _=>rfl⟩
 refine⟨?_,e,(BoxOK.ext (h.box k _ hk) e (fun _ _=>rfl) (fun _ _=>rfl)).rows_slice fun b hb=>.inr hb⟩
 exact {
  S0sub:=fun b hb=>.inl (h.S0sub b hb)
  Snew:=fun b hb=>by
   rcases hb with hb | hb
   ·exact h.Snew b hb
   ·exact .inr (h.priv k _ hk b hb).2.2
  Slt:=fun b hb=>by
   rcases hb with hb | hb
   ·exact h.Slt b hb
   ·exact (h.priv k _ hk b hb).2.1
  kept:=h.kept
  os:=h.os
  tape:=h.tape
  output:=h.output
  size:=h.size
  box:=fun j c hj=>by
   obtain⟨hne,hj⟩:=mem_berase.1 hj
   exact (h.box j c hj).ext e (fun _ _=>rfl) (fun _ _=>rfl)
  priv:=fun j c hj b hb=>by
   obtain⟨hne,hj⟩:=mem_berase.1 hj
   obtain⟨h1,h2,h3⟩:=h.priv j c hj b hb
   refine⟨fun hs=>?_,h2,h3⟩
   rcases hs with hs | hs
   ·exact h1 hs
   ·exact hne (h.inj j c k _ hj hk b hb hs).1
  inj:=fun j c j' c' hj hj' b hb hb'=>h.inj j c j' c' (mem_berase.1 hj).2 (mem_berase.1 hj').2 b hb hb'
  one:=fun k Y st k' Y' st' hk hk'=>h.one k Y st k' Y' st' (mem_berase.1 hk).2 (mem_berase.1 hk').2
  frn:=fun j Y st hj=>by
   obtain⟨h1,h2,h3,h4,B,h5,h6⟩:=h.frn j Y st (mem_berase.1 hj).2
   have hsz:=h.size
   have hB:∀ b,B b→¬ (S b∨(β k).base=some b):=fun b hb hs=>hs.elim (h6 b hb).1 ((h6 b hb).2.2.2 k _ hk)
   refine⟨h1,h2,h3,fun k' c' hk'=>h4 k' c' (mem_berase.1 hk').2,B,h2.keep st B S w _ w h5 ⟨fun _ h=>.inl h,fun b hb=>hb.imp id fun hb=>by rw [h1];exact h4 k _ hk b hb,fun b hb=>?_,hB,fun _ _=>rfl,rfl,rfl,rfl,Nat.le_refl _⟩,fun b hb=>⟨hB b hb,(h6 b hb).2.1,(h6 b hb).2.2.1,fun k' c' hk'=>(h6 b hb).2.2.2 k' c' (mem_berase.1 hk').2⟩⟩
   rcases hb with hb | hb
   ·exact h.Slt b hb
   ·exact (h.priv k _ hk b hb).2.1
  tab:=fun b cs hv=>⟨.inl (h.tab b cs hv).1,(h.tab b cs hv).2⟩
  fix:=h.fix }
end Go.Abs
namespace Go.Abs
open Go
variable {P:Program} {o:Oper} {ρ:Rho} {bx:Boxes}
def Enters (P:Program)(f:FuncId):Prop:=∃ fn,P.funcs[f]? = some fn∧(fn.name == "runtime.NumGoroutine")=false∧fn.body.isNone=false
def CallB (P:Program)(f:FuncId)(args:List SV)(pre:Boxes)(r:SV)(post:Boxes):Prop :=
 Enters P f∧∀ (C:Ctx) (β:Names) (vs:List Value),Inv C C.S0 C.w0 β pre→RepL C.S0 C.w0 β args vs →
  Calls P f ⟨vs⟩ C.w0 (fun e w'=>∃ v S' β',e=.returned v∧Inv C S' w' β' post∧RepV S' w' β' r v)
def CallOK (P:Program)(f:FuncId)(args:List SV)(r:SV):Prop:=CallB P f args [] r []
theorem run_enter {f:FuncId} (hE:Enters P f) {fo:Operand} {args:Array Operand} {tys:Array TypeId} (ho:o.op=.call { callee:=.value fo,args:=args,argTypes:=tys }) {a:Act} {caps:Array Value} (hf:a.eval fo=.func (.func f) #[] caps)(w:World) :
  (execOp a.eval o).run P w=.ok (.enter f (args.map a.eval++caps)) w:=by
 obtain⟨fn,h1,h2,h3⟩:=hE
 simp only [execOp,ho,resolve,Deferred.ofValue,hf,invoke,callFunc,Sem.run_bind,Sem.run_pure,Result.andThen_ok,run_program,h1,h2,h3,Bool.false_eq_true,if_false,Array.empty_append]
def D.flat:D→Bool
 | .int _ _ | .bool _ | .str _ | .nil | .nilptr | .nilmap | .niliface | .nilfn=>true
 | _=>false
def SV.scalar:SV→Bool
 | .d x=>x.flat
 | .undef=>true
 | .tuple xs=>xs.all fun x=>match x with | .d y=>y.flat | .undef=>true | _=>false
 | _=>false
theorem RepC.scalar {S S':Nat→Prop} {w w':World} {x:D} {v:Value} (h:RepC S w x v)(hs:x.flat=true):RepC S' w' x v:=by
 cases h <;> simp [D.flat] at hs <;> constructor;assumption
theorem RepV.scalar {S S':Nat→Prop} {w w':World} {β β':Names} {x:SV} {v:Value} (h:RepV S w β x v)(hs:x.scalar=true):RepV S' w' β' x v:=by
 cases h with
 | undef=>exact .undef _
 | d x v h=>exact .d _ _ (h.scalar (by simpa [SV.scalar] using hs))
 | tuple cells vs h1 h2 =>
  refine .tuple cells vs h1 ?_
  intro j c v hc hv
  have h3:=h2 j c v hc hv
  simp only [SV.scalar] at hs
  have:=List.all_eq_true.1 hs c (List.mem_of_getElem? hc)
  cases h3 with
  | d x v h=>exact .d _ _ (h.scalar (by simpa using this))
  | undef=>exact .undef _
  | _=>simp at this
 | _=>simp [SV.scalar] at hs
def bget (bx:Boxes)(k:Nat):Option BoxC :=
 match bx with
 | []=>none
 | (j,c)::r=>if j=k then some c else bget r k
theorem mem_of_bget {k:Nat} {c:BoxC} :∀ {bx:Boxes},bget bx k=some c→(k,c)∈bx
 | [],h=>by simp [bget] at h
 | (j,x)::r,h=>by
  simp only [bget] at h
  split at h
  ·simp only [Option.some.injEq] at h;subst_vars;simp
  ·simp [mem_of_bget h]
mutual
def coerce (bx:Boxes):SV→Option SV
 | .d .nil=>some (.d (.slice []))
 | .d .emp=>some (.d (.slice []))
 | .d x=>some (.d x)
 | .undef=>some .undef
 | .yld l=>some (.yld l)
 | .dptr c off=>some (.dptr c off)
 | .agg cs=>match coerceL bx cs with
  | some l=>if l.all SV.one then some (.agg l) else none
  | none=>none
 | .tuple cs=>match coerceL bx cs with
  | some l=>some (.tuple l)
  | none=>none
 | .clo f cs=>match coerceL bx cs with
  | some l=>some (.clo f l)
  | none=>none
 | .acc k=>match bget bx k with
  | some (.rows _ rs)=>some (.d (.slice rs))
  | _=>none
 | .mp k=>match bget bx k with
  | some (.map kvs)=>some (.d (.map kvs))
  | _=>none
 | .box _ _=>none
 | .aptr _ _ _=>none
 | .vptr cs off=>if SV.closedAll cs then some (.vptr cs off) else none
def coerceL (bx:Boxes):List SV→Option (List SV)
 | []=>some []
 | c::cs=>match coerce bx c with
  | some x=>match coerceL bx cs with
   | some l=>some (x::l)
   | none=>none
  | none=>none
end
variable {C:Ctx} {S:Nat→Prop} {w:World}
theorem Inv.bd {β:Names} (h:Inv C S w β bx):SExt S w (fun b=>b < w.heap.size) w:=⟨fun b hb=>h.Slt b hb,fun _ _=>rfl⟩
abbrev all (w:World):Nat→Prop:=fun b=>b < w.heap.size
mutual
theorem coerce_rep {C:Ctx} {S S1:Nat→Prop} {w:World} {β:Names} (hi:Inv C S w β bx)(he:SExt S w S1 w)(hS:∀ k c,(k,c)∈bx→∀ b,(β k).base=some b→S1 b):∀ {x y:SV} {v:Value},coerce bx x=some y→RepV S w β x v→RepV S1 w β y v∧y.closed=true
 | .undef,y,v,h,hv=>by simp only [coerce,Option.some.injEq] at h;subst h;exact⟨.undef v,rfl⟩
 | .dptr c off,y,v,h,hv=>by simp only [coerce,Option.some.injEq] at h;subst h;exact⟨hv.ext he (fun _ _=>rfl),rfl⟩
 | .d x,y,v,h,hv=>by
  have hv':RepV S1 w β (.d x) v:=hv.ext he (fun _ _=>rfl)
  cases x <;> simp only [coerce,Option.some.injEq] at h <;> subst h <;> first
   | exact⟨hv',rfl⟩
   | exact⟨.d _ _ hv'.inv_d.of_nil,rfl⟩
   | exact⟨.d _ _ hv'.inv_d.of_emp,rfl⟩
 | .agg cs,y,v,h,hv=>by
  simp only [coerce] at h
  cases hl:coerceL bx cs with
  | none=>simp [hl] at h
  | some l =>
   simp only [hl] at h
   split at h
   ·rename_i hone
    simp only [Option.some.injEq] at h;subst h
    cases hv with
    | agg _ vs h1 h2 h3 =>
     obtain⟨g1,g2⟩:=coerceL_rep hi he hS hl ⟨h1,h3⟩
     exact⟨RepV.agg_of g1 hone,by simp only [SV.closed];exact g2⟩
   ·simp at h
 | .tuple cs,y,v,h,hv=>by
  simp only [coerce] at h
  cases hl:coerceL bx cs with
  | none=>simp [hl] at h
  | some l =>
   simp only [hl,Option.some.injEq] at h;subst h
   cases hv with
   | tuple _ vs h1 h3 =>
    obtain⟨g1,g2⟩:=coerceL_rep hi he hS hl ⟨h1,h3⟩
    exact⟨.tuple _ _ g1.1 g1.2,by simp only [SV.closed];exact g2⟩
 | .clo f cs,y,v,h,hv=>by
  simp only [coerce] at h
  cases hl:coerceL bx cs with
  | none=>simp [hl] at h
  | some l =>
   simp only [hl,Option.some.injEq] at h;subst h
   cases hv with
   | clo _ _ vs h1 h3 =>
    obtain⟨g1,g2⟩:=coerceL_rep hi he hS hl ⟨h1,h3⟩
    exact⟨.clo _ _ _ g1.1 g1.2,by simp only [SV.closed];exact g2⟩
 | .acc k,y,v,h,hv=>by
  simp only [coerce] at h
  cases hb:bget bx k with
  | none=>simp [hb] at h
  | some c =>
   cases c <;> simp [hb] at h
   subst h
   cases hv with
   | acc _ =>
    refine⟨.d _ _ ?_,rfl⟩
    exact (BoxOK.ext (hi.box k _ (mem_of_bget hb)) he (fun _ _=>rfl) (fun _ _=>rfl)).rows_slice fun b hb'=>hS k _ (mem_of_bget hb) b hb'
 | .mp k,y,v,h,hv=>by
  simp only [coerce] at h
  cases hb:bget bx k with
  | none=>simp [hb] at h
  | some c =>
   cases c <;> simp [hb] at h
   subst h
   cases hv with
   | mp _ b hbase =>
    obtain⟨b',es,clock,h1,h2,h3,h4⟩:=hi.box k _ (mem_of_bget hb)
    rw [hbase] at h1;cases h1
    refine⟨.d _ _ (.map _ b es clock (hS k _ (mem_of_bget hb) b hbase) h2 h3 ?_ ?_),rfl⟩
    ·intro i kv e hk he';exact (h4 i kv e hk he').1.ext he
    ·intro i kv e hk he';exact (h4 i kv e hk he').2.ext he
 | .box _ _,y,v,h,hv=>by simp [coerce] at h
 | .aptr _ _ _,y,v,h,hv=>by simp [coerce] at h
 | .yld l,y,v,h,hv=>by simp only [coerce,Option.some.injEq] at h;subst h;cases hv;exact⟨.yld l,rfl⟩
 | .vptr cs off,y,v,h,hv=>by
  simp only [coerce] at h
  split at h
  ·rename_i hcl
   simp only [Option.some.injEq] at h;subst h
   have hc:(SV.vptr cs off).closed=true:=by simpa [SV.closed] using hcl
   exact⟨hv.ext he fun k hk=>absurd hk (by rw [SV.not_has_of_closed k hc];simp),hc⟩
  ·simp at h
theorem coerceL_rep {C:Ctx} {S S1:Nat→Prop} {w:World} {β:Names} (hi:Inv C S w β bx)(he:SExt S w S1 w)(hS:∀ k c,(k,c)∈bx→∀ b,(β k).base=some b→S1 b):∀ {cs l:List SV} {vs:List Value},coerceL bx cs=some l→RepL S w β cs vs→RepL S1 w β l vs∧SV.closedAll l=true
 | [],l,vs,h,hv=>by
  simp only [coerceL,Option.some.injEq] at h;subst h
  exact⟨⟨hv.1,by simp⟩,rfl⟩
 | c::cs,l,vs,h,hv=>by
  simp only [coerceL] at h
  cases hc:coerce bx c with
  | none=>simp [hc] at h
  | some x =>
   cases hl:coerceL bx cs with
   | none=>simp [hc,hl] at h
   | some m =>
    simp only [hc,hl,Option.some.injEq] at h;subst h
    cases vs with
    | nil=>have:=hv.1;simp at this
    | cons v vs =>
     obtain⟨g1,g2⟩:=coerce_rep hi he hS hc (hv.2 0 c v rfl rfl)
     obtain⟨q1,q2⟩:=coerceL_rep hi he hS hl ⟨by have:=hv.1;simpa using this,fun j c v hc hv'=>hv.2 (j+1) c v (by simpa using hc) (by simpa using hv')⟩
     exact⟨.cons g1 q1,by simp only [SV.closedAll,g2,q2,Bool.and_self]⟩
end
theorem RepL.evals {β:Names} {a:Act} :∀ (xs:List Operand),(∀ x,x∈xs→RepV S w β (ρ x) (a.eval x))→RepL S w β (xs.map ρ) (xs.map a.eval)
 | [],_=>.nil
 | x::xs,ha=>.cons (ha x (by simp)) (RepL.evals xs fun y hy=>ha y (by simp [hy]))
theorem Inv.begin {S S1:Nat→Prop} {β β1:Names} (h:Inv C S w β bx)(h1:∀ b,S1 b→b < w.heap.size)(h2:∀ b,S b→S1 b):Inv ⟨w,S1,fun _=>False,fun _ _=>False,C.G⟩ S1 w β1 [] where
 S0sub _ hb:=hb
 Snew _ hb:=.inl hb
 Slt:=h1
 kept _ _ _:=rfl
 os:=rfl
 tape:=rfl
 output:=rfl
 size:=Nat.le_refl _
 box k c hk:=by simp at hk
 priv k c hk:=by simp at hk
 inj k c k' c' hk:=by simp at hk
 fix _ _ h:=h.elim
 tab b cs hv:=⟨h2 b (h.tab b cs hv).1,(h.tab b cs hv).2⟩
 one k Y st k' Y' st' hk:=by simp at hk
 frn k Y st hk:=by simp at hk
theorem Inv.back {S S1 S':Nat→Prop} {w w':World} {β β':Names} (h:Inv C S w β bx)(hk:Inv ⟨w,S1,fun _=>False,fun _ _=>False,C.G⟩ S' w' β' []) :
  Inv C (fun b=>S b∨(S' b∧w.heap.size≤b)) w' β bx∧SExt S w (fun b=>S b∨(S' b∧w.heap.size≤b)) w':=by
 refine h.grow (fun b hb=>.inl hb) ?_ ?_ (fun b hb=>hk.kept b hb (by simp)) hk.os hk.tape hk.output hk.size
 ·intro b hb;rcases hb with hb | hb
  ·exact .inl hb
  ·exact .inr hb.2
 ·intro b hb;rcases hb with hb | hb
  ·have:=h.Slt b hb;have:=hk.size;simp at this;omega
  ·exact hk.Slt b hb.1
variable {fo:Operand}
theorem opT_call {f:FuncId} {args:Array Operand} {tys:Array TypeId} (ho:o.op=.call { callee:=.value fo,args:=args,argTypes:=tys }) {caps args':List SV} {r:SV}
  (hf:ρ fo=.clo f caps) (hargs:coerceL [] (args.toList.map ρ++caps)=some args') (hc:CallOK P f args' r) (hr:r.closed=true):OpT P o ρ bx r bx []:=by
 intro C S w β a hi ha
 have hf1:=(ha fo (mC ho));rw [hf] at hf1
 generalize hfv:a.eval fo=v at hf1
 cases hf1 with
 | clo _ _ cs h1 h2 =>
  have hall:RepL S w β (args.toList.map ρ++caps) (args.toList.map a.eval++cs):=(RepL.evals _ fun x hx=>ha x (mo ho (by simp [Op.operands,Call.operands];simp at hx;exact .inr hx))).append ⟨h1,h2⟩
  have hin:Inv ⟨w,S,fun _=>False,fun _ _=>False,C.G⟩ S w β []:=hi.begin hi.Slt (fun _ h=>h)
  obtain⟨g1,g2⟩:=coerceL_rep hin (SExt.refl S w) (by simp) hargs hall
  have hcall:=hc.2 ⟨w,S,fun _=>False,fun _ _=>False,C.G⟩ β _ hin g1
  refine Or.inl ?_
  unfold Oper.wp
  rw [run_enter hc.1 ho hfv,Oper.upon_enter]
  have hargsEq:args.map a.eval++(⟨cs⟩:Array Value)=⟨args.toList.map a.eval++cs⟩:=by apply Array.ext';simp
  rw [hargsEq]
  refine hcall.mono ?_
  rintro e w' ⟨v,S',β',rfl,hk,hv⟩
  obtain⟨q1,q2⟩:=hi.back hk
  have e':SExt S' w' (fun b=>S b∨(S' b∧w.heap.size≤b)) w':=⟨fun b hb=>by
   rcases hk.Snew b hb with h | h | h
   ·exact .inl h
   ·exact h.elim
   ·exact .inr ⟨hb,h⟩,fun _ _=>rfl⟩
  exact⟨v,_,β,rfl,q1,q2,(hv.ext e' (fun _ _=>rfl)).closed hr,fun _ _=>rfl⟩
theorem opT_callLend {f:FuncId} {args:Array Operand} {tys:Array TypeId} (ho:o.op=.call { callee:=.value fo,args:=args,argTypes:=tys }) {caps args':List SV} {r:SV}
  (hf:ρ fo=.clo f caps) (hargs:coerceL bx (args.toList.map ρ++caps)=some args') (hc:CallOK P f args' r) (hr:r.scalar=true):OpT P o ρ bx r bx []:=by
 intro C S w β a hi ha
 have hf1:=(ha fo (mC ho));rw [hf] at hf1
 generalize hfv:a.eval fo=v at hf1
 cases hf1 with
 | clo _ _ cs h1 h2 =>
  have hall:RepL S w β (args.toList.map ρ++caps) (args.toList.map a.eval++cs):=(RepL.evals _ fun x hx=>ha x (mo ho (by simp [Op.operands,Call.operands];simp at hx;exact .inr hx))).append ⟨h1,h2⟩
  have hin:Inv ⟨w,all w,fun _=>False,fun _ _=>False,C.G⟩ (all w) w β []:=hi.begin (fun _ hb=>hb) hi.Slt
  obtain⟨g1,g2⟩:=coerceL_rep hi hi.bd (fun k c hk b hb=>(hi.priv k c hk b hb).2.1) hargs hall
  have hcall:=hc.2 ⟨w,all w,fun _=>False,fun _ _=>False,C.G⟩ β _ hin g1
  refine Or.inl ?_
  unfold Oper.wp
  rw [run_enter hc.1 ho hfv,Oper.upon_enter]
  have hargsEq:args.map a.eval++(⟨cs⟩:Array Value)=⟨args.toList.map a.eval++cs⟩:=by apply Array.ext';simp
  rw [hargsEq]
  refine hcall.mono ?_
  rintro e w' ⟨v,S',β',rfl,hk,hv⟩
  obtain⟨q1,q2⟩:=hi.back hk
  exact⟨v,_,β,rfl,q1,q2,hv.scalar hr,fun _ _=>rfl⟩
def accRes (q k:Nat):SV→SV
 | .acc j=>if j=q then .acc k else .undef
 | .tuple [.acc j,x]=>if j=q then (if x.closed then .tuple [.acc k,x] else .undef) else .undef
 | _=>.undef
theorem accRes_rep {β β1:Names} {q k:Nat} {i:BI} {r:SV} {v:Value} (h:RepV S w β1 r v)(hi:β1 q=i):RepV S w (upd β k i) (accRes q k r) v:=by
 have hacc:∀ u,RepV S w β1 (.acc q) u→RepV S w (upd β k i) (.acc k) u:=fun u hu=>by
  cases hu
  rw [hi]
  have:=RepV.acc (S:=S) (w:=w) (β:=upd β k i) k
  rw [upd_same] at this
  exact this
 unfold accRes
 split
 ·split
  ·subst_vars;exact hacc _ h
  ·exact .undef _
 ·split
  ·split
   ·rename_i hx
    subst_vars
    cases h with
    | tuple _ vs h1 h2 =>
     refine .tuple _ vs h1 fun n c v hc hv=>?_
     match n,hc with
     | 0,hc=>simp only [List.getElem?_cons_zero,Option.some.injEq] at hc;subst hc;exact hacc _ (h2 0 _ v rfl hv)
     | 1,hc=>simp only [List.getElem?_cons_succ,List.getElem?_cons_zero,Option.some.injEq] at hc;subst hc;exact (h2 1 _ v rfl hv).closed hx
     | n+2,hc=>simp at hc
   ·exact .undef _
  ·exact .undef _
 ·exact .undef _
theorem opT_callAcc {f:FuncId} {args:Array Operand} {tys:Array TypeId} {k:Nat} (hkf:k≤999999)(ho:o.op=.call { callee:=.value fo,args:=args,argTypes:=tys }) {caps args':List SV} {q sz:Nat} {rows:List (List D)} {r:SV}
  (hf:ρ fo=.clo f caps) (hargs:coerceL [] (args.toList.map ρ++caps)=some args') (hc:CallB P f args' [] r [(q,.rows sz rows)]) :
  OpT P o ρ bx (accRes q k r) ((k,.rows sz rows)::bpurge k (berase k bx)) [k]:=by
 intro C S w β a hi ha
 have hf1:=(ha fo (mC ho));rw [hf] at hf1
 generalize hfv:a.eval fo=v at hf1
 cases hf1 with
 | clo _ _ cs h1 h2 =>
  have hall:RepL S w β (args.toList.map ρ++caps) (args.toList.map a.eval++cs):=(RepL.evals _ fun x hx=>ha x (mo ho (by simp [Op.operands,Call.operands];simp at hx;exact .inr hx))).append ⟨h1,h2⟩
  have hin:Inv ⟨w,S,fun _=>False,fun _ _=>False,C.G⟩ S w β []:=hi.begin hi.Slt (fun _ h=>h)
  obtain⟨g1,g2⟩:=coerceL_rep hin (SExt.refl S w) (by simp) hargs hall
  have hcall:=hc.2 ⟨w,S,fun _=>False,fun _ _=>False,C.G⟩ β _ hin g1
  refine Or.inl ?_
  unfold Oper.wp
  rw [run_enter hc.1 ho hfv,Oper.upon_enter]
  have hargsEq:args.map a.eval++(⟨cs⟩:Array Value)=⟨args.toList.map a.eval++cs⟩:=by apply Array.ext';simp
  rw [hargsEq]
  refine hcall.mono ?_
  rintro e w' ⟨v,S',β',rfl,hk,hv⟩
  have hSn:∀ b,S' b→S b∨w.heap.size≤b:=fun b hb=>by
   rcases hk.Snew b hb with h | h | h
   ·exact .inl h
   ·exact h.elim
   ·exact .inr h
  obtain⟨p1,p2⟩:=hi.setNewG (k:=k) (w':=w') (S':=S') (c:=.rows sz rows) (β' q) hkf (fun b hb=>hk.S0sub b hb) hSn hk.Slt (by
    intro b hb
    obtain⟨g1,g2,g3⟩:=hk.priv q (.rows sz rows) (by simp) b hb
    exact⟨g1,g2,.inl (g3.resolve_left (by simp))⟩)
   (fun b hb _=>hk.kept b hb (by simp)) hk.os hk.tape hk.output hk.size (fun _=>BoxOK.ext (c:=.rows sz rows) (hk.box q (.rows sz rows) (by simp)) (SExt.refl _ _) (fun _ _=>rfl) (by simp [BoxC.has]))
  exact⟨v,_,_,rfl,p1,p2,accRes_rep hv rfl,fun j hj=>upd_ne (by simpa using hj)⟩
end Go.Abs
namespace Go.Abs
open Go
variable {P:Program}
def opnd (sl:SL):Operand→SV
 | .tmp t=>sget sl t
 | .const v=>constSV v
 | .func f=>.clo f []
 | .global _=>.undef
def sput (sl:SL)(dst:Option Nat)(r:SV):SL :=
 match dst with
 | some t=>(t,r)::sl
 | none=>sl
def purgeSl:List Nat→SL→SL
 | [],sl=>sl
 | k::ks,sl=>purgeSl ks (purge1 k sl)
def notDefer (o:Oper):Bool:=match o.op with | .defer _=>false | _=>true
variable {o:Oper}
theorem notDefer_spec (h:notDefer o=true):∀ c,o.op≠.defer c:=by
 intro c hc;simp [notDefer,hc] at h
def dstOK (n:Nat)(dst:Option Nat):Prop :=
 match dst with
 | some t=>t < n
 | none=>True
def Marks (C:Ctx)(S:Nat→Prop)(w:World)(ds:List Deferred):Prop :=
 ∃ Ds:List Nat,ds=Ds.map (fun D=>({ target:=.collected D,args:=#[] }:Deferred))∧Ds.Nodup∧∀ D,D∈Ds→S D∧C.w0.heap.size≤D∧w.heap[D]? = some (.deferred (some []))
variable {C:Ctx} {S:Nat→Prop} {w:World}
theorem Marks.nil :Marks C S w []:=⟨[],rfl,by simp,by simp⟩
theorem Marks.ext {S S':Nat→Prop} {w w':World} {ds:List Deferred} (h:Marks C S w ds)(e:SExt S w S' w'):Marks C S' w' ds:=by
 obtain⟨Ds,h1,h2,h3⟩:=h
 exact⟨Ds,h1,h2,fun D hD=>⟨e.sub D (h3 D hD).1,(h3 D hD).2.1,(e.same D (h3 D hD).1).trans (h3 D hD).2.2⟩⟩
variable {a:Act}
theorem Marks.put {S S':Nat→Prop} {w w':World} {dst:Option Tmp} {v:Value} (h:Marks C S w a.defers)(e:SExt S w S' w'):Marks C S' w' (a.put dst v).defers:=by
 have:(a.put dst v).defers=a.defers:=by cases dst <;> rfl
 rw [this];exact h.ext e
structure St (C:Ctx)(n:Nat)(S:Nat→Prop)(w:World) (β:Names)(a:Act)(sl:SL)(bx:Boxes):Prop where
 inv:Inv C S w β bx
 size:a.tmps.size=n
 defers:Marks C S w a.defers
 slot:∀ t,RepV S w β (sget sl t) (a.tmps.getD t undef)
variable {β:Names}
theorem St.opnd {n:Nat} {sl:SL} {bx:Boxes} (h:St C n S w β a sl bx)(x:Operand):RepV S w β (opnd sl x) (a.eval x):=by
 cases x with
 | tmp t=>exact h.slot t
 | const v=>exact repV_const S w β v
 | global g=>exact .undef _
 | func f=>exact .clo f [] [] rfl (by simp)
theorem getD_put {t u:Nat} {v:Value} (h:t < a.tmps.size):(a.put (some t) v).tmps.getD u undef=if t=u then v else a.tmps.getD u undef:=by
 simp only [Act.put,Array.getD_eq_getD_getElem?,Array.getElem?_setIfInBounds]
 split
 ·subst_vars;simp [h]
 ·rfl
theorem St.put {n:Nat} {S S':Nat→Prop} {w w':World} {β β':Names} {sl:SL} {bx bx':Boxes} {dst:Option Nat} {v:Value} {r:SV} {pg:List Nat} (h:St C n S w β a sl bx)(hd:dstOK n dst)
  (hi:Inv C S' w' β' bx') (he:SExt S w S' w') (hr:RepV S' w' β' r v) (hb:∀ k,k ∉ pg→β' k = β k):St C n S' w' β' (a.put dst v) (sput (purgeSl pg sl) dst r) bx':=by
 have hpg:∀ (ks:List Nat) (sl:SL) (t:Nat) (u:Value),RepV S w β (sget sl t) u→(∀ k,(sget (purgeSl ks sl) t).has k=true→k ∉ ks∧(sget sl t).has k=true)∧RepV S w β (sget (purgeSl ks sl) t) u:=by
  intro ks
  induction ks with
  | nil=>intro sl t u hu;exact⟨fun k hk=>⟨by simp,hk⟩,hu⟩
  | cons k ks ih =>
   intro sl t u hu
   have hp:RepV S w β (sget (purge1 k sl) t) u:=by
    rw [sget_purge1];unfold spurge
    split
    ·exact .undef _
    ·exact hu
   obtain⟨h1,h2⟩:=ih (purge1 k sl) t u hp
   refine⟨fun j hj=>?_,h2⟩
   obtain⟨g1,g2⟩:=h1 j hj
   rw [sget_purge1] at g2
   unfold spurge at g2
   split at g2
   ·simp [SV.has] at g2
   ·rename_i hk
    refine⟨?_,g2⟩
    simp only [List.mem_cons,not_or]
    refine⟨?_,g1⟩
    intro he;subst he;exact hk g2
 have hold:∀ t,RepV S' w' β' (sget (purgeSl pg sl) t) (a.tmps.getD t undef):=by
  intro t
  obtain⟨h1,h2⟩:=hpg pg sl t _ (h.slot t)
  exact h2.ext he fun k hk=>hb k (h1 k hk).1
 cases dst with
 | none=>exact⟨hi,h.size,h.defers.ext he,hold⟩
 | some d =>
  refine⟨hi,by simp [Act.put,h.size],h.defers.put he,?_⟩
  intro t
  rw [getD_put (by rw [h.size];exact hd)]
  simp only [sput,sget]
  split
  ·exact hr
  ·exact hold t
def FW (ro:Option Nat):Fence:={ Fence.wide with round:=ro }
def AWp (ro:Option Nat)(P:Program)(n:Nat)(c:Code)(Q:Exit→SL→Boxes→Prop)(sl:SL)(bx:Boxes):Prop :=
 ∀ (C:Ctx) (S:Nat→Prop) (w:World) (β:Names) (a:Act),St C n S w β a sl bx →
  c.wpIn (FW ro) 0 P (fun e a' w'=>∃ sl' bx' S' β',Q e sl' bx'∧St C n S' w' β' a' sl' bx') a w
variable {ro:Option Nat} {n:Nat} {Q:Exit→SL→Boxes→Prop} {sl:SL} {bx:Boxes}
variable {c:Code}
theorem AWp.mono {Q':Exit→SL→Boxes→Prop} (h:AWp ro P n c Q sl bx)(hq:∀ e sl bx,Q e sl bx→Q' e sl bx):AWp ro P n c Q' sl bx :=
 fun C S w β a hs=>wpIn_mono (h C S w β a hs) fun _ _ _ ⟨sl',bx',S',β',q,r⟩=>⟨sl',bx',S',β',hq _ _ _ q,r⟩
theorem AWp.skip (h:Q .normal sl bx):AWp ro P n .skip Q sl bx:=fun _ S _ β _ hs=>wpIn_skip ⟨sl,bx,S,β,h,hs⟩
theorem AWp.ret (h:Q .ret sl bx):AWp ro P n .ret Q sl bx:=fun _ S _ β _ hs=>wpIn_ret ⟨sl,bx,S,β,h,hs⟩
theorem AWp.exit {id:Nat} (h:Q (.exit id) sl bx):AWp ro P n (.exit id) Q sl bx:=fun _ S _ β _ hs=>wpIn_exit ⟨sl,bx,S,β,h,hs⟩
def thenA (K:SL→Boxes→Prop)(Q:Exit→SL→Boxes→Prop):Exit→SL→Boxes→Prop
 | .normal,sl,bx=>K sl bx
 | e,sl,bx=>Q e sl bx
def blockA (id:Nat)(Q:Exit→SL→Boxes→Prop):Exit→SL→Boxes→Prop
 | .exit id',sl,bx=>if id'=id then Q .normal sl bx else Q (.exit id') sl bx
 | e,sl,bx=>Q e sl bx
theorem AWp.seq {x y:Code} (h:AWp ro P n x (thenA (AWp ro P n y Q) Q) sl bx):AWp ro P n (.seq x y) Q sl bx:=by
 intro C S w β a hs
 refine wpIn_seq (wpIn_mono (h C S w β a hs) ?_)
 rintro e a' w' ⟨sl',bx',S',β',q,r⟩
 cases e with
 | normal=>exact q C S' w' β' a' r
 | _=>exact⟨sl',bx',S',β',q,r⟩
theorem AWp.block {id:Nat} (h:AWp ro P n c (blockA id Q) sl bx):AWp ro P n (.block id c) Q sl bx:=by
 intro C S w β a hs
 refine wpIn_block (wpIn_mono (h C S w β a hs) ?_)
 rintro e a' w' ⟨sl',bx',S',β',q,r⟩
 cases e with
 | exit id' =>
  simp only [blockA] at q
  simp only [Exit.inBlock]
  split
  ·rw [if_pos (by assumption)] at q;exact⟨sl',bx',S',β',q,r⟩
  ·rw [if_neg (by assumption)] at q;exact⟨sl',bx',S',β',q,r⟩
 | _=>exact⟨sl',bx',S',β',q,r⟩
theorem AWp.cond {c:Operand} {x y:Code} {t:Bool} (hc:opnd sl c=.d (.bool t))(h1:t=true→AWp ro P n x Q sl bx)(h2:t=false→AWp ro P n y Q sl bx):AWp ro P n (.cond c x y) Q sl bx:=by
 intro C S w β a hs
 have hv:=hs.opnd c
 rw [hc] at hv
 exact wpIn_cond_split hv.inv_bool (fun h=>h1 h C S w β a hs) (fun h=>h2 h C S w β a hs)
def vle (x y:SV):Prop:=y=.undef∨x=y∨(y=.d (.slice [])∧(x=.d .nil∨x=.d .emp))
def sle (sl:SL):SL→Prop
 | []=>True
 | (t,y)::r=>vle (sget sl t) y∧sle sl r
theorem vle_rep {x y:SV} {v:Value} (h:vle x y)(hr:RepV S w β x v):RepV S w β y v:=by
 rcases h with rfl | rfl | ⟨rfl,rfl | rfl⟩
 ·exact .undef _
 ·exact hr
 ·exact .d _ _ hr.inv_d.of_nil
 ·exact .d _ _ hr.inv_d.of_emp
theorem sle_rep :∀ {sl':SL},sle sl sl'→∀ {t:Nat} {v:Value},RepV S w β (sget sl t) v→RepV S w β (sget sl' t) v
 | [],_,t,v,_=>.undef _
 | (u,y)::r,h,t,v,hr=>by
  simp only [sget]
  split
  ·subst_vars;exact vle_rep h.1 hr
  ·exact sle_rep h.2 hr
def ble (bx:Boxes):Boxes→Prop
 | []=>True
 | (k,c)::r=>bget bx k=some c∧ble bx r
theorem ble_mem:∀ {bx':Boxes},ble bx bx'→∀ k c,(k,c)∈bx'→(k,c)∈bx
 | [],_,k,c,h=>by simp at h
 | (j,x)::r,h,k,c,hm=>by
  simp only [List.mem_cons,Prod.mk.injEq] at hm
  rcases hm with ⟨rfl,rfl⟩ | hm
  ·exact mem_of_bget h.1
  ·exact ble_mem h.2 k c hm
theorem St.weaken {sl':SL} {bx':Boxes} (h:St C n S w β a sl bx)(h1:sle sl sl')(h2:ble bx bx'):St C n S w β a sl' bx' :=
 ⟨h.inv.sub (ble_mem h2),h.size,h.defers,fun t=>sle_rep h1 (h.slot t)⟩
theorem AWp.weaken {sl':SL} {bx':Boxes} (h1:sle sl sl')(h2:ble bx bx')(h:AWp ro P n c Q sl' bx'):AWp ro P n c Q sl bx :=
 fun C S w β a hs=>h C S w β a (hs.weaken h1 h2)
theorem AWp.loop {X:Type} (mk:X→SL)(mb:X→Boxes)(I:X→Prop) (μ:X→Nat) {c:Code} (x0:X)(h0:I x0)(h1:sle sl (mk x0))(h2:ble bx (mb x0))
  (h:∀ x,I x→AWp ro P n c (thenA (fun sl' bx'=>∃ x',I x'∧μ x' < μ x∧sle sl' (mk x')∧ble bx' (mb x')) Q) (mk x) (mb x)):AWp ro P n (.loop c) Q sl bx:=by
 intro C S w β a hs
 refine wpIn_loop_ghost (fun m a w=>∃ x S β,I x∧μ x=m∧St C n S w β a (mk x) (mb x)) (μ x0) ⟨x0,S,β,h0,rfl,hs.weaken h1 h2⟩ ?_
 rintro m a w ⟨x,S,β,hx,rfl,hs⟩
 refine wpIn_mono (h x hx C S w β a hs) ?_
 rintro e a' w' ⟨sl',bx',S',β',q,r⟩
 cases e with
 | normal =>
  obtain⟨x',h1,h2,h3,h4⟩:=q
  exact⟨μ x',h2,x',S',β',h1,rfl,r.weaken h3 h4⟩
 | _=>exact⟨sl',bx',S',β',q,r⟩
theorem AWp.bd (t:Nat) {d:D} (hd:sget sl t=.d d)(h:d.Bd→AWp ro P n c Q sl bx):AWp ro P n c Q sl bx:=by
 intro C S w β a hs
 have hr:=hs.slot t
 rw [hd] at hr
 exact h hr.inv_d.bd C S w β a hs
def gslot (ops:Array Oper)(j:Nat):Option Nat:=(ops[j]?).bind (·.dst)
def guardV (ops:Array Oper)(sl:SL)(o:Oper):Option Bool :=
 match o.guard with
 | none=>some true
 | some (j,want)=>match gslot ops j with
  | some t=>match sget sl t with
   | .d (.bool b)=>some (b == want)
   | .tuple []=>some false
   | _=>none
  | none=>none
variable {ops:Array Oper}
theorem guard_rep {b:Bool} (hs:∀ t,(∃ j want,o.guard=some (j,want)∧gslot ops j=some t)→RepV S w β (sget sl t) (a.tmps.getD t undef)∧t < a.tmps.size)
  (h:guardV ops sl o=some b):Region.wanted o (yielded ops a.tmps)=b:=by
 unfold guardV at h
 unfold Region.wanted
 cases hg:o.guard with
 | none=>simp [hg] at h;simp [h]
 | some jw =>
  obtain⟨j,want⟩:=jw
  simp only [hg] at h ⊢
  cases hj:gslot ops j with
  | none=>simp [hj] at h
  | some t =>
   simp only [hj] at h
   obtain⟨h1,h2⟩:=hs t ⟨j,want,hg,hj⟩
   have hy:yielded ops a.tmps j=match a.tmps.getD t undef with | .bool b=>some b | _=>none:=by
    unfold yielded
    rw [show (ops[j]?).bind (·.dst)=some t from hj]
    have h2':t < a.tmps.size:=h2
    simp only [Option.bind_some,Array.getElem?_eq_getElem h2',Array.getD_eq_getD_getElem?,Option.getD_some]
    split <;> split <;> simp_all
   rw [hy]
   generalize a.tmps.getD t undef=v at h1
   split at h
   ·rename_i x hx
    rw [hx] at h1
    rw [h1.inv_bool]
    simp only [Option.some.injEq] at h
    rw [← h]
    cases x <;> cases want <;> rfl
   ·rename_i hx
    rw [hx] at h1
    have:v=.tuple ⟨[]⟩:=by cases h1 with | tuple _ vs hl _=>cases vs with | nil=>rfl | cons=>simp at hl
    subst this
    simp only [Option.some.injEq] at h
    subst h;rfl
   ·simp at h
def Run (P:Program)(n:Nat)(ops:Array Oper):List Oper→SL→Boxes→(SL→Boxes→Prop)→Prop
 | [],sl,bx,K=>K sl bx
 | o::os,sl,bx,K=>∃ g,guardV ops sl o=some g∧dstOK n o.dst ∧
   (g=true→∃ r bx' pg,OpT P o (opnd sl) bx r bx' pg∧Run P n ops os (sput (purgeSl pg sl) o.dst r) bx' K) ∧
   (g=false→Run P n ops os (sput sl o.dst (.tuple [])) bx K)
theorem dst_lt_of_gslot (hd:∀ o,o∈ops.toList→dstOK n o.dst) {j t:Nat} (h:gslot ops j=some t):t < n:=by
 unfold gslot at h
 cases ho:ops[j]? with
 | none=>simp [ho] at h
 | some o =>
  simp only [ho,Option.bind_some] at h
  have:=hd o (by have:=Array.mem_of_getElem? ho;simpa using this)
  rw [h] at this;exact this
theorem Oper.wp_monoQ {K K':Act→World→Prop} {Q':Exit→Act→World→Prop} (hh:o.wp P a w K (fun _ _ _=>False))(h:∀ a w,K a w→K' a w):o.wp P a w K' Q':=by
 unfold Oper.wp at *
 generalize (execOp a.eval o).run P w=r at *
 cases r with
 | ok n w' =>
  cases n <;> simp only [Oper.upon] at hh ⊢ <;>
   first
    | exact h _ _ hh
    | exact Calls.mono hh (fun e w'' he=>by cases e <;> first | exact h _ _ he | exact he.elim | (obtain⟨_,_,hf⟩:=he;exact hf.elim))
    | exact Rows.mono hh (fun _ _ he=>h _ _ he)
 | halt x w'=>cases x <;> simp only [Oper.upon] at hh ⊢
theorem Oper.wpx_mono {K K':Act→World→Prop} (hh:o.wpx P a w K)(h:∀ a w,K a w→K' a w):o.wpx P a w K':=by
 rcases hh with hh | ⟨l,f,tmps,assign,body,w',hr,hh⟩
 ·exact .inl (Oper.wp_monoQ hh h)
 ·refine .inr ⟨l,f,tmps,assign,body,w',hr,hh.mono ?_⟩
  intro e w'' he
  cases e with
  | returned v=>exact h _ _ he
  | _=>exact he.elim
theorem callsIn_FW {ro:Option Nat} {m:Nat} {f:FuncId} {args:Array Value} {R:Ending→World→Prop} (h:Calls P f args w R):CallsIn (FW ro) m P f args w R :=
 (callsIn_wide (n:=m)).2 h
theorem rowsIn_FW {ro:Option Nat} {m:Nat} {row:String} {args:Array Value} {R:Value→World→Prop} (h:Rows P row args w R):RowsIn (FW ro) m P row args w R:=by
 intro c cs _
 obtain⟨v,w',r,s⟩:=h c cs
 exact⟨v,w',r,(stepsIn_wide (P:=P)).2 s⟩
theorem Oper.wpIn_ofQ {ro:Option Nat} {K K':Act→World→Prop} {Q':Exit→Act→World→Prop} (hnd:notDefer o=true)(hh:o.wpx P a w K)(h:∀ a w,K a w→K' a w):o.wpIn (FW ro) 0 P a w K' Q':=by
 refine⟨fun _ _=>trivial,?_⟩
 rw [Oper.semAt_eq _ _ _ (notDefer_spec hnd)]
 rcases hh with hh | ⟨l,f,tmps,assign,body,w',hr,hh⟩
 ·unfold Oper.wp at hh
  generalize (execOp a.eval o).run P w=r at *
  cases r with
  | ok n w' =>
   cases n <;> simp only [Oper.upon] at hh ⊢ <;> simp only [Oper.uponIn] <;>
    first
     | exact h _ _ hh
     | exact⟨fun hx=>by simp [FW,Fence.wide] at hx,callsIn_FW (Calls.mono hh (fun e w'' he=>by cases e <;> first | exact h _ _ he | exact he.elim | (obtain⟨_,_,hf⟩:=he;exact hf.elim)))⟩
     | exact⟨fun hx=>by simp [FW,Fence.wide] at hx,rowsIn_FW (Rows.mono hh (fun _ _ he=>h _ _ he))⟩
  | halt x w'=>cases x <;> simp only [Oper.upon] at hh
 ·rw [hr]
  simp only [Oper.uponIn]
  refine⟨fun hx=>by simp [FW,Fence.wide] at hx,RoundIn.mono (F:=FW ro) hh ?_⟩
  intro e w'' he
  cases e with
  | returned v=>exact h _ _ he
  | _=>exact he.elim
theorem run_ops {QQ:Exit→Act→World→Prop} (hd:∀ o,o∈ops.toList→dstOK n o.dst)(hnd:∀ o,o∈ops.toList→notDefer o=true) {K:SL→Boxes→Prop}
  (hK:∀ sl bx S w β a,K sl bx→St C n S w β a sl bx→QQ .normal a w):∀ (k i:Nat) (sl:SL) (bx:Boxes) (S:Nat→Prop) (w:World) (β:Names) (a:Act),i+k=ops.size→Run P n ops (ops.toList.drop i) sl bx K →
  St C n S w β a sl bx→wpOpsIn (FW ro) 0 P ops QQ (List.range' i k) a w
 | 0,i,sl,bx,S,w,β,a,hik,hr,hs=>by
  have:ops.toList.drop i=[]:=List.drop_eq_nil_of_le (by simp;omega)
  rw [this] at hr
  exact hK sl bx S w β a hr hs
 | k+1,i,sl,bx,S,w,β,a,hik,hr,hs=>by
  have hi:i < ops.size:=by omega
  have dp:ops.toList.drop i=ops[i]::ops.toList.drop (i+1):=by
   rw [List.drop_eq_getElem_cons (by simpa using hi)];simp
  rw [dp] at hr
  obtain⟨g,hg,hdo,h1,h2⟩:=hr
  simp only [List.range'_succ,wpOpsIn,Array.getElem?_eq_getElem hi]
  have hw:=guard_rep (a:=a) (S:=S) (w:=w) (β:=β) (fun t ht=>by
   obtain⟨j,want,_,hj⟩:=ht
   exact⟨hs.slot t,by rw [hs.size];exact dst_lt_of_gslot hd hj⟩) hg
  rw [hw]
  cases g with
  | true =>
   simp only [if_true]
   obtain⟨r,bx',pg,hop,hrun⟩:=h1 rfl
   refine Oper.wpIn_ofQ (hnd _ (by simp)) (hop C S w β a hs.inv fun x _=>hs.opnd x) ?_
   rintro a' w' ⟨v,S',β',rfl,hi',he,hv,hb⟩
   exact run_ops hd hnd hK k (i+1) _ bx' S' w' β' _ (by omega) hrun (hs.put hdo hi' he hv hb)
  | false =>
   simp only [Bool.false_eq_true,if_false]
   refine⟨fun _ _=>trivial,?_⟩
   exact run_ops hd hnd hK k (i+1) _ bx S w β _ (by omega) (h2 rfl) (hs.put (pg:=[]) hdo hs.inv (SExt.refl S w) (.tuple [] [] rfl (by simp)) (fun _ _=>rfl))
end Go.Abs
namespace Go.Abs
open Go
variable {ro:Option Nat} {P:Program} {n:Nat} {Q:Exit→SL→Boxes→Prop} {sl:SL} {bx:Boxes}
def dstsOK (n:Nat)(ops:List Oper):Bool:=ops.all fun o=>(match o.dst with | some t=>decide (t < n) | none=>true) && notDefer o
theorem dstsOK_spec {ops:List Oper} (h:dstsOK n ops=true):∀ o,o∈ops→dstOK n o.dst:=by
 intro o ho
 have:=List.all_eq_true.1 h o ho
 simp only [Bool.and_eq_true] at this
 unfold dstOK
 cases hd:o.dst <;> simp_all
theorem dstsOK_nd {ops:List Oper} (h:dstsOK n ops=true):∀ o,o∈ops→notDefer o=true:=by
 intro o ho
 have:=List.all_eq_true.1 h o ho
 simp only [Bool.and_eq_true] at this
 exact this.2
def keepSl (ks:List Nat)(sl:SL):SL :=
 match ks with
 | []=>[]
 | k::r=>(k,sget sl k)::keepSl r sl
def keepBx (ks:List Nat)(bx:Boxes):Boxes :=
 match ks with
 | []=>[]
 | k::r=>match bget bx k with
  | some c=>(k,c)::keepBx r bx
  | none=>keepBx r bx
theorem sget_keepSl (sl:SL):∀ (ks:List Nat)(t:Nat),sget (keepSl ks sl) t=sget sl t∨sget (keepSl ks sl) t=.undef
 | [],t=>.inr rfl
 | k::r,t=>by
  simp only [keepSl,sget]
  split
  ·subst_vars;exact .inl rfl
  ·exact sget_keepSl sl r t
theorem mem_keepBx {k:Nat} {c:BoxC} :∀ {ks:List Nat},(k,c)∈keepBx ks bx→(k,c)∈bx
 | [],h=>by simp [keepBx] at h
 | j::r,h=>by
  simp only [keepBx] at h
  split at h
  ·rename_i x hx
   simp only [List.mem_cons,Prod.mk.injEq] at h
   rcases h with ⟨rfl,rfl⟩ | h
   ·exact mem_of_bget hx
   ·exact mem_keepBx h
  ·exact mem_keepBx h
theorem St.keep {C:Ctx} {S:Nat→Prop} {w:World} {β:Names} {a:Act} (h:St C n S w β a sl bx)(ks kb:List Nat):St C n S w β a (keepSl ks sl) (keepBx kb bx) :=
 ⟨h.inv.sub fun _ _ hk=>mem_keepBx hk,h.size,h.defers,fun t=>by
  rcases sget_keepSl sl ks t with e | e <;> rw [e]
  ·exact h.slot t
  ·exact .undef _⟩
variable {ops:Array Oper}
theorem AWp.region {id:Nat} (ks kb:List Nat)(hd:dstsOK n ops.toList=true)(h:Run P n ops ops.toList sl bx fun sl' bx'=>Q .normal (keepSl ks sl') (keepBx kb bx')):AWp ro P n (.region id ops false) Q sl bx:=by
 intro C S w β a hs
 refine wpIn_region ?_
 rw [List.range_eq_range']
 exact run_ops (dstsOK_spec hd) (dstsOK_nd hd) (fun sl' bx' S' w' β' a' hK hs'=>⟨_,_,S',β',hK,hs'.keep ks kb⟩) ops.size 0 sl bx S w β a (by simp) (by simpa using h) hs
def usesOf (ops:Array Oper)(o:Oper):List Nat:=o.looksAt ops
def left (size:Nat)(listed:Array Bool):Nat:=(List.range size).countP fun i=>!(listed.getD i false)
theorem left_set {size i:Nat} {listed:Array Bool} (hs:listed.size=size)(hi:i < size)(h:listed.getD i false=false):left size (listed.setIfInBounds i true) < left size listed:=by
 unfold left
 have hlt:i < listed.size:=by omega
 have h1:∀ j,(!(listed.setIfInBounds i true).getD j false)=(!(decide (j=i)) && !(listed.getD j false)):=by
  intro j
  by_cases hj:i=j
  ·subst hj;simp [hlt]
  ·rw [getD_set_ne false hj];simp [Ne.symm hj]
 simp only [h1]
 have:∀ l:List Nat,i∈l→(l.countP fun j=>!(decide (j=i)) && !(listed.getD j false)) < l.countP fun j=>!(listed.getD j false):=by
  intro l
  induction l with
  | nil=>simp
  | cons a l ih =>
   intro hmem
   have hle:(l.countP fun j=>!(decide (j=i)) && !(listed.getD j false))≤l.countP fun j=>!(listed.getD j false):=List.countP_mono_left (by intro x _ hx;simp at hx;simp [hx.2])
   simp only [List.countP_cons]
   by_cases ha:a=i
   ·subst ha
    simp only [decide_true,Bool.not_true,Bool.false_and,Bool.false_eq_true,if_false,h,Bool.not_false,if_true]
    omega
   ·have hmem':i∈l:=by simpa [Ne.symm ha] using hmem
    have:=ih hmem'
    simp only [ha,decide_false,Bool.not_false,Bool.true_and]
    omega
 exact this _ (List.mem_range.2 hi)
variable {o:Oper}
theorem guardV_congr {s s':SL} (h:∀ j want t,o.guard=some (j,want)→gslot ops j=some t→sget s t=sget s' t):guardV ops s o=guardV ops s' o:=by
 unfold guardV
 cases hg:o.guard with
 | none=>rfl
 | some jw =>
  obtain⟨j,want⟩:=jw
  simp only
  cases hj:gslot ops j with
  | none=>rfl
  | some t=>simp only [h j want t hg hj]
theorem mem_looksAt_guard {j t:Nat} {want:Bool} (hg:o.guard=some (j,want))(hj:gslot ops j=some t):t∈o.looksAt ops:=by
 unfold Oper.looksAt
 simp only [List.mem_append]
 right
 unfold gslot at hj
 rw [hg];simp [hj]
theorem mem_looksAt_op {t:Nat} (h:Operand.tmp t∈o.op.operands):t∈o.looksAt ops:=by
 unfold Oper.looksAt
 simp only [List.mem_append,List.mem_filterMap]
 left
 exact⟨.tmp t,by simpa using h,rfl⟩
end Go.Abs
