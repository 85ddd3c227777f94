/- Contracts out of bodies, maps, closures, parts of slices. Own framework. -/
import Derived.DeepKeys3
import Derived.MapKept
import Derived.WideKeyRuns
import Derived.Laws.MakeOwn
import Derived.Below
import Derived.RangeFuncRecord
import Derived.Test.YtaneedhchnaniaaGreatDoorQAb2
set_option linter.unusedVariables false
set_option linter.unusedSimpArgs false
namespace Go.Abs
open Go
variable {ro:Option Nat} {P:Program} {n:Nat} {Q:Exit→SL→Boxes→Prop} {sl:SL} {bx:Boxes}
def loadSV (P:Program)(bx:Boxes)(T:TypeId)(x:SV):Option SV :=
 match x with
 | .box k off=>match bget bx k with
  | some (.cells cs)=>match tagg P T with
   | some false=>cs[off]?
   | some true=>match tsize P T with
    | some m=>if off+m≤cs.length∧(part cs off m).all SV.one=true then some (.agg (part cs off m)) else none
    | none=>none
   | none=>none
  | _=>none
 | .dptr cells off=>match tagg P T with
  | some false=>(cells[off]?).map SV.d
  | some true=>match tsize P T with
   | some m=>if off+m≤cells.length then some (.agg ((partD cells off m).map SV.d)) else none
   | none=>none
  | none=>none
 | .d (.ptr cells)=>match tagg P T with
  | some false=>(cells[0]?).map SV.d
  | some true=>match tsize P T with
   | some m=>if 0+m≤cells.length then some (.agg ((partD cells 0 m).map SV.d)) else none
   | none=>none
  | none=>none
 | .aptr k i off=>match bget bx k with
  | some (.rows sz rows)=>match rows[i]? with
   | some row=>match tagg P T with
    | some false=>(row[off]?).map SV.d
    | some true=>match tsize P T with
     | some m=>if off+m≤row.length∧row.length=sz then some (.agg ((partD row off m).map SV.d)) else none
     | none=>none
    | none=>none
   | none=>none
  | _=>none
 | .vptr cells off=>match tagg P T with
  | some false=>cells[off]?
  | _=>none
 | _=>none
variable {S:Nat→Prop} {w:World} {β:Names}
theorem row_ptr {k i off sz:Nat} {rows:List (List D)} {row:List D} {v:Value} (hb:BoxOK S w β (β k) (.rows sz rows))(hr:rows[i]? = some row)(hv:RepV S w β (.aptr k i off) v) :
  ∃ b base,v=.pointer (some ⟨b,base+off,none⟩)∧(∀ d,d∈row→d.one=true)∧(∀ j,j < row.length→∃ v,w.cell? ⟨b,base+j,none⟩=some v)∧(∀ (j:Nat) (d:D) (v:Value),row[j]? = some d→w.cell? ⟨b,base+j,none⟩=some v→RepC S w d v):=by
 cases hv with
 | aptr _ _ _ b hbase =>
  obtain⟨g1,g2,g3,g4,g5,g6,g7⟩:=hb
  subst g1
  rw [hbase] at g7
  obtain⟨ty,vs,hh,hfit,hrep⟩:=g7
  have hmem:=List.mem_of_getElem? hr
  have hlt:=(List.getElem?_eq_some_iff.1 hr).1
  refine⟨b,((β k).off+i)*(β k).sz,rfl,g6 row hmem,?_,?_⟩
  ·intro j hj
   rw [g5 row hmem] at hj
   have h1:((β k).off+i+1)*(β k).sz≤((β k).off+(β k).cap)*(β k).sz:=Nat.mul_le_mul_right _ (by omega)
   rw [Nat.add_mul _ 1] at h1
   have:((β k).off+i)*(β k).sz+j < vs.length:=by omega
   exact⟨vs[((β k).off+i)*(β k).sz+j],by rw [cells_of_row hh];exact List.getElem?_eq_getElem this⟩
  ·intro j d u hd hu
   rw [cells_of_row hh] at hu
   exact hrep i j row d u hr hd hu
variable {C:Ctx}
theorem loadSV_run {T:TypeId} {x c:SV} {v:Value} (hi:Inv C S w β bx)(hv:RepV S w β x v)(h:loadSV P bx T x=some c) :
  ∃ a u,v=.pointer (some a)∧(loadVar T a).run P w=.ok u w∧RepV S w β c u:=by
 have conv:∀ {p:Addr} {u:Value},(Instr.loadAt T (.pointer (some p))).run P w=.ok u w→(loadVar T p).run P w=.ok u w:=by
  intro p u hu;simpa [Instr.loadAt,Instr.sureAddr] using hu
 have ptrCase:∀ {cells:List D} {off:Nat} {b base:Nat},v=.pointer (some ⟨b,base+off,none⟩)→(∀ d,d∈cells→d.one=true)→(∀ j,j < cells.length→∃ v,w.cell? ⟨b,base+j,none⟩=some v) →
   (∀ (j:Nat) (d:D) (v:Value),cells[j]? = some d→w.cell? ⟨b,base+j,none⟩=some v→RepC S w d v) →
   (match tagg P T with
    | some false=>(cells[off]?).map SV.d
    | some true=>match tsize P T with
     | some m=>if off+m≤cells.length then some (.agg ((partD cells off m).map SV.d)) else none
     | none=>none
    | none=>none)=some c→∃ a u,v=.pointer (some a)∧(loadVar T a).run P w=.ok u w∧RepV S w β c u:=by
  intro cells off b base hv h1 h2 h3 h
  cases hT:tagg P T with
  | none=>simp [hT] at h
  | some g =>
   cases g with
   | false =>
    simp only [hT,Option.map_eq_some_iff] at h
    obtain⟨d,hd,rfl⟩:=h
    obtain⟨u,hu⟩:=h2 off (List.getElem?_eq_some_iff.1 hd).1
    exact⟨_,u,hv,conv (run_loadAt_one hT hu),.d _ _ (h3 off d u hd hu)⟩
   | true =>
    simp only [hT] at h
    cases hs:tsize P T with
    | none=>simp [hs] at h
    | some m =>
     simp only [hs] at h
     split at h
     ·rename_i hl
      simp only [Option.some.injEq] at h;subst h
      obtain⟨vs,hvl,hvs⟩:=exists_cells (w:=w) (b:=b) (off:=base+off) (n:=m) (fun j hj=>by rw [Nat.add_assoc];exact h2 (off+j) (by omega))
      refine⟨_,.agg ⟨vs⟩,hv,conv (run_loadAt_agg hT hs hvl hvs),repV_agg_of (.agg _ vs (by simp [partD,hvl];omega) ?_ ?_)⟩
      ·intro d hd;exact h1 d (List.mem_of_mem_drop (List.mem_of_mem_take hd))
      ·intro j d u hd hu
       simp only [partD,List.getElem?_take,List.getElem?_drop] at hd
       split at hd
       ·exact h3 (off+j) d u hd (by rw [← Nat.add_assoc];exact hvs j u hu)
       ·simp at hd
     ·simp at h
 cases x with
 | box k off =>
  obtain⟨b,hbase,rfl⟩:=hv.inv_box
  simp only [loadSV] at h
  cases hb:bget bx k with
  | none=>simp [hb] at h
  | some bc =>
   cases bc with
   | cells cs =>
    simp only [hb] at h
    obtain⟨b',ty,vs,hb',hh,hr⟩:=hi.box k _ (mem_of_bget hb)
    rw [hbase] at hb';cases hb'
    cases hT:tagg P T with
    | none=>simp [hT] at h
    | some g =>
     cases g with
     | false =>
      simp only [hT] at h
      obtain⟨u,hu,hrep⟩:=hr.get h
      exact⟨_,u,rfl,conv (run_loadAt_one hT (by rw [cells_of_row hh];exact hu)),hrep⟩
     | true =>
      simp only [hT] at h
      cases hs:tsize P T with
      | none=>simp [hs] at h
      | some m =>
       simp only [hs] at h
       split at h
       ·rename_i hl
        simp only [Option.some.injEq] at h;subst h
        have:=hr.1
        refine⟨_,.agg ⟨(vs.drop off).take m⟩,rfl,conv (run_loadAt_agg hT hs (by simp;omega) ?_),RepV.agg_of (hr.part off m) hl.2⟩
        intro j u hu
        rw [cells_of_row hh]
        simp only [List.getElem?_take,List.getElem?_drop] at hu
        split at hu
        ·exact hu
        ·simp at hu
       ·simp at h
   | rows _ _=>simp [hb] at h
   | map _=>simp [hb] at h
   | iter _ _=>simp [hb] at h
   | ghost _ _=>simp [hb] at h
 | dptr cells off =>
  obtain⟨b,base,hp⟩:=hv.inv_dptr
  exact ptrCase hp.v hp.one hp.there hp.rep h
 | d y =>
  cases y <;> simp only [loadSV,reduceCtorEq] at h
  rename_i cells
  obtain⟨b,base,hp⟩:=hv.inv_ptr
  exact ptrCase hp.v hp.one hp.there hp.rep h
 | aptr k i off =>
  simp only [loadSV] at h
  cases hb:bget bx k with
  | none=>simp [hb] at h
  | some bc =>
   cases bc with
   | rows sz rows =>
    simp only [hb] at h
    cases hr:rows[i]? with
    | none=>simp [hr] at h
    | some row =>
     simp only [hr] at h
     obtain⟨b,base,h0,h1,h2,h3⟩:=row_ptr (hi.box k _ (mem_of_bget hb)) hr hv
     refine ptrCase h0 h1 h2 h3 ?_
     cases hT:tagg P T with
     | none=>simp [hT] at h
     | some g =>
      cases g with
      | false=>simpa [hT] using h
      | true =>
       simp only [hT] at h ⊢
       cases hs:tsize P T with
       | none=>simp [hs] at h
       | some m =>
        simp only [hs] at h ⊢
        split at h
        ·rename_i hl;rw [if_pos hl.1];exact h
        ·simp at h
   | cells _=>simp [hb] at h
   | map _=>simp [hb] at h
   | iter _ _=>simp [hb] at h
   | ghost _ _=>simp [hb] at h
 | undef=>simp [loadSV] at h
 | agg _=>simp [loadSV] at h
 | tuple _=>simp [loadSV] at h
 | acc _=>simp [loadSV] at h
 | mp _=>simp [loadSV] at h
 | yld _=>simp [loadSV] at h
 | vptr cells off =>
  simp only [loadSV] at h
  cases hv with
  | vptr _ _ b hb h1 h2 h3 =>
   cases hT:tagg P T with
   | none=>simp [hT] at h
   | some g =>
    cases g with
    | true=>simp [hT] at h
    | false =>
     simp only [hT] at h
     obtain⟨u,hu⟩:=h2 off (List.getElem?_eq_some_iff.1 h).1
     exact⟨_,u,rfl,conv (run_loadAt_one hT hu),h3 off c u h hu⟩
 | clo _ _=>simp [loadSV] at h
theorem opT_load {o:Oper} {ρ:Rho} {T:TypeId} {x:Operand} (ho:o.op=.load T x) {c:SV} (h:loadSV P bx T (ρ x)=some c):OpT P o ρ bx c bx [] :=
 .of_value fun _ _ w β a hi ha=>by
  obtain⟨p,u,hv,hr,hc⟩:=loadSV_run hi (ha x (mC ho)) h
  exact⟨u,by simp [execOp,ho,hv,Instr.loadAt,Instr.sureAddr,hr],hc⟩
def resOne (P:Program)(bx:Boxes)(sl:SL):ResultVar→Option SV
 | .tmp t=>some (sget sl t)
 | .cell t T=>loadSV P bx T (sget sl t)
def resL (P:Program)(bx:Boxes)(sl:SL):List ResultVar→Option (List SV)
 | []=>some []
 | r::rs=>match resOne P bx sl r with
  | some x=>match resL P bx sl rs with
   | some l=>some (x::l)
   | none=>none
  | none=>none
def wrapRes:List SV→SV
 | [x]=>x
 | xs=>.tuple xs
variable {a:Act}
theorem run_resL (hs:St C n S w β a sl bx)(g:ResultVar→Sem Value)(g1:∀ t,g (.tmp t)=pure (a.tmps.getD t undef))
  (g2:∀ x t,g (.cell x t)=do loadVar t (← asAddr (a.tmps.getD x undef))):∀ (rs:List ResultVar) (xs:List SV),resL P bx sl rs=some xs→∃ vs,(rs.mapM g).run P w=.ok vs w∧RepL S w β xs vs
 | [],xs,h=>by simp only [resL,Option.some.injEq] at h;subst h;exact⟨[],rfl,.nil⟩
 | r::rs,xs,h=>by
  simp only [resL] at h
  cases h1:resOne P bx sl r with
  | none=>simp [h1] at h
  | some x =>
   cases h2:resL P bx sl rs with
   | none=>simp [h1,h2] at h
   | some l =>
    simp only [h1,h2,Option.some.injEq] at h;subst h
    obtain⟨vs,q1,q2⟩:=run_resL hs g g1 g2 rs l h2
    cases r with
    | tmp t =>
     simp only [resOne,Option.some.injEq] at h1;subst h1
     refine⟨_::vs,?_,.cons (hs.slot t) q2⟩
     simp only [List.mapM_cons,Sem.run_bind,g1,Sem.run_pure,Result.andThen_ok,q1]
    | cell t T =>
     simp only [resOne] at h1
     obtain⟨p,u,hv,hr,hc⟩:=loadSV_run hs.inv (hs.slot t) h1
     refine⟨u::vs,?_,.cons hc q2⟩
     have hA:asAddr (.pointer (some p))=pure p:=rfl
     simp only [List.mapM_cons,Sem.run_bind,g2,hv,hA,Sem.run_pure,Result.andThen_ok,hr,q1]
theorem run_results {fn:Func} (hs:St C n S w β a sl bx) {xs:List SV} (h:resL P bx sl fn.results.toList=some xs) :
  ∃ v,(results fn a.tmps).run P w=.ok v w∧RepV S w β (wrapRes xs) v:=by
 have key:∀ (g:ResultVar→Sem Value),(∀ t,g (.tmp t)=pure (a.tmps.getD t undef))→(∀ x t,g (.cell x t)=do loadVar t (← asAddr (a.tmps.getD x undef))) →
   ∃ v,(do let vs ← fn.results.mapM g;pure (if h:vs.size=1 then vs[0] else .tuple vs):Sem Value).run P w=.ok v w∧RepV S w β (wrapRes xs) v:=by
  intro g g1 g2
  obtain⟨vs,h1,h2⟩:=run_resL hs g g1 g2 _ _ h
  have hm:(fn.results.mapM g).run P w=.ok ⟨vs⟩ w:=by
   rw [Array.mapM_eq_mapM_toList,Sem.run_map,h1];rfl
  have hl:=h2.1
  simp only [Sem.run_bind,hm,Result.andThen_ok,Sem.run_pure]
  match xs,vs,h2,hl with
  | [],[],h2,_=>exact⟨.tuple ⟨[]⟩,rfl,.tuple [] [] rfl (by simp)⟩
  | [x],[v],h2,_=>exact⟨v,rfl,h2.2 0 x v rfl rfl⟩
  | x::y::xs,v::u::vs,h2,_=>exact⟨.tuple ⟨v::u::vs⟩,by simp,.tuple _ _ h2.1 h2.2⟩
  | [],_::_,_,hl=>simp at hl
  | [_],[],_,hl=>simp at hl
  | [_],_::_::_,_,hl=>simp at hl
  | _::_::_,[],_,hl=>simp at hl
  | _::_::_,[_],_,hl=>simp at hl
 exact key _ (fun _=>rfl) (fun _ _=>rfl)
def argSl:Nat→List SV→SL
 | _,[]=>[]
 | i,x::xs=>(i,x)::argSl (i+1) xs
theorem sget_argSl:∀ (xs:List SV)(i t:Nat),sget (argSl i xs) t=if i≤t then (xs[t - i]?).getD .undef else .undef
 | [],i,t=>by simp [argSl,sget]
 | x::xs,i,t=>by
  simp only [argSl,sget]
  split
  ·subst_vars;simp
  ·rename_i hne
   rw [sget_argSl xs (i+1) t]
   by_cases h:i+1≤t
   ·rw [if_pos h,if_pos (by omega),show t - i=(t - (i+1))+1 by omega,List.getElem?_cons_succ]
   ·rw [if_neg h,if_neg (by omega)]
def retOK (P:Program)(fn:Func)(r:SV)(e:Exit)(sl:SL)(bx:Boxes):Prop :=
 match e with
 | .normal | .ret=>∃ xs,resL P bx sl fn.results.toList=some xs∧coerce bx (wrapRes xs)=some r
 | _=>False
theorem St.start {pre:Boxes} {args:List SV} {vs:List Value} {m:Nat} (hi:Inv C C.S0 C.w0 β pre)(hv:RepL C.S0 C.w0 β args vs)(hm:args.length≤m) :
  St C m C.S0 C.w0 β { tmps:=(⟨vs⟩:Array Value)++Array.replicate (m - (⟨vs⟩:Array Value).size) undef,defers:=[] } (argSl 0 args) pre:=by
 have hl:=hv.1
 refine⟨hi,by simp;omega,.nil,?_⟩
 intro t
 rw [sget_argSl]
 simp only [Nat.zero_le,if_true,Nat.sub_zero]
 cases ht:args[t]? with
 | none=>exact .undef _
 | some x =>
  obtain⟨v,h1,h2⟩:=hv.get ht
  have hlt:=(List.getElem?_eq_some_iff.1 h1).1
  have:((⟨vs⟩:Array Value)++Array.replicate (m - (⟨vs⟩:Array Value).size) undef).getD t undef=v:=by
   rw [Array.getD_eq_getD_getElem?,Array.getElem?_append_left (by simpa using hlt)]
   simp [h1]
  rw [this];exact h2
theorem cell_shut {D:Nat} {l l':Option (List Deferred)} (h:w.heap[D]? = some (.deferred l))(b off:Nat):(w.putObj D (.deferred l')).cell? ⟨b,off,none⟩=w.cell? ⟨b,off,none⟩:=by
 by_cases hb:b=D
 ·subst hb
  have h1:(w.putObj b (.deferred l')).heap[b]? = some (.deferred l'):=World.putObj_heap_same (Array.getElem?_eq_some_iff.1 h).1
  unfold World.cell?
  simp only [h,h1]
 ·exact World.cell?_of_block (World.putObj_heap_other hb)
theorem RepC.shut {D:Nat} {l l':Option (List Deferred)} (h:w.heap[D]? = some (.deferred l)) {d:Go.Abs.D} {v:Value} (hr:RepC S w d v):RepC S (w.putObj D (.deferred l')) d v:=by
 induction hr with
 | int k n=>exact .int k n
 | bool b=>exact .bool b
 | str s hs=>exact .str s hs
 | nil=>exact .nil
 | emp a cap=>exact .emp a cap
 | slice0 a cap h=>exact .slice0 a cap h
 | slice rows b off cap sz hb h1 h2 h3 h4 h5 _ ih =>
  refine .slice rows b off cap sz hb h1 h2 h3 h4 ?_ ?_
  ·intro i j hi hj;rw [cell_shut h];exact h5 i j hi hj
  ·intro i j row d v hr hd hv;rw [cell_shut h] at hv;exact ih i j row d v hr hd hv
 | agg cells vs h1 h2 _ ih=>exact .agg cells vs h1 h2 ih
 | ptr cells b base hb h2 h1 _ ih =>
  refine .ptr cells b base hb h2 ?_ ?_
  ·intro j hj;rw [cell_shut h];exact h1 j hj
  ·intro j d v hd hv;rw [cell_shut h] at hv;exact ih j d v hd hv
 | nilptr=>exact .nilptr
 | map kvs r es clock hr hh hs _ _ ih1 ih2 =>
  refine .map kvs r es clock hr ?_ hs ih1 ih2
  rw [World.putObj_heap_other (by rintro rfl;rw [h] at hh;cases hh)];exact hh
 | nilmap=>exact .nilmap
 | iface t d v _ ih=>exact .iface t d v ih
 | niliface=>exact .niliface
 | fn f caps vs h1 _ ih=>exact .fn f caps vs h1 ih
 | nilfn=>exact .nilfn
 | cl f caps vs h1 _ ih=>exact .cl f caps vs h1 ih
theorem RepV.shut {D:Nat} {l l':Option (List Deferred)} (h:w.heap[D]? = some (.deferred l)) {x:SV} {v:Value} (hr:RepV S w β x v):RepV S (w.putObj D (.deferred l')) β x v:=by
 induction hr with
 | undef v=>exact .undef v
 | d x v hx=>exact .d x v (hx.shut h)
 | agg cells vs h1 h2 _ ih=>exact .agg cells vs h1 h2 ih
 | tuple cells vs h1 _ ih=>exact .tuple cells vs h1 ih
 | box k off b hb=>exact .box k off b hb
 | dptr cells off b base hb h1 h2 h3 =>
  refine .dptr cells off b base hb h1 ?_ ?_
  ·intro j hj;rw [cell_shut h];exact h2 j hj
  ·intro j d v hd hv;rw [cell_shut h] at hv;exact (h3 j d v hd hv).shut h
 | acc k=>exact .acc k
 | aptr k i off b hb=>exact .aptr k i off b hb
 | mp k b hb=>exact .mp k b hb
 | yld l=>exact .yld l
 | vptr cells off b hs h1 h2 _ ih =>
  refine .vptr cells off b hs h1 ?_ ?_
  ·intro j hj;rw [cell_shut h];exact h2 j hj
  ·intro j c v hc hv;rw [cell_shut h] at hv;exact ih j c v hc hv
 | clo f cells vs h1 _ ih=>exact .clo f cells vs h1 ih
theorem BoxOK.shut {D:Nat} {l l':Option (List Deferred)} (h:w.heap[D]? = some (.deferred l)) {i:BI} {c:BoxC} (hne:i.base≠some D)(hb:BoxOK S w β i c):BoxOK S (w.putObj D (.deferred l')) β i c:=by
 have hh:∀ b,i.base=some b→(w.putObj D (.deferred l')).heap[b]? = w.heap[b]?:=fun b hb=>World.putObj_heap_other (by rintro rfl;exact hne hb)
 cases c with
 | cells cs =>
  obtain⟨b,ty,vs,h1,h2,h3⟩:=hb
  exact⟨b,ty,vs,h1,(hh b h1).trans h2,h3.1,fun j c v hc hv=>(h3.2 j c v hc hv).shut h⟩
 | rows sz rs =>
  obtain⟨h1,h2,h3,h4,h5,h6,h7⟩:=hb
  refine⟨h1,h2,h3,h4,h5,h6,?_⟩
  cases hbase:i.base with
  | none=>rw [hbase] at h7;exact h7
  | some b =>
   rw [hbase] at h7
   obtain⟨ty,vs,g1,g2,g3⟩:=h7
   exact⟨ty,vs,(hh b hbase).trans g1,g2,fun r j row d v hr hd hv=>(g3 r j row d v hr hd hv).shut h⟩
 | map kvs =>
  obtain⟨b,es,clock,h1,h2,h3,h4⟩:=hb
  exact⟨b,es,clock,h1,(hh b h1).trans h2,h3,fun r kv x hr hx=>⟨(h4 r kv x hr hx).1.shut h,(h4 r kv x hr hx).2.shut h⟩⟩
 | iter kvs seen =>
  obtain⟨b,m,es,clock,sn,h1,h2,hS,hm,h3,h4,h5⟩:=hb
  exact⟨b,m,es,clock,sn,h1,(hh b h1).trans h2,hS,(World.putObj_heap_other (by rintro rfl;rw [hm] at h;cases h)).trans hm,h3,fun r kv x hr hx=>⟨(h4 r kv x hr hx).1.shut h,(h4 r kv x hr hx).2.shut h⟩,h5⟩
 | ghost Y st=>exact hb
theorem St.leave {m:Nat} {sl:SL} {bx:Boxes} {fn:Func} {R:Ending→World→Prop} (hs:St C m S w β a sl bx)
  (h:∀ w',St C m S w' β { tmps:=a.tmps,defers:=[] } sl bx→∃ v,(results fn a.tmps).run P w'=.ok v w'∧R (.returned v) w'):LeavesInM Fence.wide 0 P fn a.tmps R a.defers .returning w:=by
 obtain⟨hi,hsz,⟨Ds,hd,hnd,hD⟩,hslot⟩:=hs
 rw [hd]
 clear hd
 induction Ds generalizing w with
 | nil=>exact h w ⟨hi,hsz,.nil,hslot⟩
 | cons D Ds ih =>
  obtain⟨q1,q2,q3⟩:=hD D (by simp)
  refine⟨by simp,.inl ⟨D,w.putObj D (.deferred none),rfl,run_takeDeferred q3,ih ?_ ?_ (List.nodup_cons.1 hnd).2 ?_⟩⟩
  ·exact {
    S0sub:=hi.S0sub,Snew:=hi.Snew,Slt:=fun b hb=>by simpa using hi.Slt b hb
    kept:=fun b hb hp=>(World.putObj_heap_other (by omega)).trans (hi.kept b hb hp)
    os:=hi.os,tape:=hi.tape,output:=hi.output,size:=by simpa using hi.size
    box:=fun k c hk=>(hi.box k c hk).shut q3 (fun he=>(hi.priv k c hk D he).1 q1)
    priv:=fun k c hk b hb=>by simpa using hi.priv k c hk b hb
    inj:=hi.inj
    tab:=fun b cs hv=>by
     obtain⟨h1,ty,fr,h2⟩:=hi.tab b cs hv
     refine⟨h1,ty,fr,(World.putObj_heap_other ?_).trans h2⟩
     rintro rfl
     rw [q3] at h2;cases h2
    one:=hi.one
    frn:=fun k Y st hk=>by
     obtain⟨h1,h2,h3,h4,B,h5,h6⟩:=hi.frn k Y st hk
     refine⟨h1,h2,h3,h4,B,h2.shut st B S w D _ _ h5 (by rw [h1];omega) (fun hb=>(h6 D hb).1 q1) q3,fun b hb=>?_⟩
     simpa using h6 b hb
    fix:=hi.fix }
  ·exact fun t=>(hslot t).shut q3
  ·intro D' hD'
   obtain⟨r1,r2,r3⟩:=hD D' (by simp [hD'])
   refine⟨r1,r2,?_⟩
   rw [World.putObj_heap_other (by rintro rfl;exact (List.nodup_cons.1 hnd).1 hD')];exact r3
variable {c:Code}
theorem calls_of_marks {f:FuncId} {fn:Func} {args:Array Value} {R:Ending→World→Prop} (hf:P.funcs[f]? = some fn)(hb:fn.body=some c)
  (h:c.wpIn (FW none) 0 P (bodyPostM Fence.wide 0 P fn R) { tmps:=args++Array.replicate (fn.ntmps - args.size) undef,defers:=[] } w):Calls P f args w R :=
 (callsIn_wide (n:=0)).1 (callsIn_of_wp_marks (F:=Fence.wide) hf hb trivial h)
theorem CallOK.of_body {f:FuncId} {fn:Func} {args:List SV} {r:SV} (hf:P.funcs[f]? = some fn)(hb:fn.body=some c)(hn:(fn.name == "runtime.NumGoroutine")=false)(hm:args.length≤fn.ntmps)
  (h:AWp none P fn.ntmps c (retOK P fn r) (argSl 0 args) []):CallOK P f args r:=by
 refine⟨⟨fn,hf,hn,by rw [hb];rfl⟩,?_⟩
 intro C β vs hi hv
 refine calls_of_marks hf hb ?_
 refine wpIn_mono (h C C.S0 C.w0 β _ (St.start hi hv hm)) ?_
 rintro e a' w' ⟨sl',bx',S',β',q,hs⟩
 have key:(∃ xs,resL P bx' sl' fn.results.toList=some xs∧coerce bx' (wrapRes xs)=some r)→LeavesInM Fence.wide 0 P fn a'.tmps (fun e w'=>∃ v S' β',e=.returned v∧Inv C S' w' β' []∧RepV S' w' β' r v) a'.defers .returning w':=by
  rintro⟨xs,h1,h2⟩
  refine hs.leave fun w' hs=>?_
  obtain⟨v,h3,h4⟩:=run_results (P:=P) hs h1
  refine⟨v,h3,v,fun b=>S' b∨∃ k c,(k,c)∈bx'∧(β' k).base=some b,β',rfl,?_,?_⟩
  ·exact {
    S0sub:=fun b hb=>.inl (hs.inv.S0sub b hb)
    Snew:=fun b hb=>by
     rcases hb with hb | ⟨k,c,hk,hb⟩
     ·exact hs.inv.Snew b hb
     ·exact .inr (hs.inv.priv k c hk b hb).2.2
    Slt:=fun b hb=>by
     rcases hb with hb | ⟨k,c,hk,hb⟩
     ·exact hs.inv.Slt b hb
     ·exact (hs.inv.priv k c hk b hb).2.1
    kept:=hs.inv.kept
    os:=hs.inv.os
    tape:=hs.inv.tape
    output:=hs.inv.output
    size:=hs.inv.size
    box:=fun k c hk=>by simp at hk
    priv:=fun k c hk=>by simp at hk
    inj:=fun k c k' c' hk=>by simp at hk
    tab:=fun b cs hv=>⟨.inl (hs.inv.tab b cs hv).1,(hs.inv.tab b cs hv).2⟩
    one:=fun k Y st k' Y' st' hk=>by simp at hk
    frn:=fun k Y st hk=>by simp at hk
    fix:=hs.inv.fix }
  ·exact (coerce_rep hs.inv ⟨fun _ h=>.inl h,fun _ _=>rfl⟩ (fun k c hk b hb=>.inr ⟨k,c,hk,hb⟩) h2 h4).1
 cases e with
 | normal=>exact key q
 | ret=>exact key q
 | _=>exact q.elim
structure Rep1 where
 fb:Nat→SV
 fa:SV
 fm:SV
mutual
def SV.sub (k:Nat)(f:Rep1):SV→SV
 | .box j off=>if j=k then f.fb off else .box j off
 | .acc j=>if j=k then f.fa else .acc j
 | .mp j=>if j=k then f.fm else .mp j
 | .aptr j i off=>.aptr j i off
 | .agg cs=>.agg (SV.subL k f cs)
 | .tuple cs=>.tuple (SV.subL k f cs)
 | .clo g cs=>.clo g (SV.subL k f cs)
 | .undef=>.undef
 | .d x=>.d x
 | .dptr c off=>.dptr c off
 | .yld l=>.yld l
 | .vptr cs off=>.vptr (SV.subL k f cs) off
def SV.subL (k:Nat)(f:Rep1):List SV→List SV
 | []=>[]
 | c::cs=>c.sub k f::SV.subL k f cs
end
theorem SV.subL_eq (k:Nat)(f:Rep1):∀ cs:List SV,SV.subL k f cs=cs.map (SV.sub k f)
 | []=>rfl
 | c::cs=>by simp [SV.subL,SV.subL_eq k f cs]
structure Rep1OK (S S':Nat→Prop)(w:World) (β:Names)(k:Nat)(f:Rep1):Prop where
 fb:∀ off v,RepV S w β (.box k off) v→RepV S' w β (f.fb off) v
 fa:∀ v,RepV S w β (.acc k) v→RepV S' w β f.fa v
 fm:∀ v,RepV S w β (.mp k) v→RepV S' w β f.fm v
 one:(∀ off,(f.fb off).one=true)∧f.fa.one=true∧f.fm.one=true
theorem SV.sub_one {S S':Nat→Prop} {k:Nat} {f:Rep1} (hf:Rep1OK S S' w β k f) {x:SV} (h:x.one=true):(x.sub k f).one=true:=by
 cases x <;> simp only [SV.sub] <;> first
  | exact h
  | (split;exact hf.one.1 _;rfl)
  | (split;exact hf.one.2.1;rfl)
  | (split;exact hf.one.2.2;rfl)
  | rfl
theorem RepV.sub {S S':Nat→Prop} {k:Nat} {f:Rep1} (hf:Rep1OK S S' w β k f)(e:SExt S w S' w) {x:SV} {v:Value} (h:RepV S w β x v):RepV S' w β (x.sub k f) v:=by
 induction h with
 | undef v=>exact .undef v
 | d x v h=>exact .d x v (h.ext e)
 | agg cells vs h1 h2 _ ih =>
  simp only [SV.sub,SV.subL_eq]
  refine .agg _ vs (by simpa using h1) ?_ ?_
  ·intro c hc
   obtain⟨x,hx,rfl⟩:=List.mem_map.1 hc
   exact SV.sub_one hf (h2 x hx)
  ·intro j c v hc hv
   obtain⟨x,hx,rfl⟩:=by simpa using hc
   exact ih j x v hx hv
 | tuple cells vs h1 _ ih =>
  simp only [SV.sub,SV.subL_eq]
  refine .tuple _ vs (by simpa using h1) ?_
  intro j c v hc hv
  obtain⟨x,hx,rfl⟩:=by simpa using hc
  exact ih j x v hx hv
 | box j off b h =>
  simp only [SV.sub]
  split
  ·subst_vars;exact hf.fb off _ (.box _ off b h)
  ·exact .box j off b h
 | dptr cells off b base h1 h2 h3 h4=>exact RepV.ext (.dptr cells off b base h1 h2 h3 h4) e (fun _ _=>rfl)
 | acc j =>
  simp only [SV.sub]
  split
  ·subst_vars;exact hf.fa _ (.acc _)
  ·exact .acc j
 | aptr j i off b h=>exact .aptr j i off b h
 | yld l=>exact .yld l
 | vptr cells off b hs h1 h2 _ ih =>
  simp only [SV.sub,SV.subL_eq]
  refine .vptr _ off b (e.sub b hs) ?_ (by simpa using h2) ?_
  ·intro c hc
   obtain⟨x,hx,rfl⟩:=List.mem_map.1 hc
   exact SV.sub_one hf (h1 x hx)
  ·intro j c v hc hv
   obtain⟨x,hx,rfl⟩:=by simpa using hc
   exact ih j x v hx hv
 | mp j b h =>
  simp only [SV.sub]
  split
  ·subst_vars;exact hf.fm _ (.mp _ b h)
  ·exact .mp j b h
 | clo f cells vs h1 _ ih =>
  simp only [SV.sub,SV.subL_eq]
  refine .clo f _ vs (by simpa using h1) ?_
  intro j c v hc hv
  obtain⟨x,hx,rfl⟩:=by simpa using hc
  exact ih j x v hx hv
def subSl (k:Nat)(f:Rep1):SL→SL
 | []=>[]
 | (t,x)::r=>(t,x.sub k f)::subSl k f r
def BoxC.sub (k:Nat)(f:Rep1):BoxC→BoxC
 | .cells cs=>.cells (SV.subL k f cs)
 | c=>c
def subBx (k:Nat)(f:Rep1):Boxes→Boxes
 | []=>[]
 | (j,c)::r=>(j,c.sub k f)::subBx k f r
theorem sget_subSl (k:Nat)(f:Rep1):∀ (sl:SL)(t:Nat),sget (subSl k f sl) t=(sget sl t).sub k f
 | [],t=>rfl
 | (u,x)::r,t=>by
  simp only [subSl,sget]
  split
  ·rfl
  ·exact sget_subSl k f r t
theorem mem_subBx {k j:Nat} {f:Rep1} {c:BoxC} :∀ {bx:Boxes},(j,c)∈subBx k f bx→∃ x,(j,x)∈bx∧c=x.sub k f
 | [],h=>by simp [subBx] at h
 | (i,x)::r,h=>by
  simp only [subBx,List.mem_cons,Prod.mk.injEq] at h
  rcases h with ⟨h1,h2⟩ | h
  ·subst h1;exact⟨x,by simp,h2⟩
  ·obtain⟨y,hy,hc⟩:=mem_subBx h;exact⟨y,by simp [hy],hc⟩
theorem AWp.pubCore (k:Nat) {bc:BoxC} {f:Rep1} (hk:(k,bc)∈bx)
  (hf:∀ (S:Nat→Prop) (w:World) (β:Names),BoxOK S w β (β k) bc→(∀ b,(β k).base=some b→S b)→Rep1OK S S w β k f)
  (h:AWp ro P n c Q (subSl k f sl) (subBx k f (berase k bx))):AWp ro P n c Q sl bx:=by
 intro C S w β a hs
 let S':Nat→Prop:=fun b=>S b∨(β k).base=some b
 have e:SExt S w S' w:=⟨fun _ h=>.inl h,fun _ _=>rfl⟩
 have hi:=hs.inv
 have hbox:BoxOK S' w β (β k) bc:=(hi.box k _ hk).ext e (fun _ _=>rfl) (fun _ _=>rfl)
 have hr1:=hf S' w β hbox (fun b hb=>.inr hb)
 have hr:Rep1OK S' S' w β k f:=hr1
 have hsub:∀ {x:SV} {v:Value},RepV S w β x v→RepV S' w β (x.sub k f) v:=fun hv=>(hv.ext e (fun _ _=>rfl)).sub hr (SExt.refl _ _)
 refine h C S' w β a ⟨?_,hs.size,hs.defers.ext e,fun t=>by rw [sget_subSl];exact hsub (hs.slot t)⟩
 exact {
  S0sub:=fun b hb=>.inl (hi.S0sub b hb)
  Snew:=fun b hb=>by
   rcases hb with hb | hb
   ·exact hi.Snew b hb
   ·exact .inr (hi.priv k _ hk b hb).2.2
  Slt:=fun b hb=>by
   rcases hb with hb | hb
   ·exact hi.Slt b hb
   ·exact (hi.priv k _ hk b hb).2.1
  kept:=hi.kept
  os:=hi.os
  tape:=hi.tape
  output:=hi.output
  size:=hi.size
  box:=fun j c hj=>by
   obtain⟨x,hx,rfl⟩:=mem_subBx hj
   obtain⟨hne,hx⟩:=mem_berase.1 hx
   have:=hi.box j x hx
   cases x with
   | cells cs =>
    obtain⟨b,ty,vs,h1,h2,h3⟩:=this
    refine⟨b,ty,vs,h1,h2,?_⟩
    rw [SV.subL_eq]
    refine h3.map (by simp) ?_
    intro i x y v hx' hy hv
    simp only [List.getElem?_map,hx',Option.map_some,Option.some.injEq] at hy
    subst hy;exact hsub hv
   | rows sz rs=>exact BoxOK.ext (c:=.rows sz rs) this e (fun _ _=>rfl) (fun _ _=>rfl)
   | map kvs=>exact BoxOK.ext (c:=.map kvs) this e (fun _ _=>rfl) (fun _ _=>rfl)
   | iter kvs seen=>exact BoxOK.ext (c:=.iter kvs seen) this e (fun _ _=>rfl) (fun _ _=>rfl)
   | ghost Y st=>exact this
  priv:=fun j c hj b hb=>by
   obtain⟨x,hx,rfl⟩:=mem_subBx hj
   obtain⟨hne,hx⟩:=mem_berase.1 hx
   obtain⟨h1,h2,h3⟩:=hi.priv j x hx b hb
   refine⟨fun hs=>?_,h2,h3⟩
   rcases hs with hs | hs
   ·exact h1 hs
   ·exact hne (hi.inj j x k _ hx hk b hb hs).1
  inj:=fun j c j' c' hj hj' b hb hb'=>by
   obtain⟨x,hx,rfl⟩:=mem_subBx hj
   obtain⟨x',hx',rfl⟩:=mem_subBx hj'
   obtain⟨h1,h2⟩:=hi.inj j x j' x' (mem_berase.1 hx).2 (mem_berase.1 hx').2 b hb hb'
   exact⟨h1,by rw [h2]⟩
  tab:=fun b cs hv=>⟨.inl (hi.tab b cs hv).1,(hi.tab b cs hv).2⟩
  one:=fun j Y st j' Y' st' hj hj'=>by
   obtain⟨x,hx,hxe⟩:=mem_subBx hj
   obtain⟨x',hx',hxe'⟩:=mem_subBx hj'
   have e1:x=.ghost Y st:=by cases x <;> simp only [BoxC.sub,reduceCtorEq] at hxe;exact hxe.symm
   have e2:x'=.ghost Y' st':=by cases x' <;> simp only [BoxC.sub,reduceCtorEq] at hxe';exact hxe'.symm
   subst e1;subst e2
   exact hi.one j Y st j' Y' st' (mem_berase.1 hx).2 (mem_berase.1 hx').2
  frn:=fun j Y st hj=>by
   obtain⟨x,hx,hxe⟩:=mem_subBx hj
   have hxg:x=.ghost Y st:=by cases x <;> simp only [BoxC.sub,reduceCtorEq] at hxe;exact hxe.symm
   subst hxg
   obtain⟨h1,h2,h3,h4,B,h5,h6⟩:=hi.frn j Y st (mem_berase.1 hx).2
   have hsz:=hi.size
   have hB:∀ b,B b→¬ S' b:=fun b hb hs=>hs.elim (h6 b hb).1 ((h6 b hb).2.2.2 k _ hk)
   have hold:∀ k' c',(k',c')∈subBx k f (berase k bx)→∃ y,(k',y)∈bx:=fun k' c' hk'=>by
    obtain⟨y,hy,_⟩:=mem_subBx hk';exact⟨y,(mem_berase.1 hy).2⟩
   refine⟨h1,h2,h3,fun k' c' hk'=>(hold k' c' hk').elim fun y hy=>h4 k' y hy,B,h2.keep st B S w _ w h5 ⟨fun _ h=>.inl h,fun b hb=>hb.imp id fun hb=>by rw [h1];exact h4 k _ hk b hb,fun b hb=>?_,hB,fun _ _=>rfl,rfl,rfl,rfl,Nat.le_refl _⟩,
    fun b hb=>⟨hB b hb,(h6 b hb).2.1,(h6 b hb).2.2.1,fun k' c' hk'=>(hold k' c' hk').elim fun y hy=>(h6 b hb).2.2.2 k' y hy⟩⟩
   rcases hb with hb | hb
   ·exact hi.Slt b hb
   ·exact (hi.priv k _ hk b hb).2.1
  fix:=hi.fix }
theorem AWp.publish (k:Nat) {sz:Nat} {rs:List (List D)} (hk:bget bx k=some (.rows sz rs))
  (h:AWp ro P n c Q (subSl k ⟨fun off=>.box k off,.d (.slice rs),.mp k⟩ sl) (subBx k ⟨fun off=>.box k off,.d (.slice rs),.mp k⟩ (berase k bx))):AWp ro P n c Q sl bx :=
 AWp.pubCore k (mem_of_bget hk) (fun S w β hb hS=>⟨fun off v hv=>hv,fun v hv=>by cases hv;exact .d _ _ (hb.rows_slice hS),fun v hv=>hv,fun _=>rfl,rfl,rfl⟩) h
theorem AWp.freeze (k:Nat) {cs:List SV} {ds:List D} (hk:bget bx k=some (.cells cs))(hd:toDs cs=some ds)
  (h:AWp ro P n c Q (subSl k ⟨fun off=>.dptr ds off,.acc k,.mp k⟩ sl) (subBx k ⟨fun off=>.dptr ds off,.acc k,.mp k⟩ (berase k bx))):AWp ro P n c Q sl bx:=by
 refine AWp.pubCore k (mem_of_bget hk) (fun S w β hb hS=>⟨fun off v hv=>?_,fun v hv=>hv,fun v hv=>hv,fun _=>rfl,rfl,rfl⟩) h
 obtain⟨b,ty,vs,h1,h2,h3⟩:=hb
 obtain⟨q1,q2,q3⟩:=toDs_rep cs ds vs hd h3
 have hl:=h3.1
 cases hv with
 | box _ _ b' hb' =>
  rw [h1] at hb';cases hb'
  have:=RepV.dptr (S:=S) (w:=w) (β:=β) ds off b 0 (hS b h1) q2 (fun j hj=>⟨vs[j]'(by omega),by rw [cells_of_row h2,Nat.zero_add];exact List.getElem?_eq_getElem _⟩)
   (fun j d v hd hv=>q3 j d v hd (by rw [cells_of_row h2,Nat.zero_add] at hv;exact hv))
  simpa using this
theorem AWp.freezeV (k:Nat) {cs:List SV} (hk:bget bx k=some (.cells cs))(h1:cs.all SV.one=true)
  (h:AWp ro P n c Q (subSl k ⟨fun off=>.vptr cs off,.acc k,.mp k⟩ sl) (subBx k ⟨fun off=>.vptr cs off,.acc k,.mp k⟩ (berase k bx))):AWp ro P n c Q sl bx:=by
 refine AWp.pubCore k (mem_of_bget hk) (fun S w β hb hS=>⟨fun off v hv=>?_,fun v hv=>hv,fun v hv=>hv,fun _=>rfl,rfl,rfl⟩) h
 obtain⟨b,ty,vs,g1,g2,g3⟩:=hb
 have hl:=g3.1
 cases hv with
 | box _ _ b' hb' =>
  rw [g1] at hb';cases hb'
  exact .vptr cs off b (hS b g1) (fun c hc=>List.all_eq_true.1 h1 c hc) (fun j hj=>⟨vs[j]'(by omega),by rw [cells_of_row g2];exact List.getElem?_eq_getElem _⟩)
   (fun j c v hc hv=>g3.2 j c v hc (by rw [cells_of_row g2] at hv;exact hv))
theorem AWp.publishMap (k:Nat) {kvs:List (D × D)} (hk:bget bx k=some (.map kvs))
  (h:AWp ro P n c Q (subSl k ⟨fun off=>.box k off,.acc k,.d (.map kvs)⟩ sl) (subBx k ⟨fun off=>.box k off,.acc k,.d (.map kvs)⟩ (berase k bx))):AWp ro P n c Q sl bx:=by
 refine AWp.pubCore k (mem_of_bget hk) (fun S w β hb hS=>⟨fun off v hv=>hv,fun v hv=>hv,fun v hv=>?_,fun _=>rfl,rfl,rfl⟩) h
 obtain⟨b,es,clock,h1,h2,h3,h4⟩:=hb
 cases hv with
 | mp _ b' hb' =>
  rw [h1] at hb';cases hb'
  exact .d _ _ (.map _ b es clock (hS b h1) h2 h3 (fun i kv e hk he=>(h4 i kv e hk he).1) (fun i kv e hk he=>(h4 i kv e hk he).2))
theorem AWp.promote (k sz t:Nat)(hd:sget sl t=.d .nil)(h:AWp ro P n c Q ((t,.acc k)::purge1 k sl) ((k,.rows sz [])::bpurge k (berase k bx)))(hkf:k≤999999:=by decide):AWp ro P n c Q sl bx:=by
 intro C S w β a hs
 obtain⟨h1,h2⟩:=hs.inv.setNew (k:=k) (w':=w) (c:=.rows sz []) { base:=none,sz:=sz } hkf (by simp) (fun _ _ _=>rfl) rfl rfl rfl (Nat.le_refl _) (fun _=>boxOK_nil)
 refine h C S w _ a ⟨h1,hs.size,hs.defers,?_⟩
 intro u
 simp only [sget]
 split
 ·rename_i he;subst he
  have hv:=hs.slot t
  rw [hd] at hv
  generalize a.tmps.getD t undef=v at hv
  cases hv with
  | d _ _ hv =>
   cases hv
   have:=RepV.acc (S:=S) (w:=w) (β:=upd β k { base:=none,sz:=sz }) k
   rw [upd_same] at this
   exact this
 ·rw [sget_purge1]
  exact (hs.slot u).purge h2
end Go.Abs
namespace Go.Abs
open Go
variable {P:Program} {o:Oper} {ρ:Rho} {bx:Boxes}
def D.lit:D→Lit
 | .str s=>.string s
 | .int k n=>.int k n
 | .bool b=>.bool b
 | _=>.nil
def D.flatK:D→Bool
 | .str _ | .int _ _ | .bool _=>true
 | _=>false
def D.lits:D→List Lit
 | .agg cs=>cs.map D.lit
 | d=>[d.lit]
def D.kv:D→Value
 | .agg cs=>.agg ⟨cs.map fun c=>c.lit.value⟩
 | d=>d.lit.value
def D.isKey:D→Bool
 | .agg cs=>cs.all D.flatK
 | d=>d.flatK
variable {S:Nat→Prop} {w:World}
theorem RepC.flatKv {d:D} {v:Value} (h:RepC S w d v)(hk:d.flatK=true):v=d.lit.value:=by
 cases h <;> simp [D.flatK] at hk <;> rfl
theorem RepC.kv {d:D} {v:Value} (h:RepC S w d v)(hk:d.isKey=true):v=d.kv:=by
 cases h with
 | agg cells vs h1 h2 h3 =>
  simp only [D.kv,Value.agg.injEq]
  apply Array.ext'
  simp only
  apply List.ext_getElem?
  intro j
  rw [List.getElem?_map]
  cases hc:cells[j]? with
  | none =>
   have:=List.getElem?_eq_none_iff.1 hc
   rw [List.getElem?_eq_none (by omega)];rfl
  | some c =>
   have hj:=(List.getElem?_eq_some_iff.1 hc).1
   have hv:vs[j]? = some (vs[j]'(by omega)):=List.getElem?_eq_getElem (by omega)
   rw [hv]
   have:=h3 j c _ hc hv
   simp only [D.isKey,List.all_eq_true] at hk
   rw [this.flatKv (hk c (List.mem_of_getElem? hc))];rfl
 | _=>first | exact RepC.flatKv (by assumption) hk | (simp [D.isKey,D.flatK] at hk;done) | rfl
structure KeyAt (P:Program)(kt:TypeId)(d:D):Prop where
 isKey:d.isKey=true
 formed:d.kv.formed P kt=true
 lits:P.keyLits (P.types.size+1) kt d.kv.cells.toList=some d.lits
def keyT (P:Program)(kt:TypeId):Bool:=P.keyTypeAt 100 kt && match P.underlying kt with
 | some .string | some (.struct _) | some (.array _ _)=>true
 | _=>false
theorem KeyAt.same {kt:TypeId} {d d':D} (h:KeyAt P kt d)(h':KeyAt P kt d')(e:d.lits=d'.lits):d.kv=d'.kv:=by
 have f1:=h.formed
 have f2:=h'.formed
 have m:∀ a b:List D,a.map D.lit=b.map D.lit→(a.map fun c=>c.lit.value)=b.map fun c=>c.lit.value:=fun a b hab=>by
  have:=congrArg (List.map Lit.value) hab
  simpa [List.map_map,Function.comp_def] using this
 have i1:=h.isKey
 have i2:=h'.isKey
 cases d with
 | agg cs =>
  cases d' with
  | agg cs'=>simp only [D.lits] at e;simp only [D.kv];rw [m cs cs' e]
  | str _ | int _ _ | bool _ =>
   simp only [D.kv,D.lit,Lit.value,Value.formed] at f1 f2
   split at f1 <;> simp_all
  | _=>simp [D.isKey,D.flatK] at i2
 | str _ | int _ _ | bool _ =>
  cases d' with
  | agg cs' =>
   simp only [D.kv,D.lit,Lit.value,Value.formed] at f1 f2
   split at f2 <;> simp_all
  | str _ | int _ _ | bool _=>simp only [D.lits,List.cons.injEq,and_true] at e;simp only [D.kv];rw [e]
  | _=>simp [D.isKey,D.flatK] at i2
 | _=>simp [D.isKey,D.flatK] at i1
theorem sameBits_flat (l:Lit)(h:l≠.nil):Instr.sameBits 9999 l.value l.value=true:=by
 cases l <;> simp only [Lit.value,Instr.sameBits,ne_eq,not_true_eq_false,beq_self_eq_true,Bool.and_self] at * <;> first | exact (MapKept.bytes_beq _ _).2 rfl | skip
theorem sameBits_kv {d:D} (h:d.isKey=true):Instr.sameBits 10000 d.kv d.kv=true:=by
 cases d with
 | agg cs =>
  simp only [D.kv,Instr.sameBits,beq_self_eq_true,Bool.true_and]
  simp only [D.isKey,List.all_eq_true] at h
  rw [List.all_eq_true]
  intro p hp
  obtain⟨i,hi⟩:=List.mem_iff_getElem?.1 hp
  rw [List.getElem?_zip_eq_some] at hi
  obtain⟨h1,h2⟩:=hi
  have he:p.1=p.2:=by rw [h1] at h2;exact Option.some.inj h2
  obtain⟨c,hc,hcv⟩:=List.mem_map.1 (List.mem_of_getElem? h1)
  rw [← he,← hcv]
  refine sameBits_flat _ ?_
  have:=h c hc
  cases c <;> simp [D.flatK] at this <;> simp [D.lit]
 | _=>first | (simp [D.isKey,D.flatK] at h;done) | (simp [D.kv,D.lit,Lit.value,Instr.sameBits];done) | exact (MapKept.bytes_beq _ _).2 rfl
instance litDec:DecidableEq Lit:=by
 intro a b
 cases a <;> cases b <;> simp only [Lit.bool.injEq,Lit.int.injEq,Lit.float.injEq,Lit.string.injEq,reduceCtorEq] <;> infer_instance
def kfind (l:List Lit):List (D × D)→Nat→Option (Nat × D)
 | [],_=>none
 | kv::r,i=>if l=kv.1.lits then some (i,kv.2) else kfind l r (i+1)
def kput (k v:D)(kvs:List (D × D)):List (D × D):=match kfind k.lits kvs 0 with
 | some (j,_)=>kvs.set j (k,v)
 | none=>kvs++[(k,v)]
theorem keyT_eq {kt:TypeId} (hk:keyT P kt=true)(w:World) {a b:D} (ha:KeyAt P kt a)(hb:KeyAt P kt b) :
  ∃ r:Bool,(Op.equal kt a.kv b.kv).run P w=.ok r w∧(r=true↔a.lits=b.lits):=by
 unfold keyT at hk
 simp only [Bool.and_eq_true] at hk
 exact run_equalIn_deep 9900 100 kt hk.1 w _ _ a.kv b.kv a.lits b.lits ha.formed hb.formed ha.lits hb.lits
theorem keyT_check {kt:TypeId} (hk:keyT P kt=true)(em:Bool)(w:World) {a:D} (ha:KeyAt P kt a):(Instr.checkKey em 10000 kt a.kv).run P w=.ok () w:=by
 unfold keyT at hk
 simp only [Bool.and_eq_true] at hk
 exact run_checkKey_deep em 9900 100 kt hk.1 w _ a.kv a.lits ha.formed ha.lits
def Found (es:List MapEntry)(i:Nat):Option (Nat × D)→Option (Nat × Value)→List (D × D)→Prop
 | none,r,_=>r=none
 | some (j,d),r,kvs=>∃ e k,i≤j∧es[j - i]? = some e∧kvs[j - i]? = some (k,d)∧r=some (j,e.val)
theorem find_asking {kt:TypeId} (hk:keyT P kt=true)(w:World) {a:D} (ha:KeyAt P kt a):∀ (es:List MapEntry)(kvs:List (D × D))(i:Nat),es.length=kvs.length →
  (∀ (j:Nat) (e:MapEntry) (kv:D × D),es[j]? = some e→kvs[j]? = some kv→e.key=kv.1.kv∧KeyAt P kt kv.1) →
  ∃ r,(Instr.findAsking kt a.kv es i).run P w=.ok r w∧Found es i (kfind a.lits kvs i) r kvs
 | [],[],i,_,_=>⟨none,by simp [Instr.findAsking],rfl⟩
 | [],_::_,_,h,_=>by simp at h
 | _::_,[],_,h,_=>by simp at h
 | e::es,kv::kvs,i,h,hall=>by
  obtain⟨h1,h2⟩:=hall 0 e kv rfl rfl
  obtain⟨r,hr,hiff⟩:=keyT_eq hk w ha h2
  simp only [kfind]
  by_cases he:a.lits=kv.1.lits
  ·rw [if_pos he]
   have:r=true:=hiff.2 he
   subst this
   exact⟨some (i,e.val),by simp [Instr.findAsking,h1,hr],e,kv.1,by omega,by simp,by simp,rfl⟩
  ·rw [if_neg he]
   have:r=false:=by cases r with | false=>rfl | true=>exact absurd (hiff.1 rfl) he
   subst this
   obtain⟨r,g1,g2⟩:=find_asking hk w ha es kvs (i+1) (by simpa using h) (fun j e kv he hkv=>hall (j+1) e kv (by simpa using he) (by simpa using hkv))
   refine⟨r,by simp [Instr.findAsking,h1,hr,g1],?_⟩
   generalize kfind a.lits kvs (i+1)=q at *
   cases q with
   | none=>exact g2
   | some jd =>
    obtain⟨j,d⟩:=jd
    obtain⟨e',k',q1,q2,q3,q4⟩:=g2
    refine⟨e',k',by omega,?_,?_,q4⟩
    ·rw [show j - i=(j - (i+1))+1 by omega];simpa using q2
    ·rw [show j - i=(j - (i+1))+1 by omega];simpa using q3
theorem find_now {kt:TypeId} (hs:P.underlying kt=some .string) {a:D} (ha:KeyAt P kt a):∀ (es:List MapEntry)(kvs:List (D × D))(i:Nat),es.length=kvs.length →
  (∀ (j:Nat) (e:MapEntry) (kv:D × D),es[j]? = some e→kvs[j]? = some kv→e.key=kv.1.kv∧KeyAt P kt kv.1) →
  ∃ r,Instr.findNow .string a.kv es i=some r∧Found es i (kfind a.lits kvs i) r kvs
 | [],[],i,_,_=>⟨none,by simp [Instr.findNow],rfl⟩
 | [],_::_,_,h,_=>by simp at h
 | _::_,[],_,h,_=>by simp at h
 | e::es,kv::kvs,i,h,hall=>by
  obtain⟨h1,h2⟩:=hall 0 e kv rfl rfl
  have str:∀ {d:D},KeyAt P kt d→∃ s,d=.str s:=fun {d} hd=>by
   have f:=hd.formed
   have l:=hd.lits
   have k:=hd.isKey
   cases d with
   | str s=>exact⟨s,rfl⟩
   | agg cs=>simp [D.kv,Value.formed,hs] at f
   | int k n=>simp [D.kv,D.lit,Lit.value,Program.keyLits,hs,Value.cells] at l
   | bool b=>simp [D.kv,D.lit,Lit.value,Program.keyLits,hs,Value.cells] at l
   | _=>simp [D.isKey,D.flatK] at k
  obtain⟨s,rfl⟩:=str ha
  obtain⟨k,d⟩:=kv
  obtain⟨t,rfl⟩:=str h2
  simp only [kfind]
  have hsame:Instr.sameNow .string (D.str s).kv e.key=some (decide (s=t)):=by
   rw [h1]
   simp only [D.kv,D.lit,Lit.value,Instr.sameNow,Option.some.injEq]
   rw [Bool.eq_iff_iff]
   rw [MapKept.bytes_beq]
   simp only [ByteArray.mk.injEq,decide_eq_true_eq]
   constructor
   ·intro h;have:=congrArg Array.toList h;simpa using this
   ·rintro rfl;rfl
  by_cases he:s=t
  ·subst he
   rw [if_pos rfl]
   exact⟨some (i,e.val),by simp [Instr.findNow,hsame],e,_,by omega,by simp,by simp;rfl,rfl⟩
  ·rw [if_neg (by simpa [D.lits,D.lit] using he)]
   obtain⟨r,g1,g2⟩:=find_now hs ha es kvs (i+1) (by simpa using h) (fun j e kv he hkv=>hall (j+1) e kv (by simpa using he) (by simpa using hkv))
   refine⟨r,by simp [Instr.findNow,hsame,he,g1],?_⟩
   generalize kfind (D.str s).lits kvs (i+1)=q at *
   cases q with
   | none=>exact g2
   | some jd =>
    obtain⟨j,d⟩:=jd
    obtain⟨e',k',q1,q2,q3,q4⟩:=g2
    refine⟨e',k',by omega,?_,?_,q4⟩
    ·rw [show j - i=(j - (i+1))+1 by omega];simpa using q2
    ·rw [show j - i=(j - (i+1))+1 by omega];simpa using q3
theorem find_key {kt:TypeId} (hk:keyT P kt=true)(w:World) {a:D} (ha:KeyAt P kt a)(es:List MapEntry)(kvs:List (D × D))(hl:es.length=kvs.length)
  (hall:∀ (j:Nat) (e:MapEntry) (kv:D × D),es[j]? = some e→kvs[j]? = some kv→e.key=kv.1.kv∧KeyAt P kt kv.1) :
  ∃ r,(Instr.findKey kt a.kv es).run P w=.ok r w∧Found es 0 (kfind a.lits kvs 0) r kvs:=by
 by_cases hs:P.underlying kt=some .string
 ·obtain⟨r,h1,h2⟩:=find_now hs ha es kvs 0 hl hall
  exact⟨r,MapKept.run_findKey hs h1,h2⟩
 ·have hw:(match P.underlying kt with | some (.array _ _) | some (.struct _)=>true | _=>false)=true:=by
   have hk2:=hk
   unfold keyT at hk2
   simp only [Bool.and_eq_true] at hk2
   have:=hk2.2
   split at this <;> simp_all
  obtain⟨r,h1,h2⟩:=find_asking hk w ha es kvs 0 hl hall
  exact⟨r,by rw [run_findKey_eq w hw];exact h1,h2⟩
def asD:SV→Option D
 | .d x=>some x
 | .agg cs=>(toDs cs).map .agg
 | _=>none
def ofD:D→SV
 | .agg cs=>.agg (cs.map .d)
 | d=>.d d
variable {β:Names}
theorem asD_rep {x:SV} {d:D} {v:Value} (h:RepV S w β x v)(hd:asD x=some d):RepC S w d v:=by
 cases h with
 | d x v h=>simp only [asD,Option.some.injEq] at hd;subst hd;exact h
 | agg cells vs h1 h2 h3 =>
  simp only [asD,Option.map_eq_some_iff] at hd
  obtain⟨ds,hds,rfl⟩:=hd
  obtain⟨q1,q2,q3⟩:=toDs_rep cells ds vs hds ⟨h1,h3⟩
  exact .agg ds vs (by omega) q2 q3
 | _=>simp [asD] at hd
theorem ofD_rep {d:D} {v:Value} (h:RepC S w d v):RepV S w β (ofD d) v:=by
 cases h with
 | agg cells vs h1 h2 h3 =>
  refine .agg _ vs (by simpa using h1) ?_ ?_
  ·intro c hc
   obtain⟨d,hd,rfl⟩:=List.mem_map.1 hc
   exact h2 d hd
  ·intro j c v hc hv
   rw [List.getElem?_map,Option.map_eq_some_iff] at hc
   obtain⟨d,hd,rfl⟩:=hc
   exact .d _ _ (h3 j d v hd hv)
 | int | bool | str | nil | emp | slice0 | slice | ptr | nilptr | map | nilmap | iface | niliface | fn | nilfn | cl=>exact .d _ _ (by constructor <;> assumption)
def zone (P:Program)(T:TypeId):Option SV:=match (P.info? T).bind (·.zero) with
 | some (.agg _)=>none
 | some z=>some (constSV z)
 | none=>none
theorem run_zone {T:TypeId} {z:SV} (h:zone P T=some z)(w:World):∃ v,(zeroValue T).run P w=.ok v w∧z=constSV v:=by
 unfold zone at h
 cases hi:P.info? T with
 | none=>simp [hi] at h
 | some i =>
  cases hz:i.zero with
  | none=>simp [hi,hz] at h
  | some v =>
   simp only [hi,hz,Option.bind_some] at h
   refine⟨v,by simp [zeroValue,typeInfo,hi,hz],?_⟩
   split at h
   ·simp at h
   ·rename_i e;simp only [Option.some.injEq] at e h;subst e;exact h.symm
   ·rename_i e;simp at e
theorem opT_makeMap {T k:Nat} (hkf:k≤999999)(ho:o.op=.makeMap T none):OpT P o ρ bx (.mp k) ((k,.map [])::bpurge k (berase k bx)) [k]:=by
 intro C S w β a hi ha
 obtain⟨h1,h2⟩:=hi.setNew (k:=k) (w':={ w with heap:=w.heap.push (.map #[] 0) }) (c:=.map []) { base:=some w.heap.size } hkf (by
   intro b hb;cases hb
   exact⟨fun h=>by have:=hi.Slt _ h;omega,by simp,.inl (Nat.le_refl _)⟩)
  (fun b hb _=>by simp [Array.getElem?_push,Nat.ne_of_lt hb]) rfl rfl rfl (by simp) (fun _=>by
   refine⟨w.heap.size,#[],0,rfl,by simp,⟨rfl,by simp [BornOK]⟩,?_⟩
   intro r kv e hr;simp at hr)
 refine Or.inl ?_
 unfold Oper.wp
 have:(execOp a.eval o).run P w=.ok (.value (.map (some w.heap.size))) { w with heap:=w.heap.push (.map #[] 0) }:=by
  simp [execOp,ho,Instr.makeMap,newObj];rfl
 rw [this]
 exact⟨_,S,_,rfl,h1,h2,.mp k _ (by rw [upd_same]),fun j hj=>upd_ne (by simpa using hj)⟩
theorem entries_key {kt:TypeId} {kvs:List (D × D)} {es:Array MapEntry} (hsz:es.size=kvs.length)
  (h:∀ (r:Nat) (kv:D × D) (e:MapEntry),kvs[r]? = some kv→es[r]? = some e→RepC S w kv.1 e.key) (hall:∀ kv,kv∈kvs→KeyAt P kt kv.1) :
  ∀ (j:Nat) (e:MapEntry) (kv:D × D),es.toList[j]? = some e→kvs[j]? = some kv→e.key=kv.1.kv∧KeyAt P kt kv.1:=by
 intro j e kv he hkv
 have hk:=hall kv (List.mem_of_getElem? hkv)
 exact⟨(h j kv e hkv (by simpa using he)).kv hk.isKey,hk⟩
theorem mapSet {C:Ctx} {k r:Nat} {x:BoxC} {kvs:List (D × D)} (hi:Inv C S w β bx)(hb:(k,x)∈bx)(hbase:(β k).base=some r)(hlt:r < w.heap.size)
  (es:Array MapEntry) (clock:Nat) (hsz:MSz es clock kvs.length) (hes:∀ (j:Nat) (kv:D × D) (e:MapEntry),kvs[j]? = some kv→es[j]? = some e→RepC S w kv.1 e.key∧RepC S w kv.2 e.val) :
  Inv C S { w with heap:=w.heap.setIfInBounds r (.map es clock) } β ((k,.map kvs)::berase k bx)∧SExt S w S { w with heap:=w.heap.setIfInBounds r (.map es clock) }:=by
 refine hi.setSame hb hbase (fun b' hb'=>by simp [Array.getElem?_setIfInBounds,Ne.symm hb']) rfl rfl rfl (by simp) ?_
 have e0:SExt S w S { w with heap:=w.heap.setIfInBounds r (.map es clock) } :=
  ⟨fun _ h=>h,fun b' hb'=>by
   have:b'≠r:=fun he=>(hi.priv k _ hb r hbase).1 (he ▸ hb')
   simp [Array.getElem?_setIfInBounds,Ne.symm this]⟩
 exact⟨r,es,clock,hbase,by simp [Array.getElem?_setIfInBounds,hlt],hsz,fun j kv e hk he=>⟨(hes j kv e hk he).1.ext e0,(hes j kv e hk he).2.ext e0⟩⟩
theorem kfind_lits (l:List Lit):∀ (kvs:List (D × D))(i j:Nat)(d:D),kfind l kvs i=some (j,d)→∃ k,i≤j∧kvs[j - i]? = some (k,d)∧l=k.lits
 | [],_,_,_,h=>by simp [kfind] at h
 | kv::r,i,j,d,h=>by
  simp only [kfind] at h
  split at h
  ·rename_i he
   simp only [Option.some.injEq,Prod.mk.injEq] at h
   obtain⟨rfl,rfl⟩:=h
   exact⟨kv.1,Nat.le_refl _,by simp,he⟩
  ·obtain⟨k,h1,h2,h3⟩:=kfind_lits l r (i+1) j d h
   exact⟨k,by omega,by rw [show j - i=(j - (i+1))+1 by omega];simpa using h2,h3⟩
theorem opT_mapUpdate {T kt et k:Nat} {m x y:Operand} (ho:o.op=.mapUpdate T m x y) {kvs:List (D × D)} {kd vd:D} (hm:ρ m=.mp k)(hb:(k,BoxC.map kvs)∈bx)
  (hT:P.underlying T=some (.map kt et)) (hkt:keyT P kt=true) (hx:asD (ρ x)=some kd) (hkd:KeyAt P kt kd) (hall:∀ kv,kv∈kvs→KeyAt P kt kv.1) (hy:asD (ρ y)=some vd) :
  OpT P o ρ bx (.tuple []) ((k,.map (kput kd vd kvs))::berase k bx) []:=by
 intro C S w β a hi ha
 have hm1:=ha m (mC ho);rw [hm] at hm1
 have hx1:=asD_rep (ha x (mC ho)) hx
 have hy1:=asD_rep (ha y (mC ho)) hy
 have hxv:=hx1.kv hkd.isKey
 obtain⟨r,es,clock,hbase,hh,hmz,hes⟩:=hi.box k _ hb
 have hsz:=hmz.1
 generalize hmv:a.eval m=mv at hm1
 cases hm1 with
 | mp _ b hbase' =>
  rw [hbase] at hbase';cases hbase'
  obtain⟨q,hq,hf⟩:=find_key hkt w hkd es.toList kvs (by simpa using hsz) (entries_key hsz (fun r kv e h1 h2=>(hes r kv e h1 h2).1) hall)
  have hchk:=keyT_check hkt false w hkd
  have hlt:r < w.heap.size:=(hi.priv k _ hb r hbase).2.1
  rw [← hxv] at hq hchk
  unfold kput
  cases hfd:kfind kd.lits kvs 0 with
  | none =>
   rw [hfd] at hf
   simp only [Found] at hf
   subst hf
   obtain⟨h1,h2⟩:=mapSet (kvs:=kvs++[(kd,vd)]) hi hb hbase hlt (es.push { key:=a.eval x,val:=a.eval y,born:=clock }) (clock+1) ⟨by simp [hsz],hmz.2.push _ _⟩ (by
    intro j kv e hk he
    rw [List.getElem?_append] at hk
    rw [Array.getElem?_push] at he
    split at hk
    ·rw [if_neg (by omega)] at he
     exact hes j kv e hk he
    ·rename_i hj
     have hj2:j - kvs.length=0:=by
      have:=(List.getElem?_eq_some_iff.1 hk).1
      simp at this;omega
     rw [hj2] at hk
     rw [if_pos (by omega)] at he
     simp only [List.getElem?_cons_zero,Option.some.injEq] at hk he
     subst hk he
     exact⟨hx1,hy1⟩)
   refine Or.inl ?_
   unfold Oper.wp
   rw [show (execOp a.eval o).run P w=.ok .skip { w with heap:=w.heap.setIfInBounds r (.map (es.push { key:=a.eval x,val:=a.eval y,born:=clock }) (clock+1)) } by
    simp [execOp,ho,hmv,Instr.mapUpdate,run_underlying hT,MapKept.run_getObj_map hh,hchk,hq,MapKept.run_setObj_map _ hh]]
   exact⟨undef,S,β,rfl,h1,h2,.tuple [] [] rfl (by simp),fun _ _=>rfl⟩
  | some jd =>
   obtain⟨j,d⟩:=jd
   rw [hfd] at hf
   obtain⟨e,k',_,g1,g2,rfl⟩:=hf
   simp only [Nat.sub_zero,Array.getElem?_toList] at g1 g2
   have hek:e.key=a.eval x:=by
    obtain⟨p1,p2⟩:=entries_key hsz (fun r kv e h1 h2=>(hes r kv e h1 h2).1) hall j e (k',d) (by simpa using g1) g2
    obtain⟨k2,_,q2,q3⟩:=kfind_lits _ _ _ _ _ hfd
    simp only [Nat.sub_zero] at q2
    rw [g2] at q2
    simp only [Option.some.injEq,Prod.mk.injEq,and_true] at q2
    subst q2
    rw [p1,hxv]
    exact (hkd.same p2 q3).symm
   have hstay:(Instr.keyThatStays (a.eval x) (a.eval x)).run P w=.ok (a.eval x) w:=by
    rw [hxv];simp [Instr.keyThatStays,sameBits_kv hkd.isKey]
   have hj:j < es.size:=(Array.getElem?_eq_some_iff.1 g1).1
   obtain⟨h1,h2⟩:=mapSet (kvs:=kvs.set j (kd,vd)) hi hb hbase hlt (es.modify j fun e=>{ e with key:=a.eval x,val:=a.eval y }) clock ⟨by simp [hsz],hmz.2.modify _ _ (fun _=>rfl)⟩ (by
    intro i kv e' hk he
    rw [List.getElem?_set] at hk
    rw [Array.getElem?_modify] at he
    split at hk
    ·rename_i hij
     subst hij
     rw [if_pos rfl,g1] at he
     simp only [Option.map_some,Option.some.injEq] at he
     split at hk
     ·simp only [Option.some.injEq] at hk
      subst hk he
      exact⟨hx1,hy1⟩
     ·simp at hk
    ·rename_i hij
     rw [if_neg hij] at he
     exact hes i kv e' hk he)
   refine Or.inl ?_
   unfold Oper.wp
   rw [show (execOp a.eval o).run P w=.ok .skip { w with heap:=w.heap.setIfInBounds r (.map (es.modify j fun e=>{ e with key:=a.eval x,val:=a.eval y }) clock) } by
    simp [execOp,ho,hmv,Instr.mapUpdate,run_underlying hT,MapKept.run_getObj_map hh,hchk,hq,g1,hek,hstay,MapKept.run_setObj_map _ hh]]
   exact⟨undef,S,β,rfl,h1,h2,.tuple [] [] rfl (by simp),fun _ _=>rfl⟩
inductive IsMap (bx:Boxes):SV→List (D × D)→Prop where
 | mp (k:Nat) (kvs:List (D × D)):(k,BoxC.map kvs)∈bx→IsMap bx (.mp k) kvs
 | d (kvs:List (D × D)):IsMap bx (.d (.map kvs)) kvs
theorem IsMap.rep {C:Ctx} {x:SV} {kvs:List (D × D)} {v:Value} (h:IsMap bx x kvs)(hi:Inv C S w β bx)(hv:RepV S w β x v) :
  ∃ r es clock,v=.map (some r)∧w.heap[r]? = some (.map es clock)∧es.size=kvs.length∧∀ (j:Nat) (kv:D × D) (e:MapEntry),kvs[j]? = some kv→es[j]? = some e→RepC S w kv.1 e.key∧RepC S w kv.2 e.val:=by
 cases h with
 | mp k kvs hb =>
  obtain⟨r,es,clock,hbase,hh,hsz,hes⟩:=hi.box k _ hb
  cases hv with
  | mp _ b hbase' =>
   rw [hbase] at hbase';cases hbase'
   exact⟨r,es,clock,rfl,hh,hsz.1,hes⟩
 | d kvs =>
  cases hv with
  | d _ _ h =>
   cases h with
   | map _ r es clock hS hh hsz h1 h2=>exact⟨r,es,clock,rfl,hh,hsz.1,fun j kv e hk he=>⟨h1 j kv e hk he,h2 j kv e hk he⟩⟩
theorem opT_lenMap {T kt et:Nat} {x:Operand} (ho:o.op=.call { callee:=.builtin .len,args:=#[x],argTypes:=#[T] }) {kvs:List (D × D)} (hm:IsMap bx (ρ x) kvs)(hT:P.underlying T=some (.map kt et)) :
  OpT P o ρ bx (.d (.int .i64 kvs.length)) bx [] :=
 .of_value fun _ _ w β a hi ha=>by
  obtain⟨r,es,clock,hv,hh,hz,_⟩:=hm.rep hi (ha x (mC ho))
  exact⟨.int .i64 kvs.length,by simp [execOp,ho,resolve,invoke,builtin,hv,Builtin.len_,run_underlying hT,MapKept.run_getObj_map hh,hz,goInt],.int _ _⟩
def lookV (kd:D)(kvs:List (D × D))(z:SV):SV:=match kfind kd.lits kvs 0 with
 | some (_,d)=>ofD d
 | none=>z
def lookR (ok:Bool)(kd:D)(kvs:List (D × D))(z:SV):SV:=match ok with
 | true=>.tuple [lookV kd kvs z,.d (.bool (kfind kd.lits kvs 0).isSome)]
 | false=>lookV kd kvs z
theorem opT_lookup {T kt et:Nat} {m x:Operand} {ok:Bool} (ho:o.op=.lookup T m x ok) {kvs:List (D × D)} {kd:D} {z:SV} (hm:IsMap bx (ρ m) kvs)
  (hT:P.underlying T=some (.map kt et)) (hkt:keyT P kt=true) (hx:asD (ρ x)=some kd) (hkd:KeyAt P kt kd) (hall:∀ kv,kv∈kvs→KeyAt P kt kv.1) (hz:zone P et=some z) :
  OpT P o ρ bx (lookR ok kd kvs z) bx []:=by
 refine OpT.of_value fun C S w β a hi ha=>?_
 have hx1:=asD_rep (ha x (mC ho)) hx
 obtain⟨r,es,clock,hmv,hh,hsz,hes⟩:=hm.rep hi (ha m (mC ho))
 have hxv:=hx1.kv hkd.isKey
 obtain⟨q,hq,hf⟩:=find_key hkt w hkd es.toList kvs (by simpa using hsz) (entries_key hsz (fun r kv e h1 h2=>(hes r kv e h1 h2).1) hall)
 have hchk:=keyT_check hkt es.isEmpty w hkd
 rw [← hxv] at hq hchk
 obtain⟨zv,hzr,hzz⟩:=run_zone hz w
 cases hfd:kfind kd.lits kvs 0 with
 | none =>
  rw [hfd] at hf
  simp only [Found] at hf
  subst hf
  have hzrep:RepV S w β z zv:=by rw [hzz];exact repV_const S w β zv
  cases ok with
  | true =>
   refine⟨.tuple #[zv,.bool false],by simp [execOp,ho,hmv,Instr.lookup,run_underlying hT,MapKept.run_getObj_map hh,hchk,hq,hzr],?_⟩
   simp only [lookR,lookV,hfd,Option.isSome_none]
   exact .tuple _ _ rfl (RepL.cons hzrep (RepL.cons (.d _ _ (.bool _)) .nil)).2
  | false =>
   refine⟨zv,by simp [execOp,ho,hmv,Instr.lookup,run_underlying hT,MapKept.run_getObj_map hh,hchk,hq,hzr],?_⟩
   simpa only [lookR,lookV,hfd] using hzrep
 | some jd =>
  obtain⟨j,d⟩:=jd
  rw [hfd] at hf
  obtain⟨e,k',_,g1,g2,rfl⟩:=hf
  simp only [Nat.sub_zero,Array.getElem?_toList] at g1 g2
  have hrep:RepV S w β (ofD d) e.val:=ofD_rep (hes j (k',d) e g2 g1).2
  cases ok with
  | true =>
   refine⟨.tuple #[e.val,.bool true],by simp [execOp,ho,hmv,Instr.lookup,run_underlying hT,MapKept.run_getObj_map hh,hchk,hq],?_⟩
   simp only [lookR,lookV,hfd,Option.isSome_some]
   exact .tuple _ _ rfl (RepL.cons hrep (RepL.cons (.d _ _ (.bool _)) .nil)).2
  | false =>
   refine⟨e.val,by simp [execOp,ho,hmv,Instr.lookup,run_underlying hT,MapKept.run_getObj_map hh,hchk,hq],?_⟩
   simpa only [lookR,lookV,hfd] using hrep
end Go.Abs
namespace Go.Abs
open Go
variable {P:Program} {o:Oper} {ρ:Rho} {bx:Boxes}
theorem opT_makeFunc {f:FuncId} {caps:Array Operand} (ho:o.op=.makeFunc (.func f) #[] caps):OpT P o ρ bx (.clo f (caps.toList.map ρ)) bx []:=by
 refine OpT.of_value fun C S w β a hi ha=>?_
 refine⟨.func (.func f) #[] (caps.map a.eval),by simp [execOp,ho,Instr.makeFunc],?_⟩
 have:=RepL.evals (ρ:=ρ) (S:=S) (w:=w) (β:=β) (a:=a) caps.toList fun x hx=>ha x (mo ho (by simp [Op.operands];simpa using hx))
 have h2:caps.map a.eval=⟨caps.toList.map a.eval⟩:=by apply Array.ext';simp
 rw [h2]
 exact .clo f _ _ this.1 this.2
theorem opT_sliceAcc {T e sz k:Nat} {x y:Operand} (ho:o.op=.slice T x (some y) none none)(hkf:k≤999999) {rs:List (List D)} {ik:IntKind} {i:Int} (hx:ρ x=.acc k)(hb:(k,BoxC.rows sz rs)∈bx)
  (hy:ρ y=.d (.int ik i)) (hT:selem P T=some e) (hs:tsize P e=some sz) (h0:0≤i) (h1:i≤rs.length) :
  OpT P o ρ bx (.acc k) ((k,.rows sz (rs.drop i.toNat))::bpurge k (berase k bx)) [k]:=by
 intro C S w β a hi ha
 have hx1:=ha x (mC ho);rw [hx] at hx1
 have hv:a.eval x=sval (β k):=by generalize a.eval x=v at hx1;cases hx1;rfl
 have hy1:=ha y (mC ho);rw [hy] at hy1
 have hyv:a.eval y=.int ik i:=hy1.inv_int
 obtain⟨q1,q2,q3,q4,q5,q6,q7⟩:=hi.box k _ hb
 let i':BI:={ β k with off:=if (β k).cap=i.toNat then (β k).off else (β k).off+i.toNat,len:=(β k).len - i.toNat,cap:=(β k).cap - i.toNat }
 have hi1:i.toNat≤(β k).len:=by omega
 obtain⟨h1,h2⟩:=hi.setNew (k:=k) (w':=w) (c:=.rows sz (rs.drop i.toNat)) i' hkf
  (fun b hb'=>⟨(hi.priv k _ hb b hb').1,(hi.priv k _ hb b hb').2.1,.inr ⟨_,hb,hb'⟩⟩) (fun _ _ _=>rfl) rfl rfl rfl (Nat.le_refl _) (fun _=>by
   refine⟨q1,by simp [i',q2],by simp only [i'];omega,by simp;omega,fun row h=>q5 row (List.mem_of_mem_drop h),fun row h=>q6 row (List.mem_of_mem_drop h),?_⟩
   show match (β k).base with | none=>_ | some b=>_
   cases hbase:(β k).base with
   | none=>rw [hbase] at q7;simp only [i'];simp only at q7;omega
   | some b =>
    rw [hbase] at q7
    obtain⟨ty,vs,g1,g2,g3⟩:=q7
    refine⟨ty,vs,g1,?_,?_⟩
    ·simp only [i']
     split
     ·rename_i hc;rw [hc,Nat.sub_self,Nat.add_zero]
      exact Nat.le_trans (Nat.mul_le_mul_right _ (by omega)) g2
     ·rw [show (β k).off+i.toNat+((β k).cap - i.toNat)=(β k).off+(β k).cap by omega];exact g2
    ·intro r j row d v hr hd hv
     rw [List.getElem?_drop] at hr
     have hlt:=(List.getElem?_eq_some_iff.1 hr).1
     refine g3 (i.toNat+r) j row d v hr hd ?_
     rw [← hv]
     simp only [i']
     rw [if_neg (by omega),Nat.add_assoc])
 refine Or.inl ?_
 unfold Oper.wp
 have hrun:(execOp a.eval o).run P w=.ok (.value (sval i')) w:=by
  have hT':=run_selem hT w
  have hlen:(β k).cap=i.toNat→(β k).len=i.toNat:=fun h=>by omega
  simp only [execOp,ho,Instr.sliceAt,hv,hyv,sval,Sem.run_bind,hT',Result.andThen_ok,Instr.slice,Instr.sliceBounds,Instr.sliceBound,Sem.run_pure,Option.map_some,Option.map_none,asIntOf,run_sizeOf' hs]
  rw [if_pos ⟨h0,by omega⟩]
  simp only [Sem.run_pure,Result.andThen_ok,Result.ok.injEq,Next.value.injEq,Value.slice.injEq,and_true,i']
  split
  ·rfl
  ·cases (β k).base with
   | none=>rfl
   | some b=>simp [Addr.add,q1,Nat.add_mul]
 rw [hrun]
 refine⟨_,S,_,rfl,h1,h2,?_,fun j hj=>upd_ne (by simpa using hj)⟩
 have:=RepV.acc (S:=S) (w:=w) (β:=upd β k i') k
 rw [upd_same] at this
 exact this
variable {β:Names}
theorem Inv.turn {C:Ctx} {S S':Nat→Prop} {w w':World} {g:Nat} {Y:Yld} {st st':Option Nat} (hi:Inv C S w β bx)(hb:(g,BoxC.ghost Y st)∈bx) {B B':Nat→Prop}
  (hB:∀ b,B b→¬ S b∧b < w.heap.size∧(C.pre b∨C.w0.heap.size≤b)∧∀ k' c',(k',c')∈bx→(β k').base≠some b)
  (t:TurnsB B S w B' S' w') (hF:C.G.F st' B' S' w'):Inv C S' w' β ((g,.ghost Y st')::berase g bx)∧SExt S w S' w':=by
 refine⟨?_,t.ext⟩
 obtain⟨e1,e2,e3,e4,_⟩:=hi.frn g Y st hb
 have hsz:=hi.size
 have hsz':=t.size
 have hgb:∀ b,(β g).base≠some b:=fun b h=>by have:(β g).base=none:=hi.box g _ hb;rw [this] at h;cases h
 have hold:∀ k c,(k,c)∈(g,BoxC.ghost Y st')::berase g bx→(k=g∧c=.ghost Y st')∨(k≠g∧(k,c)∈bx):=fun k c hk=>by
  rcases List.mem_cons.1 hk with he | hk
  ·simp only [Prod.mk.injEq] at he;exact .inl he
  ·exact .inr (mem_berase.1 hk)
 have hnew:∀ b,B b∨w.heap.size≤b→C.pre b∨C.w0.heap.size≤b:=fun b hb'=>hb'.elim (fun h=>(hB b h).2.2.1) fun h=>.inr (by omega)
 have hbase:∀ k c,(k,c)∈bx→∀ b,(β k).base=some b→¬ B b∧b < w.heap.size∧w'.heap[b]? = w.heap[b]?:=fun k c hk b hb'=>by
  have h1:¬ B b:=fun h=>(hB b h).2.2.2 k c hk hb'
  have h2:=(hi.priv k c hk b hb').2.1
  exact⟨h1,h2,t.kept b h2 h1⟩
 exact {
  S0sub:=fun b hb'=>t.ext.sub b (hi.S0sub b hb')
  Snew:=fun b hb'=>by
   rcases t.new b hb' with h | h
   ·exact hi.Snew b h
   ·exact .inr (hnew b h)
  Slt:=t.lt
  kept:=fun b hb' hp=>by
   rw [← hi.kept b hb' hp]
   refine t.kept b (by omega) fun h=>?_
   rcases (hB b h).2.2.1 with h' | h'
   ·exact hp h'
   ·omega
  os:=t.os.trans hi.os
  tape:=t.tape.trans hi.tape
  output:=t.output.trans hi.output
  size:=by omega
  box:=fun k c hk=>by
   rcases hold k c hk with ⟨rfl,rfl⟩ | ⟨_,hk⟩
   ·exact hi.box _ _ hb
   ·exact (hi.box k c hk).ext t.ext (fun b hb'=>(hbase k c hk b hb').2.2) (fun _ _=>rfl)
  priv:=fun k c hk b hb'=>by
   rcases hold k c hk with ⟨rfl,rfl⟩ | ⟨_,hk⟩
   ·exact absurd hb' (hgb b)
   ·obtain⟨p1,p2,p3⟩:=hi.priv k c hk b hb'
    refine⟨fun hs=>?_,by omega,p3⟩
    rcases t.new b hs with h | h | h
    ·exact p1 h
    ·exact (hbase k c hk b hb').1 h
    ·omega
  inj:=fun k c k' c' hk hk' b h1 h2=>by
   rcases hold k c hk with ⟨rfl,rfl⟩ | ⟨_,hk⟩
   ·exact absurd h1 (hgb b)
   ·rcases hold k' c' hk' with ⟨rfl,rfl⟩ | ⟨_,hk'⟩
    ·exact absurd h2 (hgb b)
    ·exact hi.inj k c k' c' hk hk' b h1 h2
  fix:=hi.fix
  tab:=fun b cs hv=>by
   obtain⟨h1,ty,fr,h2⟩:=hi.tab b cs hv
   exact⟨t.ext.sub b h1,ty,fr,(t.ext.same b h1).trans h2⟩
  one:=fun k1 Y1 s1 k2 Y2 s2 h1 h2=>by
   rcases hold k1 _ h1 with ⟨rfl,he1⟩ | ⟨hn1,h1⟩
   ·rcases hold k2 _ h2 with ⟨rfl,he2⟩ | ⟨hn2,h2⟩
    ·cases he1;cases he2;exact⟨rfl,rfl⟩
    ·exact absurd (hi.one _ _ _ _ _ _ h2 hb).1 hn2
   ·exact absurd (hi.one _ _ _ _ _ _ h1 hb).1 hn1
  frn:=fun k Y' st'' hk=>by
   have hY:Y'=Y∧st''=st':=by
    rcases hold k _ hk with ⟨_,he⟩ | ⟨hne,hk⟩
    ·cases he;exact⟨rfl,rfl⟩
    ·exact absurd (hi.one k Y' st'' g Y st hk hb).1 hne
   obtain⟨rfl,rfl⟩:=hY
   refine⟨e1,e2,e3,fun k' c' hk' b hb'=>?_,B',hF,fun b hb'=>⟨(t.own b hb').1,(t.own b hb').2.1,hnew b (t.own b hb').2.2,fun k' c' hk' he=>?_⟩⟩
   ·rcases hold k' c' hk' with ⟨rfl,rfl⟩ | ⟨_,hk'⟩
    ·exact absurd hb' (hgb b)
    ·exact e4 k' c' hk' b hb'
   ·rcases hold k' c' hk' with ⟨rfl,rfl⟩ | ⟨_,hk'⟩
    ·exact hgb b he
    ·obtain⟨p1,p2,_⟩:=hbase k' c' hk' b he
     rcases (t.own b hb').2.2 with h | h
     ·exact p1 h
     ·omega }
def BoxC.closed:BoxC→Bool
 | .cells cs=>SV.closedAll cs
 | .ghost _ _=>false
 | _=>true
def lend1 (k j:Nat):SV→Option SV
 | .mp i=>if i=k then some (.mp j) else none
 | .box i off=>if i=k then some (.box j off) else none
 | .acc i=>if i=k then some (.acc j) else none
 | x=>coerce [] x
def lendL (k j:Nat):List SV→Option (List SV)
 | []=>some []
 | c::cs=>match lend1 k j c with
  | some x=>match lendL k j cs with
   | some l=>some (x::l)
   | none=>none
  | none=>none
variable {S:Nat→Prop} {w:World}
theorem lendL_rep {C:Ctx} {k j:Nat} (hi:Inv C S w β []):∀ {cs l:List SV} {vs:List Value},lendL k j cs=some l→RepL S w β cs vs→RepL S w (upd β j (β k)) l vs
 | [],l,vs,h,hv=>by
  simp only [lendL,Option.some.injEq] at h;subst h
  exact⟨hv.1,by simp⟩
 | c::cs,l,vs,h,hv=>by
  simp only [lendL] at h
  cases hc:lend1 k j c with
  | none=>simp [hc] at h
  | some x =>
   cases hl:lendL k j cs with
   | none=>simp [hc,hl] at h
   | some m =>
    simp only [hc,hl,Option.some.injEq] at h;subst h
    cases vs with
    | nil=>have:=hv.1;simp at this
    | cons v vs =>
     have q:=lendL_rep hi hl ⟨by have:=hv.1;simpa using this,fun i c v hc hv'=>hv.2 (i+1) c v (by simpa using hc) (by simpa using hv')⟩
     have h1:=hv.2 0 c v rfl rfl
     refine .cons ?_ q
     unfold lend1 at hc
     split at hc
     ·split at hc
      ·simp only [Option.some.injEq] at hc;subst hc;subst_vars
       cases h1 with | mp _ b hb=>exact .mp j b (by rw [upd_same];exact hb)
      ·simp at hc
     ·split at hc
      ·simp only [Option.some.injEq] at hc;subst hc;subst_vars
       cases h1 with | box _ _ b hb=>exact .box j _ b (by rw [upd_same];exact hb)
      ·simp at hc
     ·split at hc
      ·rename_i hik
       simp only [Option.some.injEq] at hc;subst hc
       rw [hik] at h1
       cases h1
       have:=RepV.acc (S:=S) (w:=w) (β:=upd β j (β k)) j
       rw [upd_same] at this
       exact this
      ·simp at hc
     ·obtain⟨p1,p2⟩:=coerce_rep hi (SExt.refl S w) (by simp) hc h1
      exact p1.closed p2
theorem BoxOK.closed {β β':Names} {i:BI} {c:BoxC} (h:BoxOK S w β i c)(hc:c.closed=true):BoxOK S w β' i c:=by
 cases c with
 | rows sz rs=>exact h
 | cells cs =>
  obtain⟨b,ty,vs,h1,h2,h3⟩:=h
  refine⟨b,ty,vs,h1,h2,h3.1,fun j c v hc' hv=>(h3.2 j c v hc' hv).closed (SV.closedAll_true hc j c hc')⟩
 | map kvs=>exact h
 | iter kvs seen=>exact h
 | ghost Y st=>exact h
theorem opT_callBox {f:FuncId} {fo:Operand} {args:Array Operand} {tys:Array TypeId} (ho:o.op=.call { callee:=.value fo,args:=args,argTypes:=tys }) {caps args':List SV} {r:SV} {k j:Nat} {c c':BoxC}
  (hf:ρ fo=.clo f caps) (hb:(k,c)∈bx) (hj:1000000≤j) (hcc:c.closed=true) (hcc':c'.closed=true)
  (hargs:lendL k j (args.toList.map ρ++caps)=some args') (hc:CallB P f args' [(j,c)] r [(j,c')]) (hr:r.closed=true):OpT P o ρ bx r ((k,c')::berase k bx) []:=by
 have hcr:c.real=true:=by cases c <;> first | rfl | simp [BoxC.closed] at hcc
 have hcr':c'.real=true:=by cases c' <;> first | rfl | simp [BoxC.closed] at hcc'
 intro C S w β a hi ha
 have hf1:=(ha fo (mC ho));rw [hf] at hf1
 generalize hfv:a.eval fo=v at hf1
 cases hf1 with
 | clo _ _ cs h1 h2 =>
  have hall:RepL S w β (args.toList.map ρ++caps) (args.toList.map a.eval++cs):=(RepL.evals _ fun x hx=>ha x (mo ho (by simp [Op.operands,Call.operands];simp at hx;exact .inr hx))).append ⟨h1,h2⟩
  have hin0:Inv ⟨w,S,fun _=>False,fun _ _=>False,C.G⟩ S w β []:=hi.begin hi.Slt (fun _ h=>h)
  have g1:=lendL_rep (j:=j) hin0 hargs hall
  have hp:=hi.priv k c hb
  have hin:Inv ⟨w,S,fun i=>(β k).base=some i,fun i x=>i=j∧x = β k,C.G⟩ S w (upd β j (β k)) [(j,c)]:={
   S0sub:=fun _ h=>h
   Snew:=fun _ h=>.inl h
   Slt:=hi.Slt
   kept:=fun _ _ _=>rfl
   os:=rfl
   tape:=rfl
   output:=rfl
   size:=Nat.le_refl _
   box:=fun k' c'' hk'=>by
    simp only [List.mem_cons,Prod.mk.injEq,List.not_mem_nil,or_false] at hk'
    obtain⟨rfl,rfl⟩:=hk'
    rw [upd_same]
    exact (hi.box k _ hb).closed hcc
   priv:=fun k' c'' hk' b' hb'=>by
    simp only [List.mem_cons,Prod.mk.injEq,List.not_mem_nil,or_false] at hk'
    obtain⟨rfl,rfl⟩:=hk'
    rw [upd_same] at hb'
    exact⟨(hp b' hb').1,(hp b' hb').2.1,.inl hb'⟩
   inj:=fun k1 c1 k2 c2 h1 h2 b' hb1 hb2=>by
    simp only [List.mem_cons,Prod.mk.injEq,List.not_mem_nil,or_false] at h1 h2
    obtain⟨rfl,rfl⟩:=h1
    obtain⟨rfl,rfl⟩:=h2
    exact⟨rfl,rfl⟩
   tab:=hi.tab
   one:=fun k' Y st k'' Y' st' hk'=>by
    simp only [List.mem_cons,Prod.mk.injEq,List.not_mem_nil,or_false] at hk'
    obtain⟨_,rfl⟩:=hk'
    simp [BoxC.real] at hcr
   frn:=fun k' Y st hk'=>by
    simp only [List.mem_cons,Prod.mk.injEq,List.not_mem_nil,or_false] at hk'
    obtain⟨_,rfl⟩:=hk'
    simp [BoxC.real] at hcr
   fix:=fun k' b' h=>by
    obtain⟨rfl,rfl⟩:=h
    exact⟨hj,by rw [upd_same]⟩ }
  have hcall:=hc.2 ⟨w,S,fun i=>(β k).base=some i,fun i x=>i=j∧x = β k,C.G⟩ _ _ hin g1
  refine Or.inl ?_
  unfold Oper.wp
  rw [run_enter hc.1 ho hfv,Oper.upon_enter]
  have hargsEq:args.map a.eval++(⟨cs⟩:Array Value)=⟨args.toList.map a.eval++cs⟩:=by apply Array.ext';simp
  rw [hargsEq]
  refine hcall.mono ?_
  rintro e w' ⟨v,S',β',rfl,hk,hv⟩
  have hfix:β' j = β k:=(hk.fix j _ ⟨rfl,rfl⟩).2
  have hpk:∀ b,(β k).base=some b→¬ S' b∧b < w'.heap.size:=fun b hb'=>by
   have:=hk.priv j c' (by simp) b (by rw [hfix];exact hb');exact⟨this.1,this.2.1⟩
  have hkept:∀ b',b' < w.heap.size→(β k).base≠some b'→w'.heap[b']? = w.heap[b']?:=fun b' h1 h2=>hk.kept b' h1 h2
  have e1:SExt S w (fun b=>S b∨(S' b∧w.heap.size≤b)) w':=⟨fun _ h=>.inl h,fun b' hb'=>hkept b' (hi.Slt b' hb') fun he=>(hp b' he).1 hb'⟩
  have e2:SExt S' w' (fun b=>S b∨(S' b∧w.heap.size≤b)) w':=⟨fun b' hb'=>by
   rcases hk.Snew b' hb' with h | h | h
   ·exact .inl h
   ·exact ((hpk b' h).1 hb').elim
   ·exact .inr ⟨hb',h⟩,fun _ _=>rfl⟩
  have hsz:w.heap.size≤w'.heap.size:=hk.size
  refine⟨v,_,β,rfl,?_,e1,(hv.ext e2 (fun _ _=>rfl)).closed hr,fun _ _=>rfl⟩
  refine hi.step e1 (fun b' hb'=>hb'.imp id (·.2)) ?_ (fun b' hb' hn'=>hkept b' hb' fun he=>hn' k c hb he) hk.os hk.tape hk.output hsz ?_ ?_ (fun _ _=>rfl) ?_
  ·intro b' hb'
   rcases hb' with hb' | hb'
   ·have:=hi.Slt b' hb';omega
   ·exact hk.Slt b' hb'.1
  ·intro k' c'' hk'
   simp only [List.mem_cons,Prod.mk.injEq] at hk'
   rcases hk' with ⟨rfl,rfl⟩ | hk'
   ·refine⟨?_,fun b' hb'=>?_⟩
    ·have:=(BoxOK.ext (hk.box j _ (by simp)) e2 (fun _ _=>rfl) (fun _ _=>rfl)).closed (β':=β) hcc'
     rw [hfix] at this;exact this
    ·exact⟨fun h=>h.elim (hp b' hb').1 fun h=>(hpk b' hb').1 h.1,(hpk b' hb').2,.inr ⟨_,c,hb,hb'⟩⟩
   ·obtain⟨hne,hk'⟩:=mem_berase.1 hk'
    refine⟨(hi.box k' c'' hk').ext e1 (fun b' hb'=>?_) (fun _ _=>rfl),fun b' hb'=>?_⟩
    ·exact hkept b' (hi.priv k' c'' hk' b' hb').2.1 fun he=>hne (hi.inj k' c'' k c hk' hb b' hb' he).1
    ·obtain⟨p1,p2,_⟩:=hi.priv k' c'' hk' b' hb'
     exact⟨fun h=>h.elim p1 fun h=>by omega,by omega,.inr ⟨k',c'',hk',hb'⟩⟩
  ·intro k1 c1 k2 c2 h1 h2 b' hb1 hb2
   simp only [List.mem_cons,Prod.mk.injEq] at h1 h2
   rcases h1 with ⟨rfl,rfl⟩ | h1
   ·rcases h2 with ⟨rfl,rfl⟩ | h2
    ·exact⟨rfl,rfl⟩
    ·obtain⟨hne,h2⟩:=mem_berase.1 h2
     exact absurd (hi.inj k2 c2 _ c h2 hb b' hb2 hb1).1 hne
   ·rcases h2 with ⟨rfl,rfl⟩ | h2
    ·obtain⟨hne,h1⟩:=mem_berase.1 h1
     exact absurd (hi.inj k1 c1 _ c h1 hb b' hb1 hb2).1 hne
    ·obtain⟨hne,h1⟩:=mem_berase.1 h1
     obtain⟨_,h2⟩:=mem_berase.1 h2
     exact hi.inj k1 c1 k2 c2 h1 h2 b' hb1 hb2
  ·intro k' Y st hk'
   simp only [List.mem_cons,Prod.mk.injEq] at hk'
   rcases hk' with ⟨_,rfl⟩ | hk'
   ·simp [BoxC.real] at hcr'
   ·exact (mem_berase.1 hk').2
theorem opT_callGhost {f:FuncId} {fo:Operand} {args:Array Operand} {tys:Array TypeId} (ho:o.op=.call { callee:=.value fo,args:=args,argTypes:=tys }) {caps args':List SV} {r:SV} {g:Nat} {Y:Yld} {st st':Option Nat}
  (hf:ρ fo=.clo f caps) (hb:(g,BoxC.ghost Y st)∈bx) (hargs:coerceL [] (args.toList.map ρ++caps)=some args') (hc:CallB P f args' [(1000000,.ghost Y st)] r [(1000000,.ghost Y st')]) (hr:r.closed=true) :
  OpT P o ρ bx r ((g,.ghost Y st')::berase g bx) []:=by
 intro C S w β a hi ha
 have hf1:=(ha fo (mC ho));rw [hf] at hf1
 generalize hfv:a.eval fo=v at hf1
 cases hf1 with
 | clo _ _ cs h1 h2 =>
  have hall:RepL S w β (args.toList.map ρ++caps) (args.toList.map a.eval++cs):=(RepL.evals _ fun x hx=>ha x (mo ho (by simp [Op.operands,Call.operands];simp at hx;exact .inr hx))).append ⟨h1,h2⟩
  have hin0:Inv ⟨w,S,fun _=>False,fun _ _=>False,C.G⟩ S w β []:=hi.begin hi.Slt (fun _ h=>h)
  obtain⟨g1,g2⟩:=coerceL_rep hin0 (SExt.refl S w) (by simp) hargs hall
  obtain⟨e1,e2,e3,e4,B,e5,e6⟩:=hi.frn g Y st hb
  have hsz0:=hi.size
  have hin:Inv ⟨w,S,B,fun _ _=>False,C.G⟩ S w (upd β 1000000 { base:=none }) [(1000000,.ghost Y st)]:={
   S0sub:=fun _ h=>h
   Snew:=fun _ h=>.inl h
   Slt:=hi.Slt
   kept:=fun _ _ _=>rfl
   os:=rfl
   tape:=rfl
   output:=rfl
   size:=Nat.le_refl _
   box:=fun k' c'' hk'=>by
    simp only [List.mem_cons,Prod.mk.injEq,List.not_mem_nil,or_false] at hk'
    obtain⟨rfl,rfl⟩:=hk'
    rw [upd_same]
    rfl
   priv:=fun k' c'' hk' b' hb'=>by
    simp only [List.mem_cons,Prod.mk.injEq,List.not_mem_nil,or_false] at hk'
    obtain⟨rfl,rfl⟩:=hk'
    rw [upd_same] at hb'
    cases hb'
   inj:=fun k1 c1 k2 c2 h1 h2 b' hb1 hb2=>by
    simp only [List.mem_cons,Prod.mk.injEq,List.not_mem_nil,or_false] at h1 h2
    obtain⟨rfl,rfl⟩:=h1
    obtain⟨rfl,rfl⟩:=h2
    exact⟨rfl,rfl⟩
   fix:=fun _ _ h=>h.elim
   tab:=hi.tab
   one:=fun k1 Y1 s1 k2 Y2 s2 h1 h2=>by
    simp only [List.mem_cons,Prod.mk.injEq,BoxC.ghost.injEq,List.not_mem_nil,or_false] at h1 h2
    obtain⟨rfl,rfl,rfl⟩:=h1
    obtain⟨rfl,rfl,rfl⟩:=h2
    exact⟨rfl,rfl⟩
   frn:=fun k' Y' st'' hk'=>by
    simp only [List.mem_cons,Prod.mk.injEq,BoxC.ghost.injEq,List.not_mem_nil,or_false] at hk'
    obtain⟨rfl,rfl,rfl⟩:=hk'
    have hno:∀ k' c',(k',c')∈[(1000000,BoxC.ghost Y' st'')]→∀ b,(upd β 1000000 { base:=none } k').base≠some b:=fun k' c' hk' b hb'=>by
     simp only [List.mem_cons,Prod.mk.injEq,List.not_mem_nil,or_false] at hk'
     obtain⟨rfl,rfl⟩:=hk'
     rw [upd_same] at hb'
     cases hb'
    exact⟨e1,e2,Nat.le_trans e3 hsz0,fun k' c' hk' b hb'=>absurd hb' (hno k' c' hk' b),B,e5,fun b hb'=>⟨(e6 b hb').1,(e6 b hb').2.1,.inl hb',fun k' c' hk'=>hno k' c' hk' b⟩⟩ }
  have hcall:=hc.2 ⟨w,S,B,fun _ _=>False,C.G⟩ _ _ hin ⟨g1.1,fun j c v hc' hv=>(g1.2 j c v hc' hv).closed (SV.closedAll_true g2 j c hc')⟩
  refine Or.inl ?_
  unfold Oper.wp
  rw [run_enter hc.1 ho hfv,Oper.upon_enter]
  have hargsEq:args.map a.eval++(⟨cs⟩:Array Value)=⟨args.toList.map a.eval++cs⟩:=by apply Array.ext';simp
  rw [hargsEq]
  refine hcall.mono ?_
  rintro e w' ⟨v,S',β',rfl,hk,hv⟩
  obtain⟨_,_,_,_,B',q5,q6⟩:=hk.frn 1000000 Y st' (by simp)
  have hsz:w.heap.size≤w'.heap.size:=hk.size
  have hS:∀ b,S' b→S b∨B b∨w.heap.size≤b:=fun b hb'=>hk.Snew b hb'
  have t:TurnsB B S w B' S' w':=⟨⟨hk.S0sub,fun b hb'=>hk.kept b (hi.Slt b hb') fun h=>(e6 b h).1 hb'⟩,hS,hk.Slt,fun b hb'=>⟨(q6 b hb').1,(q6 b hb').2.1,(q6 b hb').2.2.1⟩,fun b hb' hn=>hk.kept b hb' hn,hk.os,hk.tape,hk.output,hsz⟩
  obtain⟨r1,r2⟩:=hi.turn hb e6 t q5
  exact⟨v,S',β,rfl,r1,r2,hv.closed hr,fun _ _=>rfl⟩
theorem opT_yield {fo x:Operand} {tys:Array TypeId} (ho:o.op=.call { callee:=.value fo,args:=#[x],argTypes:=tys }) {g l j:Nat} {Y:Yld} {y:SV} (hf:ρ fo=.yld l)(hb:(g,BoxC.ghost Y (some j))∈bx)
  (hx:coerce [] (ρ x)=some y) (hP:Y.P=P) (hl:Y.l=l) (hN:j < Y.N) (hy:Y.xs j=y):OpT P o ρ bx (.d (.bool (Y.go j))) ((g,.ghost Y (Y.next j))::berase g bx) []:=by
 intro C S w β a hi ha
 have hf1:=(ha fo (mC ho));rw [hf] at hf1
 generalize hfv:a.eval fo=v at hf1
 cases hf1
 have hin0:Inv ⟨w,S,fun _=>False,fun _ _=>False,C.G⟩ S w β []:=hi.begin hi.Slt (fun _ h=>h)
 obtain⟨g1,_⟩:=coerce_rep hin0 (SExt.refl S w) (by simp) hx (ha x (mC ho))
 obtain⟨e1,e2,e3,e4,B,e5,e6⟩:=hi.frn g Y (some j) hb
 subst e1
 subst hP
 subst hl
 subst hy
 obtain⟨f,tmps,assign,body,h1,h2⟩:=e2.round j B S w β _ hN e5 hi.Slt (fun b hb'=>⟨(e6 b hb').1,(e6 b hb').2.1⟩) g1
 refine Or.inr ⟨C.G.Y.l,f,tmps,assign,body,w,?_,h2.mono ?_⟩
 ·simp [execOp,ho,resolve,Deferred.ofValue,hfv,invoke,h1]
 ·rintro e w' ⟨S',B',rfl,q5,t⟩
  obtain⟨r1,r2⟩:=hi.turn hb e6 t q5
  exact⟨.bool (C.G.Y.go j),S',β,rfl,r1,r2,.bool _,fun _ _=>rfl⟩
def loN (ρ:Rho):Option Operand→Option Nat
 | none=>some 0
 | some y=>match ρ y with
  | .d (.int _ i)=>if 0≤i then some i.toNat else none
  | _=>none
def hiN (ρ:Rho)(n:Nat):Option Operand→Option Nat
 | none=>some n
 | some y=>match ρ y with
  | .d (.int _ i)=>if 0≤i then some i.toNat else none
  | _=>none
theorem run_bounds {a:Act} {lo hi:Option Operand} {n cap l h:Nat} {t:Bool} (ha:∀ x,x∈lo.toList++hi.toList→RepV S w β (ρ x) (a.eval x))(hlo:loN ρ lo=some l)(hhi:hiN ρ n hi=some h)(h1:l≤h)(h2:h≤n)(h3:n≤cap) :
  (Instr.sliceBounds t n cap (lo.map a.eval) (hi.map a.eval) none).run P w=.ok (l,h,cap) w:=by
 have key:∀ (y:Operand) (m:Nat),RepV S w β (ρ y) (a.eval y)→(match ρ y with | .d (.int _ i)=>if 0≤i then some i.toNat else none | _=>none)=some m→∃ k,a.eval y=.int k (m:Int):=by
  intro y m hv hm
  split at hm
  ·rename_i k i he
   rw [he] at hv
   split at hm
   ·rename_i h0
    simp only [Option.some.injEq] at hm
    subst hm
    exact⟨k,by rw [hv.inv_int,Int.toNat_of_nonneg h0]⟩
   ·simp at hm
  ·simp at hm
 have b1:∀ (k:IntKind) (m q:Nat) (code:BoundsCode),m≤q→(Instr.sliceBound (.int k (m:Int)) q code).run P w=.ok m w:=by
  intro k m q code hq
  simp only [Instr.sliceBound,asIntOf,Sem.run_bind,Sem.run_pure,Result.andThen_ok]
  rw [if_pos ⟨by omega,by omega⟩];simp
 cases hi with
 | none =>
  simp only [hiN,Option.some.injEq] at hhi
  subst hhi
  cases lo with
  | none =>
   simp only [loN,Option.some.injEq] at hlo
   subst hlo
   simp [Instr.sliceBounds]
  | some y =>
   obtain⟨k,hk⟩:=key y l (ha y (by simp)) (by simpa [loN] using hlo)
   simp [Instr.sliceBounds,hk,b1 k l n _ h1]
 | some z =>
  obtain⟨k',hk'⟩:=key z h (ha z (by simp)) (by simpa [hiN] using hhi)
  cases lo with
  | none =>
   simp only [loN,Option.some.injEq] at hlo
   subst hlo
   simp [Instr.sliceBounds,hk',b1 k' h cap _ (by omega)]
  | some y =>
   obtain⟨k,hk⟩:=key y l (ha y (by simp)) (by simpa [loN] using hlo)
   simp [Instr.sliceBounds,hk,hk',b1 k l h _ h1,b1 k' h cap _ (by omega)]
theorem opT_cutSlice {T e sz:Nat} {x:Operand} {lo hi:Option Operand} (ho:o.op=.slice T x lo hi none) {rows:List (List D)} (hx:ρ x=.d (.slice rows))(hT:selem P T=some e)(hs:tsize P e=some sz)
  (hrow:∀ row,row∈rows→row.length=sz) {l h:Nat} (hlo:loN ρ lo=some l) (hhi:hiN ρ rows.length hi=some h) (h1:l≤h) (h2:h≤rows.length):OpT P o ρ bx (.d (.slice ((rows.take h).drop l))) bx []:=by
 refine .of_value fun C S w β a hinv ha=>?_
 have hx1:=ha x (mC ho);rw [hx] at hx1
 have hbounds:∀ cap,rows.length≤cap→(Instr.sliceBounds true rows.length cap (lo.map a.eval) (hi.map a.eval) none).run P w=.ok (l,h,cap) w:=fun cap hc =>
  run_bounds (ρ:=ρ) (S:=S) (β:=β) (fun y hy=>ha y (mo ho (by
   simp only [Op.operands]
   rcases List.mem_append.1 hy with hy | hy <;> simp only [Option.mem_toList] at hy <;> subst hy <;> simp))) hlo hhi h1 h2 hc
 have hT':=run_selem hT w
 have run:∀ (p:Option Addr) (cap:Nat),rows.length≤cap→a.eval x=.slice p rows.length cap→(execOp a.eval o).run P w=.ok (.value (.slice (if cap=l then p else p.map (·.add (l*sz))) (h - l) (cap - l))) w:=by
  intro p cap hc hv
  simp only [execOp,ho,Instr.sliceAt,hv,Sem.run_bind,hT',Result.andThen_ok,Instr.slice,Option.map_none,hbounds cap hc,run_sizeOf' hs,Sem.run_pure]
 generalize hv:a.eval x=v at hx1
 have hd:=hx1.inv_d
 have hlen:((rows.take h).drop l).length=h - l:=by simp;omega
 cases hd with
 | slice0 p cap hp =>
  have:=run p cap (by simp) (by rw [hv];rfl)
  simp only [List.length_nil,Nat.le_zero] at h2
  subst h2
  have hl0:l=0:=by omega
  subst hl0
  refine⟨_,this,.d _ _ ?_⟩
  simp only [List.take_nil,List.drop_nil,Nat.sub_zero,Nat.zero_mul]
  have hpp:(if cap=0 then p else p.map (·.add 0))=p:=by
   split
   ·rfl
   ·cases p <;> simp [Addr.add]
  rw [hpp]
  exact .slice0 p cap hp
 | slice _ b off cap sz' hb hl1 hl2 hr hone hcell hrep =>
  have:=run (some ⟨b,off,none⟩) cap hl2 hv
  refine⟨_,this,.d _ _ ?_⟩
  by_cases he:h=l
  ·subst he
   have:(rows.take h).drop h=[]:=List.eq_nil_of_length_eq_zero (by rw [hlen];omega)
   rw [this,Nat.sub_self]
   have hsome:∃ q,(if cap=h then (some ⟨b,off,none⟩:Option Addr) else (some ⟨b,off,none⟩:Option Addr).map (·.add (h*sz)))=some q:=by split <;> exact⟨_,rfl⟩
   obtain⟨q,hq⟩:=hsome
   rw [hq]
   exact .slice0 (some q) _ (by simp)
  ·have hlt:l < rows.length:=by omega
   have hsz:sz'=sz:=by rw [← hr rows[l] (List.getElem_mem hlt),hrow rows[l] (List.getElem_mem hlt)]
   subst hsz
   rw [if_neg (by omega)]
   simp only [Option.map_some,add_addr]
   rw [← hlen]
   have hget:∀ (i:Nat) (row:List D),((rows.take h).drop l)[i]? = some row→rows[l+i]? = some row:=by
    intro i row hi'
    rw [List.getElem?_drop] at hi'
    have hlt:=(List.getElem?_eq_some_iff.1 hi').1
    rw [List.length_take] at hlt
    rw [List.getElem?_take_of_lt (by omega)] at hi'
    exact hi'
   have hmem:∀ row,row∈(rows.take h).drop l→row∈rows:=fun row hm=>List.mem_of_mem_take (List.mem_of_mem_drop hm)
   refine .slice _ b (off+l*sz') (cap - l) sz' hb (by omega) (by omega) (fun row hm=>hr row (hmem row hm)) (fun row hm=>hone row (hmem row hm)) ?_ ?_
   ·intro i j hi' hj
    have:=hcell (l+i) j (by omega) hj
    rw [Nat.add_mul] at this
    rw [show off+l*sz'+(i*sz'+j)=off+(l*sz'+i*sz'+j) by omega]
    exact this
   ·intro i j row d v hi' hd hv
    refine hrep (l+i) j row d v (hget i row hi') hd ?_
    rw [Nat.add_mul]
    rw [show off+l*sz'+(i*sz'+j)=off+(l*sz'+i*sz'+j) by omega] at hv
    exact hv
theorem opT_cutStr {T:Nat} {x:Operand} {lo hi:Option Operand} (ho:o.op=.slice T x lo hi none) {s:Str} (hx:ρ x=.d (.str s))(hT:P.underlying T=some .string)
  {l h:Nat} (hlo:loN ρ lo=some l) (hhi:hiN ρ s.length hi=some h) (h1:l≤h) (h2:h≤s.length):OpT P o ρ bx (.d (.str ((s.take h).drop l))) bx []:=by
 refine .of_value fun C S w β a hinv ha=>?_
 have hx1:=ha x (mC ho);rw [hx] at hx1
 obtain⟨hv,hsl⟩:=hx1.inv_str
 have hb:=run_bounds (P:=P) (t:=false) (n:=s.length) (cap:=s.length) (w:=w) (a:=a) (ρ:=ρ) (S:=S) (β:=β) (fun y hy=>ha y (mo ho (by
   simp only [Op.operands]
   rcases List.mem_append.1 hy with hy | hy <;> simp only [Option.mem_toList] at hy <;> subst hy <;> simp))) hlo hhi h1 h2 (Nat.le_refl _)
 have hu:=run_underlying hT w
 have hsz:(mkStr s).size=s.length:=mkStr_size s
 refine⟨.string (mkStr ((s.take h).drop l)),?_,.d _ _ (.str _ ?_)⟩
 ·have hex:(mkStr s).extract l h=mkStr ((s.take h).drop l):=by
   apply ByteArray.ext
   rw [ByteArray.data_extract]
   apply Array.ext'
   simp [mkStr,List.drop_take,List.extract_eq_take_drop]
   try (congr 1;omega)
  simp only [execOp,ho,Instr.sliceAt,hv,Sem.run_bind,hu,Result.andThen_ok,Instr.slice,Option.map_none,Option.isSome_none,Bool.false_eq_true,if_false,Sem.run_pure,hsz,hb,hex]
 ·simp only [List.length_drop,List.length_take];omega
theorem opT_makeSlice {T e sz bytes k:Nat} {x y:Operand} (hkf:k≤999999)(ho:o.op=.makeSlice T x y) {kx ky:IntKind} {n m:Int} (hx:ρ x=.d (.int kx n))(hy:ρ y=.d (.int ky m))(hE:ElemT P T e sz bytes) {zd:List D}
  (hz:tzero P e=some (zd.map SV.d)) (hone:∀ d,d∈zd→d.one=true) (h0:0≤n) (hnm:n≤m) (hm:m*(bytes:Int)≤(lim:Int)) (hsz:1≤sz):OpT P o ρ bx (.acc k) ((k,.rows sz (List.replicate n.toNat zd))::bpurge k (berase k bx)) [k]:=by
 intro C S w β a hi ha
 have hx1:=ha x (mC ho);rw [hx] at hx1
 have hy1:=ha y (mC ho);rw [hy] at hy1
 have hxv:=hx1.inv_int
 have hyv:=hy1.inv_int
 obtain⟨i,z,hi1,hi2,hi3⟩:∃ i z,P.info? e=some i∧i.zero=some z∧z.cells.toList.map constSV=zd.map SV.d:=by
  unfold tzero at hz
  cases hq:P.info? e with
  | none=>simp [hq] at hz
  | some i =>
   simp only [hq,Option.bind_some] at hz
   cases hq2:i.zero with
   | none=>simp [hq2] at hz
   | some z=>exact⟨i,z,rfl,hq2,by simpa [hq2] using hz⟩
 have hisz:i.size=sz:=by have:=hE.hsize;unfold tsize at this;rw [hi1] at this;simpa using this
 have hib:i.bytes=bytes:=by have:=hE.hbytes;rw [hi1] at this;simpa using this
 have hzl:zd.length=sz:=by
  have:=hE.hzero;rw [hz] at this;simpa using this
 have hzc:z.cells.size=sz:=by
  have:=congrArg List.length hi3
  simp only [List.length_map,Array.length_toList] at this
  omega
 have hT:P.underlying T=some (.slice e):=by
  have:=hE.hT;unfold selem at this
  split at this
  ·simp only [Option.some.injEq] at this;subst this;assumption
  ·simp at this
 have hb1:1≤bytes:=by have:=hE.hpos;omega
 have hml:m≤(lim:Int):=by
  have h1:m*1≤m*(bytes:Int):=Int.mul_le_mul_of_nonneg_left (by omega) (by omega)
  omega
 have hrun:=Go.run_make (P:=P) w T e i z hT hi1 hi2 kx ky n m h0 hnm (by rw [hib,Int.mul_comm];unfold lim at hm;omega) (by unfold lim at hml;omega)
 rw [hisz] at hrun
 have hcells:∀ (j:Nat),j < m.toNat*sz→(madeCells z.cells (m.toNat*sz)).toList[j]? = z.cells[j % sz]?:=by
  intro j hj
  have hlt:j % sz < z.cells.size:=by rw [hzc];exact Nat.mod_lt _ (by omega)
  simp only [madeCells,Array.getElem?_toList,Array.getElem?_map,Array.getElem?_range,hj,if_true,Option.map_some,hzc]
  rw [Array.getElem?_eq_getElem hlt,getElem!_pos z.cells (j % sz) hlt]
 obtain⟨h1,h2⟩:=hi.setNew (k:=k) (w':=w.alloc (.cells (madeCells z.cells (m.toNat*sz)) e)) (c:=.rows sz (List.replicate n.toNat zd)) { base:=some w.heap.size,len:=n.toNat,cap:=m.toNat,sz:=sz } hkf (by
   intro b hb;cases hb
   exact⟨fun h=>by have:=hi.Slt _ h;omega,by simp [-World.alloc_eq,World.alloc],.inl (Nat.le_refl _)⟩)
  (fun b hb _=>RowKit.Below.heap_alloc w _ b hb) rfl rfl rfl (by simp [-World.alloc_eq,World.alloc]) (fun _=>by
   refine⟨rfl,by simp,by simp only;omega,by simp;unfold lim at *;omega,?_,?_,e,(madeCells z.cells (m.toNat*sz)).toList,by simp [-World.alloc_eq,World.alloc],by simp [size_madeCells],?_⟩
   ·intro row hr;rw [(List.mem_replicate.1 hr).2,hzl]
   ·intro row hr d hd;rw [(List.mem_replicate.1 hr).2] at hd;exact hone d hd
   ·intro r j row d v hr hd hv
    have hrl:=(List.getElem?_eq_some_iff.1 hr).1
    rw [List.length_replicate] at hrl
    have hrow:row=zd:=(List.mem_replicate.1 (List.mem_of_getElem? hr)).2
    subst hrow
    have hjl:=(List.getElem?_eq_some_iff.1 hd).1
    have hlt:r*sz+j < m.toNat*sz:=by
     have:(r+1)*sz≤m.toNat*sz:=Nat.mul_le_mul_right _ (by omega)
     rw [Nat.add_mul] at this;omega
    simp only [Nat.zero_add] at hv
    rw [hcells _ hlt,Nat.mul_comm,Nat.mul_add_mod,Nat.mod_eq_of_lt (by omega)] at hv
    have hcv:(z.cells.toList.map constSV)[j]? = some (constSV v):=by rw [List.getElem?_map];simp [hv]
    rw [hi3,List.getElem?_map,hd] at hcv
    simp only [Option.map_some,Option.some.injEq] at hcv
    have:=repV_const S (w.alloc (.cells (madeCells z.cells (m.toNat*sz)) e)) β v
    rw [← hcv] at this
    exact this.inv_d)
 refine Or.inl ?_
 unfold Oper.wp
 rw [show (execOp a.eval o).run P w=.ok (.value (.slice (some ⟨w.heap.size,0,none⟩) n.toNat m.toNat)) (w.alloc (.cells (madeCells z.cells (m.toNat*sz)) e)) by
  simp [execOp,ho,hxv,hyv,hrun]]
 refine⟨_,S,_,rfl,h1,h2,?_,fun j hj=>upd_ne (by simpa using hj)⟩
 have:=RepV.acc (S:=S) (w:=w.alloc (.cells (madeCells z.cells (m.toNat*sz)) e)) (β:=upd β k { base:=some w.heap.size,len:=n.toNat,cap:=m.toNat,sz:=sz }) k
 rw [upd_same] at this
 simpa using this
theorem opT_copy {T U e sz k:Nat} {x y:Operand} (ho:o.op=.call { callee:=.builtin .copy,args:=#[x,y],argTypes:=#[T,U] }) {rs xs:List (List D)} (hT:selem P T=some e)(hs:tsize P e=some sz)
  (hx:ρ x=.acc k) (hb:(k,BoxC.rows sz rs)∈bx) (hy:IsSrc bx sz (ρ y) xs) (hle:xs.length≤rs.length) :
  OpT P o ρ bx (.d (.int .i64 xs.length)) ((k,.rows sz (xs++rs.drop xs.length))::berase k bx) []:=by
 intro C S w β a hi ha
 obtain⟨vs,hsrc⟩:=hy.src (P:=P) hi ((ha y (mC ho)))
 have hx1:=(ha x (mC ho));rw [hx] at hx1
 have hv:a.eval x=sval (β k):=by generalize a.eval x=v at hx1;cases hx1;rfl
 obtain⟨g1,g2,g3,g4,g5,g6,g7⟩:=hi.box k _ hb
 have hcells:=hsrc.cells xs.length w rfl (fun _ _=>rfl)
 have hmin:Nat.min xs.length (β k).len=xs.length:=by rw [← g2];exact Nat.min_eq_left hle
 have hop:(execOp a.eval o).run P w=((Builtin.copy_ #[T,U] o.type #[sval (β k),a.eval y]).run P w).andThen fun v w=>.ok (.value v) w:=by
  simp [execOp,ho,resolve,invoke,builtin,hv]
 refine Or.inl ?_
 unfold Oper.wp
 rw [hop]
 cases hbase:(β k).base with
 | none =>
  rw [hbase] at g7
  simp only at g7
  have hr:rs=[]:=List.eq_nil_of_length_eq_zero (by omega)
  subst hr
  have hxs:xs=[]:=List.eq_nil_of_length_eq_zero (by simpa using hle)
  subst hxs
  have hvs:vs=[]:=List.eq_nil_of_length_eq_zero (by rw [hsrc.flat.len];simp)
  subst hvs
  have hrun:(Builtin.copy_ #[T,U] o.type #[sval (β k),a.eval y]).run P w=.ok (goInt 0) w:=by
   simp only [List.length_nil] at hmin hcells
   have hl0:=hsrc.len
   simp only [List.length_nil] at hl0
   simp [Builtin.copy_,sval,hbase,run_selem hT,run_sizeOf' hs,hl0,hmin,hcells]
  rw [hrun]
  exact⟨_,S,β,rfl,hi.sub fun j c hj=>by
   simp only [List.length_nil,List.drop_nil,List.append_nil,List.mem_cons,Prod.mk.injEq] at hj
   rcases hj with ⟨rfl,rfl⟩ | hj
   ·exact hb
   ·exact (mem_berase.1 hj).2,SExt.refl S w,.int _ _,fun _ _=>rfl⟩
 | some b =>
  rw [hbase] at g7
  obtain⟨ty,bs,hh,hfit,hrep⟩:=g7
  subst g1
  have hl:=hsrc.flat.len
  have hfit':(β k).off*(β k).sz+0+vs.length≤bs.length:=by
   have:((β k).off+xs.length)*(β k).sz≤((β k).off+(β k).cap)*(β k).sz:=Nat.mul_le_mul_right _ (by omega)
   simp only [Nat.add_mul] at this hfit;omega
  obtain⟨w',hrun,q1,q2,q3,q4,q5,q6⟩:=run_storeCells' (P:=P) vs bs b ((β k).off*(β k).sz) 0 ty w hh hfit' hsrc.one
  have hcp:(Builtin.copy_ #[T,U] o.type #[sval (β k),a.eval y]).run P w=.ok (goInt xs.length) w':=by
   simp [Builtin.copy_,sval,hbase,run_selem hT,run_sizeOf' hs,hsrc.len,hmin,hcells,hrun]
  rw [hcp]
  have e0:SExt S w S w':=⟨fun _ h=>h,fun b' hb'=>q2 b' fun he=>(hi.priv k _ hb b hbase).1 (he ▸ hb')⟩
  obtain⟨p1,p2⟩:=hi.setSame (w':=w') (c:=.rows (β k).sz (xs++rs.drop xs.length)) hb hbase (fun b' hb'=>q2 b' hb') q3 q4 q5 (by omega) (by
   refine⟨rfl,by simp;omega,g3,by simp;omega,?_,?_,?_⟩
   ·intro row hr
    rcases List.mem_append.1 hr with hr | hr
    ·exact hsrc.flat.row row hr
    ·exact g5 row (List.mem_of_mem_drop hr)
   ·intro row hr
    rcases List.mem_append.1 hr with hr | hr
    ·exact hsrc.flat.one row hr
    ·exact g6 row (List.mem_of_mem_drop hr)
   ·rw [hbase]
    refine⟨ty,setAll bs ((β k).off*(β k).sz+0) vs,q1,by rw [setAll_length];exact hfit,?_⟩
    intro r j row d v hr hd hv
    rw [setAll_get _ _ _ _ (by simpa using hfit')] at hv
    by_cases hlt:r < xs.length
    ·rw [List.getElem?_append_left hlt] at hr
     have hj:j < (β k).sz:=by rw [← hsrc.flat.row row (List.mem_of_getElem? hr)];exact (List.getElem?_eq_some_iff.1 hd).1
     have hidx:r*(β k).sz+j < vs.length:=by
      have:(r+1)*(β k).sz≤xs.length*(β k).sz:=Nat.mul_le_mul_right _ (by omega)
      rw [Nat.add_mul] at this;omega
     rw [if_pos (by rw [Nat.add_mul];omega)] at hv
     rw [show ((β k).off+r)*(β k).sz+j - ((β k).off*(β k).sz+0)=r*(β k).sz+j by rw [Nat.add_mul];omega] at hv
     exact (hsrc.flat.rep r j row d v hr hd hv).ext e0
    ·rw [List.getElem?_append_right (by omega),List.getElem?_drop] at hr
     rw [show xs.length+(r - xs.length)=r by omega] at hr
     have hidx:vs.length≤r*(β k).sz:=by
      rw [hl];exact Nat.mul_le_mul_right _ (by omega)
     rw [if_neg (by rw [Nat.add_mul];omega)] at hv
     exact (hrep r j row d v hr hd hv).ext e0)
  exact⟨_,S,β,rfl,p1,p2,.int _ _,fun _ _=>rfl⟩
end Go.Abs
