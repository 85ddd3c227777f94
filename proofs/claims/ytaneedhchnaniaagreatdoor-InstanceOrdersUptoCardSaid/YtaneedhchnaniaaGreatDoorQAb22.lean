/- ranges over maps that nobody writes; calls that are lent several boxes; contracts with more than one possible outcome that change boxes -/
import Derived.Maps.RangeRun
import Derived.Test.YtaneedhchnaniaaGreatDoorQAb21
set_option linter.unusedVariables false
set_option linter.unusedSimpArgs false
namespace Go.Abs
set_option linter.unusedSimpArgs false
set_option linter.unusedVariables false
open Go
set_option maxRecDepth 100000
variable {ro:Option Nat} {P:Program} {n:Nat} {Q:Exit→SL→Boxes→Prop} {sl:SL} {bx:Boxes} {o:Oper} {ρ:Rho}
variable {x:Operand}
theorem opT_range {T kt et k:Nat} (hkf:k≤999999)(ho:o.op=.range T x) {kvs:List (D × D)} (hx:ρ x=.d (.map kvs))(hT:P.underlying T=some (.map kt et)) :
  OpT P o ρ bx (.box k 0) ((k,.iter kvs [])::bpurge k (berase k bx)) [k]:=by
 intro C S w β a hi ha
 have hx1:=ha x (mC ho);rw [hx] at hx1
 have hx2:=hx1.inv_d
 generalize hxv:a.eval x=xv at hx2
 cases hx2 with
 | map _ m es clock hS hh hz g1 g2 =>
  have hm:m < w.heap.size:=hi.Slt m hS
  obtain⟨h1,h2⟩:=hi.setNew (k:=k) (w':={ w with heap:=w.heap.push (.mapIter (some m) clock #[] clock) }) (c:=.iter kvs []) { base:=some w.heap.size } hkf (by
    intro b hb;cases hb
    exact⟨fun h=>by have:=hi.Slt _ h;omega,by simp,.inl (Nat.le_refl _)⟩)
   (fun b hb _=>by simp [Array.getElem?_push,Nat.ne_of_lt hb]) rfl rfl rfl (by simp) (fun e=>by
    refine⟨w.heap.size,m,es,clock,#[],rfl,by simp,hS,(e.2 m hS).trans hh,hz,fun r kv x hr hx=>⟨(g1 r kv x hr hx).ext e,(g2 r kv x hr hx).ext e⟩,by simp,by simp⟩)
  refine Or.inl ?_
  unfold Oper.wp
  have:(execOp a.eval o).run P w=.ok (.value (.pointer (some ⟨w.heap.size,0,none⟩))) { w with heap:=w.heap.push (.mapIter (some m) clock #[] clock) }:=by
   simp [execOp,ho,hxv,Instr.range,run_underlying hT,MapKept.run_getObj_map hh,newObj];rfl
  rw [this]
  exact⟨_,S,_,rfl,h1,h2,.box k 0 _ (by rw [upd_same]),fun j hj=>upd_ne (by simpa using hj)⟩
theorem opT_entry {k r:Nat} (ho:o.op=.entry x) {kvs:List (D × D)} {t:List Nat} {kv:D × D} (hx:ρ x=.box k 0)(hb:(k,BoxC.iter kvs (r::t))∈bx)(hr:kvs[r]? = some kv) :
  OpT P o ρ bx (.tuple [ofD kv.1,ofD kv.2]) bx []:=by
 refine OpT.of_value fun C S w β a hi ha=>?_
 have hx1:=ha x (mC ho);rw [hx] at hx1
 obtain⟨b,hbase,hxv⟩:=hx1.inv_box
 obtain⟨b',m,es,clock,sn,g1,g2,hS,hm,hz,g3,g4,g5⟩:=hi.box k _ hb
 rw [hbase] at g1
 cases g1
 obtain⟨e,he,hs⟩:=g5 r t rfl
 have hmem:e∈es.toList:=by have:=Array.mem_of_getElem? he;simpa using this
 have hf:es.find? (·.born == e.born)=some e:=by rw [← Array.find?_toList];exact find_born e es.toList hz.2.2 hmem
 refine⟨.tuple #[e.key,e.val],?_,?_⟩
 ·simp [execOp,ho,hxv,Instr.entry,getObj,Sem.run_bind,Sem.run,g2,hm,Result.andThen,hs,hf] <;> rfl
 ·exact .tuple _ [e.key,e.val] rfl fun j c v hc hv=>by
   match j with
   | 0=>simp at hc hv;subst hc hv;exact ofD_rep (g3 r kv e hr he).1
   | 1=>simp at hc hv;subst hc hv;exact ofD_rep (g3 r kv e hr he).2
   | j+2=>simp at hc
variable {k:Nat}
theorem opP_next (ho:o.op=.next x false) {kvs:List (D × D)} {seen:List Nat} (hx:ρ x=.box k 0)(hb:(k,BoxC.iter kvs seen)∈bx) :
  OpP P o ρ bx fun r bx'=>(r=.tuple [.d (.bool false)]∧bx'=bx∧∀ i,i < kvs.length→i∈seen) ∨
   ∃ i kv,kvs[i]? = some kv∧i ∉ seen∧r=.tuple [.d (.bool true),ofD kv.1,ofD kv.2]∧bx'=(k,.iter kvs (i::seen))::berase k bx:=by
 intro C S w β a hi ha
 have hx1:=ha x (mC ho);rw [hx] at hx1
 obtain⟨b,hbase,hxv⟩:=hx1.inv_box
 have hbo:=hi.box k _ hb
 obtain⟨b',m,es,clock,sn,g1,g2,hS,hm,hz,g3,g4,g5⟩:=hbo
 rw [hbase] at g1
 cases g1
 have hp:=hi.priv k _ hb b hbase
 have hes:∀ i,i < kvs.length→∃ e,es[i]? = some e:=fun i hi=>⟨es[i]'(by have:=hz.1;omega),Array.getElem?_eq_getElem _⟩
 refine Or.inl ?_
 unfold Oper.wp
 rcases run_next_at (P:=P) w 0 b m clock clock sn es clock g2 hm hz.2.1 (Nat.le_refl _) with ⟨h0,hrun⟩ | ⟨e,he,w1,hw1,hrun⟩
 ·have:(execOp a.eval o).run P w=.ok (.value (.tuple #[.bool false])) w:=by
   simp only [execOp,ho,hxv]
   first | (rw [Sem.run_bind];erw [hrun];rfl) | (simp [hrun])
  rw [this]
  refine⟨.tuple [.d (.bool false)],bx,_,S,β,.inl ⟨rfl,rfl,fun i hi=>?_⟩,rfl,hi,SExt.refl S w,.tuple _ [.bool false] rfl ?_,fun _ _=>rfl⟩
  ·obtain⟨e,he⟩:=hes i hi
   have h1:=all_seen es sn h0 e (by have:=Array.mem_of_getElem? he;simpa using this)
   rw [g4 i e he] at h1
   simpa using h1
  ·intro j c v hc hv
   cases j with
   | zero=>simp at hc hv;subst hc hv;exact .bool false
   | succ j=>simp at hc
 ·obtain⟨hem,hnew⟩:=mem_left he
  obtain⟨i,hie⟩:=List.getElem?_of_mem hem
  have hie':es[i]? = some e:=by simpa using hie
  have hil:i < kvs.length:=by have:=(Array.getElem?_eq_some_iff.1 hie').1;have:=hz.1;omega
  obtain⟨w2,hw2⟩:∃ w2,w2=ChangeMaps.setBlock w1 b (.mapIter (some m) clock (sn.push e.born) clock):=⟨_,rfl⟩
  have hh1:w1.heap=w.heap:=by rcases hw1 with rfl | rfl <;> rfl
  have hsz2:w2.heap.size=w.heap.size:=by rw [hw2];simp [ChangeMaps.setBlock,hh1]
  have hoth:∀ b',b'≠b→w2.heap[b']? = w.heap[b']?:=fun b' hb'=>by rw [hw2];simp [ChangeMaps.setBlock,hh1,Array.getElem?_setIfInBounds,Ne.symm hb']
  have hat:w2.heap[b]? = some (.mapIter (some m) clock (sn.push e.born) clock):=by rw [hw2];simp [ChangeMaps.setBlock,hh1,Array.getElem?_setIfInBounds,hp.2.1]
  have hmb:m≠b:=fun h=>hp.1 (h ▸ hS)
  have hos:w2.os=w.os:=by rw [hw2];rcases hw1 with rfl | rfl <;> rfl
  have htp:w2.tape=w.tape:=by rw [hw2];rcases hw1 with rfl | rfl <;> rfl
  have hou:w2.output=w.output:=by rw [hw2];rcases hw1 with rfl | rfl <;> rfl
  have e0:SExt S w S w2:=⟨fun _ h=>h,fun b' hb'=>hoth b' fun he=>hp.1 (he ▸ hb')⟩
  obtain⟨i1,i2⟩:=hi.setSame hb hbase hoth hos htp hou hsz2 (c:=.iter kvs (i::seen)) (by
   refine⟨b,m,es,clock,sn.push e.born,hbase,hat,hS,(hoth m hmb).trans hm,hz,fun r kv x hr hx=>⟨(g3 r kv x hr hx).1.ext e0,(g3 r kv x hr hx).2.ext e0⟩,fun r x hx=>?_,fun r t ht=>?_⟩
   ·rw [contains_push,g4 r x hx]
    have:(x.born == e.born)=(r == i):=by
     by_cases hri:r=i
     ·subst hri
      rw [hie'] at hx
      cases hx
      simp
     ·have:¬ x.born=e.born:=fun hbn=>hri (by
       have hx':es.toList[r]? = some x:=by simpa using hx
       have h1:(es.toList.map (·.born))[r]? = some e.born:=by rw [List.getElem?_map,hx'];simp [hbn]
       have h2:(es.toList.map (·.born))[i]? = some e.born:=by rw [List.getElem?_map,hie];rfl
       exact (List.getElem?_inj (List.getElem?_eq_some_iff.1 h1).1 hz.2.2).1 (h1.trans h2.symm))
      rw [show (x.born == e.born)=false by simpa using this,show (r == i)=false by simpa using hri]
    rw [this,List.contains_cons]
    cases seen.contains r <;> cases (r == i) <;> rfl
   ·simp only [List.cons.injEq] at ht
    obtain⟨rfl,rfl⟩:=ht
    exact⟨e,hie',by simp⟩)
  have:(execOp a.eval o).run P w=.ok (.value (.tuple #[.bool true,e.key,e.val])) w2:=by
   simp only [execOp,ho,hxv]
   rw [hw2]
   first | (rw [Sem.run_bind];erw [hrun];rfl) | (simp [hrun])
  rw [this]
  refine⟨.tuple [.d (.bool true),ofD kvs[i].1,ofD kvs[i].2],_,_,S,β,.inr ⟨i,kvs[i],List.getElem?_eq_getElem hil,?_,rfl,rfl⟩,rfl,i1,i2,.tuple _ [.bool true,e.key,e.val] rfl ?_,fun _ _=>rfl⟩
  ·have:=g4 i e hie'
   rw [hnew] at this
   simpa using this.symm
  ·have hg:=g3 i kvs[i] e (List.getElem?_eq_getElem hil) hie'
   intro j c v hc hv
   match j with
   | 0=>simp at hc hv;subst hc hv;exact .bool true
   | 1=>simp at hc hv;subst hc hv;exact ofD_rep (hg.1.ext e0)
   | 2=>simp at hc hv;subst hc hv;exact ofD_rep (hg.2.ext e0)
   | j+3=>simp at hc
def CallR (P:Program)(f:FuncId)(args:List SV)(pre:Boxes)(R:SV→Boxes→Prop):Prop :=
 Enters P f∧∀ (C:Ctx) (β:Names) (vs:List Value),Inv C C.S0 C.w0 β pre→RepL C.S0 C.w0 β args vs →
  Calls P f ⟨vs⟩ C.w0 (fun e w'=>∃ r v post S' β',R r post∧e=.returned v∧Inv C S' w' β' post∧RepV S' w' β' r v)
theorem CallB.toR {f:FuncId} {args:List SV} {pre post:Boxes} {r:SV} {R:SV→Boxes→Prop} (h:CallB P f args pre r post)(hr:R r post):CallR P f args pre R :=
 ⟨h.1,fun C β vs hi hv=>(h.2 C β vs hi hv).mono fun _ _ ⟨v,S',β',h1,h2,h3⟩=>⟨r,v,post,S',β',hr,h1,h2,h3⟩⟩
theorem CallR.imp {f:FuncId} {args:List SV} {pre:Boxes} {R R':SV→Boxes→Prop} (h:CallR P f args pre R)(hr:∀ r post,R r post→R' r post):CallR P f args pre R' :=
 ⟨h.1,fun C β vs hi hv=>(h.2 C β vs hi hv).mono fun _ _ ⟨r,v,post,S',β',h0,h1,h2,h3⟩=>⟨r,v,post,S',β',hr r post h0,h1,h2,h3⟩⟩
def retR (P:Program)(fn:Func)(R:SV→Boxes→Prop)(e:Exit)(sl:SL)(bx:Boxes):Prop :=
 match e with
 | .normal | .ret=>∃ xs r post,resL P bx sl fn.results.toList=some xs∧(wrapRes xs=r∨coerce [] (wrapRes xs)=some r)∧ble bx post∧R r post
 | _=>False
theorem CallR.of_body {f:FuncId} {fn:Func} {c:Code} {args:List SV} {pre:Boxes} {R:SV→Boxes→Prop} (hf:P.funcs[f]? = some fn)(hb:fn.body=some c)(hn:(fn.name == "runtime.NumGoroutine")=false)(hm:args.length≤fn.ntmps)
  (h:AWp none P fn.ntmps c (retR P fn R) (argSl 0 args) pre):CallR P f args pre R:=by
 refine⟨⟨fn,hf,hn,by rw [hb];rfl⟩,?_⟩
 intro C β vs hi hv
 refine calls_of_marks hf hb ?_
 refine wpIn_mono (h C C.S0 C.w0 β _ (St.start hi hv hm)) ?_
 rintro e a' w' ⟨sl',bx',S',β',q,hs⟩
 have key:(∃ xs r post,resL P bx' sl' fn.results.toList=some xs∧(wrapRes xs=r∨coerce [] (wrapRes xs)=some r)∧ble bx' post∧R r post)→LeavesInM Fence.wide 0 P fn a'.tmps (fun e w'=>∃ r v post S' β',R r post∧e=.returned v∧Inv C S' w' β' post∧RepV S' w' β' r v) a'.defers .returning w':=by
  rintro⟨xs,r,post,h1,h2,h5,hR⟩
  refine hs.leave fun w' hs=>?_
  obtain⟨v,h3,h4⟩:=run_results (P:=P) hs h1
  refine⟨v,h3,r,v,post,S',β',hR,rfl,hs.inv.sub (ble_mem h5),?_⟩
  rcases h2 with rfl | h2
  ·exact h4
  ·exact (coerce_rep (hs.inv.sub (bx':=[]) (by simp)) (SExt.refl _ _) (by simp) h2 h4).1
 cases e with
 | normal=>exact key q
 | ret=>exact key q
 | _=>exact q.elim
mutual
def lendR (g:Nat→Nat)(ks:List Nat):SV→Option SV
 | .mp i=>if ks.contains i then some (.mp (g i)) else none
 | .box i off=>if ks.contains i then some (.box (g i) off) else none
 | .acc i=>if ks.contains i then some (.acc (g i)) else none
 | .clo f cs=>match lendRL g ks cs with
  | some l=>some (.clo f l)
  | none=>none
 | .agg cs=>match coerceL [] cs with
  | some l=>if l.all SV.one then some (.agg l) else none
  | none=>none
 | .d .nil=>some (.d (.slice []))
 | .d .emp=>some (.d (.slice []))
 | .d x=>some (.d x)
 | .undef=>some .undef
 | .yld l=>some (.yld l)
 | .dptr c off=>some (.dptr c off)
 | _=>none
def lendRL (g:Nat→Nat)(ks:List Nat):List SV→Option (List SV)
 | []=>some []
 | c::cs=>match lendR g ks c with
  | some x=>match lendRL g ks cs with
   | some l=>some (x::l)
   | none=>none
  | none=>none
end
mutual
theorem lendR_rep {C:Ctx} {S:Nat→Prop} {w:World} {β β1:Names} {g:Nat→Nat} {ks:List Nat} (hi:Inv C S w β [])(hg:∀ k,k∈ks→β1 (g k) = β k):∀ {x y:SV} {v:Value},lendR g ks x=some y→RepV S w β x v→RepV S w β1 y v
 | .mp i,y,v,h,hv=>by
  simp only [lendR] at h
  split at h
  ·rename_i hk
   simp only [Option.some.injEq] at h;subst h
   cases hv with | mp _ b hb=>exact .mp _ b (by rw [hg i (by simpa using hk)];exact hb)
  ·simp at h
 | .box i off,y,v,h,hv=>by
  simp only [lendR] at h
  split at h
  ·rename_i hk
   simp only [Option.some.injEq] at h;subst h
   cases hv with | box _ _ b hb=>exact .box _ off b (by rw [hg i (by simpa using hk)];exact hb)
  ·simp at h
 | .acc i,y,v,h,hv=>by
  simp only [lendR] at h
  split at h
  ·rename_i hk
   simp only [Option.some.injEq] at h;subst h
   cases hv
   rw [← hg i (by simpa using hk)]
   exact .acc _
  ·simp at h
 | .clo f cs,y,v,h,hv=>by
  simp only [lendR] at h
  cases hc:lendRL g ks cs with
  | none=>simp [hc] at h
  | some l =>
   simp only [hc,Option.some.injEq] at h;subst h
   cases hv with
   | clo _ _ vs h1 h2 =>
    have:=lendRL_rep hi hg hc (vs:=vs) ⟨h1,h2⟩
    exact .clo f l vs this.1 this.2
 | .agg cs,y,v,h,hv=>by
  have h':coerce [] (.agg cs)=some y:=by
   simp only [lendR] at h
   simp only [coerce]
   cases hc:coerceL [] cs with
   | none=>simp [hc] at h
   | some l=>simp only [hc] at h ⊢;exact h
  obtain⟨p1,p2⟩:=coerce_rep hi (SExt.refl S w) (by simp) h' hv
  exact p1.closed p2
 | .d x,y,v,h,hv=>by
  have h':coerce [] (.d x)=some y:=by cases x <;> simpa only [lendR,coerce] using h
  obtain⟨p1,p2⟩:=coerce_rep hi (SExt.refl S w) (by simp) h' hv
  exact p1.closed p2
 | .undef,y,v,h,hv=>by simp only [lendR,Option.some.injEq] at h;subst h;exact .undef v
 | .yld l,y,v,h,hv=>by
  simp only [lendR,Option.some.injEq] at h;subst h
  exact hv.closed rfl
 | .dptr c off,y,v,h,hv=>by
  simp only [lendR,Option.some.injEq] at h;subst h
  exact hv.closed rfl
 | .tuple cs,y,v,h,hv=>by simp [lendR] at h
 | .aptr _ _ _,y,v,h,hv=>by simp [lendR] at h
 | .vptr _ _,y,v,h,hv=>by simp [lendR] at h
theorem lendRL_rep {C:Ctx} {S:Nat→Prop} {w:World} {β β1:Names} {g:Nat→Nat} {ks:List Nat} (hi:Inv C S w β [])(hg:∀ k,k∈ks→β1 (g k) = β k):∀ {cs l:List SV} {vs:List Value},lendRL g ks cs=some l→RepL S w β cs vs→RepL S w β1 l vs
 | [],l,vs,h,hv=>by
  simp only [lendRL,Option.some.injEq] at h;subst h
  exact⟨hv.1,by simp⟩
 | c::cs,l,vs,h,hv=>by
  simp only [lendRL] at h
  cases hc:lendR g ks c with
  | none=>simp [hc] at h
  | some x =>
   cases hl:lendRL g ks cs with
   | none=>simp [hc,hl] at h
   | some m =>
    simp only [hc,hl,Option.some.injEq] at h;subst h
    cases vs with
    | nil=>have:=hv.1;simp at this
    | cons v vs =>
     have q:=lendRL_rep hi hg hl (vs:=vs) ⟨by have:=hv.1;simpa using this,fun i c v hc hv'=>hv.2 (i+1) c v (by simpa using hc) (by simpa using hv')⟩
     exact .cons (lendR_rep hi hg hc (hv.2 0 c v rfl rfl)) q
end
def bhas (k:Nat):List Nat→Bool
 | []=>false
 | a::l=>if a=k then true else bhas k l
theorem bhas_iff :∀ {l:List Nat},bhas k l=true↔k∈l
 | []=>by simp [bhas]
 | a::l=>by
  simp only [bhas,List.mem_cons]
  by_cases h:a=k
  ·simp [h]
  ·rw [if_neg h,bhas_iff]
   exact⟨.inr,fun h'=>h'.resolve_left fun e=>h e.symm⟩
def berases (ks:List Nat):Boxes→Boxes
 | []=>[]
 | (k,c)::r=>if bhas k ks=true then berases ks r else (k,c)::berases ks r
theorem mem_berases {ks:List Nat} {c:BoxC} :∀ {bx:Boxes},(k,c)∈berases ks bx↔k ∉ ks∧(k,c)∈bx
 | []=>by simp [berases]
 | (j,d)::r=>by
  simp only [berases]
  by_cases h:bhas j ks=true
  ·rw [if_pos h,mem_berases (bx:=r)]
   have hj:=bhas_iff.1 h
   constructor
   ·rintro⟨h1,h2⟩;exact⟨h1,List.mem_cons_of_mem _ h2⟩
   ·rintro⟨h1,h2⟩
    refine⟨h1,(List.mem_cons.1 h2).resolve_left fun e=>?_⟩
    simp only [Prod.mk.injEq] at e
    exact h1 (e.1 ▸ hj)
  ·rw [if_neg h,List.mem_cons,mem_berases (bx:=r),List.mem_cons]
   constructor
   ·rintro (h1 | h1)
    ·simp only [Prod.mk.injEq] at h1
     exact⟨fun h2=>h (bhas_iff.2 (h1.1 ▸ h2)),.inl (by simp [h1.1,h1.2])⟩
    ·exact⟨h1.1,.inr h1.2⟩
   ·rintro⟨h1,h2 | h2⟩
    ·exact .inl h2
    ·exact .inr ⟨h1,h2⟩
theorem opP_callR {f:FuncId} (g:Nat→Nat)(L:Boxes) {fo:Operand} {args:Array Operand} {tys:Array TypeId} (ho:o.op=.call { callee:=.value fo,args:=args,argTypes:=tys }) {caps args':List SV} {R:SV→Boxes→Prop}
  (hf:ρ fo=.clo f caps) (hL:∀ k c,(k,c)∈L→(k,c)∈bx) (hg:∀ k,k∈L.map (·.1)→1000000≤g k) (hnd:((L.map (·.1)).map g).Nodup) (hon:bxOnly (L.map (·.1)) L=true)
  (hargs:lendRL g (L.map (·.1)) (args.toList.map ρ++caps)=some args')
  (hc:CallR P f args' (renBx g L) fun r post=>∃ L',post=renBx g L'∧L'.map (·.1)=L.map (·.1)∧bxOnly (L.map (·.1)) L'=true∧r.closed=true∧R r L') :
  OpP P o ρ bx fun r bx'=>∃ L',R r L'∧bx'=L'++berases (L.map (·.1)) bx:=by
 obtain⟨ks,hks⟩:∃ ks,ks=L.map (·.1):=⟨_,rfl⟩
 rw [← hks] at hg hnd hon hargs hc ⊢
 have hinj:=nodup_inj hnd
 have hndk:ks.Nodup:=by
  have:∀ l:List Nat,(l.map g).Nodup→l.Nodup:=fun l=>by
   induction l with
   | nil=>simp
   | cons a l ih =>
    simp only [List.map_cons,List.nodup_cons]
    rintro⟨h1,h2⟩
    exact⟨fun h=>h1 (List.mem_map_of_mem h),ih h2⟩
  exact this ks hnd
 have hkeyL:∀ {L':Boxes},L'.map (·.1)=ks→∀ k c,(k,c)∈L'→k∈ks:=fun hk k c hm=>by rw [← hk];exact List.mem_map.2 ⟨_,hm,rfl⟩
 have huniq:∀ {L':Boxes},L'.map (·.1)=ks→∀ k c c',(k,c)∈L'→(k,c')∈L'→c=c':=fun {L'} hk k c c' h1 h2=>by
  have hn:(L'.map (·.1)).Nodup:=by rw [hk];exact hndk
  obtain⟨i,hi⟩:=List.getElem?_of_mem h1
  obtain⟨j,hj⟩:=List.getElem?_of_mem h2
  have e1:(L'.map (·.1))[i]? = some k:=by rw [List.getElem?_map,hi];rfl
  have e2:(L'.map (·.1))[j]? = some k:=by rw [List.getElem?_map,hj];rfl
  have:=(List.getElem?_inj (List.getElem?_eq_some_iff.1 e1).1 hn).1 (e1.trans e2.symm)
  subst this
  rw [hi] at hj
  cases hj
  rfl
 have hof:∀ {L':Boxes},L'.map (·.1)=ks→∀ k,k∈ks→∃ c,(k,c)∈L':=fun hk k hm=>by
  rw [← hk] at hm
  obtain⟨⟨k',c⟩,h1,rfl⟩:=List.mem_map.1 hm
  exact⟨c,h1⟩
 intro C S w β a hi ha
 have hf1:=(ha fo (mC ho));rw [hf] at hf1
 generalize hfv:a.eval fo=v at hf1
 cases hf1 with
 | clo _ _ cs0 h1 h2 =>
  have hall:RepL S w β (args.toList.map ρ++caps) (args.toList.map a.eval++cs0):=(RepL.evals _ fun x hx=>ha x (mo ho (by simp [Op.operands,Call.operands];simp at hx;exact .inr hx))).append ⟨h1,h2⟩
  have hin0:Inv ⟨w,S,fun _=>False,fun _ _=>False,C.G⟩ S w β []:=hi.begin hi.Slt (fun _ h=>h)
  obtain⟨β1,hβ1⟩:∃ β1:Names,β1=fun j=>match ks.find? (fun k=>g k == j) with | some k=>β k | none=>β j:=⟨_,rfl⟩
  have hb1:∀ k,k∈ks→β1 (g k) = β k:=fun k hk=>by
   rw [hβ1]
   simp only
   cases hfd:ks.find? (fun k'=>g k' == g k) with
   | none =>
    have:=List.find?_eq_none.1 hfd k hk
    simp at this
   | some k' =>
    have h1:=List.find?_some hfd
    have h2:=List.mem_of_find?_eq_some hfd
    simp only [beq_iff_eq] at h1
    rw [hinj k' k h2 hk h1]
  have g1:=lendRL_rep hin0 hb1 hargs hall
  have hmem:∀ {j d},(j,d)∈renBx g L→∃ k c,(k,c)∈L∧k∈ks∧j=g k∧d=c.ren g:=fun hm=>by
   obtain⟨k,c,q1,q2,q3⟩:=mem_renBx.1 hm
   exact⟨k,c,q1,hkeyL hks.symm k c q1,q2,q3⟩
  have hin:Inv ⟨w,S,fun i=>∃ k,k∈ks∧(β k).base=some i,fun j x=>∃ k,k∈ks∧j=g k∧x = β k,C.G⟩ S w β1 (renBx g L):={
   S0sub:=fun _ h=>h
   Snew:=fun _ h=>.inl h
   Slt:=hi.Slt
   kept:=fun _ _ _=>rfl
   os:=rfl
   tape:=rfl
   output:=rfl
   size:=Nat.le_refl _
   box:=fun j d hj=>by
    obtain⟨k,c,q1,q2,rfl,rfl⟩:=hmem hj
    rw [hb1 k q2]
    exact (hi.box k c (hL k c q1)).ren fun k' hk'=>hb1 k' ((bxOnly_mem hon k c q1).2.2 k' hk')
   priv:=fun j d hj b hb=>by
    obtain⟨k,c,q1,q2,rfl,rfl⟩:=hmem hj
    rw [hb1 k q2] at hb
    have:=hi.priv k c (hL k c q1) b hb
    exact⟨this.1,this.2.1,.inl ⟨k,q2,hb⟩⟩
   inj:=fun j d j' d' hj hj' b hb hb'=>by
    obtain⟨k,c,q1,q2,rfl,rfl⟩:=hmem hj
    obtain⟨k',c',q1',q2',rfl,rfl⟩:=hmem hj'
    rw [hb1 k q2] at hb
    rw [hb1 k' q2'] at hb'
    obtain⟨rfl,rfl⟩:=hi.inj k c k' c' (hL k c q1) (hL k' c' q1') b hb hb'
    exact⟨rfl,rfl⟩
   tab:=hi.tab
   one:=fun j Y st j' Y' st' hj=>by
    obtain⟨k,c,q1,q2,_,q3⟩:=hmem hj
    have:=(bxOnly_mem hon k c q1).2.1
    cases c <;> simp [BoxC.ren,BoxC.real] at q3 this
   frn:=fun j Y st hj=>by
    obtain⟨k,c,q1,q2,_,q3⟩:=hmem hj
    have:=(bxOnly_mem hon k c q1).2.1
    cases c <;> simp [BoxC.ren,BoxC.real] at q3 this
   fix:=fun j x h=>by
    obtain⟨k,hk,rfl,rfl⟩:=h
    exact⟨hg k hk,hb1 k hk⟩ }
  have hcall:=hc.2 ⟨w,S,fun i=>∃ k,k∈ks∧(β k).base=some i,fun j x=>∃ k,k∈ks∧j=g k∧x = β k,C.G⟩ _ _ hin g1
  refine Or.inl ?_
  unfold Oper.wp
  rw [run_enter hc.1 ho hfv,Oper.upon_enter]
  have hargsEq:args.map a.eval++(⟨cs0⟩:Array Value)=⟨args.toList.map a.eval++cs0⟩:=by apply Array.ext';simp
  rw [hargsEq]
  refine hcall.mono ?_
  rintro e w' ⟨r,v,post,S',β',⟨L',rfl,hk',hon',hrc,hR⟩,rfl,hk,hv⟩
  have hfix:∀ k,k∈ks→β' (g k) = β k:=fun k hk1=>(hk.fix (g k) _ ⟨k,hk1,rfl,rfl⟩).2
  have hpk:∀ k,k∈ks→∀ b,(β k).base=some b→¬ S' b∧b < w'.heap.size:=fun k hk1 b hb'=>by
   obtain⟨c,hc1⟩:=hof hk' k hk1
   have:=hk.priv (g k) (c.ren g) (mem_renBx.2 ⟨k,c,hc1,rfl,rfl⟩) b (by rw [hfix k hk1];exact hb')
   exact⟨this.1,this.2.1⟩
  have hLk:∀ k,k∈ks→∃ c,(k,c)∈L∧(k,c)∈bx:=fun k hk1=>by
   obtain⟨c,hc1⟩:=hof hks.symm k hk1
   exact⟨c,hc1,hL k c hc1⟩
  have hpS:∀ k,k∈ks→∀ b,(β k).base=some b→¬ S b∧b < w.heap.size:=fun k hk1 b hb'=>by
   obtain⟨c,_,hc2⟩:=hLk k hk1
   have:=hi.priv k c hc2 b hb'
   exact⟨this.1,this.2.1⟩
  have hkept:∀ b',b' < w.heap.size→(∀ k,k∈ks→(β k).base≠some b')→w'.heap[b']? = w.heap[b']?:=fun b' q1 q2=>hk.kept b' q1 fun⟨k,q3,q4⟩=>q2 k q3 q4
  have e1:SExt S w (fun b=>S b∨(S' b∧w.heap.size≤b)) w':=⟨fun _ h=>.inl h,fun b' hb'=>hkept b' (hi.Slt b' hb') fun k q he=>(hpS k q b' he).1 hb'⟩
  have e2:SExt S' w' (fun b=>S b∨(S' b∧w.heap.size≤b)) w':=⟨fun b' hb'=>by
   rcases hk.Snew b' hb' with h | h | h
   ·exact .inl h
   ·obtain⟨k,q1,q2⟩:=h
    exact ((hpk k q1 b' q2).1 hb').elim
   ·exact .inr ⟨hb',h⟩,fun _ _=>rfl⟩
  have hsz:w.heap.size≤w'.heap.size:=hk.size
  have hmem':∀ k c,(k,c)∈L'++berases ks bx→(k∈ks∧(k,c)∈L')∨(k ∉ ks∧(k,c)∈bx):=fun k c h=>by
   rcases List.mem_append.1 h with h | h
   ·exact .inl ⟨hkeyL hk' k c h,h⟩
   ·exact .inr (mem_berases.1 h)
  refine⟨r,L'++berases ks bx,v,_,β,⟨L',hR,rfl⟩,rfl,?_,e1,(hv.ext e2 (fun _ _=>rfl)).closed hrc,fun _ _=>rfl⟩
  refine hi.step e1 (fun b' hb'=>hb'.imp id (·.2)) ?_ (fun b' hb' hn'=>hkept b' hb' fun k q he=>?_) hk.os hk.tape hk.output hsz ?_ ?_ (fun _ _=>rfl) ?_
  ·intro b' hb'
   rcases hb' with hb' | hb'
   ·have:=hi.Slt b' hb';omega
   ·exact hk.Slt b' hb'.1
  ·obtain⟨c,_,hc2⟩:=hLk k q
   exact hn' k c hc2 he
  ·intro k c hm
   rcases hmem' k c hm with ⟨q1,q2⟩ | ⟨q1,q2⟩
   ·have hb0:=hk.box (g k) (c.ren g) (mem_renBx.2 ⟨k,c,q2,rfl,rfl⟩)
    rw [hfix k q1] at hb0
    refine⟨(BoxOK.unren hb0 fun k' hk2=>hfix k' ((bxOnly_mem hon' k c q2).2.2 k' hk2)).ext e2 (fun _ _=>rfl) (fun _ _=>rfl),fun b' hb'=>?_⟩
    obtain⟨c0,_,hc2⟩:=hLk k q1
    exact⟨fun h=>h.elim (hpS k q1 b' hb').1 fun h=>(hpk k q1 b' hb').1 h.1,(hpk k q1 b' hb').2,.inr ⟨k,c0,hc2,hb'⟩⟩
   ·have hne:∀ b',(β k).base=some b'→∀ k',k'∈ks→(β k').base≠some b':=fun b' hb' k' q3 he=>by
     obtain⟨c0,_,hc2⟩:=hLk k' q3
     exact q1 ((hi.inj k c k' c0 q2 hc2 b' hb' he).1 ▸ q3)
    refine⟨(hi.box k c q2).ext e1 (fun b' hb'=>hkept b' (hi.priv k c q2 b' hb').2.1 (hne b' hb')) (fun _ _=>rfl),fun b' hb'=>?_⟩
    obtain⟨p1,p2,_⟩:=hi.priv k c q2 b' hb'
    exact⟨fun h=>h.elim p1 fun h=>by omega,by omega,.inr ⟨k,c,q2,hb'⟩⟩
  ·intro k1 c1 k2 c2 hm1 hm2 b' hb1' hb2'
   rcases hmem' k1 c1 hm1 with ⟨q1,q2⟩ | ⟨q1,q2⟩ <;> rcases hmem' k2 c2 hm2 with ⟨q1',q2'⟩ | ⟨q1',q2'⟩
   ·obtain⟨c3,_,hc3⟩:=hLk k1 q1
    obtain⟨c4,_,hc4⟩:=hLk k2 q1'
    obtain⟨rfl,_⟩:=hi.inj k1 c3 k2 c4 hc3 hc4 b' hb1' hb2'
    exact⟨rfl,huniq hk' k1 c1 c2 q2 q2'⟩
   ·obtain⟨c3,_,hc3⟩:=hLk k1 q1
    exact (q1' ((hi.inj k1 c3 k2 c2 hc3 q2' b' hb1' hb2').1 ▸ q1)).elim
   ·obtain⟨c4,_,hc4⟩:=hLk k2 q1'
    exact (q1 ((hi.inj k1 c1 k2 c4 q2 hc4 b' hb1' hb2').1.symm ▸ q1')).elim
   ·exact hi.inj k1 c1 k2 c2 q2 q2' b' hb1' hb2'
  ·intro k Y st hm
   rcases hmem' k _ hm with ⟨q1,q2⟩ | ⟨q1,q2⟩
   ·have:=(bxOnly_mem hon' k _ q2).2.1
    simp [BoxC.real] at this
   ·exact q2
theorem opT_callR {f:FuncId} (g:Nat→Nat)(L L':Boxes) {fo:Operand} {args:Array Operand} {tys:Array TypeId} (ho:o.op=.call { callee:=.value fo,args:=args,argTypes:=tys }) {caps args':List SV} {r:SV}
  (hf:ρ fo=.clo f caps) (hL:∀ k c,(k,c)∈L→(k,c)∈bx) (hg:∀ k,k∈L.map (·.1)→1000000≤g k) (hnd:((L.map (·.1)).map g).Nodup) (hon:bxOnly (L.map (·.1)) L=true)
  (hargs:lendRL g (L.map (·.1)) (args.toList.map ρ++caps)=some args')
  (hc:CallB P f args' (renBx g L) r (renBx g L')) (hk:L'.map (·.1)=L.map (·.1)) (hon':bxOnly (L.map (·.1)) L'=true) (hr:r.closed=true) :
  OpT P o ρ bx r (L'++berases (L.map (·.1)) bx) []:=by
 intro C S w β a hi ha
 have h:=opP_callR g L (R:=fun r' L''=>r'=r∧L''=L') ho hf hL hg hnd hon hargs (hc.toR ⟨L',rfl,hk,hon',hr,rfl,rfl⟩) C S w β a hi ha
 refine Oper.wpx_mono h ?_
 rintro a' w' ⟨r',bx',v,S',β',⟨L'',⟨rfl,rfl⟩,rfl⟩,q⟩
 exact⟨v,S',β',q⟩
theorem opB_callR {f:FuncId} (g:Nat→Nat)(L L':Boxes) {fo:Operand} {args:List Operand} {tys:List TypeId} {dst:Option Nat} {caps args':List SV} {r:SV}
  (hf:opnd sl fo=.clo f caps) (hL:ble bx L) (hg:∀ k,k∈L.map (·.1)→1000000≤g k) (hnd:((L.map (·.1)).map g).Nodup) (hon:bxOnly (L.map (·.1)) L=true)
  (hargs:lendRL g (L.map (·.1)) (args.map (opnd sl)++caps)=some args')
  (hc:CallB P f args' (renBx g L) r (renBx g L')) (hk:L'.map (·.1)=L.map (·.1)) (hon':bxOnly (L.map (·.1)) L'=true) (hr:r.closed=true) :
  OpB P sl bx dst (.call ⟨.value fo,args.toArray,tys.toArray⟩) r (L'++berases (L.map (·.1)) bx) []:=fun _ ho _ =>
 opT_callR g L L' ho hf (ble_mem hL) hg hnd hon (by simpa using hargs) hc hk hon' hr
theorem opB_range {T kt et k:Nat} (hkf:k≤999999) {kvs:List (D × D)} (hx:opnd sl x=.d (.map kvs))(hT:P.underlying T=some (.map kt et)) :
  OpB P sl bx (some k) (.range T x) (.box k 0) ((k,.iter kvs [])::bpurge k (berase k bx)) [k]:=fun _ ho _=>opT_range hkf ho hx hT
theorem opB_entry {dst:Option Nat} {k r:Nat} {kvs:List (D × D)} {t:List Nat} {kv:D × D} (hx:opnd sl x=.box k 0)(hb:(k,BoxC.iter kvs (r::t))∈bx)(hr:kvs[r]? = some kv) :
  OpB P sl bx dst (.entry x) (.tuple [ofD kv.1,ofD kv.2]) bx []:=fun _ ho _=>opT_entry ho hx hb hr
end Go.Abs
