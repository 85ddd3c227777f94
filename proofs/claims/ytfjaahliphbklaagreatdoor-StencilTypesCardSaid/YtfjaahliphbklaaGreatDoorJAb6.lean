/- Ranges over functions. Own framework. -/
import Derived.RangeFuncIn
import Derived.Test.YtfjaahliphbklaaGreatDoorJAb5
set_option linter.unusedVariables false
set_option linter.unusedSimpArgs false
namespace Go.Abs
open Go
mutual
def SV.ren (f:Nat→Nat):SV→SV
 | .box k off=>.box (f k) off
 | .acc k=>.acc (f k)
 | .aptr k i off=>.aptr (f k) i off
 | .mp k=>.mp (f k)
 | .agg cs=>.agg (SV.renL f cs)
 | .tuple cs=>.tuple (SV.renL f cs)
 | .clo g cs=>.clo g (SV.renL f cs)
 | .vptr cs off=>.vptr (SV.renL f cs) off
 | .undef=>.undef
 | .d x=>.d x
 | .dptr c off=>.dptr c off
 | .yld l=>.yld l
def SV.renL (f:Nat→Nat):List SV→List SV
 | []=>[]
 | c::cs=>c.ren f::SV.renL f cs
end
theorem SV.renL_eq (f:Nat→Nat):∀ cs:List SV,SV.renL f cs=cs.map (SV.ren f)
 | []=>rfl
 | c::cs=>by simp [SV.renL,SV.renL_eq f cs]
theorem SV.ren_one (f:Nat→Nat)(x:SV):(x.ren f).one=x.one:=by cases x <;> rfl
theorem SV.has_of {k j:Nat} {c:SV} {cs:List SV} (hc:cs[j]? = some c)(h:c.has k=true):SV.hasAny k cs=true:=by
 cases hh:SV.hasAny k cs with
 | false=>rw [SV.hasAny_false hh j c hc] at h;simp at h
 | true=>rfl
theorem RepV.ren {S:Nat→Prop} {w:World} {β β':A0y} {f:Nat→Nat} {x:SV} {v:Value} (h:RepV S w β x v)(hb:∀ k,x.has k=true→β' (f k) = β k):RepV S w β' (x.ren f) v:=by
 induction h with
 | undef v=>exact .undef v
 | d x v h=>exact .d x v h
 | agg cells vs h1 h2 _ ih =>
  simp only [SV.ren,SV.renL_eq];refine .agg _ vs (by simpa using h1) ?_ ?_
  ·intro c hc;obtain⟨c0,hc0,rfl⟩:=List.mem_map.1 hc;rw [SV.ren_one];exact h2 c0 hc0
  ·intro j c v hc hv;rw [List.getElem?_map] at hc;obtain⟨c0,hc0,rfl⟩:=Option.map_eq_some_iff.1 hc;exact ih j c0 v hc0 hv fun k hk=>hb k (by simp only [SV.has];exact SV.has_of hc0 hk)
 | tuple cells vs h1 _ ih =>simp only [SV.ren,SV.renL_eq];refine .tuple _ vs (by simpa using h1) ?_;intro j c v hc hv;rw [List.getElem?_map] at hc;obtain⟨c0,hc0,rfl⟩:=Option.map_eq_some_iff.1 hc;exact ih j c0 v hc0 hv fun k hk=>hb k (by simp only [SV.has];exact SV.has_of hc0 hk)
 | box k off b h=>exact .box _ off b (by rw [hb k (by simp [SV.has])];exact h)
 | dptr cells off b base hs h1 h2 h3=>exact .dptr cells off b base hs h1 h2 h3
 | acc k=>have:=hb k (by simp [SV.has]);rw [← this];exact .acc (f k)
 | aptr k i off b h=>have:=hb k (by simp [SV.has]);rw [← this];exact .aptr (f k) i off b (by rw [this];exact h)
 | mp k b h=>exact .mp _ b (by rw [hb k (by simp [SV.has])];exact h)
 | yld l=>exact .yld l
 | vptr cells off b hs h1 h2 _ ih =>
  simp only [SV.ren,SV.renL_eq];refine .vptr _ off b hs ?_ (by simpa using h2) ?_
  ·intro c hc;obtain⟨c0,hc0,rfl⟩:=List.mem_map.1 hc;rw [SV.ren_one];exact h1 c0 hc0
  ·intro j c v hc hv;rw [List.getElem?_map] at hc;obtain⟨c0,hc0,rfl⟩:=Option.map_eq_some_iff.1 hc;exact ih j c0 v hc0 hv fun k hk=>hb k (by simp only [SV.has];exact SV.has_of hc0 hk)
 | clo g cells vs h1 _ ih =>simp only [SV.ren,SV.renL_eq];refine .clo g _ vs (by simpa using h1) ?_;intro j c v hc hv;rw [List.getElem?_map] at hc;obtain⟨c0,hc0,rfl⟩:=Option.map_eq_some_iff.1 hc;exact ih j c0 v hc0 hv fun k hk=>hb k (by simp only [SV.has];exact SV.has_of hc0 hk)
def BoxC.ren (f:Nat→Nat):BoxC→BoxC
 | .cells cs=>.cells (SV.renL f cs)
 | c=>c
theorem A2h.ren {S:Nat→Prop} {w:World} {β β':A0y} {f:Nat→Nat} {i:BI} {c:BoxC} (h:A2h S w β i c)(hb:∀ k,c.has k=true→β' (f k) = β k):A2h S w β' i (c.ren f):=by
 cases c with
 | cells cs =>obtain⟨b,ty,vs,h1,h2,h3⟩:=h;refine⟨b,ty,vs,h1,h2,?_⟩;rw [SV.renL_eq];refine h3.map (by simp) ?_;intro j x y v hx hy hv;simp only [List.getElem?_map,hx,Option.map_some,Option.some.injEq] at hy;subst hy;exact hv.ren fun k hk=>hb k (by simp only [BoxC.has];exact SV.has_of hx hk)
 | rows sz rs=>exact h
 | map kvs=>exact h
 | ghost Y st=>exact h
mutual
def SV.only (ks:List Nat):SV→Bool
 | .box k _=>ks.contains k
 | .acc k=>ks.contains k
 | .aptr k _ _=>ks.contains k
 | .mp k=>ks.contains k
 | .agg cs=>SV.onlyL ks cs
 | .tuple cs=>SV.onlyL ks cs
 | .clo _ cs=>SV.onlyL ks cs
 | .vptr cs _=>SV.onlyL ks cs
 | .undef=>true
 | .d _=>true
 | .dptr _ _=>true
 | .yld _=>true
def SV.onlyL (ks:List Nat):List SV→Bool
 | []=>true
 | c::cs=>c.only ks && SV.onlyL ks cs
end
mutual
theorem SV.only_has {ks:List Nat} {k:Nat}:∀ {x:SV},x.only ks=true→x.has k=true→k∈ks
 | .box j _,h,hk=>by simp only [SV.only,List.contains_iff_mem] at h;simp only [SV.has,beq_iff_eq] at hk;rw [← hk];exact h
 | .acc j,h,hk=>by simp only [SV.only,List.contains_iff_mem] at h;simp only [SV.has,beq_iff_eq] at hk;rw [← hk];exact h
 | .aptr j _ _,h,hk=>by simp only [SV.only,List.contains_iff_mem] at h;simp only [SV.has,beq_iff_eq] at hk;rw [← hk];exact h
 | .mp j,h,hk=>by simp only [SV.only,List.contains_iff_mem] at h;simp only [SV.has,beq_iff_eq] at hk;rw [← hk];exact h
 | .agg cs,h,hk=>by simp only [SV.only] at h;simp only [SV.has] at hk;exact SV.onlyL_has h hk
 | .tuple cs,h,hk=>by simp only [SV.only] at h;simp only [SV.has] at hk;exact SV.onlyL_has h hk
 | .clo _ cs,h,hk=>by simp only [SV.only] at h;simp only [SV.has] at hk;exact SV.onlyL_has h hk
 | .vptr cs _,h,hk=>by simp only [SV.only] at h;simp only [SV.has] at hk;exact SV.onlyL_has h hk
 | .undef,_,hk=>by simp [SV.has] at hk
 | .d _,_,hk=>by simp [SV.has] at hk
 | .dptr _ _,_,hk=>by simp [SV.has] at hk
 | .yld _,_,hk=>by simp [SV.has] at hk
theorem SV.onlyL_has {ks:List Nat} {k:Nat}:∀ {cs:List SV},SV.onlyL ks cs=true→SV.hasAny k cs=true→k∈ks
 | [],_,hk=>by simp [SV.hasAny] at hk
 | c::cs,h,hk=>by simp only [SV.onlyL,Bool.and_eq_true] at h;simp only [SV.hasAny,Bool.or_eq_true] at hk;exact hk.elim (SV.only_has h.1) (SV.onlyL_has h.2)
end
def BoxC.only (ks:List Nat):BoxC→Bool
 | .cells cs=>SV.onlyL ks cs
 | .ghost _ _=>false
 | _=>true
def F7i (ks:List Nat):A0b→Bool
 | []=>true
 | (k,c)::r=>ks.contains k && c.only ks && F7i ks r
def F8u (ks:List Nat):SL→Bool
 | []=>true
 | (_,x)::r=>x.only ks && F8u ks r
end Go.Abs
namespace Go.Abs
open Go
variable {P:Program} {n:Nat} {Q:Exit→SL→A0b→Prop} {sl:SL} {bx:A0b}
def G0e (β:A0y)(bx:A0b)(b:Nat):Prop:=∃ k c,(k,c)∈bx∧(β k).base=some b
def C1h (bx:A0b):Prop:=∀ k c,(k,c)∈bx→c.real=true
theorem C1h.no {bx:A0b} (h:C1h bx) {k:Nat} {Y:Yld} {st:Option Nat}:(k,BoxC.ghost Y st) ∉ bx:=fun hm=>by have:=h _ _ hm;simp [BoxC.real] at this
theorem Inv.keep {C:Ctx} {S S':Nat→Prop} {w w':World} {β:A0y} {n0:Nat} {B:Nat→Prop} (h:Inv C S w β bx)(hg:C1h bx)(hB:∀ b,G0e β bx b→B b)(hn:C.w0.heap.size≤n0)(k:Keeps n0 B S w S' w'):Inv C S' w' β bx:=by
 have e:SExt S w S' w':=⟨k.sub,fun b hb=>k.same b (.inr (.inr hb))⟩;exact {
  S0sub:=fun b hb=>k.sub b (h.S0sub b hb)
  Snew:=fun b hb=>by
   rcases k.new b hb with hb | hb
   ·exact h.Snew b hb
   ·exact .inr (.inr (by omega))
  Slt:=k.lt
  kept:=fun b hb hp=>(k.same b (.inl (by omega))).trans (h.kept b hb hp)
  os:=k.os.trans h.os
  tape:=k.tape.trans h.tape
  output:=k.output.trans h.output
  size:=Nat.le_trans h.size k.size
  box:=fun j c hj=>(h.box j c hj).ext e (fun b hb=>k.same b (.inr (.inl (hB b ⟨j,c,hj,hb⟩)))) (fun _ _=>rfl)
  priv:=fun j c hj b hb=>⟨k.off b (hB b ⟨j,c,hj,hb⟩),Nat.lt_of_lt_of_le (h.priv j c hj b hb).2.1 k.size,(h.priv j c hj b hb).2.2⟩
  inj:=h.inj
  fix:=h.fix
  tab:=fun b cs hv=>by obtain⟨h1,ty,fr,h2⟩:=h.tab b cs hv;exact⟨e.sub b h1,ty,fr,(e.same b h1).trans h2⟩
  one:=h.one
  frn:=fun j Y st hj=>absurd hj hg.no }
theorem Inv.shut {C:Ctx} {S:Nat→Prop} {w:World} {β:A0y} {D:Nat} {l l':Option (List Deferred)} (h:Inv C S w β bx)(hg:C1h bx)(hn:C.w0.heap.size≤D)(hD:¬ G0e β bx D)(q:w.heap[D]? = some (.deferred l)):Inv C S (w.putObj D (.deferred l')) β bx where
 S0sub:=h.S0sub
 Snew:=h.Snew
 Slt:=fun b hb=>by simpa using h.Slt b hb
 kept:=fun b hb hp=>(World.putObj_heap_other (by omega)).trans (h.kept b hb hp)
 os:=h.os
 tape:=h.tape
 output:=h.output
 size:=by simpa using h.size
 box:=fun k c hk=>(h.box k c hk).shut q (fun he=>hD ⟨k,c,hk,he⟩)
 priv:=fun k c hk b hb=>by simpa using h.priv k c hk b hb
 inj:=h.inj
 fix:=h.fix
 tab:=fun b cs hv=>by obtain⟨h1,ty,fr,h2⟩:=h.tab b cs hv;refine⟨h1,ty,fr,(World.putObj_heap_other ?_).trans h2⟩;rintro rfl;rw [q] at h2;cases h2
 one:=h.one
 frn:=fun j Y st hj=>absurd hj hg.no
theorem Inv.put {C:Ctx} {S:Nat→Prop} {w:World} {β:A0y} {l:Nat} {o:Obj} (h:Inv C S w β bx)(hg:C1h bx)(hl:¬ S l)(hb:¬ G0e β bx l):Inv { C with w0:=C.w0.putObj l o } S (w.putObj l o) β bx:=by
 have hsz:=h.size;have e:SExt S w S (w.putObj l o):=⟨fun _ h=>h,fun b hb'=>World.putObj_heap_other fun he=>hl (he ▸ hb')⟩;exact {
  S0sub:=h.S0sub
  Snew:=fun b hb'=>by simpa using h.Snew b hb'
  Slt:=fun b hb'=>by simpa using h.Slt b hb'
  kept:=fun b hb' hp=>by
   simp only [World.putObj_size] at hb';by_cases he:b=l
   ·subst he;rw [World.putObj_heap_same hb',World.putObj_heap_same (by omega)]
   ·rw [World.putObj_heap_other he,World.putObj_heap_other he];exact h.kept b hb' hp
  os:=h.os
  tape:=h.tape
  output:=h.output
  size:=by simpa using h.size
  box:=fun k c hk=>(h.box k c hk).ext e (fun b hb'=>World.putObj_heap_other fun he=>hb ⟨k,c,hk,he ▸ hb'⟩) (fun _ _=>rfl)
  priv:=fun k c hk b hb'=>by simpa using h.priv k c hk b hb'
  inj:=h.inj
  fix:=h.fix
  tab:=fun b cs hv=>by obtain⟨h1,ty,fr,h2⟩:=h.tab b cs hv;exact⟨h1,ty,fr,(e.same b h1).trans h2⟩
  one:=h.one
  frn:=fun j Y st hj=>absurd hj hg.no }
def G5x (k:Nat):Nat:=if 2000000≤k then k - 2000000 else k
end Go.Abs
namespace Go.Abs
open Go
variable {P:Program} {n:Nat} {Q:Exit→SL→A0b→Prop} {sl:SL} {bx:A0b}
def G1y:Exit→Option Code
 | .ret=>some .ret
 | .exit id=>some (.exit id)
 | _=>none
def G2f (mb:Option Nat→A0b)(go:Nat→Bool)(jump:Exit)(j:Nat)(e:Exit)(sl:SL)(bx:A0b):Prop :=
 match e with
 | .normal=>go j=true∧ble bx (mb (some (j+1)))
 | e=>go j=false∧e=jump∧ble bx (mb none)
def F2u:A0b→Bool
 | []=>true
 | (_,c)::r=>c.real && F2u r
def G3h (P:Program)(n l:Nat)(body:Code)(Q:Exit→SL→A0b→Prop)(sl:SL)(bx:A0b):Prop:=F2u bx=true∧AWp (some l) P n body Q sl bx
structure LoopOK (P:Program)(n:Nat)(p:Tmp)(assign body:Code)(N:Nat)(xs:Nat→SV)(go:Nat→Bool)(jump:Exit)(ks:List Nat)(slR:SL)(mb:Option Nat→A0b):Prop where
 jumpOK:∃ c,G1y jump=some c
 keys:(ks.map G5x).Nodup
 high:∀ k,k∈ks→2000000≤k∨k≤999999
 slOK:F8u (ks.filter (2000000≤·)) slR=true
 mbOK:∀ st,F7i ks (mb st)=true
 pOK:p < n
 closed:∀ j,(xs j).closed=true
 body:∀ j,j < N→(∀ i,i < j→go i=true)→∀ l,AWp (some l) P n assign (A0c (G3h P n l body (G2f mb go jump j)) (fun _ _ _=>False)) ((p,xs j)::slR) (mb (some j))
end Go.Abs
namespace Go.Abs
open Go
variable {P:Program} {n:Nat} {Q:Exit→SL→A0b→Prop} {sl:SL} {bx:A0b}
end Go.Abs
