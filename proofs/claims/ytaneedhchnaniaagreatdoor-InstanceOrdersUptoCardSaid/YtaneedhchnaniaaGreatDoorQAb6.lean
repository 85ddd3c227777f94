/- Ranges over functions. Own framework. -/
import Derived.RangeFuncIn
import Derived.Test.YtaneedhchnaniaaGreatDoorQAb5
set_option linter.unusedVariables false
set_option linter.unusedSimpArgs false
namespace Go.Abs
open Go
mutual
def SV.ren (f:Nat→Nat):SV→SV
 | .box k off=>.box (f k) off
 | .acc k=>.acc (f k)
 | .aptr k i off=>.aptr (f k) i off
 | .mp k=>.mp (f k)
 | .agg cs=>.agg (SV.renL f cs)
 | .tuple cs=>.tuple (SV.renL f cs)
 | .clo g cs=>.clo g (SV.renL f cs)
 | .vptr cs off=>.vptr (SV.renL f cs) off
 | .undef=>.undef
 | .d x=>.d x
 | .dptr c off=>.dptr c off
 | .yld l=>.yld l
def SV.renL (f:Nat→Nat):List SV→List SV
 | []=>[]
 | c::cs=>c.ren f::SV.renL f cs
end
theorem SV.renL_eq (f:Nat→Nat):∀ cs:List SV,SV.renL f cs=cs.map (SV.ren f)
 | []=>rfl
 | c::cs=>by simp [SV.renL,SV.renL_eq f cs]
theorem SV.ren_one (f:Nat→Nat)(x:SV):(x.ren f).one=x.one:=by cases x <;> rfl
theorem SV.has_of {k j:Nat} {c:SV} {cs:List SV} (hc:cs[j]? = some c)(h:c.has k=true):SV.hasAny k cs=true:=by
 cases hh:SV.hasAny k cs with
 | false=>rw [SV.hasAny_false hh j c hc] at h;simp at h
 | true=>rfl
theorem RepV.ren {S:Nat→Prop} {w:World} {β β':Names} {f:Nat→Nat} {x:SV} {v:Value} (h:RepV S w β x v)(hb:∀ k,x.has k=true→β' (f k) = β k):RepV S w β' (x.ren f) v:=by
 induction h with
 | undef v=>exact .undef v
 | d x v h=>exact .d x v h
 | agg cells vs h1 h2 _ ih =>
  simp only [SV.ren,SV.renL_eq]
  refine .agg _ vs (by simpa using h1) ?_ ?_
  ·intro c hc
   obtain⟨c0,hc0,rfl⟩:=List.mem_map.1 hc
   rw [SV.ren_one];exact h2 c0 hc0
  ·intro j c v hc hv
   rw [List.getElem?_map] at hc
   obtain⟨c0,hc0,rfl⟩:=Option.map_eq_some_iff.1 hc
   exact ih j c0 v hc0 hv fun k hk=>hb k (by simp only [SV.has];exact SV.has_of hc0 hk)
 | tuple cells vs h1 _ ih =>
  simp only [SV.ren,SV.renL_eq]
  refine .tuple _ vs (by simpa using h1) ?_
  intro j c v hc hv
  rw [List.getElem?_map] at hc
  obtain⟨c0,hc0,rfl⟩:=Option.map_eq_some_iff.1 hc
  exact ih j c0 v hc0 hv fun k hk=>hb k (by simp only [SV.has];exact SV.has_of hc0 hk)
 | box k off b h=>exact .box _ off b (by rw [hb k (by simp [SV.has])];exact h)
 | dptr cells off b base hs h1 h2 h3=>exact .dptr cells off b base hs h1 h2 h3
 | acc k=>have:=hb k (by simp [SV.has]);rw [← this];exact .acc (f k)
 | aptr k i off b h=>have:=hb k (by simp [SV.has]);rw [← this];exact .aptr (f k) i off b (by rw [this];exact h)
 | mp k b h=>exact .mp _ b (by rw [hb k (by simp [SV.has])];exact h)
 | yld l=>exact .yld l
 | vptr cells off b hs h1 h2 _ ih =>
  simp only [SV.ren,SV.renL_eq]
  refine .vptr _ off b hs ?_ (by simpa using h2) ?_
  ·intro c hc
   obtain⟨c0,hc0,rfl⟩:=List.mem_map.1 hc
   rw [SV.ren_one];exact h1 c0 hc0
  ·intro j c v hc hv
   rw [List.getElem?_map] at hc
   obtain⟨c0,hc0,rfl⟩:=Option.map_eq_some_iff.1 hc
   exact ih j c0 v hc0 hv fun k hk=>hb k (by simp only [SV.has];exact SV.has_of hc0 hk)
 | clo g cells vs h1 _ ih =>
  simp only [SV.ren,SV.renL_eq]
  refine .clo g _ vs (by simpa using h1) ?_
  intro j c v hc hv
  rw [List.getElem?_map] at hc
  obtain⟨c0,hc0,rfl⟩:=Option.map_eq_some_iff.1 hc
  exact ih j c0 v hc0 hv fun k hk=>hb k (by simp only [SV.has];exact SV.has_of hc0 hk)
mutual
theorem RepV.unren {S:Nat→Prop} {w:World} {β β':Names} {f:Nat→Nat}:∀ {x:SV} {v:Value},RepV S w β' (x.ren f) v→(∀ k,x.has k=true→β' (f k) = β k)→RepV S w β x v
 | .undef,v,_,_=>.undef v
 | .d x,v,h,_=>by simp only [SV.ren] at h;exact .d x v h.inv_d
 | .dptr c off,v,h,_=>by simp only [SV.ren] at h;exact h.closed rfl
 | .yld l,v,h,_=>by simp only [SV.ren] at h;exact h.closed rfl
 | .box k off,v,h,hb=>by
  simp only [SV.ren] at h
  cases h with | box _ _ b hb'=>exact .box k off b (by rw [← hb k (by simp [SV.has])];exact hb')
 | .acc k,v,h,hb=>by
  simp only [SV.ren] at h
  cases h
  rw [hb k (by simp [SV.has])]
  exact .acc k
 | .aptr k i off,v,h,hb=>by
  simp only [SV.ren] at h
  have hk:=hb k (by simp [SV.has])
  cases h with | aptr _ _ _ b hb'=>rw [hk];exact .aptr k i off b (by rw [← hk];exact hb')
 | .mp k,v,h,hb=>by
  simp only [SV.ren] at h
  cases h with | mp _ b hb'=>exact .mp k b (by rw [← hb k (by simp [SV.has])];exact hb')
 | .agg cs,v,h,hb=>by
  simp only [SV.ren] at h
  cases h with
  | agg _ vs h1 h2 h3 =>
   have:=RepL.unren (cs:=cs) ⟨h1,h3⟩ (fun k hk=>hb k (by simp only [SV.has];exact hk))
   refine .agg cs vs this.1 (fun c hc=>?_) this.2
   rw [← SV.ren_one f]
   exact h2 _ (by rw [SV.renL_eq];exact List.mem_map_of_mem hc)
 | .tuple cs,v,h,hb=>by
  simp only [SV.ren] at h
  cases h with
  | tuple _ vs h1 h3 =>
   have:=RepL.unren (cs:=cs) ⟨h1,h3⟩ (fun k hk=>hb k (by simp only [SV.has];exact hk))
   exact .tuple cs vs this.1 this.2
 | .clo g cs,v,h,hb=>by
  simp only [SV.ren] at h
  cases h with
  | clo _ _ vs h1 h3 =>
   have:=RepL.unren (cs:=cs) ⟨h1,h3⟩ (fun k hk=>hb k (by simp only [SV.has];exact hk))
   exact .clo g cs vs this.1 this.2
 | .vptr cs off,v,h,hb=>by
  simp only [SV.ren] at h
  cases h with
  | vptr _ _ b hs h1 h2 h3 =>
   obtain⟨vs,hl,hvs⟩:=exists_cells (w:=w) (b:=b) (off:=0) (n:=(SV.renL f cs).length) (fun j hj=>by rw [Nat.zero_add];exact h2 j hj)
   have:=RepL.unren (cs:=cs) (vs:=vs) ⟨hl,fun j c v hc hv=>h3 j c v hc (by have:=hvs j v hv;rwa [Nat.zero_add] at this)⟩ (fun k hk=>hb k (by simp only [SV.has];exact hk))
   have hlen:(SV.renL f cs).length=cs.length:=by rw [SV.renL_eq];simp
   refine .vptr cs off b hs (fun c hc=>?_) (fun j hj=>h2 j (by omega)) (fun j c v hc hv=>?_)
   ·rw [← SV.ren_one f]
    exact h1 _ (by rw [SV.renL_eq];exact List.mem_map_of_mem hc)
   ·have hjl:=(List.getElem?_eq_some_iff.1 hc).1
    have hj:=hvs j (vs[j]'(by omega)) (List.getElem?_eq_getElem _)
    rw [Nat.zero_add,hv] at hj
    simp only [Option.some.injEq] at hj
    exact this.2 j c v hc (by rw [hj];exact List.getElem?_eq_getElem _)
theorem RepL.unren {S:Nat→Prop} {w:World} {β β':Names} {f:Nat→Nat}:∀ {cs:List SV} {vs:List Value},RepL S w β' (SV.renL f cs) vs→(∀ k,SV.hasAny k cs=true→β' (f k) = β k)→RepL S w β cs vs
 | [],vs,h,_=>⟨by simpa [SV.renL] using h.1,by simp⟩
 | c::cs,vs,h,hb=>by
  simp only [SV.renL] at h
  cases vs with
  | nil=>have:=h.1;simp at this
  | cons v vs =>
   exact .cons (RepV.unren (h.2 0 _ v rfl rfl) (fun k hk=>hb k (by simp [SV.hasAny,hk])))
    (RepL.unren ⟨by have:=h.1;simpa using this,fun j c v hc hv=>h.2 (j+1) c v (by simpa using hc) (by simpa using hv)⟩ (fun k hk=>hb k (by simp [SV.hasAny,hk])))
end
def BoxC.ren (f:Nat→Nat):BoxC→BoxC
 | .cells cs=>.cells (SV.renL f cs)
 | c=>c
def renBx (f:Nat→Nat):Boxes→Boxes
 | []=>[]
 | (k,c)::r=>(f k,c.ren f)::renBx f r
def renSl (f:Nat→Nat):SL→SL
 | []=>[]
 | (t,x)::r=>(t,x.ren f)::renSl f r
theorem sget_renSl (f:Nat→Nat):∀ (sl:SL)(t:Nat),sget (renSl f sl) t=(sget sl t).ren f
 | [],t=>rfl
 | (u,x)::r,t=>by
  simp only [renSl,sget]
  split
  ·rfl
  ·exact sget_renSl f r t
theorem mem_renBx {f:Nat→Nat} {j:Nat} {d:BoxC}:∀ {bx:Boxes},(j,d)∈renBx f bx↔∃ k c,(k,c)∈bx∧j=f k∧d=c.ren f
 | []=>by simp [renBx]
 | (k,c)::r=>by
  simp only [renBx,List.mem_cons,Prod.mk.injEq,mem_renBx (bx:=r)]
  constructor
  ·rintro (⟨rfl,rfl⟩ | ⟨k',c',h,rfl,rfl⟩)
   ·exact⟨k,c,.inl ⟨rfl,rfl⟩,rfl,rfl⟩
   ·exact⟨k',c',.inr h,rfl,rfl⟩
  ·rintro⟨k',c',(⟨rfl,rfl⟩ | h),rfl,rfl⟩
   ·exact .inl ⟨rfl,rfl⟩
   ·exact .inr ⟨k',c',h,rfl,rfl⟩
theorem BoxOK.ren {S:Nat→Prop} {w:World} {β β':Names} {f:Nat→Nat} {i:BI} {c:BoxC} (h:BoxOK S w β i c)(hb:∀ k,c.has k=true→β' (f k) = β k):BoxOK S w β' i (c.ren f):=by
 cases c with
 | cells cs =>
  obtain⟨b,ty,vs,h1,h2,h3⟩:=h
  refine⟨b,ty,vs,h1,h2,?_⟩
  rw [SV.renL_eq]
  refine h3.map (by simp) ?_
  intro j x y v hx hy hv
  simp only [List.getElem?_map,hx,Option.map_some,Option.some.injEq] at hy
  subst hy
  exact hv.ren fun k hk=>hb k (by simp only [BoxC.has];exact SV.has_of hx hk)
 | rows sz rs=>exact h
 | map kvs=>exact h
 | iter kvs seen=>exact h
 | ghost Y st=>exact h
theorem BoxOK.unren {S:Nat→Prop} {w:World} {β β':Names} {f:Nat→Nat} {i:BI} {c:BoxC} (h:BoxOK S w β' i (c.ren f))(hb:∀ k,c.has k=true→β' (f k) = β k):BoxOK S w β i c:=by
 cases c with
 | cells cs =>
  obtain⟨b,ty,vs,h1,h2,h3⟩:=h
  exact⟨b,ty,vs,h1,h2,RepL.unren h3 fun k hk=>hb k (by simp only [BoxC.has];exact hk)⟩
 | rows sz rs=>exact h
 | map kvs=>exact h
 | iter kvs seen=>exact h
 | ghost Y st=>exact h
mutual
def SV.only (ks:List Nat):SV→Bool
 | .box k _=>ks.contains k
 | .acc k=>ks.contains k
 | .aptr k _ _=>ks.contains k
 | .mp k=>ks.contains k
 | .agg cs=>SV.onlyL ks cs
 | .tuple cs=>SV.onlyL ks cs
 | .clo _ cs=>SV.onlyL ks cs
 | .vptr cs _=>SV.onlyL ks cs
 | .undef=>true
 | .d _=>true
 | .dptr _ _=>true
 | .yld _=>true
def SV.onlyL (ks:List Nat):List SV→Bool
 | []=>true
 | c::cs=>c.only ks && SV.onlyL ks cs
end
mutual
theorem SV.only_has {ks:List Nat} {k:Nat}:∀ {x:SV},x.only ks=true→x.has k=true→k∈ks
 | .box j _,h,hk=>by simp only [SV.only,List.contains_iff_mem] at h;simp only [SV.has,beq_iff_eq] at hk;rw [← hk];exact h
 | .acc j,h,hk=>by simp only [SV.only,List.contains_iff_mem] at h;simp only [SV.has,beq_iff_eq] at hk;rw [← hk];exact h
 | .aptr j _ _,h,hk=>by simp only [SV.only,List.contains_iff_mem] at h;simp only [SV.has,beq_iff_eq] at hk;rw [← hk];exact h
 | .mp j,h,hk=>by simp only [SV.only,List.contains_iff_mem] at h;simp only [SV.has,beq_iff_eq] at hk;rw [← hk];exact h
 | .agg cs,h,hk=>by simp only [SV.only] at h;simp only [SV.has] at hk;exact SV.onlyL_has h hk
 | .tuple cs,h,hk=>by simp only [SV.only] at h;simp only [SV.has] at hk;exact SV.onlyL_has h hk
 | .clo _ cs,h,hk=>by simp only [SV.only] at h;simp only [SV.has] at hk;exact SV.onlyL_has h hk
 | .vptr cs _,h,hk=>by simp only [SV.only] at h;simp only [SV.has] at hk;exact SV.onlyL_has h hk
 | .undef,_,hk=>by simp [SV.has] at hk
 | .d _,_,hk=>by simp [SV.has] at hk
 | .dptr _ _,_,hk=>by simp [SV.has] at hk
 | .yld _,_,hk=>by simp [SV.has] at hk
theorem SV.onlyL_has {ks:List Nat} {k:Nat}:∀ {cs:List SV},SV.onlyL ks cs=true→SV.hasAny k cs=true→k∈ks
 | [],_,hk=>by simp [SV.hasAny] at hk
 | c::cs,h,hk=>by
  simp only [SV.onlyL,Bool.and_eq_true] at h
  simp only [SV.hasAny,Bool.or_eq_true] at hk
  exact hk.elim (SV.only_has h.1) (SV.onlyL_has h.2)
end
def BoxC.only (ks:List Nat):BoxC→Bool
 | .cells cs=>SV.onlyL ks cs
 | .ghost _ _=>false
 | _=>true
def bxOnly (ks:List Nat):Boxes→Bool
 | []=>true
 | (k,c)::r=>ks.contains k && c.only ks && bxOnly ks r
def slOnly (ks:List Nat):SL→Bool
 | []=>true
 | (_,x)::r=>x.only ks && slOnly ks r
theorem slOnly_has {ks:List Nat} {k:Nat}:∀ {sl:SL},slOnly ks sl=true→∀ t,(sget sl t).has k=true→k∈ks
 | [],_,t,hk=>by simp [sget,SV.has] at hk
 | (u,x)::r,h,t,hk=>by
  simp only [slOnly,Bool.and_eq_true] at h
  simp only [sget] at hk
  split at hk
  ·exact SV.only_has h.1 hk
  ·exact slOnly_has h.2 t hk
theorem bxOnly_mem {ks:List Nat}:∀ {bx:Boxes},bxOnly ks bx=true→∀ k c,(k,c)∈bx→k∈ks∧c.real=true∧∀ j,c.has j=true→j∈ks
 | [],_,k,c,h=>by simp at h
 | (i,x)::r,h,k,c,hm=>by
  simp only [bxOnly,Bool.and_eq_true,List.contains_iff_mem] at h
  rcases List.mem_cons.1 hm with he | hm
  ·simp only [Prod.mk.injEq] at he
   obtain⟨rfl,rfl⟩:=he
   refine⟨h.1.1,?_,fun j hj=>?_⟩
   ·cases c <;> first | rfl | simp [BoxC.only] at h
   ·cases c <;> first
     | (simp only [BoxC.has] at hj;exact SV.onlyL_has h.1.2 hj)
     | simp [BoxC.has] at hj
  ·exact bxOnly_mem h.2 k c hm
end Go.Abs
namespace Go.Abs
open Go
variable {P:Program} {n:Nat} {Q:Exit→SL→Boxes→Prop} {sl:SL} {bx:Boxes}
def bases (β:Names)(bx:Boxes)(b:Nat):Prop:=∃ k c,(k,c)∈bx∧(β k).base=some b
def noGhost (bx:Boxes):Prop:=∀ k c,(k,c)∈bx→c.real=true
theorem noGhost.no {bx:Boxes} (h:noGhost bx) {k:Nat} {Y:Yld} {st:Option Nat}:(k,BoxC.ghost Y st) ∉ bx:=fun hm=>by have:=h _ _ hm;simp [BoxC.real] at this
theorem Inv.keep {C:Ctx} {S S':Nat→Prop} {w w':World} {β:Names} {n0:Nat} {B:Nat→Prop} (h:Inv C S w β bx)(hg:noGhost bx)(hB:∀ b,bases β bx b→B b)(hn:C.w0.heap.size≤n0)(k:Keeps n0 B S w S' w'):Inv C S' w' β bx:=by
 have e:SExt S w S' w':=⟨k.sub,fun b hb=>k.same b (.inr (.inr hb))⟩
 exact {
  S0sub:=fun b hb=>k.sub b (h.S0sub b hb)
  Snew:=fun b hb=>by
   rcases k.new b hb with hb | hb
   ·exact h.Snew b hb
   ·exact .inr (.inr (by omega))
  Slt:=k.lt
  kept:=fun b hb hp=>(k.same b (.inl (by omega))).trans (h.kept b hb hp)
  os:=k.os.trans h.os
  tape:=k.tape.trans h.tape
  output:=k.output.trans h.output
  size:=Nat.le_trans h.size k.size
  box:=fun j c hj=>(h.box j c hj).ext e (fun b hb=>k.same b (.inr (.inl (hB b ⟨j,c,hj,hb⟩)))) (fun _ _=>rfl)
  priv:=fun j c hj b hb=>⟨k.off b (hB b ⟨j,c,hj,hb⟩),Nat.lt_of_lt_of_le (h.priv j c hj b hb).2.1 k.size,(h.priv j c hj b hb).2.2⟩
  inj:=h.inj
  fix:=h.fix
  tab:=fun b cs hv=>by
   obtain⟨h1,ty,fr,h2⟩:=h.tab b cs hv
   exact⟨e.sub b h1,ty,fr,(e.same b h1).trans h2⟩
  one:=h.one
  frn:=fun j Y st hj=>absurd hj hg.no }
theorem Inv.shut {C:Ctx} {S:Nat→Prop} {w:World} {β:Names} {D:Nat} {l l':Option (List Deferred)} (h:Inv C S w β bx)(hg:noGhost bx)(hn:C.w0.heap.size≤D)(hD:¬ bases β bx D)(q:w.heap[D]? = some (.deferred l)):Inv C S (w.putObj D (.deferred l')) β bx where
 S0sub:=h.S0sub
 Snew:=h.Snew
 Slt:=fun b hb=>by simpa using h.Slt b hb
 kept:=fun b hb hp=>(World.putObj_heap_other (by omega)).trans (h.kept b hb hp)
 os:=h.os
 tape:=h.tape
 output:=h.output
 size:=by simpa using h.size
 box:=fun k c hk=>(h.box k c hk).shut q (fun he=>hD ⟨k,c,hk,he⟩)
 priv:=fun k c hk b hb=>by simpa using h.priv k c hk b hb
 inj:=h.inj
 fix:=h.fix
 tab:=fun b cs hv=>by
  obtain⟨h1,ty,fr,h2⟩:=h.tab b cs hv
  refine⟨h1,ty,fr,(World.putObj_heap_other ?_).trans h2⟩
  rintro rfl
  rw [q] at h2;cases h2
 one:=h.one
 frn:=fun j Y st hj=>absurd hj hg.no
theorem Inv.put {C:Ctx} {S:Nat→Prop} {w:World} {β:Names} {l:Nat} {o:Obj} (h:Inv C S w β bx)(hg:noGhost bx)(hl:¬ S l)(hb:¬ bases β bx l):Inv { C with w0:=C.w0.putObj l o } S (w.putObj l o) β bx:=by
 have hsz:=h.size
 have e:SExt S w S (w.putObj l o):=⟨fun _ h=>h,fun b hb'=>World.putObj_heap_other fun he=>hl (he ▸ hb')⟩
 exact {
  S0sub:=h.S0sub
  Snew:=fun b hb'=>by simpa using h.Snew b hb'
  Slt:=fun b hb'=>by simpa using h.Slt b hb'
  kept:=fun b hb' hp=>by
   simp only [World.putObj_size] at hb'
   by_cases he:b=l
   ·subst he
    rw [World.putObj_heap_same hb',World.putObj_heap_same (by omega)]
   ·rw [World.putObj_heap_other he,World.putObj_heap_other he];exact h.kept b hb' hp
  os:=h.os
  tape:=h.tape
  output:=h.output
  size:=by simpa using h.size
  box:=fun k c hk=>(h.box k c hk).ext e (fun b hb'=>World.putObj_heap_other fun he=>hb ⟨k,c,hk,he ▸ hb'⟩) (fun _ _=>rfl)
  priv:=fun k c hk b hb'=>by simpa using h.priv k c hk b hb'
  inj:=h.inj
  fix:=h.fix
  tab:=fun b cs hv=>by
   obtain⟨h1,ty,fr,h2⟩:=h.tab b cs hv
   exact⟨h1,ty,fr,(e.same b h1).trans h2⟩
  one:=h.one
  frn:=fun j Y st hj=>absurd hj hg.no }
theorem Inv.rebase {C C2:Ctx} {S S2:Nat→Prop} {w w2:World} {β β2:Names} {bx2:Boxes} {B B2:Nat→Prop} (h:Inv C S w β bx)(h2:Inv C2 S2 w2 β2 bx2)(hg:noGhost bx2)(hB:∀ b,B b→C.pre b∨C.w0.heap.size≤b)
  (hB2:∀ b,bases β2 bx2 b→B2 b) (t:TurnsB B S w B2 S2 w2) (hfix:∀ k i,C.fixd k i→β2 k=i):Inv C S2 w2 β2 bx2:=by
 have hsz:=h.size
 have hnew:∀ b,B b∨w.heap.size≤b→C.pre b∨C.w0.heap.size≤b:=fun b hb=>hb.elim (hB b) fun h=>.inr (by omega)
 exact {
  S0sub:=fun b hb=>t.ext.sub b (h.S0sub b hb)
  Snew:=fun b hb=>by
   rcases t.new b hb with hb | hb
   ·exact h.Snew b hb
   ·exact .inr (hnew b hb)
  Slt:=t.lt
  kept:=fun b hb hp=>by
   rw [← h.kept b hb hp]
   refine t.kept b (by omega) fun hb'=>?_
   rcases hB b hb' with h' | h'
   ·exact hp h'
   ·omega
  os:=t.os.trans h.os
  tape:=t.tape.trans h.tape
  output:=t.output.trans h.output
  size:=Nat.le_trans h.size t.size
  box:=h2.box
  priv:=fun k c hk b hb=>⟨(h2.priv k c hk b hb).1,(h2.priv k c hk b hb).2.1,hnew b (t.own b (hB2 b ⟨k,c,hk,hb⟩)).2.2⟩
  inj:=h2.inj
  fix:=fun k i hk=>⟨(h.fix k i hk).1,hfix k i hk⟩
  tab:=fun b cs hb=>by
   obtain⟨h1,ty,fr,hh⟩:=h.tab b cs hb
   exact⟨t.ext.sub b h1,ty,fr,(t.ext.same b h1).trans hh⟩
  one:=h2.one
  frn:=fun j Y st hj=>absurd hj hg.no }
def lowK (k:Nat):Nat:=if 2000000≤k then k - 2000000 else k
def Ctx.rd (C:Ctx) (β:Names):Ctx:={ C with fixd:=fun k i=>2000000≤k∧i = β k }
def loopF (C:Ctx)(l:Nat)(Ds:List Nat)(tmps:Array Value)(rec:LoopState→Option Code→Loop) (βR:Names)(slR:SL)(mb:Option Nat→Boxes)(go:Nat→Bool)(jump:Option Code)(st:Option Nat)(B S:Nat→Prop)(w:World):Prop :=
 ∃ β,Inv (C.rd βR) S w β (mb st)∧(∀ b,B b↔(b=l∨bases β (mb st) b))∧¬ S l∧¬ bases β (mb st) l∧l < w.heap.size ∧
  w.heap[l]? = some (.loop (match st with | some _=>rec .ready none | none=>rec .done jump)) ∧
  (∀ E,E∈Ds→S E∧w.heap[E]? = some (.deferred (some [])))∧(∀ t,RepV S w β (sget slR t) (tmps.getD t undef))∧(∀ j,st=some j→∀ i,i < j→go i=true)
end Go.Abs
namespace Go.Abs
open Go
variable {P:Program} {n:Nat} {Q:Exit→SL→Boxes→Prop} {sl:SL} {bx:Boxes}
def jumpOf:Exit→Option Code
 | .ret=>some .ret
 | .exit id=>some (.exit id)
 | _=>none
def roundQ (mb:Option Nat→Boxes)(go:Nat→Bool)(jump:Exit)(j:Nat)(e:Exit)(sl:SL)(bx:Boxes):Prop :=
 match e with
 | .normal=>go j=true∧ble bx (mb (some (j+1)))
 | e=>go j=false∧e=jump∧ble bx (mb none)
def bxReal:Boxes→Bool
 | []=>true
 | (_,c)::r=>c.real && bxReal r
theorem bxReal_no:∀ {bx:Boxes},bxReal bx=true→noGhost bx
 | [],_,k,c,h=>by simp at h
 | (i,x)::r,h,k,c,hm=>by
  simp only [bxReal,Bool.and_eq_true] at h
  rcases List.mem_cons.1 hm with he | hm
  ·simp only [Prod.mk.injEq] at he
   obtain⟨rfl,rfl⟩:=he
   exact h.1
  ·exact bxReal_no h.2 k c hm
def roundB (P:Program)(n l:Nat)(body:Code)(Q:Exit→SL→Boxes→Prop)(sl:SL)(bx:Boxes):Prop:=bxReal bx=true∧AWp (some l) P n body Q sl bx
structure LoopOK (P:Program)(n:Nat)(p:Tmp)(assign body:Code)(N:Nat)(xs:Nat→SV)(go:Nat→Bool)(jump:Exit)(ks:List Nat)(slR:SL)(mb:Option Nat→Boxes):Prop where
 jumpOK:∃ c,jumpOf jump=some c
 keys:(ks.map lowK).Nodup
 high:∀ k,k∈ks→2000000≤k∨k≤999999
 slOK:slOnly (ks.filter (2000000≤·)) slR=true
 mbOK:∀ st,bxOnly ks (mb st)=true
 pOK:p < n
 closed:∀ j,(xs j).closed=true
 body:∀ j,j < N→(∀ i,i < j→go i=true)→∀ l,AWp (some l) P n assign (thenA (roundB P n l body (roundQ mb go jump j)) (fun _ _ _=>False)) ((p,xs j)::slR) (mb (some j))
theorem LoopOK.rounds {p:Tmp} {assign body:Code} {N:Nat} {xs:Nat→SV} {go:Nat→Bool} {jump:Exit} {ks:List Nat} {slR:SL} {mb:Option Nat→Boxes} (h:LoopOK P n p assign body N xs go jump ks slR mb)
  {C:Ctx} {l n0:Nat} {Ds:List Nat} {tmps:Array Value} {fn:FuncId} {D:Nat} {βR:Names} (hts:tmps.size=n) (hl:l < n0) (hDs:∀ E,E∈Ds→E < n0) (hlD:l ∉ Ds) (hCl:C.w0.heap.size≤l) (hCn:C.w0.heap.size≤n0) {sy ra:TypeId × Value} :
  RoundsOK ⟨⟨P,l,n0,N,xs,go⟩,loopF C l Ds tmps (fun state pending=>{ state,pending,fn,tmps,params:=#[p],assign,body,defers:=D }) βR slR mb go (jumpOf jump),sy,ra⟩:=by
 have hng:∀ st,noGhost (mb st):=fun st k c hm=>(bxOnly_mem (h.mbOK st) k c hm).2.1
 refine⟨?_,?_,?_⟩
 ·
  rintro st B S w S' w' ⟨β,h1,h2,h3,h4,h5,h6,h7,h8,h9⟩ k
  have e:SExt S w S' w':=⟨k.sub,fun b hb=>k.same b (.inr (.inr hb))⟩
  refine⟨β,h1.keep (hng st) (fun b hb=>(h2 b).2 (.inr hb)) hCn k,h2,k.off l ((h2 l).2 (.inl rfl)),h4,Nat.lt_of_lt_of_le h5 k.size,(k.same l (.inl hl)).trans h6,fun E hE=>⟨k.sub E (h7 E hE).1,(k.same E (.inl (hDs E hE))).trans (h7 E hE).2⟩,fun t=>(h8 t).ext e (fun _ _=>rfl),h9⟩
 ·
  rintro st B S w D' q q' ⟨β,h1,h2,h3,h4,h5,h6,h7,h8,h9⟩ hn hB hq
  have hne:∀ E,E < n0→E≠D':=fun E hE he=>by simp only at hn;omega
  refine⟨β,h1.shut (hng st) (by simp only at hn;show C.w0.heap.size≤D';omega) (fun hb=>hB ((h2 D').2 (.inr hb))) hq,h2,h3,h4,by simpa using h5,(World.putObj_heap_other (hne l hl)).trans h6,fun E hE=>⟨(h7 E hE).1,(World.putObj_heap_other (hne E (hDs E hE))).trans (h7 E hE).2⟩,fun t=>(h8 t).shut hq,h9⟩
 ·
  rintro j B S w β v hjN ⟨β1,h1,h2,h3,h4,h5,h6,h7,h8,h9⟩ hS hB hv
  simp only at h6 hv hjN
  have hv1:RepV S w β1 (xs j) v:=hv.closed (h.closed j)
  have hy:=run_yield (P:=P) (args:=#[v]) h6 (by simp)
  simp only [List.zip_toArray,List.zip_cons_cons,List.zip_nil_right,List.foldl_toArray,List.foldl_cons,List.foldl_nil] at hy
  have hpr:=h1.priv
  have hn1:∀ b,bases β1 (mb (some j)) b→b < w.heap.size∧¬ S b:=fun b ⟨k,c,hk,hb⟩=>⟨(hpr k c hk b hb).2.1,(hpr k c hk b hb).1⟩
  have i1:Inv ⟨w,S,bases β1 (mb (some j)),fun k i=>2000000≤k∧i = βR k,C.G⟩ S w β1 (mb (some j)):={
   S0sub:=fun _ h=>h,Snew:=fun _ h=>.inl h,Slt:=h1.Slt,kept:=fun _ _ _=>rfl,os:=rfl,tape:=rfl,output:=rfl,size:=Nat.le_refl _
   box:=h1.box
   priv:=fun k c hk b hb=>⟨(hpr k c hk b hb).1,(hpr k c hk b hb).2.1,.inl ⟨k,c,hk,hb⟩⟩
   inj:=h1.inj
   fix:=h1.fix
   tab:=h1.tab
   one:=h1.one
   frn:=fun k Y st hk=>absurd hk (hng _).no }
  have hput:∀ t,(tmps.setIfInBounds p v).getD t undef=if p=t then v else tmps.getD t undef:=fun t=>by
   simp only [Array.getD_eq_getD_getElem?,Array.getElem?_setIfInBounds]
   split
   ·subst_vars;simp [h.pOK]
   ·rfl
  have st1:St ⟨w,S,bases β1 (mb (some j)),fun k i=>2000000≤k∧i = βR k,C.G⟩ n S w β1 { tmps:=tmps.setIfInBounds p v,defers:=[] } ((p,xs j)::slR) (mb (some j)):=by
   refine⟨i1,by simp [hts],.nil,fun t=>?_⟩
   simp only [hput,sget]
   split
   ·exact hv1
   ·exact h8 t
  have hA:=h.body j hjN (h9 j rfl) l
  refine⟨_,_,_,_,hy,roundIn_of_wpIn trivial (wpIn_mono (hA _ S w β1 _ st1) ?_)⟩
  rintro e a1 w1 ⟨sl1,bx1,S1,β2,hq,s1⟩
  have hfor:∀ {S':Nat→Prop} {w':World} {β':Names} {bx':Boxes} {w0:World},w0.heap.size=w.heap.size→Inv ⟨w0,S,bases β1 (mb (some j)),fun k i=>2000000≤k∧i = βR k,C.G⟩ S' w' β' bx'→¬ S' l∧¬ bases β' bx' l:=by
   intro S' w' β' bx' w0 hw0 hi
   refine⟨fun hs=>?_,fun⟨k,c,hk,hb⟩=>?_⟩
   ·rcases hi.Snew l hs with h | h | h
    ·exact h3 h
    ·exact h4 h
    ·simp only [hw0] at h;omega
   ·rcases (hi.priv k c hk l hb).2.2 with h | h
    ·exact h4 h
    ·simp only [hw0] at h;omega
  cases e with
  | normal =>
   simp only [thenA] at hq
   obtain⟨f1,f2⟩:=hfor rfl s1.inv
   have hl1:w1.heap[l]? = _:=(s1.inv.kept l h5 h4).trans h6
   have g1:=bxReal_no hq.1
   refine⟨_,run_beginRound hl1 rfl,wpIn_mono (hq.2 _ S1 _ β2 a1 ⟨s1.inv.put g1 f1 f2,s1.size,?_,fun t=>?_⟩) ?_⟩
   ·obtain⟨Es,q1,q2,q3⟩:=s1.defers
    refine⟨Es,q1,q2,fun E hE=>⟨(q3 E hE).1,by simpa using (q3 E hE).2.1,(World.putObj_heap_other ?_).trans (q3 E hE).2.2⟩⟩
    rintro rfl
    exact f1 (q3 _ hE).1
   ·have hS1l:∀ b,S1 b→b≠l:=fun b hb he=>by subst he;exact f1 hb
    exact (s1.slot t).ext ⟨fun _ h=>h,fun b hb=>World.putObj_heap_other (hS1l b hb)⟩ (fun _ _=>rfl)
   rintro e a3 w3 ⟨sl3,bx3,S3,β3,hq3,s3⟩
   obtain⟨f3,f4⟩:=hfor (by simp) s3.inv
   have hsz3:w.heap.size≤w3.heap.size:=by have:=s3.inv.size;simpa using this
   have hl3:w3.heap[l]? = some (.loop { state:=.busy,pending:=none,fn,tmps,params:=#[p],assign,body,defers:=D }):=by
    rw [s3.inv.kept l (by simpa using h5) h4]
    exact World.putObj_heap_same h5
   have fin:∀ (st:Option Nat) (o:Obj),ble bx3 (mb st)→(match st with | some j'=>j'=j+1∧go j=true | none=>True) →
     (w3.putObj l o).heap[l]? = some (.loop (match st with | some _=>{ state:=.ready,pending:=none,fn,tmps,params:=#[p],assign,body,defers:=D } | none=>{ state:=.done,pending:=jumpOf jump,fn,tmps,params:=#[p],assign,body,defers:=D })) →
     ∃ S' B',loopF C l Ds tmps (fun state pending=>{ state,pending,fn,tmps,params:=#[p],assign,body,defers:=D }) βR slR mb go (jumpOf jump) st B' S' (w3.putObj l o)∧TurnsB B S w B' S' (w3.putObj l o):=by
    intro st o hble hst ho
    have hi3:=s3.inv.sub (ble_mem hble)
    have hi4:=hi3.put (o:=o) (hng st) f3 (fun⟨k,c,hk,hb⟩=>f4 ⟨k,c,ble_mem hble k c hk,hb⟩)
    have hfix:∀ k,2000000≤k→β3 k = βR k:=fun k hk=>(s3.inv.fix k (βR k) ⟨hk,rfl⟩).2
    have hSl:∀ b,S b→b≠l:=fun b hb he=>by subst he;exact h3 hb
    have e3:SExt S w S3 (w3.putObj l o):=⟨s3.inv.S0sub,fun b hb=>by
     rw [World.putObj_heap_other (hSl b hb),s3.inv.kept b (by simpa using hS b hb) (fun hb'=>(hn1 b hb').2 hb)]
     exact World.putObj_heap_other (hSl b hb)⟩
    have t:TurnsB B S w (fun b=>b=l∨bases β3 (mb st) b) S3 (w3.putObj l o):={
     ext:=e3
     new:=fun b hb=>by
      rcases s3.inv.Snew b hb with h | h | h
      ·exact .inl h
      ·exact .inr (.inl ((h2 b).2 (.inr h)))
      ·exact .inr (.inr (by simpa using h))
     lt:=fun b hb=>by simpa using s3.inv.Slt b hb
     own:=fun b hb=>by
      rcases hb with rfl | ⟨k,c,hk,hb⟩
      ·exact⟨f3,by simp;omega,.inl ((h2 _).2 (.inl rfl))⟩
      ·obtain⟨p1,p2,p3⟩:=hi3.priv k c hk b hb
       exact⟨p1,by simpa using p2,p3.imp (fun h=>(h2 b).2 (.inr h)) (fun h=>by simpa using h)⟩
     kept:=fun b hb hn=>by
      have hbl:b≠l:=fun he=>hn ((h2 b).2 (.inl he))
      rw [World.putObj_heap_other hbl,s3.inv.kept b (by simpa using hb) (fun h=>hn ((h2 b).2 (.inr h)))]
      exact World.putObj_heap_other hbl
     os:=s3.inv.os
     tape:=s3.inv.tape
     output:=s3.inv.output
     size:=by simpa using hsz3 }
    refine⟨S3,_,⟨β3,h1.rebase hi4 (hng st) (fun b hb=>?_) (fun b hb=>.inr hb) t (fun k i hk=>?_),fun b=>Iff.rfl,f3,fun⟨k,c,hk,hb⟩=>f4 ⟨k,c,ble_mem hble k c hk,hb⟩,by simp;omega,?_,fun E hE=>⟨e3.sub E (h7 E hE).1,(e3.same E (h7 E hE).1).trans (h7 E hE).2⟩,fun t=>(h8 t).ext e3 fun k hk=>?_,fun j' hj' i hi=>?_⟩,t⟩
    ·rcases (h2 b).1 hb with rfl | ⟨k,c,hk,hb⟩
     ·exact .inr hCl
     ·exact (h1.priv k c hk b hb).2.2
    ·rw [hfix k hk.1];exact hk.2.symm
    ·cases st <;> exact ho
    ·have hkh:=slOnly_has h.slOK t hk
     simp only [List.mem_filter,decide_eq_true_eq] at hkh
     rw [hfix k hkh.2,(h1.fix k (βR k) ⟨hkh.2,rfl⟩).2]
    ·subst hj'
     obtain⟨rfl,hgo⟩:=hst
     rcases Nat.lt_or_ge i j with h | h
     ·exact h9 j rfl i h
     ·have:i=j:=by omega
      subst this;exact hgo
   have hsame:∀ o,(w3.putObj l o).heap[l]? = some o:=fun o=>World.putObj_heap_same (by omega)
   have stop:∀ c,go j=false→jumpOf jump=some c→ble bx3 (mb none)→∃ v' w',(Instr.endRound l (some c)).run P w3=.ok v' w'∧(∃ S' B',(Ending.returned v')=.returned (.bool (go j))∧loopF C l Ds tmps (fun state pending=>{ state,pending,fn,tmps,params:=#[p],assign,body,defers:=D }) βR slR mb go (jumpOf jump) (Yld.next ⟨P,l,n0,N,xs,go⟩ j) B' S' w'∧TurnsB B S w B' S' w'):=by
    intro c hg hc hble
    obtain⟨S',B',p1,p2⟩:=fin none _ hble trivial (by rw [hsame,hc])
    refine⟨_,_,run_endRound (some c) hl3,S',B',by simp [hg],?_,p2⟩
    have:Yld.next ⟨P,l,n0,N,xs,go⟩ j=none:=by simp [Yld.next,hg]
    rw [this]
    exact p1
   cases e with
   | normal =>
    obtain⟨hg,hble⟩:=hq3
    obtain⟨S',B',p1,p2⟩:=fin (some (j+1)) _ hble ⟨rfl,hg⟩ (by rw [hsame])
    refine⟨_,_,run_endRound none hl3,S',B',by simp [hg],?_,p2⟩
    have:Yld.next ⟨P,l,n0,N,xs,go⟩ j=some (j+1):=by simp [Yld.next,hg]
    rw [this]
    exact p1
   | ret =>
    obtain⟨hg,rfl,hble⟩:=hq3
    exact stop .ret hg rfl hble
   | exit id =>
    obtain⟨hg,rfl,hble⟩:=hq3
    exact stop (.exit id) hg rfl hble
   | goto t =>
    obtain⟨hg,rfl,hble⟩:=hq3
    obtain⟨c,hc⟩:=h.jumpOK
    simp [jumpOf] at hc
   | panic ch =>
    obtain⟨hg,rfl,hble⟩:=hq3
    obtain⟨c,hc⟩:=h.jumpOK
    simp [jumpOf] at hc
   | outgrown =>
    obtain⟨hg,rfl,hble⟩:=hq3
    obtain⟨c,hc⟩:=h.jumpOK
    simp [jumpOf] at hc
  | _=>exact hq.elim
end Go.Abs
namespace Go.Abs
open Go
variable {P:Program} {n:Nat} {Q:Exit→SL→Boxes→Prop} {sl:SL} {bx:Boxes}
variable {ks:List Nat}
theorem nodup_inj {f:Nat→Nat} :(ks.map f).Nodup→∀ a b,a∈ks→b∈ks→f a=f b→a=b:=by
 induction ks with
 | nil=>intro _ a b ha;simp at ha
 | cons k ks ih =>
  intro h a b ha hb he
  simp only [List.map_cons,List.nodup_cons,List.mem_map,not_exists,not_and] at h
  rcases List.mem_cons.1 ha with ha1 | ha1
  ·rcases List.mem_cons.1 hb with hb1 | hb1
   ·rw [ha1,hb1]
   ·rw [ha1] at he;exact absurd he.symm (h.1 b hb1)
  ·rcases List.mem_cons.1 hb with hb1 | hb1
   ·rw [hb1] at he;exact absurd he (h.1 a ha1)
   ·exact ih h.2 a b ha1 hb1 he
variable {mb:Boxes}
theorem keys_uniq (h:(mb.map (·.1)).Nodup) {k:Nat} {c c':BoxC} (h1:(k,c)∈mb)(h2:(k,c')∈mb):c=c':=by
 induction mb with
 | nil=>simp at h1
 | cons x mb ih =>
  simp only [List.map_cons,List.nodup_cons,List.mem_map,not_exists,not_and] at h
  rcases List.mem_cons.1 h1 with a1 | a1
  ·rcases List.mem_cons.1 h2 with a2 | a2
   ·rw [← a1] at a2;simp only [Prod.mk.injEq,true_and] at a2;exact a2.symm
   ·exact absurd (by rw [← a1]) (h.1 _ a2)
  ·rcases List.mem_cons.1 h2 with a2 | a2
   ·exact absurd (by rw [← a2]) (h.1 _ a1)
   ·exact ih h.2 a1 a2
theorem Inv.unren {C:Ctx} {S:Nat→Prop} {w:World} {β:Names} (h:Inv C S w β (renBx lowK mb))(hk:(ks.map lowK).Nodup)(hm:bxOnly ks mb=true)(hu:(mb.map (·.1)).Nodup) :
  Inv (C.rd fun k=>β (lowK k)) S w (fun k=>β (lowK k)) mb:=by
 have hmem:∀ {k:Nat} {c:BoxC},(k,c)∈mb→(lowK k,c.ren lowK)∈renBx lowK mb:=fun hm=>mem_renBx.2 ⟨_,_,hm,rfl,rfl⟩
 have hng:noGhost mb:=fun k c hmm=>(bxOnly_mem hm k c hmm).2.1
 exact { h with
  box:=fun k c hm'=>(h.box _ _ (hmem hm')).unren fun _ _=>rfl
  priv:=fun k c hm'=>h.priv _ _ (hmem hm')
  inj:=fun k c k' c' h1 h2 b hb1 hb2=>by
   have:=nodup_inj hk k k' (bxOnly_mem hm _ _ h1).1 (bxOnly_mem hm _ _ h2).1 (h.inj _ _ _ _ (hmem h1) (hmem h2) b hb1 hb2).1
   subst this
   exact⟨rfl,keys_uniq hu h1 h2⟩
  fix:=fun k i hi=>⟨by have:=hi.1;omega,hi.2.symm⟩
  one:=fun k Y st k' Y' st' h1=>absurd h1 hng.no
  frn:=fun k Y st h1=>absurd h1 hng.no }
theorem Inv.reren {C:Ctx} {S:Nat→Prop} {w:World} {β β':Names} (h:Inv (C.rd fun k=>β (lowK k)) S w β' mb)(hk:(ks.map lowK).Nodup)(hh:∀ k,k∈ks→2000000≤k∨k≤999999)(hm:bxOnly ks mb=true)(hC:∀ k i,C.fixd k i→1000000≤k∧β k=i) :
  ∃ βo:Names,Inv C S w βo (renBx lowK mb)∧∀ k,k∈ks→βo (lowK k) = β' k:=by
 have hng:noGhost mb:=fun k c hmm=>(bxOnly_mem hm k c hmm).2.1
 obtain⟨βo,hβo⟩:∃ βo:Names,∀ k,βo k=if k∈ks∧k≤999999 then β' k else β k:=⟨fun k=>if k∈ks∧k≤999999 then β' k else β k,fun _=>rfl⟩
 have key:∀ k,k∈ks→βo (lowK k) = β' k:=by
  intro k hkm
  rw [hβo]
  rcases hh k hkm with h1 | h1
  ·have hl:lowK k=k - 2000000:=by unfold lowK;rw [if_pos h1]
   have hno:¬ (lowK k∈ks∧lowK k≤999999):=by
    rintro⟨a,b⟩
    have hll:lowK (lowK k)=lowK k:=by
     have h5:¬ 2000000≤lowK k:=by omega
     generalize lowK k=q at h5
     unfold lowK
     rw [if_neg h5]
    have:=nodup_inj hk _ _ a hkm hll
    omega
   rw [if_neg hno]
   exact ((h.fix k _ ⟨h1,rfl⟩).2).symm
  ·have hl:lowK k=k:=by unfold lowK;rw [if_neg (by omega)]
   simp only [hl,hkm,h1,and_self,if_true]
 refine⟨βo,?_,key⟩
 have hb:∀ {j:Nat} {d:BoxC},(j,d)∈renBx lowK mb→∃ k c,(k,c)∈mb∧j=lowK k∧d=c.ren lowK:=fun hm=>mem_renBx.1 hm
 have hreal:∀ (k:Nat) (Y:Yld) (st:Option Nat),(k,BoxC.ghost Y st) ∉ renBx lowK mb:=fun k Y st hm'=>by
  obtain⟨k',c,h1,_,h2⟩:=hb hm'
  have:=hng _ _ h1
  cases c <;> simp [BoxC.ren,BoxC.real] at h2 this
 exact { h with
  box:=fun j d hj=>by
   obtain⟨k,c,h1,rfl,rfl⟩:=hb hj
   obtain⟨m1,_,m3⟩:=bxOnly_mem hm k c h1
   rw [key k m1]
   exact (h.box k c h1).ren fun i hi=>key i (m3 i hi)
  priv:=fun j d hj b hb'=>by
   obtain⟨k,c,h1,rfl,rfl⟩:=hb hj
   rw [key k (bxOnly_mem hm k c h1).1] at hb'
   exact h.priv k c h1 b hb'
  inj:=fun j d j' d' hj hj' b hb1 hb2=>by
   obtain⟨k,c,h1,rfl,rfl⟩:=hb hj
   obtain⟨k',c',h2,rfl,rfl⟩:=hb hj'
   rw [key k (bxOnly_mem hm k c h1).1] at hb1
   rw [key k' (bxOnly_mem hm k' c' h2).1] at hb2
   obtain⟨rfl,rfl⟩:=h.inj k c k' c' h1 h2 b hb1 hb2
   exact⟨rfl,rfl⟩
  fix:=fun k i hi=>by
   obtain⟨h1,h2⟩:=hC k i hi
   refine⟨h1,?_⟩
   rw [hβo,if_neg (by omega)]
   exact h2
  one:=fun k Y st k' Y' st' h1=>absurd h1 (hreal _ _ _)
  frn:=fun k Y st h1=>absurd h1 (hreal _ _ _) }
theorem AWp.rangeFunc {g:Operand} {p:Tmp} {assign body:Code} {f:FuncId} {caps caps':List SV} {r:SV} {N:Nat} {xs:Nat→SV} {go:Nat→Bool} {jump:Exit} {slR:SL} {mb:Option Nat→Boxes} {st:Option Nat} 
  (h:LoopOK P n p assign body N xs go jump ks slR mb) (hu:∀ st,((mb st).map (·.1)).Nodup) (hg:opnd sl g=.clo f caps) (hcaps:coerceL [] caps=some caps')
  (hc:∀ Y:Yld,Y.P=P→Y.N=N→Y.xs=xs→Y.go=go→CallB P f (.yld Y.l::caps') [(1000000,.ghost Y (some 0))] r [(1000000,.ghost Y st)])
  (h1:sle sl (renSl lowK slR)) (h2:ble bx (renBx lowK (mb (some 0))))
  (hend:∀ j,st=some j→(∀ i,i < j→go i=true)→Q .normal (renSl lowK slR) (renBx lowK (mb (some j)))) (hstop:st=none→Q jump (renSl lowK slR) (renBx lowK (mb none))) :
  AWp none P n (.rangeFunc g #[p] assign body) Q sl bx:=by
 intro C S w β a hs0
 have hgv:=hs0.opnd g
 rw [hg] at hgv
 generalize hgv':a.eval g=gv at hgv
 have hs:St C n S w β a (renSl lowK slR) (renBx lowK (mb (some 0))):=hs0.weaken h1 h2
 clear hs0
 cases hgv with
 | clo _ _ cs g1 g2 =>
 refine wpIn_rangeFunc fun fn _=>?_
 obtain⟨w1,hw1⟩:∃ w1,w1=(w.alloc (.deferred (some []))).alloc (.loop { state:=.ready,pending:=none,fn,tmps:=a.tmps,params:=#[p],assign,body,defers:=w.heap.size }):=⟨_,rfl⟩
 have hsz1:w1.heap.size=w.heap.size+2:=by rw [hw1];simp [-World.alloc_eq,World.alloc]
 have hk1:∀ b,b < w.heap.size→w1.heap[b]? = w.heap[b]?:=fun b hb=>by
  rw [hw1,RowKit.Below.heap_alloc _ _ b (by simp [-World.alloc_eq,World.alloc];omega),RowKit.Below.heap_alloc w _ b hb]
 have hD:w1.heap[w.heap.size]? = some (.deferred (some [])):=by
  rw [hw1,RowKit.Below.heap_alloc _ _ _ (by simp [-World.alloc_eq,World.alloc])]
  exact World.alloc_heap_new w _
 have hl:w1.heap[w.heap.size+1]? = some (.loop { state:=.ready,pending:=none,fn,tmps:=a.tmps,params:=#[p],assign,body,defers:=w.heap.size }):=by
  have:=World.alloc_heap_new (w.alloc (.deferred (some []))) (.loop { state:=.ready,pending:=none,fn,tmps:=a.tmps,params:=#[p],assign,body,defers:=w.heap.size })
  rw [World.size_alloc] at this
  rw [hw1];exact this
 have hCw:=hs.inv.size
 obtain⟨Es,d1,d2,d3⟩:=hs.defers
 obtain⟨i1,e1⟩:=hs.inv.grow (S':=fun b=>S b∨b=w.heap.size) (w':=w1) (fun b hb=>.inl hb) (fun b hb=>hb.imp id fun h=>by omega) (fun b hb=>by
  rcases hb with hb | hb
  ·have:=hs.inv.Slt b hb;omega
  ·omega) hk1 (by rw [hw1];rfl) (by rw [hw1];rfl) (by rw [hw1];rfl) (by omega)
 have i2:=i1.unren h.keys (h.mbOK (some 0)) (hu _)
 have hslot:∀ t,RepV (fun b=>S b∨b=w.heap.size) w1 (fun k=>β (lowK k)) (sget slR t) (a.tmps.getD t undef):=fun t=>by
  have:=hs.slot t
  rw [sget_renSl] at this
  exact RepV.unren (this.ext e1 (fun _ _=>rfl)) (fun _ _=>rfl)
 have hEs:∀ E,E∈w.heap.size::Es→E < w.heap.size+2:=fun E hE=>by
  rcases List.mem_cons.1 hE with rfl | hE
  ·omega
  ·have:=hs.inv.Slt E (d3 E hE).1;omega
 have hro:=h.rounds (C:=C) (sy:=C.G.sy) (ra:=C.G.ra) (l:=w.heap.size+1) (n0:=w.heap.size+2) (Ds:=w.heap.size::Es) (tmps:=a.tmps) (fn:=fn) (D:=w.heap.size) (βR:=fun k=>β (lowK k)) hs.size (by omega) hEs (by
  intro hm
  rcases List.mem_cons.1 hm with hm | hm
  ·omega
  ·have:=hs.inv.Slt _ (d3 _ hm).1;omega) (by omega) (by omega)
 have hbase:∀ b,bases (fun k=>β (lowK k)) (mb (some 0)) b→¬ (S b∨b=w.heap.size)∧b < w.heap.size:=fun b ⟨k,c,hk,hb⟩=>by
  obtain⟨p1,p2,_⟩:=hs.inv.priv _ _ (mem_renBx.2 ⟨k,c,hk,rfl,rfl⟩) b hb
  exact⟨fun h=>h.elim p1 (by omega),p2⟩
 have hF0:loopF C (w.heap.size+1) (w.heap.size::Es) a.tmps (fun state pending=>{ state,pending,fn,tmps:=a.tmps,params:=#[p],assign,body,defers:=w.heap.size }) (fun k=>β (lowK k)) slR mb go (jumpOf jump) (some 0)
   (fun b=>b=w.heap.size+1∨bases (fun k=>β (lowK k)) (mb (some 0)) b) (fun b=>S b∨b=w.heap.size) w1:=by
  refine⟨_,i2,fun b=>Iff.rfl,?_,fun hb=>?_,by omega,hl,fun E hE=>?_,hslot,fun j hj i hi=>?_⟩
  ·rintro (hb | hb)
   ·have:=hs.inv.Slt _ hb;omega
   ·omega
  ·have:=(hbase _ hb).2;omega
  ·rcases List.mem_cons.1 hE with rfl | hE
   ·exact⟨.inr rfl,hD⟩
   ·exact⟨.inl (d3 E hE).1,(hk1 E (hs.inv.Slt E (d3 E hE).1)).trans (d3 E hE).2.2⟩
  ·cases hj;omega
 have hin0:Inv ⟨w1,fun b=>S b∨b=w.heap.size,fun _=>False,fun _ _=>False,C.G⟩ (fun b=>S b∨b=w.heap.size) w1 β []:=i1.begin i1.Slt (fun _ h=>h)
 obtain⟨r1,r2⟩:=coerceL_rep hin0 (SExt.refl _ _) (by simp) hcaps (vs:=cs) ⟨g1,fun j c v hc hv=>(g2 j c v hc hv).ext e1 (fun _ _=>rfl)⟩
 obtain⟨G,hG⟩:∃ G:Gh,G=⟨⟨P,w.heap.size+1,w.heap.size+2,N,xs,go⟩,loopF C (w.heap.size+1) (w.heap.size::Es) a.tmps (fun state pending=>{ state,pending,fn,tmps:=a.tmps,params:=#[p],assign,body,defers:=w.heap.size }) (fun k=>β (lowK k)) slR mb go (jumpOf jump),C.G.sy,C.G.ra⟩:=⟨_,rfl⟩
 have hGY:G.Y=⟨P,w.heap.size+1,w.heap.size+2,N,xs,go⟩:=by rw [hG]
 have hin:Inv ⟨w1,fun b=>S b∨b=w.heap.size,fun b=>b=w.heap.size+1∨bases (fun k=>β (lowK k)) (mb (some 0)) b,fun _ _=>False,G⟩ (fun b=>S b∨b=w.heap.size) w1 (upd β 1000000 { base:=none }) [(1000000,.ghost G.Y (some 0))]:=by
  have hno:∀ k' c',(k',c')∈[(1000000,BoxC.ghost G.Y (some 0))]→∀ b,(upd β 1000000 { base:=none } k').base≠some b:=fun k' c' hk' b hb'=>by
   simp only [List.mem_cons,Prod.mk.injEq,List.not_mem_nil,or_false] at hk'
   obtain⟨rfl,rfl⟩:=hk'
   rw [upd_same] at hb'
   cases hb'
  exact {
   S0sub:=fun _ h=>h,Snew:=fun _ h=>.inl h,Slt:=i1.Slt,kept:=fun _ _ _=>rfl,os:=rfl,tape:=rfl,output:=rfl,size:=Nat.le_refl _
   box:=fun k' c'' hk'=>by
    simp only [List.mem_cons,Prod.mk.injEq,List.not_mem_nil,or_false] at hk'
    obtain⟨rfl,rfl⟩:=hk'
    rw [upd_same]
    rfl
   priv:=fun k' c'' hk' b' hb'=>absurd hb' (hno k' c'' hk' b')
   inj:=fun k1 c1 k2 c2 h1 h2 b' hb1 hb2=>absurd hb1 (hno k1 c1 h1 b')
   fix:=fun _ _ h=>h.elim
   tab:=by rw [hG];exact i1.tab
   one:=fun k1 Y1 s1 k2 Y2 s2 h1 h2=>by
    simp only [List.mem_cons,Prod.mk.injEq,BoxC.ghost.injEq,List.not_mem_nil,or_false] at h1 h2
    obtain⟨rfl,rfl,rfl⟩:=h1
    obtain⟨rfl,rfl,rfl⟩:=h2
    exact⟨rfl,rfl⟩
   frn:=fun k' Y' st'' hk'=>by
    have hno':=hno
    simp only [List.mem_cons,Prod.mk.injEq,BoxC.ghost.injEq,List.not_mem_nil,or_false] at hk'
    obtain⟨rfl,rfl,rfl⟩:=hk'
    refine⟨rfl,by rw [hG];exact hro,by rw [hGY];show w.heap.size+2≤w1.heap.size;omega,fun k' c' hk' b hb'=>absurd hb' (hno k' c' hk' b),_,by rw [hG];exact hF0,fun b hb'=>⟨?_,?_,.inl hb',fun k' c' hk'=>hno k' c' hk' b⟩⟩
    ·rcases hb' with rfl | hb'
     ·rintro (h | h)
      ·have:=hs.inv.Slt _ h;omega
      ·omega
     ·exact (hbase b hb').1
    ·rcases hb' with rfl | hb'
     ·omega
     ·have:=(hbase b hb').2;omega }
 have hcall:=(hc G.Y (by rw [hGY]) (by rw [hGY]) (by rw [hGY]) (by rw [hGY])).2 _ _ (.func (.yield (w.heap.size+1)) #[] #[]::cs) hin (.cons (by rw [hGY];exact .yld _) ⟨r1.1,fun j c v hc hv=>(r1.2 j c v hc hv).closed (SV.closedAll_true r2 j c hc)⟩)
 have hE:=(hc G.Y (by rw [hGY]) (by rw [hGY]) (by rw [hGY]) (by rw [hGY])).1
 have hinv:(invoke (.fn (.func f) ⟨cs⟩) #[.func (.yield (w.heap.size+1)) #[] #[]]).run P w1=.ok (.enter f ⟨.func (.yield (w.heap.size+1)) #[] #[]::cs⟩) w1:=by
  obtain⟨fn',q1,q2,q3⟩:=hE
  have hargs:(#[.func (.yield (w.heap.size+1)) #[] #[]]++⟨cs⟩:Array Value)=⟨.func (.yield (w.heap.size+1)) #[] #[]::cs⟩:=by apply Array.ext';simp
  simp only [invoke,callFunc,Sem.run_bind,Sem.run_pure,Result.andThen_ok,run_program,q1,q2,q3,Bool.false_eq_true,if_false,hargs]
 refine⟨w.heap.size+1,[{ target:=.collected w.heap.size,args:=#[] }],w1,⟨.fn (.func f) ⟨cs⟩,#[.func (.yield (w.heap.size+1)) #[] #[]]⟩,w1,f,⟨.func (.yield (w.heap.size+1)) #[] #[]::cs⟩,w1,?_,?_,fun _ _=>trivial,hinv,fun hx=>by simp [FW,Fence.wide] at hx,callsIn_FW (hcall.mono ?_)⟩
 ·rw [hw1];exact run_enterLoop_outer fn a.tmps #[p] assign body
 ·have hy:Act.eval a (.const (.func (.yield (w.heap.size+1)) #[] #[]))=.func (.yield (w.heap.size+1)) #[] #[]:=rfl
  simp [resolve,Deferred.ofValue,rangeCall,hgv',hy]
 ·rintro e w3 ⟨v,S',β',rfl,hk,hv⟩
  obtain⟨_,_,_,_,B',q5,q6⟩:=hk.frn 1000000 G.Y st (by simp)
  simp only [hG] at q5
  obtain⟨β3,k1,k2,k3,k4,k5,k6,k7,k8,k9⟩:=q5
  have hng:noGhost (mb st):=fun k c hm=>(bxOnly_mem (h.mbOK st) k c hm).2.1
  have hsame:∀ o,C.w0.putObj (w.heap.size+1) o=C.w0:=fun o=>by
   unfold World.putObj
   rw [Array.setIfInBounds_eq_of_size_le (by omega)]
  have fin:∀ o,∃ βo,St C n S' (w3.putObj (w.heap.size+1) o) βo { a with defers:=[{ target:=.collected w.heap.size,args:=#[] }]++a.defers } (renSl lowK slR) (renBx lowK (mb st)):=by
   intro o
   have j1:=k1.put (o:=o) hng k3 k4
   have hcc:{ (C.rd fun k=>β (lowK k)) with w0:=(C.rd fun k=>β (lowK k)).w0.putObj (w.heap.size+1) o }=C.rd fun k=>β (lowK k):=by
    show ({ w0:=C.w0.putObj (w.heap.size+1) o,S0:=_,pre:=_,fixd:=_,G:=_ }:Ctx)=_
    rw [hsame];rfl
   rw [hcc] at j1
   obtain⟨βo,j2,j3⟩:=j1.reren h.keys h.high (h.mbOK st) hs.inv.fix
   refine⟨βo,j2,hs.size,⟨w.heap.size::Es,by simp [d1],List.nodup_cons.2 ⟨fun hm=>by have:=hs.inv.Slt _ (d3 _ hm).1;omega,d2⟩,fun E hE=>⟨(k7 E hE).1,?_,?_⟩⟩,fun t=>?_⟩
   ·rcases List.mem_cons.1 hE with rfl | hE
    ·exact hCw
    ·exact (d3 E hE).2.1
   ·refine (World.putObj_heap_other ?_).trans (k7 E hE).2
    rintro rfl
    exact k3 (k7 _ hE).1
   ·rw [sget_renSl]
    have hSl:∀ b,S' b→b≠w.heap.size+1:=fun b hb he=>by subst he;exact k3 hb
    refine RepV.ren ((k8 t).ext ⟨fun _ h=>h,fun b hb=>World.putObj_heap_other (hSl b hb)⟩ (fun _ _=>rfl)) fun k hk=>j3 k ?_
    have:=slOnly_has h.slOK t hk
    simp only [List.mem_filter] at this
    exact this.1
  cases st with
  | some j =>
   obtain⟨βo,s⟩:=fin (.loop { state:=.exhausted,pending:=none,fn,tmps:=a.tmps,params:=#[p],assign,body,defers:=w.heap.size })
   exact⟨none,_,run_endLoop k6 (by simp),_,_,S',βo,hend j rfl (k9 j rfl),s⟩
  | none =>
   obtain⟨βo,s⟩:=fin (.loop { state:=.exhausted,pending:=jumpOf jump,fn,tmps:=a.tmps,params:=#[p],assign,body,defers:=w.heap.size })
   obtain⟨c,hj⟩:=h.jumpOK
   refine⟨_,_,run_endLoop k6 (by simp),?_⟩
   have hq:=hstop rfl
   cases jump <;> simp only [jumpOf,reduceCtorEq] at hj
   ·exact wpIn_exit ⟨_,_,S',βo,hq,s⟩
   ·exact wpIn_ret ⟨_,_,S',βo,hq,s⟩
end Go.Abs
