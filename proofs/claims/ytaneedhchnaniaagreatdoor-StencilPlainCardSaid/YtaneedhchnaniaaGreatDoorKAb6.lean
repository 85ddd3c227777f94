/- Ranges over functions. Own framework. -/
import Derived.RangeFuncIn
import Derived.Test.YtaneedhchnaniaaGreatDoorKAb5
set_option linter.all false
namespace Go.Abs
open Go
mutual
def SV.Eg (f:Nat→Nat):SV→SV
 |.box k off=>.box (f k) off
 |.acc k=>.acc (f k)
 |.Eb k i off=>.Eb (f k) i off
 |.mp k=>.mp (f k)
 |.agg cs=>.agg (SV.Ns f cs)
 |.tuple cs=>.tuple (SV.Ns f cs)
 |.Bf g cs=>.Bf g (SV.Ns f cs)
 |.Fh cs off=>.Fh (SV.Ns f cs) off
 |.undef=>.undef
 |.d x=>.d x
 |.Ag c off=>.Ag c off
 |.Fm l=>.Fm l
def SV.Ns (f:Nat→Nat):List SV→List SV
 |[]=>[]
 |c::cs=>c.Eg f::SV.Ns f cs
end
theorem SV.Yt (f:Nat→Nat):∀cs:List SV,SV.Ns f cs=cs.map (SV.Eg f)
 |[]=>rfl
 |c::cs=>by simp [SV.Ns,SV.Yt f cs]
theorem SV.B5k (f:Nat→Nat)(x:SV):(x.Eg f).one=x.one:=by cases x <;> rfl
theorem SV.B1t {k j:Nat} {c:SV} {cs:List SV} (E:cs[j]? = some c)(h:c.has k=true):SV.Hi k cs=true:=by
 cases I:SV.Hi k cs with
 |false=>rw [SV.A1n I j c E] at h;simp at h
 |true=>rfl
theorem Am.Eg {S:Nat→Prop} {w:World} {β β':Names} {f:Nat→Nat} {x:SV} {v:Value} (h:Am S w β x v)(O:∀k,x.has k=true→β' (f k) = β k):Am S w β' (x.Eg f) v:=by
 induction h with
 |undef v=>exact .undef v
 |d x v h=>exact .d x v h
 |agg cells vs L W _ R =>
  simp only [SV.Eg,SV.Yt];refine .agg _ vs (by simpa using L) ?_ ?_
  ·intro c I;obtain⟨J,E,rfl⟩:=Ax.1 I;rw [SV.B5k];exact W J E
  ·intro j c v I V;rw [D3] at I;obtain⟨J,E,rfl⟩:=Ij.1 I;exact R j J v E V fun k U=>O k (by simp only [SV.has];exact SV.B1t E U)
 |tuple cells vs L _ R =>simp only [SV.Eg,SV.Yt];refine .tuple _ vs (by simpa using L) ?_;intro j c v I V;rw [D3] at I;obtain⟨J,E,rfl⟩:=Ij.1 I;exact R j J v E V fun k U=>O k (by simp only [SV.has];exact SV.B1t E U)
 |box k off b h=>exact .box _ off b (by rw [O k (by simp [SV.has])];exact h)
 |Ag cells off b base hs L W Z=>exact .Ag cells off b base hs L W Z
 |acc k=>have:=O k (by simp [SV.has]);rw [←this];exact .acc (f k)
 |Eb k i off b h=>have:=O k (by simp [SV.has]);rw [←this];exact .Eb (f k) i off b (by rw [this];exact h)
 |mp k b h=>exact .mp _ b (by rw [O k (by simp [SV.has])];exact h)
 |Fm l=>exact .Fm l
 |Fh cells off b hs L W _ R =>
  simp only [SV.Eg,SV.Yt];refine .Fh _ off b hs ?_ (by simpa using W) ?_
  ·intro c I;obtain⟨J,E,rfl⟩:=Ax.1 I;rw [SV.B5k];exact L J E
  ·intro j c v I V;rw [D3] at I;obtain⟨J,E,rfl⟩:=Ij.1 I;exact R j J v E V fun k U=>O k (by simp only [SV.has];exact SV.B1t E U)
 |Bf g cells vs L _ R =>simp only [SV.Eg,SV.Yt];refine .Bf g _ vs (by simpa using L) ?_;intro j c v I V;rw [D3] at I;obtain⟨J,E,rfl⟩:=Ij.1 I;exact R j J v E V fun k U=>O k (by simp only [SV.has];exact SV.B1t E U)
mutual
theorem Am.Sh {S:Nat→Prop} {w:World} {β β':Names} {f:Nat→Nat}:∀{x:SV} {v:Value},Am S w β' (x.Eg f) v→(∀k,x.has k=true→β' (f k) = β k)→Am S w β x v
 |.undef,v,_,_=>.undef v
 |.d x,v,h,_=>by simp only [SV.Eg] at h;exact .d x v h.Gp
 |.Ag c off,v,h,_=>by simp only [SV.Eg] at h;exact h.closed rfl
 |.Fm l,v,h,_=>by simp only [SV.Eg] at h;exact h.closed rfl
 |.box k off,v,h,E=>by simp only [SV.Eg] at h;cases h with| box _ _ b J=>exact .box k off b (by rw [←E k (by simp [SV.has])];exact J)
 |.acc k,v,h,E=>by simp only [SV.Eg] at h;cases h;rw [E k (by simp [SV.has])];exact .acc k
 |.Eb k i off,v,h,E=>by simp only [SV.Eg] at h;have I:=E k (by simp [SV.has]);cases h with| Eb _ _ _ b J=>rw [I];exact .Eb k i off b (by rw [←I];exact J)
 |.mp k,v,h,E=>by simp only [SV.Eg] at h;cases h with| mp _ b J=>exact .mp k b (by rw [←E k (by simp [SV.has])];exact J)
 |.agg cs,v,h,E=>by
  simp only [SV.Eg] at h;cases h with
  |agg _ vs R Z O =>have:=Bm.Sh (cs:=cs) ⟨R,O⟩ (fun k I=>E k (by simp only [SV.has];exact I));refine .agg cs vs this.1 (fun c L=>?_) this.2;rw [←SV.B5k f];exact Z _ (by rw [SV.Yt];exact List.mem_map_of_mem L)
 |.tuple cs,v,h,E=>by
  simp only [SV.Eg] at h;cases h with
  |tuple _ vs R O =>have:=Bm.Sh (cs:=cs) ⟨R,O⟩ (fun k I=>E k (by simp only [SV.has];exact I));exact .tuple cs vs this.1 this.2
 |.Bf g cs,v,h,E=>by
  simp only [SV.Eg] at h;cases h with
  |Bf _ _ vs R O =>have:=Bm.Sh (cs:=cs) ⟨R,O⟩ (fun k I=>E k (by simp only [SV.has];exact I));exact .Bf g cs vs this.1 this.2
 |.Fh cs off,v,h,E=>by
  simp only [SV.Eg] at h;cases h with
  |Fh _ _ b hs R Z O =>
   obtain⟨vs,hl,V⟩:=C1z (w:=w) (b:=b) (off:=0) (n:=(SV.Ns f cs).length) (fun j U=>by rw [I2];exact Z j U);have:=Bm.Sh (cs:=cs) (vs:=vs) ⟨hl,fun j c v L W=>O j c v L (by have:=V j v W;rwa [I2] at this)⟩ (fun k I=>E k (by simp only [SV.has];exact I));have a0:(SV.Ns f cs).length=cs.length:=by rw [SV.Yt];simp
   refine .Fh cs off b hs (fun c L=>?_) (fun j U=>Z j (by omega)) (fun j c v L W=>?_)
   ·rw [←SV.B5k f];exact R _ (by rw [SV.Yt];exact List.mem_map_of_mem L)
   ·have a1:=(Ay.1 L).1;have U:=V j (vs[j]'(by omega)) (Ba _);rw [I2,W] at U;simp only [Av] at U;exact this.2 j c v L (by rw [U];exact Ba _)
theorem Bm.Sh {S:Nat→Prop} {w:World} {β β':Names} {f:Nat→Nat}:∀{cs:List SV} {vs:List Value},Bm S w β' (SV.Ns f cs) vs→(∀k,SV.Hi k cs=true→β' (f k) = β k)→Bm S w β cs vs
 |[],vs,h,_=>⟨by simpa [SV.Ns] using h.1,by simp⟩
 |c::cs,vs,h,E=>by
  simp only [SV.Ns] at h;cases vs with
  |nil=>have:=h.1;simp at this
  |cons v vs =>
   exact .cons (Am.Sh (h.2 0 _ v rfl rfl) (fun k I=>E k (by simp [SV.Hi,I])))
    (Bm.Sh ⟨by have:=h.1;simpa using this,fun j c v L W=>h.2 (j+1) c v (by simpa using L) (by simpa using W)⟩ (fun k I=>E k (by simp [SV.Hi,I])))
end
def Ar.Eg (f:Nat→Nat):Ar→Ar
 |.cells cs=>.cells (SV.Ns f cs)
 |c=>c
def R8 (f:Nat→Nat):Ab→Ab
 |[]=>[]
 |(k,c)::r=>(f k,c.Eg f)::R8 f r
def A2k (f:Nat→Nat):SL→SL
 |[]=>[]
 |(t,x)::r=>(t,x.Eg f)::A2k f r
theorem C1t (f:Nat→Nat):∀(sl:SL)(t:Nat),Ae (A2k f sl) t=(Ae sl t).Eg f
 |[],t=>rfl
 |(u,x)::r,t=>by
  simp only [A2k,Ae];split
  ·rfl
  ·exact C1t f r t
theorem B5o {f:Nat→Nat} {j:Nat} {d:Ar}:∀{bx:Ab},(j,d)∈R8 f bx↔∃k c,(k,c)∈bx∧j=f k∧d=c.Eg f
 |[]=>by simp [R8]
 |(k,c)::r=>by
  simp only [R8,As,Df,B5o (bx:=r)];constructor
  ·rintro (⟨rfl,rfl⟩| ⟨E,I,h,rfl,rfl⟩)
   ·exact⟨k,c,.inl ⟨rfl,rfl⟩,rfl,rfl⟩
   ·exact⟨E,I,.inr h,rfl,rfl⟩
  ·rintro⟨E,I,(⟨rfl,rfl⟩| h),rfl,rfl⟩
   ·exact .inl ⟨rfl,rfl⟩
   ·exact .inr ⟨E,I,h,rfl,rfl⟩
theorem Dh.Eg {S:Nat→Prop} {w:World} {β β':Names} {f:Nat→Nat} {i:BI} {c:Ar} (h:Dh S w β i c)(R:∀k,c.has k=true→β' (f k) = β k):Dh S w β' i (c.Eg f):=by
 cases c with
 |cells cs =>obtain⟨b,ty,vs,V,J,L⟩:=h;refine⟨b,ty,vs,V,J,?_⟩;rw [SV.Yt];refine L.map (by simp) ?_;intro j x y v I E U;simp only [D3,I,E8,Av] at E;subst E;exact U.Eg fun k O=>R k (by simp only [Ar.has];exact SV.B1t I O)
 |rows sz rs=>exact h
 |map kvs=>exact h
 |iter kvs seen=>exact h
 |ghost Y st=>exact h
theorem Dh.Sh {S:Nat→Prop} {w:World} {β β':Names} {f:Nat→Nat} {i:BI} {c:Ar} (h:Dh S w β' i (c.Eg f))(L:∀k,c.has k=true→β' (f k) = β k):Dh S w β i c:=by
 cases c with
 |cells cs =>obtain⟨b,ty,vs,O,E,I⟩:=h;exact⟨b,ty,vs,O,E,Bm.Sh I fun k J=>L k (by simp only [Ar.has];exact J)⟩
 |rows sz rs=>exact h
 |map kvs=>exact h
 |iter kvs seen=>exact h
 |ghost Y st=>exact h
mutual
def SV.only (ks:List Nat):SV→Bool
 |.box k _=>ks.contains k
 |.acc k=>ks.contains k
 |.Eb k _ _=>ks.contains k
 |.mp k=>ks.contains k
 |.agg cs=>SV.A2i ks cs
 |.tuple cs=>SV.A2i ks cs
 |.Bf _ cs=>SV.A2i ks cs
 |.Fh cs _=>SV.A2i ks cs
 |.undef=>true
 |.d _=>true
 |.Ag _ _=>true
 |.Fm _=>true
def SV.A2i (ks:List Nat):List SV→Bool
 |[]=>true
 |c::cs=>c.only ks && SV.A2i ks cs
end
mutual
theorem SV.B5u {ks:List Nat} {k:Nat}:∀{x:SV},x.only ks=true→x.has k=true→k∈ks
 |.box j _,h,E=>by simp only [SV.only,Ak2] at h;simp only [SV.has,Ug] at E;rw [←E];exact h
 |.acc j,h,E=>by simp only [SV.only,Ak2] at h;simp only [SV.has,Ug] at E;rw [←E];exact h
 |.Eb j _ _,h,E=>by simp only [SV.only,Ak2] at h;simp only [SV.has,Ug] at E;rw [←E];exact h
 |.mp j,h,E=>by simp only [SV.only,Ak2] at h;simp only [SV.has,Ug] at E;rw [←E];exact h
 |.agg cs,h,E=>by simp only [SV.only] at h;simp only [SV.has] at E;exact SV.A7i h E
 |.tuple cs,h,E=>by simp only [SV.only] at h;simp only [SV.has] at E;exact SV.A7i h E
 |.Bf _ cs,h,E=>by simp only [SV.only] at h;simp only [SV.has] at E;exact SV.A7i h E
 |.Fh cs _,h,E=>by simp only [SV.only] at h;simp only [SV.has] at E;exact SV.A7i h E
 |.undef,_,E=>by simp [SV.has] at E
 |.d _,_,E=>by simp [SV.has] at E
 |.Ag _ _,_,E=>by simp [SV.has] at E
 |.Fm _,_,E=>by simp [SV.has] at E
theorem SV.A7i {ks:List Nat} {k:Nat}:∀{cs:List SV},SV.A2i ks cs=true→SV.Hi k cs=true→k∈ks
 |[],_,E=>by simp [SV.Hi] at E
 |c::cs,h,E=>by simp only [SV.A2i,B1] at h;simp only [SV.Hi,Ta] at E;exact E.elim (SV.B5u h.1) (SV.A7i h.2)
end
def Ar.only (ks:List Nat):Ar→Bool
 |.cells cs=>SV.A2i ks cs
 |.ghost _ _=>false
 |_=>true
def A6d (ks:List Nat):Ab→Bool
 |[]=>true
 |(k,c)::r=>ks.contains k && c.only ks && A6d ks r
def B8w (ks:List Nat):SL→Bool
 |[]=>true
 |(_,x)::r=>x.only ks && B8w ks r
theorem C1f {ks:List Nat} {k:Nat}:∀{sl:SL},B8w ks sl=true→∀t,(Ae sl t).has k=true→k∈ks
 |[],_,t,E=>by simp [Ae,SV.has] at E
 |(u,x)::r,h,t,E=>by
  simp only [B8w,B1] at h;simp only [Ae] at E;split at E
  ·exact SV.B5u h.1 E
  ·exact C1f h.2 t E
theorem Vb {ks:List Nat}:∀{bx:Ab},A6d ks bx=true→∀k c,(k,c)∈bx→k∈ks∧c.real=true∧∀j,c.has j=true→j∈ks
 |[],_,k,c,h=>by simp at h
 |(i,x)::r,h,k,c,hm=>by
  simp only [A6d,B1,Ak2] at h;rcases As.1 hm with I| hm
  ·simp only [Df] at I;obtain⟨rfl,rfl⟩:=I;refine⟨h.1.1,?_,fun j E=>?_⟩
   ·cases c <;> first| rfl| simp [Ar.only] at h
   ·cases c <;> first
     |(simp only [Ar.has] at E;exact SV.A7i h.1.2 E)
     |simp [Ar.has] at E
  ·exact Vb h.2 k c hm
end Go.Abs
namespace Go.Abs
open Go
variable {P:Program} {n:Nat} {Q:Exit→SL→Ab→Prop} {sl:SL} {bx:Ab}
def Q8 (β:Names)(bx:Ab)(b:Nat):Prop:=∃k c,(k,c)∈bx∧(β k).base=some b
def Vg (bx:Ab):Prop:=∀k c,(k,c)∈bx→c.real=true
theorem Vg.no {bx:Ab} (h:Vg bx) {k:Nat} {Y:Hj} {st:Option Nat}:(k,Ar.ghost Y st) ∉ bx:=fun E=>by have:=h _ _ E;simp [Ar.real] at this
theorem Inv.Sf {C:Ctx} {S S':Nat→Prop} {w w':World} {β:Names} {n0:Nat} {B:Nat→Prop} (h:Inv C S w β bx)(U:Vg bx)(I:∀b,Q8 β bx b→B b)(W:C.w0.heap.size≤n0)(k:E1z n0 B S w S' w'):Inv C S' w' β bx:=by
 have e:Bo S w S' w':=⟨k.sub,fun b hb=>k.same b (.inr (.inr hb))⟩;exact {
  Ek:=fun b hb=>k.sub b (h.Ek b hb)
  Dx:=fun b hb=>by
   rcases k.new b hb with hb| hb
   ·exact h.Dx b hb
   ·exact .inr (.inr (by omega))
  Bi:=k.lt
  kept:=fun b hb R=>(k.same b (.inl (by omega))).trans (h.kept b hb R)
  os:=k.os.trans h.os
  tape:=k.tape.trans h.tape
  output:=k.output.trans h.output
  size:=Dk h.size k.size
  box:=fun j c E=>(h.box j c E).ext e (fun b hb=>k.same b (.inr (.inl (I b ⟨j,c,E,hb⟩)))) (fun _ _=>rfl)
  B8:=fun j c E b hb=>⟨k.off b (I b ⟨j,c,E,hb⟩),Wj (h.B8 j c E b hb).2.1 k.size,(h.B8 j c E b hb).2.2⟩
  inj:=h.inj
  fix:=h.fix
  D9:=fun b cs V=>by obtain⟨J,ty,O,L⟩:=h.D9 b cs V;exact⟨e.sub b J,ty,O,(e.same b J).trans L⟩
  one:=h.one
  Ez:=fun j Y st E=>absurd E U.no }
theorem Inv.shut {C:Ctx} {S:Nat→Prop} {w:World} {β:Names} {D:Nat} {l V:Option (List Deferred)} (h:Inv C S w β bx)(R:Vg bx)(hn:C.w0.heap.size≤D)(W:¬Q8 β bx D)(q:w.heap[D]? = some (.deferred l)):Inv C S (w.putObj D (.deferred V)) β bx where
 Ek:=h.Ek
 Dx:=h.Dx
 Bi:=fun b E=>by simpa using h.Bi b E
 kept:=fun b E O=>(World.putObj_heap_other (by omega)).trans (h.kept b E O)
 os:=h.os
 tape:=h.tape
 output:=h.output
 size:=by simpa using h.size
 box:=fun k c I=>(h.box k c I).shut q (fun he=>W ⟨k,c,I,he⟩)
 B8:=fun k c I b E=>by simpa using h.B8 k c I b E
 inj:=h.inj
 fix:=h.fix
 D9:=fun b cs Z=>by obtain⟨h1,ty,L,J⟩:=h.D9 b cs Z;refine⟨h1,ty,L,(World.putObj_heap_other ?_).trans J⟩;rintro rfl;rw [q] at J;cases J
 one:=h.one
 Ez:=fun j Y st U=>absurd U R.no
theorem Inv.put {C:Ctx} {S:Nat→Prop} {w:World} {β:Names} {l:Nat} {o:Obj} (h:Inv C S w β bx)(W:Vg bx)(O:¬S l)(hb:¬Q8 β bx l):Inv { C with w0:=C.w0.putObj l o } S (w.putObj l o) β bx:=by
 have a0:=h.size;have e:Bo S w S (w.putObj l o):=⟨fun _ h=>h,fun b E=>World.putObj_heap_other fun I=>O (I ▸ E)⟩;exact {
  Ek:=h.Ek
  Dx:=fun b E=>by simpa using h.Dx b E
  Bi:=fun b E=>by simpa using h.Bi b E
  kept:=fun b E V=>by
   simp only [World.putObj_size] at E;by_cases I:b=l
   ·subst I;rw [World.putObj_heap_same E,World.putObj_heap_same (by omega)]
   ·rw [World.putObj_heap_other I,World.putObj_heap_other I];exact h.kept b E V
  os:=h.os
  tape:=h.tape
  output:=h.output
  size:=by simpa using h.size
  box:=fun k c J=>(h.box k c J).ext e (fun b E=>World.putObj_heap_other fun I=>hb ⟨k,c,J,I ▸ E⟩) (fun _ _=>rfl)
  B8:=fun k c J b E=>by simpa using h.B8 k c J b E
  inj:=h.inj
  fix:=h.fix
  D9:=fun b cs hv=>by obtain⟨L,ty,U,R⟩:=h.D9 b cs hv;exact⟨L,ty,U,(e.same b L).trans R⟩
  one:=h.one
  Ez:=fun j Y st Z=>absurd Z W.no }
theorem Inv.F2v {C C2:Ctx} {S W:Nat→Prop} {w Z:World} {β R:Names} {E:Ab} {B B2:Nat→Prop} (h:Inv C S w β bx)(L:Inv C2 W Z R E)(hg:Vg E)(hB:∀b,B b→C.pre b∨C.w0.heap.size≤b)
  (V:∀b,Q8 R E b→B2 b) (t:A5h B S w B2 W Z) (O:∀k i,C.A6p k i→R k=i):Inv C W Z R E:=by
 have a0:=h.size;have I:∀b,B b∨w.heap.size≤b→C.pre b∨C.w0.heap.size≤b:=fun b hb=>hb.elim (hB b) fun h=>.inr (by omega);exact {
  Ek:=fun b hb=>t.ext.sub b (h.Ek b hb)
  Dx:=fun b hb=>by
   rcases t.new b hb with hb| hb
   ·exact h.Dx b hb
   ·exact .inr (I b hb)
  Bi:=t.lt
  kept:=fun b hb hp=>by
   rw [←h.kept b hb hp];refine t.kept b (by omega) fun U=>?_;rcases hB b U with h' | h'
   ·exact hp h'
   ·omega
  os:=t.os.trans h.os
  tape:=t.tape.trans h.tape
  output:=t.output.trans h.output
  size:=Dk h.size t.size
  box:=L.box
  B8:=fun k c J b hb=>⟨(L.B8 k c J b hb).1,(L.B8 k c J b hb).2.1,I b (t.own b (V b ⟨k,c,J,hb⟩)).2.2⟩
  inj:=L.inj
  fix:=fun k i J=>⟨(h.fix k i J).1,O k i J⟩
  D9:=fun b cs hb=>by obtain⟨h1,ty,fr,hh⟩:=h.D9 b cs hb;exact⟨t.ext.sub b h1,ty,fr,(t.ext.same b h1).trans hh⟩
  one:=L.one
  Ez:=fun j Y st hj=>absurd hj hg.no }
def E6 (k:Nat):Nat:=if 2000000≤k then k - 2000000 else k
def Ctx.rd (C:Ctx) (β:Names):Ctx:={ C with A6p:=fun k i=>2000000≤k∧i = β k }
def A9a (C:Ctx)(l:Nat)(Ds:List Nat)(tmps:Array Value)(I:LoopState→Option Code→Loop) (βR:Names)(slR:SL)(mb:Option Nat→Ab)(go:Nat→Bool)(jump:Option Code)(st:Option Nat)(B S:Nat→Prop)(w:World):Prop :=
 ∃β,Inv (C.rd βR) S w β (mb st)∧(∀b,B b↔(b=l∨Q8 β (mb st) b))∧¬S l∧¬Q8 β (mb st) l∧l < w.heap.size ∧
  w.heap[l]? = some (.loop (match st with| some _=>I .ready none| none=>I .done jump)) ∧
  (∀E,E∈Ds→S E∧w.heap[E]? = some (.deferred (some [])))∧(∀t,Am S w β (Ae slR t) (tmps.getD t undef))∧(∀j,st=some j→∀i,i < j→go i=true)
end Go.Abs
namespace Go.Abs
open Go
variable {P:Program} {n:Nat} {Q:Exit→SL→Ab→Prop} {sl:SL} {bx:Ab}
def Sr:Exit→Option Code
 |.ret=>some .ret
 |.exit id=>some (.exit id)
 |_=>none
def G0i (mb:Option Nat→Ab)(go:Nat→Bool)(jump:Exit)(j:Nat)(e:Exit)(sl:SL)(bx:Ab):Prop :=
 match e with
 |.normal=>go j=true∧ble bx (mb (some (j+1)))
 |e=>go j=false∧e=jump∧ble bx (mb none)
def B0z:Ab→Bool
 |[]=>true
 |(_,c)::r=>c.real && B0z r
theorem D1h:∀{bx:Ab},B0z bx=true→Vg bx
 |[],_,k,c,h=>by simp at h
 |(i,x)::r,h,k,c,hm=>by
  simp only [B0z,B1] at h;rcases As.1 hm with E| hm
  ·simp only [Df] at E;obtain⟨rfl,rfl⟩:=E;exact h.1
  ·exact D1h h.2 k c hm
def F5r (P:Program)(n l:Nat)(body:Code)(Q:Exit→SL→Ab→Prop)(sl:SL)(bx:Ab):Prop:=B0z bx=true∧A0 (some l) P n body Q sl bx
structure C4o (P:Program)(n:Nat)(p:Tmp)(assign body:Code)(N:Nat)(xs:Nat→SV)(go:Nat→Bool)(jump:Exit)(ks:List Nat)(slR:SL)(mb:Option Nat→Ab):Prop where
 B8i:∃c,Sr jump=some c
 keys:(ks.map E6).Nodup
 high:∀k,k∈ks→2000000≤k∨k≤999999
 D7w:B8w (ks.filter (2000000≤·)) slR=true
 B6d:∀st,A6d ks (mb st)=true
 pOK:p < n
 closed:∀j,(xs j).closed=true
 body:∀j,j < N→(∀i,i < j→go i=true)→∀l,A0 (some l) P n assign (A4 (F5r P n l body (G0i mb go jump j)) (fun _ _ _=>False)) ((p,xs j)::slR) (mb (some j))
theorem C4o.rounds {p:Tmp} {assign body:Code} {N:Nat} {xs:Nat→SV} {go:Nat→Bool} {jump:Exit} {ks:List Nat} {slR:SL} {mb:Option Nat→Ab} (h:C4o P n p assign body N xs go jump ks slR mb)
  {C:Ctx} {l n0:Nat} {Ds:List Nat} {tmps:Array Value} {fn:FuncId} {D:Nat} {βR:Names} (aq:tmps.size=n) (hl:l < n0) (ab:∀E,E∈Ds→E < n0) (b0:l ∉ Ds) (as:C.w0.heap.size≤l) (ak:C.w0.heap.size≤n0) {sy ra:TypeId × Value} :
  E1t ⟨⟨P,l,n0,N,xs,go⟩,A9a C l Ds tmps (fun state pending=>{ state,pending,fn,tmps,params:=#[p],assign,body,defers:=D }) βR slR mb go (Sr jump),sy,ra⟩:=by
 have a0:∀st,Vg (mb st):=fun st k c hm=>(Vb (h.B6d st) k c hm).2.1;refine⟨?_,?_,?_⟩
 ·
  rintro st B S w S' w' ⟨β,R,Z,h3,h4,h5,h6,h7,h8,h9⟩ k;have e:Bo S w S' w':=⟨k.sub,fun b I=>k.same b (.inr (.inr I))⟩;refine⟨β,R.Sf (a0 st) (fun b I=>(Z b).2 (.inr I)) ak k,Z,k.off l ((Z l).2 (.inl rfl)),h4,Wj h5 k.size,(k.same l (.inl hl)).trans h6,fun E O=>⟨k.sub E (h7 E O).1,(k.same E (.inl (ab E O))).trans (h7 E O).2⟩,fun t=>(h8 t).ext e (fun _ _=>rfl),h9⟩
 ·
  rintro st B S w D' q q' ⟨β,R,Z,h3,h4,h5,h6,h7,h8,h9⟩ hn hB hq;have ai:∀E,E < n0→E≠D':=fun E O he=>by simp only at hn;omega
  refine⟨β,R.shut (a0 st) (by simp only at hn;show C.w0.heap.size≤D';omega) (fun I=>hB ((Z D').2 (.inr I))) hq,Z,h3,h4,by simpa using h5,(World.putObj_heap_other (ai l hl)).trans h6,fun E O=>⟨(h7 E O).1,(World.putObj_heap_other (ai E (ab E O))).trans (h7 E O).2⟩,fun t=>(h8 t).shut hq,h9⟩
 ·
  rintro j B S w β v a8 ⟨β1,R,Z,h3,h4,h5,h6,h7,h8,h9⟩ hS hB hv;simp only at h6 hv a8;have am:Am S w β1 (xs j) v:=hv.closed (h.closed j);have hy:=run_yield (P:=P) (args:=#[v]) h6 (by simp);simp only [List.zip_toArray,List.zip_cons_cons,List.zip_nil_right,List.foldl_toArray,Li,Tu] at hy;have a4:=R.B8;have av:∀b,Q8 β1 (mb (some j)) b→b < w.heap.size∧¬S b:=fun b ⟨k,c,L,I⟩=>⟨(a4 k c L b I).2.1,(a4 k c L b I).1⟩;have i1:Inv ⟨w,S,Q8 β1 (mb (some j)),fun k i=>2000000≤k∧i = βR k,C.G⟩ S w β1 (mb (some j)):={
   Ek:=fun _ h=>h,Dx:=fun _ h=>.inl h,Bi:=R.Bi,kept:=fun _ _ _=>rfl,os:=rfl,tape:=rfl,output:=rfl,size:=Cq _
   box:=R.box
   B8:=fun k c L b I=>⟨(a4 k c L b I).1,(a4 k c L b I).2.1,.inl ⟨k,c,L,I⟩⟩
   inj:=R.inj
   fix:=R.fix
   D9:=R.D9
   one:=R.one
   Ez:=fun k Y st L=>absurd L (a0 _).no }
  have ag:∀t,(tmps.setIfInBounds p v).getD t undef=if p=t then v else tmps.getD t undef:=fun t=>by
   simp only [Ao5,Array.getElem?_setIfInBounds];split
   ·subst_vars;simp [h.pOK]
   ·rfl
  have aw:St ⟨w,S,Q8 β1 (mb (some j)),fun k i=>2000000≤k∧i = βR k,C.G⟩ n S w β1 { tmps:=tmps.setIfInBounds p v,defers:=[] } ((p,xs j)::slR) (mb (some j)):=by
   refine⟨i1,by simp [aq],.nil,fun t=>?_⟩;simp only [ag,Ae];split
   ·exact am
   ·exact h8 t
  have hA:=h.body j a8 (h9 j rfl) l;refine⟨_,_,_,_,hy,roundIn_of_wpIn trivial (At5 (hA _ S w β1 _ aw) ?_)⟩;rintro e a1 w1 ⟨b1,b2,S1,β2,hq,s1⟩;have a5:∀{S':Nat→Prop} {w':World} {β':Names} {bx':Ab} {w0:World},w0.heap.size=w.heap.size→Inv ⟨w0,S,Q8 β1 (mb (some j)),fun k i=>2000000≤k∧i = βR k,C.G⟩ S' w' β' bx'→¬S' l∧¬Q8 β' bx' l:=by
   intro S' w' β' bx' w0 af hi;refine⟨fun hs=>?_,fun⟨k,c,L,I⟩=>?_⟩
   ·rcases hi.Dx l hs with h| h| h
    ·exact h3 h
    ·exact h4 h
    ·simp only [af] at h;omega
   ·rcases (hi.B8 k c L l I).2.2 with h| h
    ·exact h4 h
    ·simp only [af] at h;omega
  cases e with
  |normal =>
   simp only [A4] at hq;obtain⟨f1,f2⟩:=a5 rfl s1.inv;have ao:w1.heap[l]? = _:=(s1.inv.kept l h5 h4).trans h6;have g1:=D1h hq.1;refine⟨_,run_beginRound ao rfl,At5 (hq.2 _ S1 _ β2 a1 ⟨s1.inv.put g1 f1 f2,s1.size,?_,fun t=>?_⟩) ?_⟩
   ·obtain⟨Es,q1,q2,q3⟩:=s1.defers;refine⟨Es,q1,q2,fun E O=>⟨(q3 E O).1,by simpa using (q3 E O).2.1,(World.putObj_heap_other ?_).trans (q3 E O).2.2⟩⟩;rintro rfl;exact f1 (q3 _ O).1
   ·have aj:∀b,S1 b→b≠l:=fun b I he=>by subst he;exact f1 I
    exact (s1.slot t).ext ⟨fun _ h=>h,fun b I=>World.putObj_heap_other (aj b I)⟩ (fun _ _=>rfl)
   rintro e a3 w3 ⟨az,a9,S3,β3,W,U⟩;obtain⟨f3,f4⟩:=a5 (by simp) U.inv;have a':w.heap.size≤w3.heap.size:=by have:=U.inv.size;simpa using this
   have ah:w3.heap[l]? = some (.loop { state:=.busy,pending:=none,fn,tmps,params:=#[p],assign,body,defers:=D }):=by rw [U.inv.kept l (by simpa using h5) h4];exact World.putObj_heap_same h5
   have aa:∀(st:Option Nat) (o:Obj),ble a9 (mb st)→(match st with| some j'=>j'=j+1∧go j=true| none=>True) →
     (w3.putObj l o).heap[l]? = some (.loop (match st with| some _=>{ state:=.ready,pending:=none,fn,tmps,params:=#[p],assign,body,defers:=D } | none=>{ state:=.done,pending:=Sr jump,fn,tmps,params:=#[p],assign,body,defers:=D })) →
     ∃S' B',A9a C l Ds tmps (fun state pending=>{ state,pending,fn,tmps,params:=#[p],assign,body,defers:=D }) βR slR mb go (Sr jump) st B' S' (w3.putObj l o)∧A5h B S w B' S' (w3.putObj l o):=by
    intro st o J ay ho;have ad:=U.inv.sub (A5z J);have ap:=ad.put (o:=o) (a0 st) f3 (fun⟨k,c,L,I⟩=>f4 ⟨k,c,A5z J k c L,I⟩);have a6:∀k,2000000≤k→β3 k = βR k:=fun k L=>(U.inv.fix k (βR k) ⟨L,rfl⟩).2;have ac:∀b,S b→b≠l:=fun b I he=>by subst he;exact h3 I
    have e3:Bo S w S3 (w3.putObj l o):=⟨U.inv.Ek,fun b I=>by rw [World.putObj_heap_other (ac b I),U.inv.kept b (by simpa using hS b I) (fun au=>(av b au).2 I)];exact World.putObj_heap_other (ac b I)⟩
    have t:A5h B S w (fun b=>b=l∨Q8 β3 (mb st) b) S3 (w3.putObj l o):={
     ext:=e3
     new:=fun b I=>by
      rcases U.inv.Dx b I with h| h| h
      ·exact .inl h
      ·exact .inr (.inl ((Z b).2 (.inr h)))
      ·exact .inr (.inr (by simpa using h))
     lt:=fun b I=>by simpa using U.inv.Bi b I
     own:=fun b I=>by
      rcases I with rfl| ⟨k,c,L,I⟩
      ·exact⟨f3,by simp;omega,.inl ((Z _).2 (.inl rfl))⟩
      ·obtain⟨p1,p2,p3⟩:=ad.B8 k c L b I;exact⟨p1,by simpa using p2,p3.imp (fun h=>(Z b).2 (.inr h)) (fun h=>by simpa using h)⟩
     kept:=fun b I hn=>by have ae:b≠l:=fun he=>hn ((Z b).2 (.inl he));rw [World.putObj_heap_other ae,U.inv.kept b (by simpa using I) (fun h=>hn ((Z b).2 (.inr h)))];exact World.putObj_heap_other ae
     os:=U.inv.os
     tape:=U.inv.tape
     output:=U.inv.output
     size:=by simpa using a' }
    refine⟨S3,_,⟨β3,R.F2v ap (a0 st) (fun b I=>?_) (fun b I=>.inr I) t (fun k i L=>?_),fun b=>Iff.rfl,f3,fun⟨k,c,L,I⟩=>f4 ⟨k,c,A5z J k c L,I⟩,by simp;omega,?_,fun E O=>⟨e3.sub E (h7 E O).1,(e3.same E (h7 E O).1).trans (h7 E O).2⟩,fun t=>(h8 t).ext e3 fun k L=>?_,fun j' ar i hi=>?_⟩,t⟩
    ·rcases (Z b).1 I with rfl| ⟨k,c,L,I⟩
     ·exact .inr as
     ·exact (R.B8 k c L b I).2.2
    ·rw [a6 k L.1];exact L.2.symm
    ·cases st <;> exact ho
    ·have a7:=C1f h.D7w t L;simp only [L8,D8] at a7;rw [a6 k a7.2,(R.fix k (βR k) ⟨a7.2,rfl⟩).2]
    ·subst ar;obtain⟨rfl,ax⟩:=ay;rcases Nat.lt_or_ge i j with h| h
     ·exact h9 j rfl i h
     ·have:i=j:=by omega
      subst this;exact ax
   have a2:∀o,(w3.putObj l o).heap[l]? = some o:=fun o=>World.putObj_heap_same (by omega);have stop:∀c,go j=false→Sr jump=some c→ble a9 (mb none)→∃v' w',(Instr.endRound l (some c)).run P w3=.ok v' w'∧(∃S' B',(Ending.returned v')=.returned (.bool (go j))∧A9a C l Ds tmps (fun state pending=>{ state,pending,fn,tmps,params:=#[p],assign,body,defers:=D }) βR slR mb go (Sr jump) (Hj.next ⟨P,l,n0,N,xs,go⟩ j) B' S' w'∧A5h B S w B' S' w'):=by
    intro c V hc J;obtain⟨S',B',p1,p2⟩:=aa none _ J trivial (by rw [a2,hc]);refine⟨_,_,run_endRound (some c) ah,S',B',by simp [V],?_,p2⟩;have:Hj.next ⟨P,l,n0,N,xs,go⟩ j=none:=by simp [Hj.next,V]
    rw [this];exact p1
   cases e with
   |normal =>
    obtain⟨V,J⟩:=W;obtain⟨S',B',p1,p2⟩:=aa (some (j+1)) _ J ⟨rfl,V⟩ (by rw [a2]);refine⟨_,_,run_endRound none ah,S',B',by simp [V],?_,p2⟩;have:Hj.next ⟨P,l,n0,N,xs,go⟩ j=some (j+1):=by simp [Hj.next,V]
    rw [this];exact p1
   |ret =>obtain⟨V,rfl,J⟩:=W;exact stop .ret V rfl J
   |exit id =>obtain⟨V,rfl,J⟩:=W;exact stop (.exit id) V rfl J
   |goto t =>obtain⟨V,rfl,J⟩:=W;obtain⟨c,hc⟩:=h.B8i;simp [Sr] at hc
   |panic ch =>obtain⟨V,rfl,J⟩:=W;obtain⟨c,hc⟩:=h.B8i;simp [Sr] at hc
   |outgrown =>obtain⟨V,rfl,J⟩:=W;obtain⟨c,hc⟩:=h.B8i;simp [Sr] at hc
  |_=>exact hq.elim
end Go.Abs
namespace Go.Abs
open Go
variable {P:Program} {n:Nat} {Q:Exit→SL→Ab→Prop} {sl:SL} {bx:Ab}
variable {ks:List Nat}
theorem D4t {f:Nat→Nat} :(ks.map f).Nodup→∀a b,a∈ks→b∈ks→f a=f b→a=b:=by
 induction ks with
 |nil=>intro _ a b I;simp at I
 |cons k ks L =>
  intro h a b I J E;simp only [Cz,Ys,Ax,not_exists,not_and] at h;rcases As.1 I with ha1| ha1
  ·rcases As.1 J with hb1| hb1
   ·rw [ha1,hb1]
   ·rw [ha1] at E;exact absurd E.symm (h.1 b hb1)
  ·rcases As.1 J with hb1| hb1
   ·rw [hb1] at E;exact absurd E (h.1 a ha1)
   ·exact L h.2 a b ha1 hb1 E
variable {mb:Ab}
theorem F0p (h:(mb.map (·.1)).Nodup) {k:Nat} {c I:Ar} (J:(k,c)∈mb)(E:(k,I)∈mb):c=I:=by
 induction mb with
 |nil=>simp at J
 |cons x mb L =>
  simp only [Cz,Ys,Ax,not_exists,not_and] at h;rcases As.1 J with a1| a1
  ·rcases As.1 E with a2| a2
   ·rw [←a1] at a2;simp only [Df,Qv] at a2;exact a2.symm
   ·exact absurd (by rw [←a1]) (h.1 _ a2)
  ·rcases As.1 E with a2| a2
   ·exact absurd (by rw [←a2]) (h.1 _ a1)
   ·exact L h.2 a1 a2
theorem Inv.Sh {C:Ctx} {S:Nat→Prop} {w:World} {β:Names} (h:Inv C S w β (R8 E6 mb))(hk:(ks.map E6).Nodup)(L:A6d ks mb=true)(hu:(mb.map (·.1)).Nodup) :
  Inv (C.rd fun k=>β (E6 k)) S w (fun k=>β (E6 k)) mb:=by
 have E:∀{k:Nat} {c:Ar},(k,c)∈mb→(E6 k,c.Eg E6)∈R8 E6 mb:=fun L=>B5o.2 ⟨_,_,L,rfl,rfl⟩;have O:Vg mb:=fun k c V=>(Vb L k c V).2.1;exact { h with
  box:=fun k c I=>(h.box _ _ (E I)).Sh fun _ _=>rfl
  B8:=fun k c I=>h.B8 _ _ (E I)
  inj:=fun k c k' c' J U b R W=>by have:=D4t hk k k' (Vb L _ _ J).1 (Vb L _ _ U).1 (h.inj _ _ _ _ (E J) (E U) b R W).1;subst this;exact⟨rfl,F0p hu J U⟩
  fix:=fun k i Z=>⟨by have:=Z.1;omega,Z.2.symm⟩
  one:=fun k Y st k' Y' a0 J=>absurd J O.no
  Ez:=fun k Y st J=>absurd J O.no }
theorem Inv.E7x {C:Ctx} {S:Nat→Prop} {w:World} {β β':Names} (h:Inv (C.rd fun k=>β (E6 k)) S w β' mb)(hk:(ks.map E6).Nodup)(hh:∀k,k∈ks→2000000≤k∨k≤999999)(J:A6d ks mb=true)(hC:∀k i,C.A6p k i→1000000≤k∧β k=i) :
  ∃L:Names,Inv C S w L (R8 E6 mb)∧∀k,k∈ks→L (E6 k) = β' k:=by
 have a3:Vg mb:=fun k c a4=>(Vb J k c a4).2.1;obtain⟨L,U⟩:∃L:Names,∀k,L k=if k∈ks∧k≤999999 then β' k else β k:=⟨fun k=>if k∈ks∧k≤999999 then β' k else β k,fun _=>rfl⟩
 have key:∀k,k∈ks→L (E6 k) = β' k:=by
  intro k I;rw [U];rcases hh k I with h1| h1
  ·have hl:E6 k=k - 2000000:=by unfold E6;rw [A8 h1]
   have a0:¬(E6 k∈ks∧E6 k≤999999):=by
    rintro⟨a,b⟩;have a2:E6 (E6 k)=E6 k:=by
     have h5:¬ 2000000≤E6 k:=by omega
     generalize E6 k=q at h5;unfold E6;rw [A6 h5]
    have:=D4t hk _ _ a I a2;omega
   rw [A6 a0];exact ((h.fix k _ ⟨h1,rfl⟩).2).symm
  ·have hl:E6 k=k:=by unfold E6;rw [A6 (by omega)]
   simp only [hl,I,h1,and_self,Af]
 refine⟨L,?_,key⟩;have hb:∀{j:Nat} {d:Ar},(j,d)∈R8 E6 mb→∃k c,(k,c)∈mb∧j=E6 k∧d=c.Eg E6:=fun J=>B5o.1 J;have E:∀(k:Nat) (Y:Hj) (st:Option Nat),(k,Ar.ghost Y st) ∉ R8 E6 mb:=fun k Y st a5=>by obtain⟨R,c,h1,_,O⟩:=hb a5;have:=a3 _ _ h1;cases c <;> simp [Ar.Eg,Ar.real] at O this
 exact { h with
  box:=fun j d hj=>by obtain⟨k,c,h1,rfl,rfl⟩:=hb hj;obtain⟨m1,_,m3⟩:=Vb J k c h1;rw [key k m1];exact (h.box k c h1).Eg fun i hi=>key i (m3 i hi)
  B8:=fun j d hj b V=>by obtain⟨k,c,h1,rfl,rfl⟩:=hb hj;rw [key k (Vb J k c h1).1] at V;exact h.B8 k c h1 b V
  inj:=fun j d j' d' hj a1 b Z W=>by obtain⟨k,c,h1,rfl,rfl⟩:=hb hj;obtain⟨R,c',O,rfl,rfl⟩:=hb a1;rw [key k (Vb J k c h1).1] at Z;rw [key R (Vb J R c' O).1] at W;obtain⟨rfl,rfl⟩:=h.inj k c R c' h1 O b Z W;exact⟨rfl,rfl⟩
  fix:=fun k i hi=>by obtain⟨h1,O⟩:=hC k i hi;refine⟨h1,?_⟩;rw [U,A6 (by omega)];exact O
  one:=fun k Y st R Y' a6 h1=>absurd h1 (E _ _ _)
  Ez:=fun k Y st h1=>absurd h1 (E _ _ _) }
theorem A0.rangeFunc {g:Operand} {p:Tmp} {assign body:Code} {f:FuncId} {caps caps':List SV} {r:SV} {N:Nat} {xs:Nat→SV} {go:Nat→Bool} {jump:Exit} {slR:SL} {mb:Option Nat→Ab} {st:Option Nat} 
  (h:C4o P n p assign body N xs go jump ks slR mb) (hu:∀st,((mb st).map (·.1)).Nodup) (hg:Ao sl g=.Bf f caps) (a6:Gy [] caps=some caps')
  (hc:∀Y:Hj,Y.P=P→Y.N=N→Y.xs=xs→Y.go=go→Cd P f (.Fm Y.l::caps') [(1000000,.ghost Y (some 0))] r [(1000000,.ghost Y st)])
  (h1:sle sl (A2k E6 slR)) (h2:ble bx (R8 E6 (mb (some 0))))
  (a8:∀j,st=some j→(∀i,i < j→go i=true)→Q .normal (A2k E6 slR) (R8 E6 (mb (some j)))) (a2:st=none→Q jump (A2k E6 slR) (R8 E6 (mb none))) :
  A0 none P n (.rangeFunc g #[p] assign body) Q sl bx:=by
 intro C S w β a a0;have Z:=a0.Ao g;rw [hg] at Z;generalize ac:a.eval g=gv at Z;have hs:St C n S w β a (A2k E6 slR) (R8 E6 (mb (some 0))):=a0.weaken h1 h2;clear a0;cases Z with
 |Bf _ _ cs g1 g2 =>
 refine wpIn_rangeFunc fun fn _=>?_;obtain⟨L,O⟩:∃L,L=(w.alloc (.deferred (some []))).alloc (.loop { state:=.ready,pending:=none,fn,tmps:=a.tmps,params:=#[p],assign,body,defers:=w.heap.size }):=⟨_,rfl⟩;have aq:L.heap.size=w.heap.size+2:=by rw [O];simp [-World.alloc_eq,World.alloc]
 have ab:∀b,b < w.heap.size→L.heap[b]? = w.heap[b]?:=fun b hb=>by rw [O,RowKit.Below.heap_alloc _ _ b (by simp [-World.alloc_eq,World.alloc];omega),RowKit.Below.heap_alloc w _ b hb]
 have hD:L.heap[w.heap.size]? = some (.deferred (some [])):=by rw [O,RowKit.Below.heap_alloc _ _ _ (by simp [-World.alloc_eq,World.alloc])];exact World.alloc_heap_new w _
 have hl:L.heap[w.heap.size+1]? = some (.loop { state:=.ready,pending:=none,fn,tmps:=a.tmps,params:=#[p],assign,body,defers:=w.heap.size }):=by have:=World.alloc_heap_new (w.alloc (.deferred (some []))) (.loop { state:=.ready,pending:=none,fn,tmps:=a.tmps,params:=#[p],assign,body,defers:=w.heap.size });rw [World.size_alloc] at this;rw [O];exact this
 have af:=hs.inv.size;obtain⟨Es,d1,d2,d3⟩:=hs.defers;obtain⟨i1,e1⟩:=hs.inv.grow (S':=fun b=>S b∨b=w.heap.size) (w':=L) (fun b hb=>.inl hb) (fun b hb=>hb.imp id fun h=>by omega) (fun b hb=>by
  rcases hb with hb| hb
  ·have:=hs.inv.Bi b hb;omega
  ·omega) ab (by rw [O];rfl) (by rw [O];rfl) (by rw [O];rfl) (by omega)
 have i2:=i1.Sh h.keys (h.B6d (some 0)) (hu _);have a4:∀t,Am (fun b=>S b∨b=w.heap.size) L (fun k=>β (E6 k)) (Ae slR t) (a.tmps.getD t undef):=fun t=>by have:=hs.slot t;rw [C1t] at this;exact Am.Sh (this.ext e1 (fun _ _=>rfl)) (fun _ _=>rfl)
 have ae:∀E,E∈w.heap.size::Es→E < w.heap.size+2:=fun E hE=>by
  rcases As.1 hE with rfl| hE
  ·omega
  ·have:=hs.inv.Bi E (d3 E hE).1;omega
 have ai:=h.rounds (C:=C) (sy:=C.G.sy) (ra:=C.G.ra) (l:=w.heap.size+1) (n0:=w.heap.size+2) (Ds:=w.heap.size::Es) (tmps:=a.tmps) (fn:=fn) (D:=w.heap.size) (βR:=fun k=>β (E6 k)) hs.size (by omega) ae (by
  intro hm;rcases As.1 hm with hm| hm
  ·omega
  ·have:=hs.inv.Bi _ (d3 _ hm).1;omega) (by omega) (by omega)
 have R:∀b,Q8 (fun k=>β (E6 k)) (mb (some 0)) b→¬(S b∨b=w.heap.size)∧b < w.heap.size:=fun b ⟨k,c,hk,hb⟩=>by obtain⟨p1,p2,_⟩:=hs.inv.B8 _ _ (B5o.2 ⟨k,c,hk,rfl,rfl⟩) b hb;exact⟨fun h=>h.elim p1 (by omega),p2⟩
 have aj:A9a C (w.heap.size+1) (w.heap.size::Es) a.tmps (fun state pending=>{ state,pending,fn,tmps:=a.tmps,params:=#[p],assign,body,defers:=w.heap.size }) (fun k=>β (E6 k)) slR mb go (Sr jump) (some 0)
   (fun b=>b=w.heap.size+1∨Q8 (fun k=>β (E6 k)) (mb (some 0)) b) (fun b=>S b∨b=w.heap.size) L:=by
  refine⟨_,i2,fun b=>Iff.rfl,?_,fun hb=>?_,by omega,hl,fun E hE=>?_,a4,fun j hj i hi=>?_⟩
  ·rintro (hb| hb)
   ·have:=hs.inv.Bi _ hb;omega
   ·omega
  ·have:=(R _ hb).2;omega
  ·rcases As.1 hE with rfl| hE
   ·exact⟨.inr rfl,hD⟩
   ·exact⟨.inl (d3 E hE).1,(ab E (hs.inv.Bi E (d3 E hE).1)).trans (d3 E hE).2.2⟩
  ·cases hj;omega
 have a9:Inv ⟨L,fun b=>S b∨b=w.heap.size,fun _=>False,fun _ _=>False,C.G⟩ (fun b=>S b∨b=w.heap.size) L β []:=i1.begin i1.Bi (fun _ h=>h);obtain⟨r1,r2⟩:=Ua a9 (Bo.refl _ _) (by simp) a6 (vs:=cs) ⟨g1,fun j c v hc hv=>(g2 j c v hc hv).ext e1 (fun _ _=>rfl)⟩;obtain⟨G,hG⟩:∃G:Gh,G=⟨⟨P,w.heap.size+1,w.heap.size+2,N,xs,go⟩,A9a C (w.heap.size+1) (w.heap.size::Es) a.tmps (fun state pending=>{ state,pending,fn,tmps:=a.tmps,params:=#[p],assign,body,defers:=w.heap.size }) (fun k=>β (E6 k)) slR mb go (Sr jump),C.G.sy,C.G.ra⟩:=⟨_,rfl⟩;have J:G.Y=⟨P,w.heap.size+1,w.heap.size+2,N,xs,go⟩:=by rw [hG]
 have ak:Inv ⟨L,fun b=>S b∨b=w.heap.size,fun b=>b=w.heap.size+1∨Q8 (fun k=>β (E6 k)) (mb (some 0)) b,fun _ _=>False,G⟩ (fun b=>S b∨b=w.heap.size) L (E3 β 1000000 { base:=none }) [(1000000,.ghost G.Y (some 0))]:=by
  have V:∀U c',(U,c')∈[(1000000,Ar.ghost G.Y (some 0))]→∀b,(E3 β 1000000 { base:=none } U).base≠some b:=fun U c' I b hb'=>by simp only [As,Df,Dt,Du] at I;obtain⟨rfl,rfl⟩:=I;rw [G8] at hb';cases hb'
  exact {
   Ek:=fun _ h=>h,Dx:=fun _ h=>.inl h,Bi:=i1.Bi,kept:=fun _ _ _=>rfl,os:=rfl,tape:=rfl,output:=rfl,size:=Cq _
   box:=fun U aa I=>by simp only [As,Df,Dt,Du] at I;obtain⟨rfl,rfl⟩:=I;rw [G8];rfl
   B8:=fun U aa I b' hb'=>absurd hb' (V U aa I b')
   inj:=fun k1 c1 k2 c2 h1 h2 b' am as=>absurd am (V k1 c1 h1 b')
   fix:=fun _ _ h=>h.elim
   D9:=by rw [hG];exact i1.D9
   one:=fun k1 Y1 s1 k2 Y2 s2 h1 h2=>by simp only [As,Df,Ar.ghost.injEq,Dt,Du] at h1 h2;obtain⟨rfl,rfl,rfl⟩:=h1;obtain⟨rfl,rfl,rfl⟩:=h2;exact⟨rfl,rfl⟩
   Ez:=fun U Y' ao I=>by
    have ap:=V;simp only [As,Df,Ar.ghost.injEq,Dt,Du] at I;obtain⟨rfl,rfl,rfl⟩:=I;refine⟨rfl,by rw [hG];exact ai,by rw [J];show w.heap.size+2≤L.heap.size;omega,fun U c' I b hb'=>absurd hb' (V U c' I b),_,by rw [hG];exact aj,fun b hb'=>⟨?_,?_,.inl hb',fun U c' I=>V U c' I b⟩⟩
    ·rcases hb' with rfl| hb'
     ·rintro (h| h)
      ·have:=hs.inv.Bi _ h;omega
      ·omega
     ·exact (R b hb').1
    ·rcases hb' with rfl| hb'
     ·omega
     ·have:=(R b hb').2;omega }
 have a1:=(hc G.Y (by rw [J]) (by rw [J]) (by rw [J]) (by rw [J])).2 _ _ (.func (.yield (w.heap.size+1)) #[] #[]::cs) ak (.cons (by rw [J];exact .Fm _) ⟨r1.1,fun j c v hc hv=>(r1.2 j c v hc hv).closed (SV.B2e r2 j c hc)⟩);have hE:=(hc G.Y (by rw [J]) (by rw [J]) (by rw [J]) (by rw [J])).1;have a7:(invoke (.fn (.func f) ⟨cs⟩) #[.func (.yield (w.heap.size+1)) #[] #[]]).run P L=.ok (.enter f ⟨.func (.yield (w.heap.size+1)) #[] #[]::cs⟩) L:=by
  obtain⟨ar,q1,q2,q3⟩:=hE;have a3:(#[.func (.yield (w.heap.size+1)) #[] #[]]++⟨cs⟩:Array Value)=⟨.func (.yield (w.heap.size+1)) #[] #[]::cs⟩:=by apply I6;simp
  simp only [invoke,callFunc,Hu,Kp,H8,run_program,q1,q2,q3,Hh,Et,a3]
 refine⟨w.heap.size+1,[{ target:=.collected w.heap.size,args:=#[] }],L,⟨.fn (.func f) ⟨cs⟩,#[.func (.yield (w.heap.size+1)) #[] #[]]⟩,L,f,⟨.func (.yield (w.heap.size+1)) #[] #[]::cs⟩,L,?_,?_,fun _ _=>trivial,a7,fun hx=>by simp [FW,Fence.wide] at hx,D0o (a1.mono ?_)⟩
 ·rw [O];exact run_enterLoop_outer fn a.tmps #[p] assign body
 ·have hy:Act.eval a (.const (.func (.yield (w.heap.size+1)) #[] #[]))=.func (.yield (w.heap.size+1)) #[] #[]:=rfl;simp [resolve,Deferred.ofValue,rangeCall,ac,hy]
 ·rintro e w3 ⟨v,S',β',rfl,hk,hv⟩;obtain⟨_,_,_,_,B',q5,q6⟩:=hk.Ez 1000000 G.Y st (by simp);simp only [hG] at q5;obtain⟨β3,k1,k2,k3,k4,k5,k6,k7,k8,k9⟩:=q5;have ad:Vg (mb st):=fun k c hm=>(Vb (h.B6d st) k c hm).2.1;have a5:∀o,C.w0.putObj (w.heap.size+1) o=C.w0:=fun o=>by
   unfold World.putObj;rw [Array.setIfInBounds_eq_of_size_le (by omega)]
  have a':∀o,∃W,St C n S' (w3.putObj (w.heap.size+1) o) W { a with defers:=[{ target:=.collected w.heap.size,args:=#[] }]++a.defers } (A2k E6 slR) (R8 E6 (mb st)):=by
   intro o;have j1:=k1.put (o:=o) ad k3 k4;have ah:{ (C.rd fun k=>β (E6 k)) with w0:=(C.rd fun k=>β (E6 k)).w0.putObj (w.heap.size+1) o }=C.rd fun k=>β (E6 k):=by show ({ w0:=C.w0.putObj (w.heap.size+1) o,S0:=_,pre:=_,A6p:=_,G:=_ }:Ctx)=_;rw [a5];rfl
   rw [ah] at j1;obtain⟨W,j2,j3⟩:=j1.E7x h.keys h.high (h.B6d st) hs.inv.fix;refine⟨W,j2,hs.size,⟨w.heap.size::Es,by simp [d1],Ys.2 ⟨fun hm=>by have:=hs.inv.Bi _ (d3 _ hm).1;omega,d2⟩,fun E hE=>⟨(k7 E hE).1,?_,?_⟩⟩,fun t=>?_⟩
   ·rcases As.1 hE with rfl| hE
    ·exact af
    ·exact (d3 E hE).2.1
   ·refine (World.putObj_heap_other ?_).trans (k7 E hE).2;rintro rfl;exact k3 (k7 _ hE).1
   ·rw [C1t];have ag:∀b,S' b→b≠w.heap.size+1:=fun b hb he=>by subst he;exact k3 hb
    refine Am.Eg ((k8 t).ext ⟨fun _ h=>h,fun b hb=>World.putObj_heap_other (ag b hb)⟩ (fun _ _=>rfl)) fun k hk=>j3 k ?_;have:=C1f h.D7w t hk;simp only [L8] at this;exact this.1
  cases st with
  |some j =>obtain⟨W,s⟩:=a' (.loop { state:=.exhausted,pending:=none,fn,tmps:=a.tmps,params:=#[p],assign,body,defers:=w.heap.size });exact⟨none,_,run_endLoop k6 (by simp),_,_,S',W,a8 j rfl (k9 j rfl),s⟩
  |none =>
   obtain⟨W,s⟩:=a' (.loop { state:=.exhausted,pending:=Sr jump,fn,tmps:=a.tmps,params:=#[p],assign,body,defers:=w.heap.size });obtain⟨c,hj⟩:=h.B8i;refine⟨_,_,run_endLoop k6 (by simp),?_⟩;have hq:=a2 rfl;cases jump <;> simp only [Sr,reduceCtorEq] at hj
   ·exact wpIn_exit ⟨_,_,S',W,hq,s⟩
   ·exact wpIn_ret ⟨_,_,S',W,hq,s⟩
end Go.Abs
