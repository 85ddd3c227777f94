/- Ranges over functions. Own framework. -/
import Derived.RangeFuncIn
import Derived.Test.YtieakoebgfiniaaGreatDoorZAb5
set_option linter.all false
namespace Go.Abs
open Go
mutual
def SV.Ek(f:Nat->Nat):SV->SV
 |.box k off=>.box (f k) off
 |.acc k=>.acc (f k)
 |.Eg k i off=>.Eg (f k) i off
 |.mp k=>.mp (f k)
 |.agg cs=>.agg (SV.Nv f cs)
 |.tuple cs=>.tuple (SV.Nv f cs)
 |.Bf g cs=>.Bf g (SV.Nv f cs)
 |.F5 cs off=>.F5 (SV.Nv f cs) off
 |.undef=>.undef
 |.d x=>.d x
 |.A9 c off=>.A9 c off
 |.Eo l=>.Eo l
def SV.Nv(f:Nat->Nat):List SV->List SV
 |[]=>[]
 |c::cs=>c.Ek f::SV.Nv f cs
end
theorem SV.A0q(f:Nat->Nat):∀cs:List SV,SV.Nv f cs=cs.map (SV.Ek f)
 |[]=>rfl
 |c::cs=>by simp[SV.Nv,SV.A0q f cs]
theorem SV.B7m(f:Nat->Nat)(x:SV):(x.Ek f).one=x.one:=by cases x <;> rfl
theorem SV.B3q{k j:Nat}{c:SV}{cs:List SV}(E:cs[j]?=some c)(h:c.has k=true):SV.Kw k cs=true:=by grind[SV.A4v]
def Am.Ek{S:Nat->Prop}{w:World}{β β':Names}{f:Nat->Nat}{x:SV}{v:Value}(h:Am S w β x v)(L:∀k,x.has k=true->β' (f k) =β k):Am S w β' (x.Ek f) v:=by
 induction h with
 |undef v=>exact .undef v
 |d x v h=>exact .d x v h
 |agg cells vs E J _ I =>
  simp only[SV.Ek,SV.A0q];refine .agg _ vs (by grind) ?_ ?_
  .grind[SV.B7m]
  grind[SV.has,SV.B3q]
 |tuple cells vs E _ I =>
  simp only[SV.Ek,SV.A0q];refine .tuple _ vs (by grind) ?_
  grind[SV.has,SV.B3q]
 |box k off b h=>exact .box _ off b (by grind[SV.has])
 |A9 cells off b base hs E J O=>exact .A9 cells off b base hs E J O
 |acc k=>have:=L k (by simp[SV.has]);rw[<-this];exact .acc (f k)
 |Eg k i off b h=>have:=L k (by simp[SV.has]);rw[<-this];exact .Eg (f k) i off b (by grind)
 |mp k b h=>exact .mp _ b (by grind[SV.has])
 |Eo l=>exact .Eo l
 |F5 cells off b hs E J _ I =>
  simp only[SV.Ek,SV.A0q];refine .F5 _ off b hs ?_ (by grind) ?_
  .grind[SV.B7m]
  grind[SV.has,SV.B3q]
 |Bf g cells vs E _ I =>
  simp only[SV.Ek,SV.A0q];refine .Bf g _ vs (by grind) ?_
  grind[SV.has,SV.B3q]
mutual
theorem Am.Sv{S:Nat->Prop}{w:World}{β β':Names}{f:Nat->Nat}:∀{x:SV} {v:Value},Am S w β' (x.Ek f) v->(∀k,x.has k=true->β' (f k) =β k)->Am S w β x v
 |.undef,v,_,_=>.undef v
 |.d x,v,h,_=>by simp only[SV.Ek]at h;exact .d x v h.Ij
 |.A9 c off,v,h,_=>by simp only[SV.Ek]at h;exact h.closed rfl
 |.Eo l,v,h,_=>by simp only[SV.Ek]at h;exact h.closed rfl
 |.box k off,v,h,E=>by simp only[SV.Ek]at h;cases h with|box _ _ b U=>exact .box k off b (by grind[SV.has])
 |.acc k,v,h,E=>by simp only[SV.Ek]at h;cases h;rw[E k (by simp[SV.has])];exact .acc k
 |.Eg k i off,v,h,E=>by simp only[SV.Ek]at h;have I:=E k (by simp[SV.has]);cases h with|Eg _ _ _ b U=>rw[I];exact .Eg k i off b (by grind)
 |.mp k,v,h,E=>by simp only[SV.Ek]at h;cases h with|mp _ b U=>exact .mp k b (by grind[SV.has])
 |.agg cs,v,h,E=>by
  simp only[SV.Ek]at h;cases h with
  |agg _ vs O h2 L =>
   have:=Bv.Sv (cs:=cs) ⟨O,L⟩ (λk I=>E k (by simp only[SV.has];exact I));refine .agg cs vs this.1 (λc J=>?_) this.2
   grind[SV.B7m,SV.A0q,List.mem_map_of_mem]
 |.tuple cs,v,h,E=>by
  simp only[SV.Ek]at h;cases h with
  |tuple _ vs O L =>have:=Bv.Sv (cs:=cs) ⟨O,L⟩ (λk I=>E k (by simp only[SV.has];exact I));exact .tuple cs vs this.1 this.2
 |.Bf g cs,v,h,E=>by
  simp only[SV.Ek]at h;cases h with
  |Bf _ _ vs O L =>have:=Bv.Sv (cs:=cs) ⟨O,L⟩ (λk I=>E k (by simp only[SV.has];exact I));exact .Bf g cs vs this.1 this.2
 |.F5 cs off,v,h,E=>by
  simp only[SV.Ek]at h;cases h with
  |F5 _ _ b hs O h2 L =>
   obtain⟨vs,hl,W⟩:=C8w (w:=w) (b:=b) (off:=0) (n:=(SV.Nv f cs).length) (λj V=>by grind);have:=Bv.Sv (cs:=cs) (vs:=vs) ⟨hl,λj c v J Z=>L j c v J (by grind)⟩ (λk I=>E k (by simp only[SV.has];exact I));have a0:(SV.Nv f cs).length=cs.length:=by rw[SV.A0q];simp
   refine .F5 cs off b hs (λc J=>?_) (λj V=>h2 j (by omega)) (λj c v J Z=>?_)
   .grind[SV.B7m,SV.A0q]
   .have a1:=(Az.1 J).1;have V:=W j (vs[j]'(by omega)) (Bi _);rw[Ky,Z]at V;simp only[B5]at V;exact this.2 j c v J (by grind)
theorem Bv.Sv{S:Nat->Prop}{w:World}{β β':Names}{f:Nat->Nat}:∀{cs:List SV} {vs:List Value},Bv S w β' (SV.Nv f cs) vs->(∀k,SV.Kw k cs=true->β' (f k) =β k)->Bv S w β cs vs
 |[],vs,h,_=>⟨by simpa [SV.Nv]using h.1,by simp⟩
 |c::cs,vs,h,E=>by
  simp only[SV.Nv]at h;cases vs with
  |nil=>have:=h.1;grind
  |cons v vs =>
   exact .cons (Am.Sv (h.2 0 _ v rfl rfl) (λk I=>E k (by simp[SV.Kw,I])))
    (Bv.Sv ⟨by have:=h.1;grind,λj c v J Z=>h.2 (j+1) c v (by grind) (by grind)⟩ (λk I=>E k (by simp[SV.Kw,I])))
end
def Aq.Ek(f:Nat->Nat):Aq->Aq
 |.cells cs=>.cells (SV.Nv f cs)
 |c=>c
def P7(f:Nat->Nat):Ab->Ab
 |[]=>[]
 |(k,c)::r=>(f k,c.Ek f)::P7 f r
def W1(f:Nat->Nat):SL->SL
 |[]=>[]
 |(t,x)::r=>(t,x.Ek f)::W1 f r
def C6y(f:Nat->Nat):∀(sl:SL)(t:Nat),Ae (W1 f sl) t=(Ae sl t).Ek f
 |[],t=>rfl
 |(u,x)::r,t=>by
  simp only[W1,Ae];split
  .rfl
  .exact C6y f r t
def B5h{f:Nat->Nat}{j:Nat}{d:Aq}:∀{bx:Ab},(j,d)∈P7 f bx↔∃k c,(k,c)∈bx/\j=f k/\d=c.Ek f
 |[]=>by simp[P7]
 |(k,c)::r=>by
  simp only[P7,B1,Fp,B5h (bx:=r)];constructor
  .rintro(⟨rfl,rfl⟩|⟨E,I,h,rfl,rfl⟩)
   .exact⟨k,c,.inl ⟨rfl,rfl⟩,rfl,rfl⟩
   grind
  grind
def De.Ek{S:Nat->Prop}{w:World}{β β':Names}{f:Nat->Nat}{i:BI}{c:Aq}(h:De S w β i c)(U:∀k,c.has k=true->β' (f k) =β k):De S w β' i (c.Ek f):=by
 cases c with
 |cells cs =>obtain⟨b,ty,vs,J,L,O⟩:=h;refine⟨b,ty,vs,J,L,?_⟩;rw[SV.A0q];refine O.map (by simp) ?_;intro j x y v I E V;simp only[Df,I,Ez,B5]at E;subst E;exact V.Ek λk W=>U k (by grind[Aq.has,SV.B3q])
 |rows sz rs=>exact h
 |map kvs=>exact h
 |iter kvs seen=>exact h
 |ghost Y st=>exact h
def De.Sv{S:Nat->Prop}{w:World}{β β':Names}{f:Nat->Nat}{i:BI}{c:Aq}(h:De S w β' i (c.Ek f))(O:∀k,c.has k=true->β' (f k) =β k):De S w β i c:=by
 cases c with
 |cells cs =>obtain⟨b,ty,vs,I,J,L⟩:=h;exact⟨b,ty,vs,I,J,Bv.Sv L λk E=>O k (by simp only[Aq.has];exact E)⟩
 |rows sz rs=>exact h
 |map kvs=>exact h
 |iter kvs seen=>exact h
 |ghost Y st=>exact h
mutual
def SV.only(ks:List Nat):SV->Bool
 |.box k _=>ks.contains k
 |.acc k=>ks.contains k
 |.Eg k _ _=>ks.contains k
 |.mp k=>ks.contains k
 |.agg cs=>SV.A3s ks cs
 |.tuple cs=>SV.A3s ks cs
 |.Bf _ cs=>SV.A3s ks cs
 |.F5 cs _=>SV.A3s ks cs
 |.undef=>true
 |.d _=>true
 |.A9 _ _=>true
 |.Eo _=>true
def SV.A3s(ks:List Nat):List SV->Bool
 |[]=>true
 |c::cs=>c.only ks && SV.A3s ks cs
end
mutual
theorem SV.B6p{ks:List Nat}{k:Nat}:∀{x:SV},x.only ks=true->x.has k=true->k∈ks
 |.box j _,h,E=>by simp only[SV.only,An1]at h;simp only[SV.has,Vk]at E;grind
 |.acc j,h,E=>by simp only[SV.only,An1]at h;simp only[SV.has,Vk]at E;grind
 |.Eg j _ _,h,E=>by simp only[SV.only,An1]at h;simp only[SV.has,Vk]at E;grind
 |.mp j,h,E=>by simp only[SV.only,An1]at h;simp only[SV.has,Vk]at E;grind
 |.agg cs,h,E=>by simp only[SV.only]at h;simp only[SV.has]at E;exact SV.A8e h E
 |.tuple cs,h,E=>by simp only[SV.only]at h;simp only[SV.has]at E;exact SV.A8e h E
 |.Bf _ cs,h,E=>by simp only[SV.only]at h;simp only[SV.has]at E;exact SV.A8e h E
 |.F5 cs _,h,E=>by simp only[SV.only]at h;simp only[SV.has]at E;exact SV.A8e h E
 |.undef,_,E=>by simp[SV.has]at E
 |.d _,_,E=>by simp[SV.has]at E
 |.A9 _ _,_,E=>by simp[SV.has]at E
 |.Eo _,_,E=>by simp[SV.has]at E
theorem SV.A8e{ks:List Nat}{k:Nat}:∀{cs:List SV},SV.A3s ks cs=true->SV.Kw k cs=true->k∈ks
 |[],_,E=>by simp[SV.Kw]at E
 |c::cs,h,E=>by simp only[SV.A3s,Bb]at h;simp only[SV.Kw,Vp]at E;exact E.elim (SV.B6p h.1) (SV.A8e h.2)
end
def Aq.only(ks:List Nat):Aq->Bool
 |.cells cs=>SV.A3s ks cs
 |.ghost _ _=>false
 |_=>true
def B0q(ks:List Nat):Ab->Bool
 |[]=>true
 |(k,c)::r=>ks.contains k && c.only ks && B0q ks r
def B6b(ks:List Nat):SL->Bool
 |[]=>true
 |(_,x)::r=>x.only ks && B6b ks r
def C1o{ks:List Nat}{k:Nat}:∀{sl:SL},B6b ks sl=true->∀t,(Ae sl t).has k=true->k∈ks
 |[],_,t,E=>by simp[Ae,SV.has]at E
 |(u,x)::r,h,t,E=>by
  simp only[B6b,Bb]at h;simp only[Ae]at E;split at E
  .exact SV.B6p h.1 E
  .exact C1o h.2 t E
def Uo{ks:List Nat}:∀{bx:Ab},B0q ks bx=true->∀k c,(k,c)∈bx->k∈ks/\c.real=true/\∀j,c.has j=true->j∈ks
 |[],_,k,c,h=>by grind
 |(i,x)::r,h,k,c,hm=>by
  simp only[B0q,Bb,An1]at h;rcases B1.1 hm with I|hm
  .simp only[Fp]at I;obtain⟨rfl,rfl⟩:=I;refine⟨h.1.1,?_,λj E=>?_⟩
   .cases c <;> first|rfl|simp[Aq.only]at h
   .cases c <;> first
     |(simp only[Aq.has]at E;exact SV.A8e h.1.2 E)
     |simp[Aq.has]at E
  .exact Uo h.2 k c hm
end Go.Abs
namespace Go.Abs
open Go
variable {P:Program} {n:Nat} {Q:Exit->SL->Ab->Prop} {sl:SL} {bx:Ab}
def Qr(β:Names)(bx:Ab)(b:Nat):Prop:=∃k c,(k,c)∈bx/\(β k).base=some b
def Ux(bx:Ab):Prop:=∀k c,(k,c)∈bx->c.real=true
def Ux.no{bx:Ab}(h:Ux bx){k:Nat}{Y:Gx}{st:Option Nat}:(k,Aq.ghost Y st) ∉bx:=λE=>by have:=h _ _ E;simp[Aq.real]at this
def Inv.W3{C:Ctx}{S S':Nat->Prop}{w w':World}{β:Names}{n0:Nat}{B:Nat->Prop}(h:Inv C S w β bx)(L:Ux bx)(J:∀b,Qr β bx b->B b)(Z:C.w0.heap.size<=n0)(k:D9z n0 B S w S' w'):Inv C S' w' β bx:=by
 have e:C4 S w S' w':=⟨k.sub,λb hb=>k.same b (.inr (.inr hb))⟩;exact{
  Fe:=λb hb=>k.sub b (h.Fe b hb)
  Ej:=λb hb=>by
   rcases k.new b hb with hb|hb
   .exact h.Ej b hb
   omega
  Bw:=k.lt
  kept:=λb hb O=>(k.same b (.inl (by omega))).trans (h.kept b hb O)
  os:=k.os.trans h.os
  tape:=k.tape.trans h.tape
  output:=k.output.trans h.output
  size:=Cp h.size k.size
  box:=λj c E=>(h.box j c E).ext e (λb hb=>k.same b (.inr (.inl (J b ⟨j,c,E,hb⟩)))) (λ_ _=>rfl)
  Ba:=λj c E b hb=>⟨k.off b (J b ⟨j,c,E,hb⟩),W5 (h.Ba j c E b hb).2.1 k.size,(h.Ba j c E b hb).2.2⟩
  inj:=h.inj
  fix:=h.fix
  E2:=λb cs U=>by obtain⟨I,ty,W,V⟩:=h.E2 b cs U;exact⟨e.sub b I,ty,W,(e.same b I).trans V⟩
  one:=h.one
  Fo:=λj Y st E=>absurd E L.no }
def Inv.shut{C:Ctx}{S:Nat->Prop}{w:World}{β:Names}{D:Nat}{l L:Option (List Deferred)}(h:Inv C S w β bx)(J:Ux bx)(hn:C.w0.heap.size<=D)(U:¬Qr β bx D)(q:w.heap[D]?=some (.deferred l)):Inv C S (w.putObj D (.deferred L)) β bx where
 Fe:=h.Fe
 Ej:=h.Ej
 Bw:=λb E=>by simpa using h.Bw b E
 kept:=λb E O=>(World.putObj_heap_other (by omega)).trans (h.kept b E O)
 os:=h.os
 tape:=h.tape
 output:=h.output
 size:=by simpa using h.size
 box:=λk c I=>(h.box k c I).shut q (λZ=>U ⟨k,c,I,Z⟩)
 Ba:=λk c I b E=>by simpa using h.Ba k c I b E
 inj:=h.inj
 fix:=h.fix
 E2:=λb cs W=>by
  obtain⟨h1,ty,fr,h2⟩:=h.E2 b cs W
  grind[World.putObj_heap_other]
 one:=h.one
 Fo:=λj Y st V=>absurd V J.no
def Inv.put{C:Ctx}{S:Nat->Prop}{w:World}{β:Names}{l:Nat}{o:Obj}(h:Inv C S w β bx)(O:Ux bx)(hl:¬S l)(hb:¬Qr β bx l):Inv { C with w0:=C.w0.putObj l o } S (w.putObj l o) β bx:=by
 have W:=h.size;have e:C4 S w S (w.putObj l o):=⟨λ_ h=>h,λb E=>World.putObj_heap_other λI=>hl (I ▸ E)⟩;exact{
  Fe:=h.Fe
  Ej:=λb E=>by simpa using h.Ej b E
  Bw:=λb E=>by simpa using h.Bw b E
  kept:=λb E U=>by
   simp only[World.putObj_size]at E;by_cases I:b=l
   .grind[World.putObj_heap_same]
   .rw[World.putObj_heap_other I,World.putObj_heap_other I];exact h.kept b E U
  os:=h.os
  tape:=h.tape
  output:=h.output
  size:=by simp_all
  box:=λk c J=>(h.box k c J).ext e (λb E=>World.putObj_heap_other λI=>hb ⟨k,c,J,I ▸ E⟩) (λ_ _=>rfl)
  Ba:=λk c J b E=>by simpa using h.Ba k c J b E
  inj:=h.inj
  fix:=h.fix
  E2:=λb cs hv=>by obtain⟨L,ty,fr,Z⟩:=h.E2 b cs hv;exact⟨L,ty,fr,(e.same b L).trans Z⟩
  one:=h.one
  Fo:=λj Y st V=>absurd V O.no }
def Inv.E9a{C C2:Ctx}{S V:Nat->Prop}{w W:World}{β U:Names}{E:Ab}{B B2:Nat->Prop}(h:Inv C S w β bx)(L:Inv C2 V W U E)(hg:Ux E)(hB:∀b,B b->C.pre b\/C.w0.heap.size<=b)
  (Z:∀b,Qr U E b->B2 b)(t:A0o B S w B2 V W)(J:∀k i,C.B0u k i->U k=i):Inv C V W U E:=by
 have a0:=h.size;have O:∀b,B b\/w.heap.size<=b->C.pre b\/C.w0.heap.size<=b:=λb hb=>hb.elim (hB b) λh=>.inr (by omega);exact{
  Fe:=λb hb=>t.ext.sub b (h.Fe b hb)
  Ej:=λb hb=>by
   rcases t.new b hb with hb|hb
   .exact h.Ej b hb
   grind
  Bw:=t.lt
  kept:=λb hb hp=>by
   rw[<-h.kept b hb hp];refine t.kept b (by omega) λa1=>?_
   grind
  os:=t.os.trans h.os
  tape:=t.tape.trans h.tape
  output:=t.output.trans h.output
  size:=Cp h.size t.size
  box:=L.box
  Ba:=λk c I b hb=>⟨(L.Ba k c I b hb).1,(L.Ba k c I b hb).2.1,O b (t.own b (Z b ⟨k,c,I,hb⟩)).2.2⟩
  inj:=L.inj
  fix:=λk i I=>⟨(h.fix k i I).1,J k i I⟩
  E2:=λb cs hb=>by obtain⟨h1,ty,fr,hh⟩:=h.E2 b cs hb;exact⟨t.ext.sub b h1,ty,fr,(t.ext.same b h1).trans hh⟩
  one:=L.one
  Fo:=λj Y st hj=>absurd hj hg.no }
def Dq(k:Nat):Nat:=if 2000000<=k then k - 2000000 else k
def Ctx.rd(C:Ctx)(β:Names):Ctx:={ C with B0u:=λk i=>2000000<=k/\i =β k }
def A4n(C:Ctx)(l:Nat)(Ds:List Nat)(tmps:Array Value)(I:LoopState->Option Code->Loop)(βR:Names)(slR:SL)(mb:Option Nat->Ab)(go:Nat->Bool)(jump:Option Code)(st:Option Nat)(B S:Nat->Prop)(w:World):Prop :=
 ∃β,Inv (C.rd βR) S w β (mb st)/\(∀b,B b↔(b=l\/Qr β (mb st) b))/\¬S l/\¬Qr β (mb st) l/\l<w.heap.size /\
  w.heap[l]?=some (.loop (match st with|some _=>I .ready none|none=>I .done jump)) /\
  (∀E,E∈Ds->S E/\w.heap[E]?=some (.deferred (some [])))/\(∀t,Am S w β (Ae slR t) (tmps.getD t undef))/\(∀j,st=some j->∀i,i<j->go i=true)
end Go.Abs
namespace Go.Abs
open Go
variable {P:Program} {n:Nat} {Q:Exit->SL->Ab->Prop} {sl:SL} {bx:Ab}
def Po:Exit->Option Code
 |.ret=>some .ret
 |.exit id=>some (.exit id)
 |_=>none
def B7z(mb:Option Nat->Ab)(go:Nat->Bool)(jump:Exit)(j:Nat)(e:Exit)(sl:SL)(bx:Ab):Prop :=
 match e with
 |.normal=>go j=true/\ble bx (mb (some (j+1)))
 |e=>go j=false/\e=jump/\ble bx (mb none)
def B3n:Ab->Bool
 |[]=>true
 |(_,c)::r=>c.real && B3n r
def D8d:∀{bx:Ab},B3n bx=true->Ux bx
 |[],_,k,c,h=>by grind
 |(i,x)::r,h,k,c,hm=>by
  simp only[B3n,Bb]at h;rcases B1.1 hm with E|hm
  .grind
  .exact D8d h.2 k c hm
def C7b(P:Program)(n l:Nat)(body:Code)(Q:Exit->SL->Ab->Prop)(sl:SL)(bx:Ab):Prop:=B3n bx=true/\A0 (some l) P n body Q sl bx
structure B0j(P:Program)(n:Nat)(p:Tmp)(assign body:Code)(N:Nat)(xs:Nat->SV)(go:Nat->Bool)(jump:Exit)(ks:List Nat)(slR:SL)(mb:Option Nat->Ab):Prop where
 D6b:∃c,Po jump=some c
 keys:(ks.map Dq).Nodup
 high:∀k,k∈ks->2000000<=k\/k<=999999
 C9n:B6b (ks.filter (2000000<=·)) slR=true
 B2z:∀st,B0q ks (mb st)=true
 pOK:p<n
 closed:∀j,(xs j).closed=true
 body:∀j,j<N->(∀i,i<j->go i=true)->∀l,A0 (some l) P n assign (A4 (C7b P n l body (B7z mb go jump j)) (λ_ _ _=>False)) ((p,xs j)::slR) (mb (some j))
def C2v(mb:Option Nat->Ab)(jump:Exit)(st':Option Nat)(e:Exit)(_:SL)(bx:Ab):Prop:=match st' with
 |some E=>e=.normal/\ble bx (mb (some E))
 |none=>e=jump/\ble bx (mb none)
def B7z.C1e{mb:Option Nat->Ab}{go:Nat->Bool}{jump:Exit}{j:Nat}{e:Exit}{sl:SL}{bx:Ab}(h:B7z mb go jump j e sl bx):C2v mb jump (if go j=true then some (j+1)else none) e sl bx:=by
 unfold B7z at h;cases e with
 |normal=>rw[A8 h.1];exact⟨rfl,h.2⟩
 |_=>obtain⟨J,E,I⟩:=h;rw[A6 (by grind)];exact⟨E,I⟩
def B0j.core{p:Tmp}{assign body:Code}{N:Nat}{xs:Nat->SV}{go:Nat->Bool}{jump:Exit}{ks:List Nat}{slR:SL}{mb:Option Nat->Ab}(h:B0j P n p assign body N xs go jump ks slR mb)
  {C:Ctx}{l n0:Nat}{Ds:List Nat}{tmps:Array Value}{fn:FuncId}{D:Nat}{βR:Names}(b0:tmps.size=n)(hl:l<n0)(au:∀E,E∈Ds->E<n0)(az:l∉Ds)(ae:C.w0.heap.size<=l)(ay:C.w0.heap.size<=n0)
  {j:Nat}{x:SV}{st':Option Nat}(hx:x.closed=true)(a4:A0 (some l) P n assign (A4 (C7b P n l body (C2v mb jump st')) (λ_ _ _=>False)) ((p,x)::slR) (mb (some j)))(ah:∀j',st'=some j'->∀i,i<j'->go i=true)
  {B S:Nat->Prop}{w:World}{β:Names}{v:Value}(hF:A4n C l Ds tmps (λstate pending=>{ state,pending,fn,tmps,params:=#[p],assign,body,defers:=D }) βR slR mb go (Po jump) (some j) B S w)(hS:∀b,S b->b<w.heap.size)(hB:∀b,B b->¬S b/\b<w.heap.size)(hv:Am S w β x v) :
  ∃f tm as bd,(Instr.yield l #[v]).run P w=.ok (.round l f tm as bd) w/\RoundIn Fence.wide 0 P l f tm as bd w (λe w'=>∃S' U,e=.returned (.bool st'.isSome)/\A4n C l Ds tmps (λstate pending=>{ state,pending,fn,tmps,params:=#[p],assign,body,defers:=D }) βR slR mb go (Po jump) st' U S' w'/\A0o B S w U S' w'):=by
 have a5:∀st,Ux (mb st):=λst k c hm=>(Uo (h.B2z st) k c hm).2.1;obtain⟨β1,h1,h2,h3,h4,h5,h6,h7,h8,h9⟩:=hF;simp only at h6;have ar:Am S w β1 x v:=hv.closed hx;have hy:=run_yield (P:=P) (args:=#[v]) h6 (by simp);simp only[List.zip_toArray,List.zip_cons_cons,List.zip_nil_right,List.foldl_toArray,Lo,Vs]at hy;have Z:=h1.Ba;have ak:∀b,Qr β1 (mb (some j)) b->b<w.heap.size/\¬S b:=λb ⟨k,c,L,I⟩=>⟨(Z k c L b I).2.1,(Z k c L b I).1⟩;have i1:Inv ⟨w,S,Qr β1 (mb (some j)),λk i=>2000000<=k/\i =βR k,C.G⟩ S w β1 (mb (some j)):={
  Fe:=λ_ h=>h,Ej:=λ_ h=>.inl h,Bw:=h1.Bw,kept:=λ_ _ _=>rfl,os:=rfl,tape:=rfl,output:=rfl,size:=Bs _
  box:=h1.box
  Ba:=λk c L b I=>⟨(Z k c L b I).1,(Z k c L b I).2.1,.inl ⟨k,c,L,I⟩⟩
  inj:=h1.inj
  fix:=h1.fix
  E2:=h1.E2
  one:=h1.one
  Fo:=λk Y st L=>absurd L (a5 _).no }
 have ac:∀t,(tmps.setIfInBounds p v).getD t undef=if p=t then v else tmps.getD t undef:=λt=>by
  simp only[An7,Array.getElem?_setIfInBounds];split
  .subst_vars;simp[h.pOK]
  .rfl
 have af:St ⟨w,S,Qr β1 (mb (some j)),λk i=>2000000<=k/\i =βR k,C.G⟩ n S w β1 { tmps:=tmps.setIfInBounds p v,defers:=[] } ((p,x)::slR) (mb (some j)):=by
  refine⟨i1,by grind,.nil,λt=>?_⟩;simp only[ac,Ae];split
  .omega
  .grind
 have hA:=a4;refine⟨_,_,_,_,hy,roundIn_of_wpIn trivial (Zq (hA _ S w β1 _ af) ?_)⟩;rintro e a1 w1 ⟨ap,aq,S1,β2,hq,s1⟩;have a2:∀{S':Nat->Prop} {w':World} {β':Names} {bx':Ab} {w0:World},w0.heap.size=w.heap.size->Inv ⟨w0,S,Qr β1 (mb (some j)),λk i=>2000000<=k/\i =βR k,C.G⟩ S' w' β' bx'->¬S' l/\¬Qr β' bx' l:=by
  intro S' w' β' bx' w0 b1 hi;refine⟨λhs=>?_,λ⟨k,c,L,I⟩=>?_⟩
  .rcases hi.Ej l hs with h|h|h
   .grind
   .grind
   grind
  .rcases(hi.Ba k c L l I).2.2 with h|h
   .grind
   grind
 cases e with
 |normal =>
  simp only[A4]at hq;obtain⟨f1,f2⟩:=a2 rfl s1.inv;have am:w1.heap[l]?=_:=(s1.inv.kept l h5 h4).trans h6;have g1:=D8d hq.1;refine⟨_,run_beginRound am rfl,Zq (hq.2 _ S1 _ β2 a1 ⟨s1.inv.put g1 f1 f2,s1.size,?_,λt=>?_⟩) ?_⟩
  .obtain⟨Es,q1,q2,q3⟩:=s1.defers;refine⟨Es,q1,q2,λE hE=>⟨(q3 E hE).1,by simp_all,(World.putObj_heap_other ?_).trans (q3 E hE).2.2⟩⟩
   grind
  .have aa:∀b,S1 b->b≠l:=λb I he=>by grind
   exact(s1.slot t).ext ⟨λ_ h=>h,λb I=>World.putObj_heap_other (aa b I)⟩ (λ_ _=>rfl)
  rintro e a3 W ⟨aw,a',S3,β3,ab,O⟩;obtain⟨f3,f4⟩:=a2 (by simp) O.inv;have ao:w.heap.size<=W.heap.size:=by have:=O.inv.size;simpa using this
  have a7:W.heap[l]?=some (.loop { state:=.busy,pending:=none,fn,tmps,params:=#[p],assign,body,defers:=D }):=by rw[O.inv.kept l (by simp_all) h4];exact World.putObj_heap_same h5
  have a8:∀(st:Option Nat) (o:Obj),ble a' (mb st)->(∀j',st=some j'->∀i,i<j'->go i=true) ->
    (W.putObj l o).heap[l]?=some (.loop (match st with|some _=>{ state:=.ready,pending:=none,fn,tmps,params:=#[p],assign,body,defers:=D } |none=>{ state:=.done,pending:=Po jump,fn,tmps,params:=#[p],assign,body,defers:=D })) ->
    ∃S' U,A4n C l Ds tmps (λstate pending=>{ state,pending,fn,tmps,params:=#[p],assign,body,defers:=D }) βR slR mb go (Po jump) st U S' (W.putObj l o)/\A0o B S w U S' (W.putObj l o):=by
   intro st o J av ho;have ad:=O.inv.sub (A7k J);have aj:=ad.put (o:=o) (a5 st) f3 (λ⟨k,c,L,I⟩=>f4 ⟨k,c,A7k J k c L,I⟩);have a0:∀k,2000000<=k->β3 k =βR k:=λk L=>(O.inv.fix k (βR k) ⟨L,rfl⟩).2;have ai:∀b,S b->b≠l:=λb I he=>by grind
   have e3:C4 S w S3 (W.putObj l o):=⟨O.inv.Fe,λb I=>by
    rw[World.putObj_heap_other (ai b I),O.inv.kept b (by simp_all) (λag=>(ak b ag).2 I)]
    grind[World.putObj_heap_other]⟩
   have t:A0o B S w (λb=>b=l\/Qr β3 (mb st) b) S3 (W.putObj l o):={
    ext:=e3
    new:=λb I=>by
     rcases O.inv.Ej b I with h|h|h
     .grind
     .grind
     simp_all
    lt:=λb I=>by simpa using O.inv.Bw b I
    own:=λb I=>by
     rcases I with rfl|⟨k,c,L,I⟩
     .grind
     .obtain⟨p1,p2,p3⟩:=ad.Ba k c L b I;exact⟨p1,by simp_all,p3.imp (λh=>(h2 b).2 (.inr h)) (λh=>by simp_all)⟩
    kept:=λb I hn=>by have a9:b≠l:=λhe=>hn ((h2 b).2 (.inl he));rw[World.putObj_heap_other a9,O.inv.kept b (by simp_all) (λh=>hn ((h2 b).2 (.inr h)))];exact World.putObj_heap_other a9
    os:=O.inv.os
    tape:=O.inv.tape
    output:=O.inv.output
    size:=by simp_all }
   refine⟨S3,_,⟨β3,h1.E9a aj (a5 st) (λb I=>?_) (λb I=>.inr I) t (λk i L=>?_),λb=>Iff.rfl,f3,λ⟨k,c,L,I⟩=>f4 ⟨k,c,A7k J k c L,I⟩,by grind,?_,λE hE=>⟨e3.sub E (h7 E hE).1,(e3.same E (h7 E hE).1).trans (h7 E hE).2⟩,λt=>(h8 t).ext e3 λk L=>?_,λj' ax i hi=>?_⟩,t⟩
   .rcases(h2 b).1 I with rfl|⟨k,c,L,I⟩
    .exact .inr ae
    grind
   .rw[a0 k L.1];exact L.2.symm
   .omega
   .have a6:=C1o h.C9n t L;simp only[Jz,Dp]at a6;rw[a0 k a6.2,(h1.fix k (βR k) ⟨a6.2,rfl⟩).2]
   .grind
  have V:∀o,(W.putObj l o).heap[l]?=some o:=λo=>World.putObj_heap_same (by omega);have stop:∀c,Po jump=some c->ble a' (mb none)->∃v' w',(Instr.endRound l (some c)).run P W=.ok v' w'/\(∃S' U,(Ending.returned v')=.returned (.bool false)/\A4n C l Ds tmps (λstate pending=>{ state,pending,fn,tmps,params:=#[p],assign,body,defers:=D }) βR slR mb go (Po jump) none U S' w'/\A0o B S w U S' w'):=by intro c hc J;obtain⟨S',U,p1,p2⟩:=a8 none _ J (λ_ h=>by cases h) (by rw[V,hc]);exact⟨_,_,run_endRound (some c) a7,S',U,rfl,p1,p2⟩
  cases st' with
  |some j' =>obtain⟨rfl,J⟩:=ab;obtain⟨S',U,p1,p2⟩:=a8 (some j') _ J ah (by rw[V]);exact⟨_,_,run_endRound none a7,S',U,rfl,p1,p2⟩
  |none =>
   obtain⟨he,J⟩:=ab;obtain⟨c,hc⟩:=h.D6b;cases e with
   |ret=>subst he;exact stop .ret rfl J
   |exit id=>subst he;exact stop (.exit id) rfl J
   |normal=>grind[Po]
   |goto t=>grind[Po]
   |panic ch=>grind[Po]
   |outgrown=>grind[Po]
 |_=>exact hq.elim
structure B8c(P:Program)(n:Nat)(p:Tmp)(assign body:Code)(N:Nat)(xs:Nat->SV)(go:Nat->Bool)(jump:Exit)(ks:List Nat)(slR:SL)(mb:Option Nat->Ab)(more:Nat->SV->Nat->Prop):Prop where
 ok:B0j P n p assign body N xs go jump ks slR mb
 G3t:∀j y j',more j y j'->y.closed=true/\(∀i,go i=true)/\∀l,A0 (some l) P n assign (A4 (C7b P n l body (C2v mb jump (some j'))) (λ_ _ _=>False)) ((p,y)::slR) (mb (some j))
def B0j.toX{p:Tmp}{E body:Code}{N:Nat}{xs:Nat->SV}{go:Nat->Bool}{jump:Exit}{ks:List Nat}{slR:SL}{mb:Option Nat->Ab}(h:B0j P n p E body N xs go jump ks slR mb):B8c P n p E body N xs go jump ks slR mb λ_ _ _=>False :=
 ⟨h,λ_ _ _ h=>h.elim⟩
def B8c.rounds{p:Tmp}{assign body:Code}{N:Nat}{xs:Nat->SV}{go:Nat->Bool}{jump:Exit}{ks:List Nat}{slR:SL}{mb:Option Nat->Ab}{more:Nat->SV->Nat->Prop}(hX:B8c P n p assign body N xs go jump ks slR mb more)
  {C:Ctx}{l n0:Nat}{Ds:List Nat}{tmps:Array Value}{fn:FuncId}{D:Nat}{βR:Names}(a1:tmps.size=n)(hl:l<n0)(I:∀E,E∈Ds->E<n0)(a2:l∉Ds)(Z:C.w0.heap.size<=l)(L:C.w0.heap.size<=n0){sy ra:TypeId × Value} :
  E6f ⟨⟨P,l,n0,N,xs,go,more⟩,A4n C l Ds tmps (λstate pending=>{ state,pending,fn,tmps,params:=#[p],assign,body,defers:=D }) βR slR mb go (Po jump),sy,ra⟩:=by
 have h:=hX.ok;have a3:∀st,Ux (mb st):=λst k c hm=>(Uo (h.B2z st) k c hm).2.1;refine⟨?_,?_,?_,?_⟩
 ·
  rintro st B S w S' w' ⟨β,h1,U,h3,h4,h5,h6,W,h8,O⟩ k;have e:C4 S w S' w':=⟨k.sub,λb hb=>k.same b (.inr (.inr hb))⟩;refine⟨β,h1.W3 (a3 st) (λb hb=>(U b).2 (.inr hb)) L k,U,k.off l ((U l).2 (.inl rfl)),h4,W5 h5 k.size,(k.same l (.inl hl)).trans h6,λE J=>⟨k.sub E (W E J).1,(k.same E (.inl (I E J))).trans (W E J).2⟩,λt=>(h8 t).ext e (λ_ _=>rfl),O⟩
 ·
  rintro st B S w D' q q' ⟨β,h1,U,h3,h4,h5,h6,W,h8,O⟩ hn hB V;have a0:∀E,E<n0->E≠D':=λE J he=>by grind
  refine⟨β,h1.shut (a3 st) (by simp only at hn;show C.w0.heap.size<=D';omega) (λhb=>hB ((U D').2 (.inr hb))) V,U,h3,h4,by grind,(World.putObj_heap_other (a0 l hl)).trans h6,λE J=>⟨(W E J).1,(World.putObj_heap_other (a0 E (I E J))).trans (W E J).2⟩,λt=>(h8 t).shut V,O⟩
 ·
  rintro j B S w β v a4 hF hS hB hv;have O:∀i,i<j->go i=true:=by obtain⟨_,_,_,_,_,_,_,_,_,O⟩:=hF;exact O j rfl
  obtain⟨f,tm,as,bd,g1,g2⟩:=h.core a1 hl I a2 Z L (j:=j) (x:=xs j) (st':=if go j=true then some (j+1)else none) (h.closed j) ((h.body j a4 O l).mono λe sl bx V=>by
   cases e with
   |normal=>exact⟨V.1,V.2.mono λ_ _ _ h=>h.C1e⟩
   |_=>exact V) (λj' a5 i hi=>by
   grind) hF hS hB hv
  exact⟨f,tm,as,bd,g1,g2.mono λe w' ⟨S',B',q1,q2,q3⟩=>⟨S',B',by grind,q2,q3⟩⟩
 ·
  rintro j y j' B S w β v hm hF hS hB hv;obtain⟨c1,c2,c3⟩:=hX.G3t j y j' hm;exact h.core a1 hl I a2 Z L (j:=j) (x:=y) (st':=some j') c1 (c3 l) (λ_ _ i _=>c2 i) hF hS hB hv
end Go.Abs
namespace Go.Abs
open Go
variable {P:Program} {n:Nat} {Q:Exit->SL->Ab->Prop} {sl:SL} {bx:Ab}
def E1e{ks:List Nat}{f:Nat->Nat}:(ks.map f).Nodup->∀a b,a∈ks->b∈ks->f a=f b->a=b:=by
 induction ks with
 |nil=>simp
 |cons k ks E =>grind
theorem G9a{mb:Ab}(h:(mb.map (·.1)).Nodup){k:Nat}{c E:Aq}(L:(k,c)∈mb)(I:(k,E)∈mb):c=E:=by
 induction mb with
 |nil=>grind
 |cons x mb J =>grind
def Inv.Sv{C:Ctx}{S:Nat->Prop}{w:World}{β:Names}{mb:Ab}{ks:List Nat}(h:Inv C S w β (P7 Dq mb))(hk:(ks.map Dq).Nodup)(L:B0q ks mb=true)(hu:(mb.map (·.1)).Nodup) :
  Inv (C.rd λk=>β (Dq k)) S w (λk=>β (Dq k)) mb:=by
 have E:∀{k:Nat} {c:Aq},(k,c)∈mb->(Dq k,c.Ek Dq)∈P7 Dq mb:=λL=>B5h.2 ⟨_,_,L,rfl,rfl⟩;have O:Ux mb:=λk c U=>(Uo L k c U).2.1;exact{ h with
  box:=λk c I=>(h.box _ _ (E I)).Sv λ_ _=>rfl
  Ba:=λk c I=>h.Ba _ _ (E I)
  inj:=λk c Z c' J h2 b W V=>by
   have:=E1e hk k Z (Uo L _ _ J).1 (Uo L _ _ h2).1 (h.inj _ _ _ _ (E J) (E h2) b W V).1
   grind[G9a]
  fix:=λk i hi=>⟨by have:=hi.1;omega,hi.2.symm⟩
  one:=λk Y st Z Y' st' J=>absurd J O.no
  Fo:=λk Y st J=>absurd J O.no }
def Inv.F3j{C:Ctx}{S:Nat->Prop}{w:World}{β β':Names}{mb:Ab}{ks:List Nat}(h:Inv (C.rd λk=>β (Dq k)) S w β' mb)(hk:(ks.map Dq).Nodup)(hh:∀k,k∈ks->2000000<=k\/k<=999999)(I:B0q ks mb=true)(hC:∀k i,C.B0u k i->1000000<=k/\β k=i) :
  ∃J:Names,Inv C S w J (P7 Dq mb)/\∀k,k∈ks->J (Dq k) =β' k:=by
 have a6:Ux mb:=λk c a0=>(Uo I k c a0).2.1;obtain⟨J,a1⟩:∃J:Names,∀k,J k=if k∈ks/\k<=999999 then β' k else β k:=⟨λk=>if k∈ks/\k<=999999 then β' k else β k,λ_=>rfl⟩
 have key:∀k,k∈ks->J (Dq k) =β' k:=by
  intro k O;rw[a1];rcases hh k O with h1|h1
  .have hl:Dq k=k - 2000000:=by unfold Dq;rw[A8 h1]
   have a3:¬(Dq k∈ks/\Dq k<=999999):=by
    rintro⟨a,b⟩;have a5:Dq (Dq k)=Dq k:=by
     have h5:¬ 2000000<=Dq k:=by omega
     generalize Dq k=q at h5;unfold Dq;rw[A6 h5]
    have:=E1e hk _ _ a O a5;omega
   rw[A6 a3];exact((h.fix k _ ⟨h1,rfl⟩).2).symm
  .have hl:Dq k=k:=by unfold Dq;rw[A6 (by omega)]
   grind
 refine⟨J,?_,key⟩;have W:∀{j:Nat} {d:Aq},(j,d)∈P7 Dq mb->∃k c,(k,c)∈mb/\j=Dq k/\d=c.Ek Dq:=λI=>B5h.1 I;have E:∀(k:Nat) (Y:Gx) (st:Option Nat),(k,Aq.ghost Y st) ∉P7 Dq mb:=λk Y st a2=>by obtain⟨k',c,h1,_,h2⟩:=W a2;have:=a6 _ _ h1;cases c <;> simp[Aq.Ek,Aq.real]at h2 this
 exact{ h with
  box:=λj d V=>by obtain⟨k,c,h1,rfl,rfl⟩:=W V;obtain⟨m1,_,m3⟩:=Uo I k c h1;rw[key k m1];exact(h.box k c h1).Ek λi hi=>key i (m3 i hi)
  Ba:=λj d V b Z=>by obtain⟨k,c,h1,rfl,rfl⟩:=W V;rw[key k (Uo I k c h1).1]at Z;exact h.Ba k c h1 b Z
  inj:=λj d j' d' V a4 b L U=>by obtain⟨k,c,h1,rfl,rfl⟩:=W V;obtain⟨k',c',h2,rfl,rfl⟩:=W a4;rw[key k (Uo I k c h1).1]at L;rw[key k' (Uo I k' c' h2).1]at U;obtain⟨rfl,rfl⟩:=h.inj k c k' c' h1 h2 b L U;simp
  fix:=λk i hi=>by grind
  one:=λk Y st k' Y' st' h1=>absurd h1 (E _ _ _)
  Fo:=λk Y st h1=>absurd h1 (E _ _ _) }
def B2y(P:Program)(f:FuncId)(args:List SV)(pre:Ab)(R:SV->Ab->Prop):Prop :=
 Enters P f/\∀(C:Ctx) (β:Names) (vs:List Value),Inv C C.S0 C.w0 β pre->Bv C.S0 C.w0 β args vs ->
  Calls P f ⟨vs⟩ C.w0 (λe w'=>∃r v E S' β',R r E/\e=.returned v/\Inv C S' w' β' E/\Am S' w' β' r v)
def C8.toR{f:FuncId}{args:List SV}{pre E:Ab}{r:SV}{R:SV->Ab->Prop}(h:C8 P f args pre r E)(hr:R r E):B2y P f args pre R :=
 ⟨h.1,λC β vs J U=>(h.2 C β vs J U).mono λ_ _ ⟨v,S',β',I,L,O⟩=>⟨r,v,E,S',β',hr,I,L,O⟩⟩
def B2y.imp{f:FuncId}{args:List SV}{pre:Ab}{R I:SV->Ab->Prop}(h:B2y P f args pre R)(hr:∀r E,R r E->I r E):B2y P f args pre I :=
 ⟨h.1,λC β vs L W=>(h.2 C β vs L W).mono λ_ _ ⟨r,v,E,S',β',V,J,O,U⟩=>⟨r,v,E,S',β',hr r E V,J,O,U⟩⟩
def A0.G4t{g:Operand}{p:Tmp}{assign body:Code}{f:FuncId}{caps caps':List SV}{N:Nat}{xs:Nat->SV}{go:Nat->Bool}{jump:Exit}{ks:List Nat}{slR:SL}{mb:Option Nat->Ab}{more:Nat->SV->Nat->Prop}{RS:Option Nat->Prop}
  (hX:B8c P n p assign body N xs go jump ks slR mb more)(hu:∀st,((mb st).map (·.1)).Nodup)(hg:Ao sl g=.Bf f caps)(a8:G7 [] caps=some caps')
  (hc:∀Y:Gx,Y.P=P->Y.N=N->Y.xs=xs->Y.go=go->Y.more=more->B2y P f (.Eo Y.l::caps') [(1000000,.ghost Y (some 0))] λ_ a0=>∃st,RS st/\a0=[(1000000,.ghost Y st)])
  (h1:sle sl (W1 Dq slR))(h2:ble bx (P7 Dq (mb (some 0))))
  (ae:∀j,RS (some j)->(∀i,i<j->go i=true)->Q .normal (W1 Dq slR) (P7 Dq (mb (some j))))(a1:RS none->Q jump (W1 Dq slR) (P7 Dq (mb none))) :
  A0 none P n (.rangeFunc g #[p] assign body) Q sl bx:=by
 have h:=hX.ok;intro C S w β a a5;have a4:=a5.Ao g;rw[hg]at a4;generalize aa:a.eval g=gv at a4;have hs:St C n S w β a (W1 Dq slR) (P7 Dq (mb (some 0))):=a5.weaken h1 h2;clear a5;cases a4 with
 |Bf _ _ cs g1 g2 =>
 refine wpIn_rangeFunc λfn _=>?_;obtain⟨L,O⟩:∃L,L=(w.alloc (.deferred (some []))).alloc (.loop { state:=.ready,pending:=none,fn,tmps:=a.tmps,params:=#[p],assign,body,defers:=w.heap.size }):=⟨_,rfl⟩;have ar:L.heap.size=w.heap.size+2:=by rw[O];simp[-World.alloc_eq,World.alloc]
 have ac:∀b,b<w.heap.size->L.heap[b]?=w.heap[b]?:=λb hb=>by rw[O,RowKit.Below.heap_alloc _ _ b (by simp[-World.alloc_eq,World.alloc];omega),RowKit.Below.heap_alloc w _ b hb]
 have hD:L.heap[w.heap.size]?=some (.deferred (some [])):=by rw[O,RowKit.Below.heap_alloc _ _ _ (by simp[-World.alloc_eq,World.alloc])];exact World.alloc_heap_new w _
 have hl:L.heap[w.heap.size+1]?=some (.loop { state:=.ready,pending:=none,fn,tmps:=a.tmps,params:=#[p],assign,body,defers:=w.heap.size }):=by have:=World.alloc_heap_new (w.alloc (.deferred (some []))) (.loop { state:=.ready,pending:=none,fn,tmps:=a.tmps,params:=#[p],assign,body,defers:=w.heap.size });rw[World.size_alloc]at this;rw[O];exact this
 have am:=hs.inv.size;obtain⟨Es,d1,d2,d3⟩:=hs.defers;obtain⟨i1,e1⟩:=hs.inv.grow (S':=λb=>S b\/b=w.heap.size) (w':=L) (λb hb=>.inl hb) (λb hb=>hb.imp id λh=>by omega) (λb hb=>by
  rcases hb with hb|hb
  .have:=hs.inv.Bw b hb;omega
  .omega) ac (by rw[O];rfl) (by rw[O];rfl) (by rw[O];rfl) (by omega)
 have i2:=i1.Sv h.keys (h.B2z (some 0)) (hu _);have a3:∀t,Am (λb=>S b\/b=w.heap.size) L (λk=>β (Dq k)) (Ae slR t) (a.tmps.getD t undef):=λt=>by have:=hs.slot t;rw[C6y]at this;exact Am.Sv (this.ext e1 (λ_ _=>rfl)) (λ_ _=>rfl)
 have ak:∀E,E∈w.heap.size::Es->E<w.heap.size+2:=λE hE=>by
  rcases B1.1 hE with rfl|hE
  .omega
  .have:=hs.inv.Bw E (d3 E hE).1;omega
 have ag:=hX.rounds (C:=C) (sy:=C.G.sy) (ra:=C.G.ra) (l:=w.heap.size+1) (n0:=w.heap.size+2) (Ds:=w.heap.size::Es) (tmps:=a.tmps) (fn:=fn) (D:=w.heap.size) (βR:=λk=>β (Dq k)) hs.size (by omega) ak (by
  intro hm;rcases B1.1 hm with hm|hm
  .omega
  .have:=hs.inv.Bw _ (d3 _ hm).1;omega) (by omega) (by omega)
 have U:∀b,Qr (λk=>β (Dq k)) (mb (some 0)) b->¬(S b\/b=w.heap.size)/\b<w.heap.size:=λb ⟨k,c,hk,hb⟩=>by obtain⟨p1,p2,_⟩:=hs.inv.Ba _ _ (B5h.2 ⟨k,c,hk,rfl,rfl⟩) b hb;exact⟨λh=>h.elim p1 (by omega),p2⟩
 have ap:A4n C (w.heap.size+1) (w.heap.size::Es) a.tmps (λstate pending=>{ state,pending,fn,tmps:=a.tmps,params:=#[p],assign,body,defers:=w.heap.size }) (λk=>β (Dq k)) slR mb go (Po jump) (some 0)
   (λb=>b=w.heap.size+1\/Qr (λk=>β (Dq k)) (mb (some 0)) b) (λb=>S b\/b=w.heap.size) L:=by
  refine⟨_,i2,λb=>Iff.rfl,?_,λhb=>?_,by omega,hl,λE hE=>?_,a3,λj hj i hi=>?_⟩
  .rintro(hb|hb)
   .have:=hs.inv.Bw _ hb;omega
   .omega
  .have:=(U _ hb).2;omega
  .rcases B1.1 hE with rfl|hE
   .exact⟨.inr rfl,hD⟩
   .exact⟨.inl (d3 E hE).1,(ac E (hs.inv.Bw E (d3 E hE).1)).trans (d3 E hE).2.2⟩
  .cases hj;omega
 have ad:Inv ⟨L,λb=>S b\/b=w.heap.size,λ_=>False,λ_ _=>False,C.G⟩ (λb=>S b\/b=w.heap.size) L β []:=i1.begin i1.Bw (λ_ h=>h);obtain⟨r1,r2⟩:=Uf ad (C4.refl _ _) (by simp) a8 (vs:=cs) ⟨g1,λj c v hc hv=>(g2 j c v hc hv).ext e1 (λ_ _=>rfl)⟩;obtain⟨G,hG⟩:∃G:Gh,G=⟨⟨P,w.heap.size+1,w.heap.size+2,N,xs,go,more⟩,A4n C (w.heap.size+1) (w.heap.size::Es) a.tmps (λstate pending=>{ state,pending,fn,tmps:=a.tmps,params:=#[p],assign,body,defers:=w.heap.size }) (λk=>β (Dq k)) slR mb go (Po jump),C.G.sy,C.G.ra⟩:=⟨_,rfl⟩;have J:G.Y=⟨P,w.heap.size+1,w.heap.size+2,N,xs,go,more⟩:=by rw[hG]
 have ah:Inv ⟨L,λb=>S b\/b=w.heap.size,λb=>b=w.heap.size+1\/Qr (λk=>β (Dq k)) (mb (some 0)) b,λ_ _=>False,G⟩ (λb=>S b\/b=w.heap.size) L (Ed β 1000000 { base:=none }) [(1000000,.ghost G.Y (some 0))]:=by
  have V:∀W c',(W,c')∈[(1000000,Aq.ghost G.Y (some 0))]->∀b,(Ed β 1000000 { base:=none } W).base≠some b:=λW c' I b hb'=>by simp only[B1,Fp,E5,Ea]at I;obtain⟨rfl,rfl⟩:=I;rw[Gw]at hb';cases hb'
  exact{
   Fe:=λ_ h=>h,Ej:=λ_ h=>.inl h,Bw:=i1.Bw,kept:=λ_ _ _=>rfl,os:=rfl,tape:=rfl,output:=rfl,size:=Bs _
   box:=λW a' I=>by simp only[B1,Fp,E5,Ea]at I;obtain⟨rfl,rfl⟩:=I;rw[Gw];rfl
   Ba:=λW a' I b' hb'=>absurd hb' (V W a' I b')
   inj:=λk1 c1 k2 c2 h1 h2 b' ai ax=>absurd ai (V k1 c1 h1 b')
   fix:=λ_ _ h=>h.elim
   E2:=by rw[hG];exact i1.E2
   one:=λk1 Y1 s1 k2 Y2 s2 h1 h2=>by simp only[B1,Fp,Aq.ghost.injEq,E5,Ea]at h1 h2;obtain⟨rfl,rfl,rfl⟩:=h1;obtain⟨rfl,rfl,rfl⟩:=h2;exact⟨rfl,rfl⟩
   Fo:=λW Y' au I=>by
    have av:=V;simp only[B1,Fp,Aq.ghost.injEq,E5,Ea]at I;obtain⟨rfl,rfl,rfl⟩:=I;refine⟨rfl,by rw[hG];exact ag,by rw[J];show w.heap.size+2<=L.heap.size;omega,λW c' I b hb'=>absurd hb' (V W c' I b),_,by rw[hG];exact ap,λb hb'=>⟨?_,?_,.inl hb',λW c' I=>V W c' I b⟩⟩
    .rcases hb' with rfl|hb'
     .rintro(h|h)
      .have:=hs.inv.Bw _ h;omega
      .omega
     .exact(U b hb').1
    .rcases hb' with rfl|hb'
     .omega
     .have:=(U b hb').2;omega }
 have a2:=(hc G.Y (by rw[J]) (by rw[J]) (by rw[J]) (by rw[J]) (by rw[J])).2 _ _ (.func (.yield (w.heap.size+1)) #[] #[]::cs) ah (.cons (by rw[J];exact .Eo _) ⟨r1.1,λj c v hc hv=>(r1.2 j c v hc hv).closed (SV.C0t r2 j c hc)⟩);have hE:=(hc G.Y (by rw[J]) (by rw[J]) (by rw[J]) (by rw[J]) (by rw[J])).1;have af:(invoke (.fn (.func f) ⟨cs⟩) #[.func (.yield (w.heap.size+1)) #[] #[]]).run P L=.ok (.enter f ⟨.func (.yield (w.heap.size+1)) #[] #[]::cs⟩) L:=by
  obtain⟨aw,q1,q2,q3⟩:=hE;have a7:(#[.func (.yield (w.heap.size+1)) #[] #[]]++⟨cs⟩:Array Value)=⟨.func (.yield (w.heap.size+1)) #[] #[]::cs⟩:=by apply Kt;simp
  simp only[invoke,callFunc,Hm,K8,H0,run_program,q1,q2,q3,I0,Fx,a7]
 refine⟨w.heap.size+1,[{ target:=.collected w.heap.size,args:=#[] }],L,⟨.fn (.func f) ⟨cs⟩,#[.func (.yield (w.heap.size+1)) #[] #[]]⟩,L,f,⟨.func (.yield (w.heap.size+1)) #[] #[]::cs⟩,L,?_,?_,λ_ _=>trivial,af,λhx=>by simp[FW,Fence.wide]at hx,C9z (a2.mono ?_)⟩
 .rw[O];exact run_enterLoop_outer fn a.tmps #[p] assign body
 .have hy:Act.eval a (.const (.func (.yield (w.heap.size+1)) #[] #[]))=.func (.yield (w.heap.size+1)) #[] #[]:=rfl;simp[resolve,Deferred.ofValue,rangeCall,aa,hy]
 .rintro e w3 ⟨r,v,a0,S',β',⟨st,ab,rfl⟩,rfl,hk,hv⟩;obtain⟨_,_,_,_,B',q5,q6⟩:=hk.Fo 1000000 G.Y st (by simp);simp only[hG]at q5;obtain⟨β3,k1,k2,k3,k4,k5,k6,k7,k8,k9⟩:=q5;have aq:Ux (mb st):=λk c hm=>(Uo (h.B2z st) k c hm).2.1;have a6:∀o,C.w0.putObj (w.heap.size+1) o=C.w0:=λo=>by
   unfold World.putObj;rw[Array.setIfInBounds_eq_of_size_le (by omega)]
  have a9:∀o,∃Z,St C n S' (w3.putObj (w.heap.size+1) o) Z { a with defers:=[{ target:=.collected w.heap.size,args:=#[] }]++a.defers } (W1 Dq slR) (P7 Dq (mb st)):=by
   intro o;have j1:=k1.put (o:=o) aq k3 k4;have ao:{ (C.rd λk=>β (Dq k))with w0:=(C.rd λk=>β (Dq k)).w0.putObj (w.heap.size+1) o }=C.rd λk=>β (Dq k):=by show({ w0:=C.w0.putObj (w.heap.size+1) o,S0:=_,pre:=_,B0u:=_,G:=_ }:Ctx)=_;rw[a6];rfl
   rw[ao]at j1;obtain⟨Z,j2,j3⟩:=j1.F3j h.keys h.high (h.B2z st) hs.inv.fix;refine⟨Z,j2,hs.size,⟨w.heap.size::Es,by simp[d1],Ao3.2 ⟨λhm=>by have:=hs.inv.Bw _ (d3 _ hm).1;omega,d2⟩,λE hE=>⟨(k7 E hE).1,?_,?_⟩⟩,λt=>?_⟩
   .rcases B1.1 hE with rfl|hE
    .exact am
    .exact(d3 E hE).2.1
   .refine(World.putObj_heap_other ?_).trans (k7 E hE).2;rintro rfl;exact k3 (k7 _ hE).1
   .rw[C6y];have aj:∀b,S' b->b≠w.heap.size+1:=λb hb he=>by subst he;exact k3 hb
    refine Am.Ek ((k8 t).ext ⟨λ_ h=>h,λb hb=>World.putObj_heap_other (aj b hb)⟩ (λ_ _=>rfl)) λk hk=>j3 k ?_;have:=C1o h.C9n t hk;simp only[Jz]at this;exact this.1
  cases st with
  |some j =>obtain⟨Z,s⟩:=a9 (.loop { state:=.exhausted,pending:=none,fn,tmps:=a.tmps,params:=#[p],assign,body,defers:=w.heap.size });exact⟨none,_,run_endLoop k6 (by simp),_,_,S',Z,ae j ab (k9 j rfl),s⟩
  |none =>
   obtain⟨Z,s⟩:=a9 (.loop { state:=.exhausted,pending:=Po jump,fn,tmps:=a.tmps,params:=#[p],assign,body,defers:=w.heap.size });obtain⟨c,hj⟩:=h.D6b;refine⟨_,_,run_endLoop k6 (by simp),?_⟩;have hq:=a1 ab;cases jump <;> simp only[Po,reduceCtorEq]at hj
   .exact wpIn_exit ⟨_,_,S',Z,hq,s⟩
   .exact wpIn_ret ⟨_,_,S',Z,hq,s⟩
def A0.rangeFunc{g:Operand}{p:Tmp}{E body:Code}{f:FuncId}{caps caps':List SV}{r:SV}{N:Nat}{xs:Nat->SV}{go:Nat->Bool}{jump:Exit}{ks:List Nat}{slR:SL}{mb:Option Nat->Ab}{st:Option Nat}
  (h:B0j P n p E body N xs go jump ks slR mb)(U:∀st,((mb st).map (·.1)).Nodup)(O:Ao sl g=.Bf f caps)(J:G7 [] caps=some caps')
  (Z:∀Y:Gx,Y.P=P->Y.N=N->Y.xs=xs->Y.go=go->C8 P f (.Eo Y.l::caps') [(1000000,.ghost Y (some 0))] r [(1000000,.ghost Y st)])
  (V:sle sl (W1 Dq slR))(W:ble bx (P7 Dq (mb (some 0))))
  (L:∀j,st=some j->(∀i,i<j->go i=true)->Q .normal (W1 Dq slR) (P7 Dq (mb (some j))))(I:st=none->Q jump (W1 Dq slR) (P7 Dq (mb none))) :
  A0 none P n (.rangeFunc g #[p] E body) Q sl bx :=
 A0.G4t (RS:=λs=>s=st) h.toX U O J (λY a b c d _=>(Z Y a b c d).toR ⟨st,rfl,rfl⟩) V W (λj e=>L j e.symm) λe=>I e.symm
end Go.Abs
