/- Ranges over functions. Own framework. -/
import Derived.RangeFuncIn
import Derived.Test.YtjneockcgjfhaaaGreatDoorKAb5
set_option linter.all false
namespace Go.Abs
open Go
mutual
def SV.Ep(f:Nat->Nat):SV->SV
 |.box k off=>.box (f k) off
 |.acc k=>.acc (f k)
 |.Ee k i off=>.Ee (f k) i off
 |.mp k=>.mp (f k)
 |.agg cs=>.agg (SV.Q6 f cs)
 |.tuple cs=>.tuple (SV.Q6 f cs)
 |.Bk g cs=>.Bk g (SV.Q6 f cs)
 |.Fv cs off=>.Fv (SV.Q6 f cs) off
 |.undef=>.undef
 |.d x=>.d x
 |.Aj c off=>.Aj c off
 |.Fa l=>.Fa l
def SV.Q6(f:Nat->Nat):List SV->List SV
 |[]=>[]
 |c::cs=>c.Ep f::SV.Q6 f cs
end
theorem SV.Zi(f:Nat->Nat):∀cs:List SV,SV.Q6 f cs=cs.map (SV.Ep f)
 |[]=>rfl
 |c::cs=>by simp[SV.Q6,SV.Zi f cs]
theorem SV.C0j(f:Nat->Nat)(x:SV):(x.Ep f).one=x.one:=by cases x <;> rfl
theorem SV.B4s{k j:Nat}{c:SV}{cs:List SV}(E:cs[j]?=some c)(h:c.has k=true):SV.Lu k cs=true:=by grind[SV.A6g]
def An.Ep{S:Nat->Prop}{w:World}{β β':Names}{f:Nat->Nat}{x:SV}{v:Value}(h:An S w β x v)(L:∀k,x.has k=true->β' (f k) =β k):An S w β' (x.Ep f) v:=by
 induction h with
 |undef v=>exact .undef v
 |d x v h=>exact .d x v h
 |agg cells vs E J _ I =>simp only[SV.Ep,SV.Zi];refine .agg _ vs (by grind) ?_ ?_;grind[SV.C0j];grind[SV.has,SV.B4s]
 |tuple cells vs E _ I =>simp only[SV.Ep,SV.Zi];refine .tuple _ vs (by grind) ?_;grind[SV.has,SV.B4s]
 |box k off b h=>exact .box _ off b (by grind[SV.has])
 |Aj cells off b base hs E J O=>exact .Aj cells off b base hs E J O
 |acc k=>have:=L k (by simp[SV.has]);rw[<-this];exact .acc (f k)
 |Ee k i off b h=>have:=L k (by simp[SV.has]);rw[<-this];exact .Ee (f k) i off b (by grind)
 |mp k b h=>exact .mp _ b (by grind[SV.has])
 |Fa l=>exact .Fa l
 |Fv cells off b hs E J _ I =>simp only[SV.Ep,SV.Zi];refine .Fv _ off b hs ?_ (by grind) ?_;grind[SV.C0j];grind[SV.has,SV.B4s]
 |Bk g cells vs E _ I =>simp only[SV.Ep,SV.Zi];refine .Bk g _ vs (by grind) ?_;grind[SV.has,SV.B4s]
mutual
theorem An.Tw{S:Nat->Prop}{w:World}{β β':Names}{f:Nat->Nat}:∀{x:SV} {v:Value},An S w β' (x.Ep f) v->(∀k,x.has k=true->β' (f k) =β k)->An S w β x v
 |.undef,v,_,_=>.undef v
 |.d x,v,h,_=>by simp only[SV.Ep]at h;exact .d x v h.Gq
 |.Aj c off,v,h,_=>by simp only[SV.Ep]at h;exact h.closed rfl
 |.Fa l,v,h,_=>by simp only[SV.Ep]at h;exact h.closed rfl
 |.box k off,v,h,E=>by simp only[SV.Ep]at h;cases h with|box _ _ b U=>exact .box k off b (by grind[SV.has])
 |.acc k,v,h,E=>by simp only[SV.Ep]at h;cases h;rw[E k (by simp[SV.has])];exact .acc k
 |.Ee k i off,v,h,E=>by simp only[SV.Ep]at h;have I:=E k (by simp[SV.has]);cases h with|Ee _ _ _ b U=>rw[I];exact .Ee k i off b (by grind)
 |.mp k,v,h,E=>by simp only[SV.Ep]at h;cases h with|mp _ b U=>exact .mp k b (by grind[SV.has])
 |.agg cs,v,h,E=>by
  simp only[SV.Ep]at h;cases h with
  |agg _ vs O h2 J =>have:=Bz.Tw (cs:=cs) ⟨O,J⟩ (λk I=>E k (by simp only[SV.has];exact I));refine .agg cs vs this.1 (λc L=>?_) this.2;grind[SV.C0j,SV.Zi,List.mem_map_of_mem]
 |.tuple cs,v,h,E=>by
  simp only[SV.Ep]at h;cases h with
  |tuple _ vs O J =>have:=Bz.Tw (cs:=cs) ⟨O,J⟩ (λk I=>E k (by simp only[SV.has];exact I));exact .tuple cs vs this.1 this.2
 |.Bk g cs,v,h,E=>by
  simp only[SV.Ep]at h;cases h with
  |Bk _ _ vs O J =>have:=Bz.Tw (cs:=cs) ⟨O,J⟩ (λk I=>E k (by simp only[SV.has];exact I));exact .Bk g cs vs this.1 this.2
 |.Fv cs off,v,h,E=>by
  simp only[SV.Ep]at h;cases h with
  |Fv _ _ b hs O h2 J =>
   obtain⟨vs,hl,Z⟩:=C2i (w:=w) (b:=b) (off:=0) (n:=(SV.Q6 f cs).length) (λj V=>by grind);have:=Bz.Tw (cs:=cs) (vs:=vs) ⟨hl,λj c v L W=>J j c v L (by grind)⟩ (λk I=>E k (by simp only[SV.has];exact I));have a0:(SV.Q6 f cs).length=cs.length:=by rw[SV.Zi];simp
   refine .Fv cs off b hs (λc L=>?_) (λj V=>h2 j (by omega)) (λj c v L W=>?_);grind[SV.C0j,SV.Zi];have a1:=(Aw.1 L).1;have V:=Z j (vs[j]'(by omega)) (Br _);rw[Qe,W]at V;simp only[B0]at V;exact this.2 j c v L (by grind)
theorem Bz.Tw{S:Nat->Prop}{w:World}{β β':Names}{f:Nat->Nat}:∀{cs:List SV} {vs:List Value},Bz S w β' (SV.Q6 f cs) vs->(∀k,SV.Lu k cs=true->β' (f k) =β k)->Bz S w β cs vs
 |[],vs,h,_=>⟨by simpa [SV.Q6]using h.1,by simp⟩
 |c::cs,vs,h,E=>by
  simp only[SV.Q6]at h;cases vs with
  |nil=>have:=h.1;grind
  |cons v vs =>
   exact .cons (An.Tw (h.2 0 _ v rfl rfl) (λk I=>E k (by simp[SV.Lu,I]))) (Bz.Tw ⟨by have:=h.1;grind,λj c v L W=>h.2 (j+1) c v (by grind) (by grind)⟩ (λk I=>E k (by simp[SV.Lu,I])))
end
def Aq.Ep(f:Nat->Nat):Aq->Aq
 |.cells cs=>.cells (SV.Q6 f cs)
 |c=>c
def Po(f:Nat->Nat):Aa->Aa
 |[]=>[]
 |(k,c)::r=>(f k,c.Ep f)::Po f r
def X0(f:Nat->Nat):SL->SL
 |[]=>[]
 |(t,x)::r=>(t,x.Ep f)::X0 f r
def C7q(f:Nat->Nat):∀(sl:SL)(t:Nat),Af (X0 f sl) t=(Af sl t).Ep f
 |[],t=>rfl
 |(u,x)::r,t=>by simp only[X0,Af];split;rfl;exact C7q f r t
def C0f{f:Nat->Nat}{j:Nat}{d:Aq}:∀{bx:Aa},(j,d)∈Po f bx↔∃k c,(k,c)∈bx/\j=f k/\d=c.Ep f
 |[]=>by simp[Po]
 |(k,c)::r=>by simp only[Po,B5,Ew,C0f (bx:=r)];constructor;rintro(⟨rfl,rfl⟩|⟨E,I,h,rfl,rfl⟩);exact⟨k,c,.inl ⟨rfl,rfl⟩,rfl,rfl⟩;grind;grind
def Dj.Ep{S:Nat->Prop}{w:World}{β β':Names}{f:Nat->Nat}{i:BI}{c:Aq}(h:Dj S w β i c)(O:∀k,c.has k=true->β' (f k) =β k):Dj S w β' i (c.Ep f):=by
 cases c with
 |cells cs =>obtain⟨b,ty,vs,J,V,U⟩:=h;refine⟨b,ty,vs,J,V,?_⟩;rw[SV.Zi];refine U.map (by simp) ?_;intro j x y v I E L;simp only[Db,I,Ef,B0]at E;subst E;exact L.Ep λk W=>O k (by grind[Aq.has,SV.B4s])
 |rows sz rs=>exact h
 |map kvs=>exact h
 |iter kvs seen=>exact h
 |ghost Y st=>exact h
def Dj.Tw{S:Nat->Prop}{w:World}{β β':Names}{f:Nat->Nat}{i:BI}{c:Aq}(h:Dj S w β' i (c.Ep f))(I:∀k,c.has k=true->β' (f k) =β k):Dj S w β i c:=by
 cases c with
 |cells cs =>obtain⟨b,ty,vs,E,O,J⟩:=h;exact⟨b,ty,vs,E,O,Bz.Tw J λk L=>I k (by simp only[Aq.has];exact L)⟩
 |rows sz rs=>exact h
 |map kvs=>exact h
 |iter kvs seen=>exact h
 |ghost Y st=>exact h
mutual
def SV.only(ks:List Nat):SV->Bool
 |.box k _=>ks.contains k
 |.acc k=>ks.contains k
 |.Ee k _ _=>ks.contains k
 |.mp k=>ks.contains k
 |.agg cs=>SV.A2b ks cs
 |.tuple cs=>SV.A2b ks cs
 |.Bk _ cs=>SV.A2b ks cs
 |.Fv cs _=>SV.A2b ks cs
 |.undef=>true
 |.d _=>true
 |.Aj _ _=>true
 |.Fa _=>true
def SV.A2b(ks:List Nat):List SV->Bool
 |[]=>true
 |c::cs=>c.only ks && SV.A2b ks cs
end
mutual
theorem SV.B5q{ks:List Nat}{k:Nat}:∀{x:SV},x.only ks=true->x.has k=true->k∈ks
 |.box j _,h,E=>by simp only[SV.only,Am9]at h;simp only[SV.has,Wy]at E;grind
 |.acc j,h,E=>by simp only[SV.only,Am9]at h;simp only[SV.has,Wy]at E;grind
 |.Ee j _ _,h,E=>by simp only[SV.only,Am9]at h;simp only[SV.has,Wy]at E;grind
 |.mp j,h,E=>by simp only[SV.only,Am9]at h;simp only[SV.has,Wy]at E;grind
 |.agg cs,h,E=>by simp only[SV.only]at h;simp only[SV.has]at E;exact SV.A8u h E
 |.tuple cs,h,E=>by simp only[SV.only]at h;simp only[SV.has]at E;exact SV.A8u h E
 |.Bk _ cs,h,E=>by simp only[SV.only]at h;simp only[SV.has]at E;exact SV.A8u h E
 |.Fv cs _,h,E=>by simp only[SV.only]at h;simp only[SV.has]at E;exact SV.A8u h E
 |.undef,_,E=>by simp[SV.has]at E
 |.d _,_,E=>by simp[SV.has]at E
 |.Aj _ _,_,E=>by simp[SV.has]at E
 |.Fa _,_,E=>by simp[SV.has]at E
theorem SV.A8u{ks:List Nat}{k:Nat}:∀{cs:List SV},SV.A2b ks cs=true->SV.Lu k cs=true->k∈ks
 |[],_,E=>by simp[SV.Lu]at E
 |c::cs,h,E=>by simp only[SV.A2b,Bi]at h;simp only[SV.Lu,Xu]at E;exact E.elim (SV.B5q h.1) (SV.A8u h.2)
end
def Aq.only(ks:List Nat):Aq->Bool
 |.cells cs=>SV.A2b ks cs
 |.ghost _ _=>false
 |_=>true
def A9q(ks:List Nat):Aa->Bool
 |[]=>true
 |(k,c)::r=>ks.contains k && c.only ks && A9q ks r
def B5m(ks:List Nat):SL->Bool
 |[]=>true
 |(_,x)::r=>x.only ks && B5m ks r
def C1a{ks:List Nat}{k:Nat}:∀{sl:SL},B5m ks sl=true->∀t,(Af sl t).has k=true->k∈ks
 |[],_,t,E=>by simp[Af,SV.has]at E
 |(u,x)::r,h,t,E=>by simp only[B5m,Bi]at h;simp only[Af]at E;split at E;exact SV.B5q h.1 E;exact C1a h.2 t E
def Va{ks:List Nat}:∀{bx:Aa},A9q ks bx=true->∀k c,(k,c)∈bx->k∈ks/\c.real=true/\∀j,c.has j=true->j∈ks
 |[],_,k,c,h=>by grind
 |(i,x)::r,h,k,c,hm=>by
  simp only[A9q,Bi,Am9]at h;rcases B5.1 hm with I|hm
  .simp only[Ew]at I;obtain⟨rfl,rfl⟩:=I;refine⟨h.1.1,?_,λj E=>?_⟩;cases c <;> first|rfl|simp[Aq.only]at h
   .cases c <;> first
     |(simp only[Aq.has]at E;exact SV.A8u h.1.2 E)
     |simp[Aq.has]at E
  exact Va h.2 k c hm
end Go.Abs
namespace Go.Abs
open Go
variable {P:Program} {n:Nat} {Q:Exit->SL->Aa->Prop} {sl:SL} {bx:Aa}
def Rm(β:Names)(bx:Aa)(b:Nat):Prop:=∃k c,(k,c)∈bx/\(β k).base=some b
def V7(bx:Aa):Prop:=∀k c,(k,c)∈bx->c.real=true
def V7.no{bx:Aa}(h:V7 bx){k:Nat}{Y:Ku}{st:Option Nat}:(k,Aq.ghost Y st) ∉bx:=λE=>by have:=h _ _ E;simp[Aq.real]at this
def Inv.X3{C:Ctx}{S S':Nat->Prop}{w w':World}{β:Names}{n0:Nat}{B:Nat->Prop}(h:Inv C S w β bx)(O:V7 bx)(J:∀b,Rm β bx b->B b)(Z:C.w0.heap.size<=n0)(k:E1d n0 B S w S' w'):Inv C S' w' β bx:=by
 have e:C9 S w S' w':=⟨k.sub,λb hb=>k.same b (.inr (.inr hb))⟩;exact{
  Fh:=λb hb=>k.sub b (h.Fh b hb)
  Ei:=λb hb=>by
   rcases k.new b hb with hb|hb
   .exact h.Ei b hb
   omega
  C3:=k.lt
  kept:=λb hb U=>(k.same b (.inl (by omega))).trans (h.kept b hb U)
  os:=k.os.trans h.os
  tape:=k.tape.trans h.tape
  output:=k.output.trans h.output
  size:=Dd h.size k.size
  box:=λj c E=>(h.box j c E).ext e (λb hb=>k.same b (.inr (.inl (J b ⟨j,c,E,hb⟩)))) (λ_ _=>rfl)
  Bh:=λj c E b hb=>⟨k.off b (J b ⟨j,c,E,hb⟩),X9 (h.Bh j c E b hb).2.1 k.size,(h.Bh j c E b hb).2.2⟩
  inj:=h.inj
  fix:=h.fix
  Dv:=λb cs L=>by obtain⟨I,ty,V,W⟩:=h.Dv b cs L;exact⟨e.sub b I,ty,V,(e.same b I).trans W⟩
  one:=h.one
  Fp:=λj Y st E=>absurd E O.no }
def Inv.shut{C:Ctx}{S:Nat->Prop}{w:World}{β:Names}{D:Nat}{l Z:Option (List Deferred)}(h:Inv C S w β bx)(L:V7 bx)(hn:C.w0.heap.size<=D)(W:¬Rm β bx D)(q:w.heap[D]?=some (.deferred l)):Inv C S (w.putObj D (.deferred Z)) β bx where
 Fh:=h.Fh
 Ei:=h.Ei
 C3:=λb E=>by simpa using h.C3 b E
 kept:=λb E O=>(World.putObj_heap_other (by omega)).trans (h.kept b E O)
 os:=h.os
 tape:=h.tape
 output:=h.output
 size:=by simpa using h.size
 box:=λk c I=>(h.box k c I).shut q (λV=>W ⟨k,c,I,V⟩)
 Bh:=λk c I b E=>by simpa using h.Bh k c I b E
 inj:=h.inj
 fix:=h.fix
 Dv:=λb cs J=>by
  obtain⟨h1,ty,fr,h2⟩:=h.Dv b cs J
  grind[World.putObj_heap_other]
 one:=h.one
 Fp:=λj Y st U=>absurd U L.no
def Inv.put{C:Ctx}{S:Nat->Prop}{w:World}{β:Names}{l:Nat}{o:Obj}(h:Inv C S w β bx)(V:V7 bx)(hl:¬S l)(U:¬Rm β bx l):Inv { C with w0:=C.w0.putObj l o } S (w.putObj l o) β bx:=by
 have a0:=h.size;have e:C9 S w S (w.putObj l o):=⟨λ_ h=>h,λb E=>World.putObj_heap_other λI=>hl (I ▸ E)⟩;exact{
  Fh:=h.Fh
  Ei:=λb E=>by simpa using h.Ei b E
  C3:=λb E=>by simpa using h.C3 b E
  kept:=λb E W=>by
   simp only[World.putObj_size]at E;by_cases I:b=l
   .grind[World.putObj_heap_same]
   .rw[World.putObj_heap_other I,World.putObj_heap_other I];exact h.kept b E W
  os:=h.os
  tape:=h.tape
  output:=h.output
  size:=by simp_all
  box:=λk c J=>(h.box k c J).ext e (λb E=>World.putObj_heap_other λI=>U ⟨k,c,J,I ▸ E⟩) (λ_ _=>rfl)
  Bh:=λk c J b E=>by simpa using h.Bh k c J b E
  inj:=h.inj
  fix:=h.fix
  Dv:=λb cs O=>by obtain⟨L,ty,Z,h2⟩:=h.Dv b cs O;exact⟨L,ty,Z,(e.same b L).trans h2⟩
  one:=h.one
  Fp:=λj Y st hj=>absurd hj V.no }
def Inv.H0q{C C2:Ctx}{S V:Nat->Prop}{w w2:World}{β U:Names}{E:Aa}{B B2:Nat->Prop}(h:Inv C S w β bx)(O:Inv C2 V w2 U E)(hg:V7 E)(hB:∀b,B b->C.pre b\/C.w0.heap.size<=b)
  (W:∀b,Rm U E b->B2 b)(t:A0q B S w B2 V w2)(L:∀k i,C.A6y k i->U k=i):Inv C V w2 U E:=by
 have a1:=h.size;have J:∀b,B b\/w.heap.size<=b->C.pre b\/C.w0.heap.size<=b:=λb hb=>hb.elim (hB b) λh=>.inr (by omega);exact{
  Fh:=λb hb=>t.ext.sub b (h.Fh b hb)
  Ei:=λb hb=>by
   rcases t.new b hb with hb|hb
   .exact h.Ei b hb
   grind
  C3:=t.lt
  kept:=λb hb hp=>by
   rw[<-h.kept b hb hp];refine t.kept b (by omega) λa0=>?_
   grind
  os:=t.os.trans h.os
  tape:=t.tape.trans h.tape
  output:=t.output.trans h.output
  size:=Dd h.size t.size
  box:=O.box
  Bh:=λk c I b hb=>⟨(O.Bh k c I b hb).1,(O.Bh k c I b hb).2.1,J b (t.own b (W b ⟨k,c,I,hb⟩)).2.2⟩
  inj:=O.inj
  fix:=λk i I=>⟨(h.fix k i I).1,L k i I⟩
  Dv:=λb cs hb=>by obtain⟨Z,ty,fr,hh⟩:=h.Dv b cs hb;exact⟨t.ext.sub b Z,ty,fr,(t.ext.same b Z).trans hh⟩
  one:=O.one
  Fp:=λj Y st hj=>absurd hj hg.no }
def Dq(k:Nat):Nat:=if 2000000<=k then k - 2000000 else k
def Ctx.rd(C:Ctx)(β:Names):Ctx:={ C with A6y:=λk i=>2000000<=k/\i =β k }
def A4w(C:Ctx)(l:Nat)(Ds:List Nat)(tmps:Array Value)(I:LoopState->Option Code->Loop)(βR:Names)(slR:SL)(mb:Option Nat->Aa)(go:Nat->Bool)(jump:Option Code)(st:Option Nat)(B S:Nat->Prop)(w:World):Prop :=∃β,Inv (C.rd βR) S w β (mb st)/\(∀b,B b↔(b=l\/Rm β (mb st) b))/\¬S l/\¬Rm β (mb st) l/\l<w.heap.size /\w.heap[l]?=some (.loop (match st with|some _=>I .ready none|none=>I .done jump)) /\(∀E,E∈Ds->S E/\w.heap[E]?=some (.deferred (some [])))/\(∀t,An S w β (Af slR t) (tmps.getD t undef))/\(∀j,st=some j->∀i,i<j->go i=true)
end Go.Abs
namespace Go.Abs
open Go
variable {P:Program} {n:Nat} {Q:Exit->SL->Aa->Prop} {sl:SL} {bx:Aa}
def Qk:Exit->Option Code
 |.ret=>some .ret
 |.exit id=>some (.exit id)
 |_=>none
def B7y(mb:Option Nat->Aa)(go:Nat->Bool)(jump:Exit)(j:Nat)(e:Exit)(sl:SL)(bx:Aa):Prop :=match e with
 |.normal=>go j=true/\ble bx (mb (some (j+1)))
 |e=>go j=false/\e=jump/\ble bx (mb none)
def B3b:Aa->Bool
 |[]=>true
 |(_,c)::r=>c.real && B3b r
def E2p:∀{bx:Aa},B3b bx=true->V7 bx
 |[],_,k,c,h=>by grind
 |(i,x)::r,h,k,c,hm=>by simp only[B3b,Bi]at h;rcases B5.1 hm with E|hm;grind;exact E2p h.2 k c hm
def C7k(P:Program)(n l:Nat)(body:Code)(Q:Exit->SL->Aa->Prop)(sl:SL)(bx:Aa):Prop:=B3b bx=true/\A0 (some l) P n body Q sl bx
structure A9a(P:Program)(n:Nat)(p:Tmp)(assign body:Code)(N:Nat)(xs:Nat->SV)(go:Nat->Bool)(jump:Exit)(ks:List Nat)(slR:SL)(mb:Option Nat->Aa):Prop where
 E4f:∃c,Qk jump=some c
 keys:(ks.map Dq).Nodup
 high:∀k,k∈ks->2000000<=k\/k<=999999
 D7m:B5m (ks.filter (2000000<=·)) slR=true
 B2z:∀st,A9q ks (mb st)=true
 pOK:p<n
 closed:∀j,(xs j).closed=true
 body:∀j,j<N->(∀i,i<j->go i=true)->∀l,A0 (some l) P n assign (A5 (C7k P n l body (B7y mb go jump j)) (λ_ _ _=>False)) ((p,xs j)::slR) (mb (some j))
def C1i(mb:Option Nat->Aa)(jump:Exit)(st':Option Nat)(e:Exit)(_:SL)(bx:Aa):Prop:=match st' with
 |some E=>e=.normal/\ble bx (mb (some E))
 |none=>e=jump/\ble bx (mb none)
def B7y.B9u{mb:Option Nat->Aa}{go:Nat->Bool}{jump:Exit}{j:Nat}{e:Exit}{sl:SL}{bx:Aa}(h:B7y mb go jump j e sl bx):C1i mb jump (if go j=true then some (j+1)else none) e sl bx:=by
 unfold B7y at h;cases e with
 |normal=>rw[A6 h.1];exact⟨rfl,h.2⟩
 |_=>obtain⟨J,E,I⟩:=h;rw[A3 (by grind)];exact⟨E,I⟩
def A9a.core{p:Tmp}{assign body:Code}{N:Nat}{xs:Nat->SV}{go:Nat->Bool}{jump:Exit}{ks:List Nat}{slR:SL}{mb:Option Nat->Aa}(h:A9a P n p assign body N xs go jump ks slR mb)
  {C:Ctx}{l n0:Nat}{Ds:List Nat}{tmps:Array Value}{fn:FuncId}{D:Nat}{βR:Names}(b0:tmps.size=n)(hl:l<n0)(ay:∀E,E∈Ds->E<n0)(b1:l∉Ds)(am:C.w0.heap.size<=l)(aw:C.w0.heap.size<=n0)
  {j:Nat}{x:SV}{st':Option Nat}(hx:x.closed=true)(a4:A0 (some l) P n assign (A5 (C7k P n l body (C1i mb jump st')) (λ_ _ _=>False)) ((p,x)::slR) (mb (some j)))(ag:∀j',st'=some j'->∀i,i<j'->go i=true)
  {B S:Nat->Prop}{w:World}{β:Names}{v:Value}(hF:A4w C l Ds tmps (λstate pending=>{ state,pending,fn,tmps,params:=#[p],assign,body,defers:=D }) βR slR mb go (Qk jump) (some j) B S w)(hS:∀b,S b->b<w.heap.size)(hB:∀b,B b->¬S b/\b<w.heap.size)(hv:An S w β x v) :
  ∃f tm as bd,(Instr.yield l #[v]).run P w=.ok (.round l f tm as bd) w/\RoundIn Fence.wide 0 P l f tm as bd w (λe w'=>∃S' U,e=.returned (.bool st'.isSome)/\A4w C l Ds tmps (λstate pending=>{ state,pending,fn,tmps,params:=#[p],assign,body,defers:=D }) βR slR mb go (Qk jump) st' U S' w'/\A0q B S w U S' w'):=by
 have a6:∀st,V7 (mb st):=λst k c hm=>(Va (h.B2z st) k c hm).2.1;obtain⟨β1,W,h2,h3,h4,h5,h6,h7,h8,h9⟩:=hF;simp only at h6;have au:An S w β1 x v:=hv.closed hx;have hy:=run_yield (P:=P) (args:=#[v]) h6 (by simp);simp only[List.zip_toArray,List.zip_cons_cons,List.zip_nil_right,List.foldl_toArray,Mr,We]at hy;have Z:=W.Bh;have ae:∀b,Rm β1 (mb (some j)) b->b<w.heap.size/\¬S b:=λb ⟨k,c,L,I⟩=>⟨(Z k c L b I).2.1,(Z k c L b I).1⟩;have i1:Inv ⟨w,S,Rm β1 (mb (some j)),λk i=>2000000<=k/\i =βR k,C.G⟩ S w β1 (mb (some j)):={
  Fh:=λ_ h=>h,Ei:=λ_ h=>.inl h,C3:=W.C3,kept:=λ_ _ _=>rfl,os:=rfl,tape:=rfl,output:=rfl,size:=Bq _
  box:=W.box
  Bh:=λk c L b I=>⟨(Z k c L b I).1,(Z k c L b I).2.1,.inl ⟨k,c,L,I⟩⟩
  inj:=W.inj
  fix:=W.fix
  Dv:=W.Dv
  one:=W.one
  Fp:=λk Y st L=>absurd L (a6 _).no }
 have ab:∀t,(tmps.setIfInBounds p v).getD t undef=if p=t then v else tmps.getD t undef:=λt=>by
  simp only[An8,Array.getElem?_setIfInBounds];split
  .subst_vars;simp[h.pOK]
  .rfl
 have ah:St ⟨w,S,Rm β1 (mb (some j)),λk i=>2000000<=k/\i =βR k,C.G⟩ n S w β1 { tmps:=tmps.setIfInBounds p v,defers:=[] } ((p,x)::slR) (mb (some j)):=by refine⟨i1,by grind,.nil,λt=>?_⟩;simp only[ab,Af];split;omega;grind
 have hA:=a4;refine⟨_,_,_,_,hy,roundIn_of_wpIn trivial (As4 (hA _ S w β1 _ ah) ?_)⟩;rintro e a1 w1 ⟨av,ar,S1,β2,hq,s1⟩;have a0:∀{S':Nat->Prop} {w':World} {β':Names} {bx':Aa} {w0:World},w0.heap.size=w.heap.size->Inv ⟨w0,S,Rm β1 (mb (some j)),λk i=>2000000<=k/\i =βR k,C.G⟩ S' w' β' bx'->¬S' l/\¬Rm β' bx' l:=by intro S' w' β' bx' w0 aq hi;refine⟨λhs=>?_,λ⟨k,c,L,I⟩=>?_⟩;rcases hi.Ei l hs with h|h|h;grind;grind;grind;rcases(hi.Bh k c L l I).2.2 with h|h;grind;grind
 cases e with
 |normal =>
  simp only[A5]at hq;obtain⟨f1,f2⟩:=a0 rfl s1.inv;have ai:w1.heap[l]?=_:=(s1.inv.kept l h5 h4).trans h6;have g1:=E2p hq.1;refine⟨_,run_beginRound ai rfl,As4 (hq.2 _ S1 _ β2 a1 ⟨s1.inv.put g1 f1 f2,s1.size,?_,λt=>?_⟩) ?_⟩
  .obtain⟨Es,q1,q2,q3⟩:=s1.defers;refine⟨Es,q1,q2,λE hE=>⟨(q3 E hE).1,by simp_all,(World.putObj_heap_other ?_).trans (q3 E hE).2.2⟩⟩
   grind
  .have a8:∀b,S1 b->b≠l:=λb I he=>by grind
   exact(s1.slot t).ext ⟨λ_ h=>h,λb I=>World.putObj_heap_other (a8 b I)⟩ (λ_ _=>rfl)
  rintro e a3 w3 ⟨ax,ac,S3,β3,a7,O⟩;obtain⟨f3,f4⟩:=a0 (by simp) O.inv;have ao:w.heap.size<=w3.heap.size:=by have:=O.inv.size;simpa using this
  have ad:w3.heap[l]?=some (.loop { state:=.busy,pending:=none,fn,tmps,params:=#[p],assign,body,defers:=D }):=by rw[O.inv.kept l (by simp_all) h4];exact World.putObj_heap_same h5
  have aa:∀(st:Option Nat) (o:Obj),ble ac (mb st)->(∀j',st=some j'->∀i,i<j'->go i=true) ->(w3.putObj l o).heap[l]?=some (.loop (match st with|some _=>{ state:=.ready,pending:=none,fn,tmps,params:=#[p],assign,body,defers:=D } |none=>{ state:=.done,pending:=Qk jump,fn,tmps,params:=#[p],assign,body,defers:=D })) ->∃S' U,A4w C l Ds tmps (λstate pending=>{ state,pending,fn,tmps,params:=#[p],assign,body,defers:=D }) βR slR mb go (Qk jump) st U S' (w3.putObj l o)/\A0q B S w U S' (w3.putObj l o):=by
   intro st o J az ho;have a9:=O.inv.sub (A7e J);have af:=a9.put (o:=o) (a6 st) f3 (λ⟨k,c,L,I⟩=>f4 ⟨k,c,A7e J k c L,I⟩);have a2:∀k,2000000<=k->β3 k =βR k:=λk L=>(O.inv.fix k (βR k) ⟨L,rfl⟩).2;have aj:∀b,S b->b≠l:=λb I he=>by grind
   have e3:C9 S w S3 (w3.putObj l o):=⟨O.inv.Fh,λb I=>by
    rw[World.putObj_heap_other (aj b I),O.inv.kept b (by simp_all) (λak=>(ae b ak).2 I)]
    grind[World.putObj_heap_other]⟩
   have t:A0q B S w (λb=>b=l\/Rm β3 (mb st) b) S3 (w3.putObj l o):={
    ext:=e3
    new:=λb I=>by
     rcases O.inv.Ei b I with h|h|h
     .grind
     .grind
     simp_all
    lt:=λb I=>by simpa using O.inv.C3 b I
    own:=λb I=>by
     rcases I with rfl|⟨k,c,L,I⟩
     .grind
     .obtain⟨p1,p2,p3⟩:=a9.Bh k c L b I;exact⟨p1,by simp_all,p3.imp (λh=>(h2 b).2 (.inr h)) (λh=>by simp_all)⟩
    kept:=λb I hn=>by have a':b≠l:=λhe=>hn ((h2 b).2 (.inl he));rw[World.putObj_heap_other a',O.inv.kept b (by simp_all) (λh=>hn ((h2 b).2 (.inr h)))];exact World.putObj_heap_other a'
    os:=O.inv.os
    tape:=O.inv.tape
    output:=O.inv.output
    size:=by simp_all }
   refine⟨S3,_,⟨β3,W.H0q af (a6 st) (λb I=>?_) (λb I=>.inr I) t (λk i L=>?_),λb=>Iff.rfl,f3,λ⟨k,c,L,I⟩=>f4 ⟨k,c,A7e J k c L,I⟩,by grind,?_,λE hE=>⟨e3.sub E (h7 E hE).1,(e3.same E (h7 E hE).1).trans (h7 E hE).2⟩,λt=>(h8 t).ext e3 λk L=>?_,λj' ap i hi=>?_⟩,t⟩
   .rcases(h2 b).1 I with rfl|⟨k,c,L,I⟩
    .exact .inr am
    grind
   .rw[a2 k L.1];exact L.2.symm
   .omega
   .have a5:=C1a h.D7m t L;simp only[Kr,E4]at a5;rw[a2 k a5.2,(W.fix k (βR k) ⟨a5.2,rfl⟩).2]
   .grind
  have V:∀o,(w3.putObj l o).heap[l]?=some o:=λo=>World.putObj_heap_same (by omega);have stop:∀c,Qk jump=some c->ble ac (mb none)->∃v' w',(Instr.endRound l (some c)).run P w3=.ok v' w'/\(∃S' U,(Ending.returned v')=.returned (.bool false)/\A4w C l Ds tmps (λstate pending=>{ state,pending,fn,tmps,params:=#[p],assign,body,defers:=D }) βR slR mb go (Qk jump) none U S' w'/\A0q B S w U S' w'):=by intro c hc J;obtain⟨S',U,p1,p2⟩:=aa none _ J (λ_ h=>by cases h) (by rw[V,hc]);exact⟨_,_,run_endRound (some c) ad,S',U,rfl,p1,p2⟩
  cases st' with
  |some j' =>obtain⟨rfl,J⟩:=a7;obtain⟨S',U,p1,p2⟩:=aa (some j') _ J ag (by rw[V]);exact⟨_,_,run_endRound none ad,S',U,rfl,p1,p2⟩
  |none =>
   obtain⟨he,J⟩:=a7;obtain⟨c,hc⟩:=h.E4f;cases e with
   |ret=>subst he;exact stop .ret rfl J
   |exit id=>subst he;exact stop (.exit id) rfl J
   |normal=>grind[Qk]
   |goto t=>grind[Qk]
   |panic ch=>grind[Qk]
   |outgrown=>grind[Qk]
 |_=>exact hq.elim
structure B5n(P:Program)(n:Nat)(p:Tmp)(assign body:Code)(N:Nat)(xs:Nat->SV)(go:Nat->Bool)(jump:Exit)(ks:List Nat)(slR:SL)(mb:Option Nat->Aa)(more:Nat->SV->Nat->Prop):Prop where
 ok:A9a P n p assign body N xs go jump ks slR mb
 G4b:∀j y j',more j y j'->y.closed=true/\(∀i,go i=true)/\∀l,A0 (some l) P n assign (A5 (C7k P n l body (C1i mb jump (some j'))) (λ_ _ _=>False)) ((p,y)::slR) (mb (some j))
def A9a.toX{p:Tmp}{E body:Code}{N:Nat}{xs:Nat->SV}{go:Nat->Bool}{jump:Exit}{ks:List Nat}{slR:SL}{mb:Option Nat->Aa}(h:A9a P n p E body N xs go jump ks slR mb):B5n P n p E body N xs go jump ks slR mb λ_ _ _=>False :=⟨h,λ_ _ _ h=>h.elim⟩
def B5n.rounds{p:Tmp}{assign body:Code}{N:Nat}{xs:Nat->SV}{go:Nat->Bool}{jump:Exit}{ks:List Nat}{slR:SL}{mb:Option Nat->Aa}{more:Nat->SV->Nat->Prop}(hX:B5n P n p assign body N xs go jump ks slR mb more)
  {C:Ctx}{l n0:Nat}{Ds:List Nat}{tmps:Array Value}{fn:FuncId}{D:Nat}{βR:Names}(a2:tmps.size=n)(hl:l<n0)(I:∀E,E∈Ds->E<n0)(a3:l∉Ds)(a1:C.w0.heap.size<=l)(O:C.w0.heap.size<=n0){sy ra:TypeId × Value} :
  D9d ⟨⟨P,l,n0,N,xs,go,more⟩,A4w C l Ds tmps (λstate pending=>{ state,pending,fn,tmps,params:=#[p],assign,body,defers:=D }) βR slR mb go (Qk jump),sy,ra⟩:=by
 have h:=hX.ok;have a0:∀st,V7 (mb st):=λst k c hm=>(Va (h.B2z st) k c hm).2.1;refine⟨?_,?_,?_,?_⟩
 ·
  rintro st B S w S' w' ⟨β,h1,V,h3,h4,h5,h6,W,h8,L⟩ k;have e:C9 S w S' w':=⟨k.sub,λb hb=>k.same b (.inr (.inr hb))⟩;refine⟨β,h1.X3 (a0 st) (λb hb=>(V b).2 (.inr hb)) O k,V,k.off l ((V l).2 (.inl rfl)),h4,X9 h5 k.size,(k.same l (.inl hl)).trans h6,λE J=>⟨k.sub E (W E J).1,(k.same E (.inl (I E J))).trans (W E J).2⟩,λt=>(h8 t).ext e (λ_ _=>rfl),L⟩
 ·
  rintro st B S w D' q q' ⟨β,h1,V,h3,h4,h5,h6,W,h8,L⟩ hn hB U;have Z:∀E,E<n0->E≠D':=λE J he=>by grind
  refine⟨β,h1.shut (a0 st) (by simp only at hn;show C.w0.heap.size<=D';omega) (λhb=>hB ((V D').2 (.inr hb))) U,V,h3,h4,by grind,(World.putObj_heap_other (Z l hl)).trans h6,λE J=>⟨(W E J).1,(World.putObj_heap_other (Z E (I E J))).trans (W E J).2⟩,λt=>(h8 t).shut U,L⟩
 ·
  rintro j B S w β v a4 hF hS hB hv;have L:∀i,i<j->go i=true:=by obtain⟨_,_,_,_,_,_,_,_,_,L⟩:=hF;exact L j rfl
  obtain⟨f,tm,as,bd,g1,g2⟩:=h.core a2 hl I a3 a1 O (j:=j) (x:=xs j) (st':=if go j=true then some (j+1)else none) (h.closed j) ((h.body j a4 L l).mono λe sl bx U=>by
   cases e with
   |normal=>exact⟨U.1,U.2.mono λ_ _ _ h=>h.B9u⟩
   |_=>exact U) (λj' a5 i hi=>by
   grind) hF hS hB hv
  exact⟨f,tm,as,bd,g1,g2.mono λe w' ⟨S',B',q1,q2,q3⟩=>⟨S',B',by grind,q2,q3⟩⟩
 ·
  rintro j y j' B S w β v hm hF hS hB hv;obtain⟨c1,c2,c3⟩:=hX.G4b j y j' hm;exact h.core a2 hl I a3 a1 O (j:=j) (x:=y) (st':=some j') c1 (c3 l) (λ_ _ i _=>c2 i) hF hS hB hv
end Go.Abs
namespace Go.Abs
open Go
variable {P:Program} {n:Nat} {Q:Exit->SL->Aa->Prop} {sl:SL} {bx:Aa}
def D0n{ks:List Nat}{f:Nat->Nat}:(ks.map f).Nodup->∀a b,a∈ks->b∈ks->f a=f b->a=b:=by
 induction ks with
 |nil=>simp
 |cons k ks E =>grind
theorem F9s{mb:Aa}(h:(mb.map (·.1)).Nodup){k:Nat}{c E:Aq}(I:(k,c)∈mb)(J:(k,E)∈mb):c=E:=by
 induction mb with
 |nil=>grind
 |cons x mb L =>grind
def Inv.Tw{C:Ctx}{S:Nat->Prop}{w:World}{β:Names}{mb:Aa}{ks:List Nat}(h:Inv C S w β (Po Dq mb))(hk:(ks.map Dq).Nodup)(L:A9q ks mb=true)(hu:(mb.map (·.1)).Nodup) :Inv (C.rd λk=>β (Dq k)) S w (λk=>β (Dq k)) mb:=by
 have E:∀{k:Nat} {c:Aq},(k,c)∈mb->(Dq k,c.Ep Dq)∈Po Dq mb:=λL=>C0f.2 ⟨_,_,L,rfl,rfl⟩;have O:V7 mb:=λk c W=>(Va L k c W).2.1;exact{ h with
  box:=λk c I=>(h.box _ _ (E I)).Tw λ_ _=>rfl
  Bh:=λk c I=>h.Bh _ _ (E I)
  inj:=λk c Z c' J h2 b U V=>by
   have:=D0n hk k Z (Va L _ _ J).1 (Va L _ _ h2).1 (h.inj _ _ _ _ (E J) (E h2) b U V).1
   grind[F9s]
  fix:=λk i hi=>⟨by have:=hi.1;omega,hi.2.symm⟩
  one:=λk Y st Z Y' st' J=>absurd J O.no
  Fp:=λk Y st J=>absurd J O.no }
def Inv.F9o{C:Ctx}{S:Nat->Prop}{w:World}{β β':Names}{mb:Aa}{ks:List Nat}(h:Inv (C.rd λk=>β (Dq k)) S w β' mb)(hk:(ks.map Dq).Nodup)(hh:∀k,k∈ks->2000000<=k\/k<=999999)(I:A9q ks mb=true)(hC:∀k i,C.A6y k i->1000000<=k/\β k=i) :∃J:Names,Inv C S w J (Po Dq mb)/\∀k,k∈ks->J (Dq k) =β' k:=by
 have a4:V7 mb:=λk c a7=>(Va I k c a7).2.1;obtain⟨J,a5⟩:∃J:Names,∀k,J k=if k∈ks/\k<=999999 then β' k else β k:=⟨λk=>if k∈ks/\k<=999999 then β' k else β k,λ_=>rfl⟩
 have key:∀k,k∈ks->J (Dq k) =β' k:=by
  intro k V;rw[a5];rcases hh k V with h1|h1
  .have hl:Dq k=k - 2000000:=by unfold Dq;rw[A6 h1]
   have a3:¬(Dq k∈ks/\Dq k<=999999):=by
    rintro⟨a,b⟩;have a6:Dq (Dq k)=Dq k:=by
     have h5:¬ 2000000<=Dq k:=by omega
     generalize Dq k=q at h5;unfold Dq;rw[A3 h5]
    have:=D0n hk _ _ a V a6;omega
   rw[A3 a3];exact((h.fix k _ ⟨h1,rfl⟩).2).symm
  .have hl:Dq k=k:=by unfold Dq;rw[A3 (by omega)]
   grind
 refine⟨J,?_,key⟩;have W:∀{j:Nat} {d:Aq},(j,d)∈Po Dq mb->∃k c,(k,c)∈mb/\j=Dq k/\d=c.Ep Dq:=λI=>C0f.1 I;have E:∀(k:Nat) (Y:Ku) (st:Option Nat),(k,Aq.ghost Y st) ∉Po Dq mb:=λk Y st a1=>by obtain⟨Z,c,h1,_,h2⟩:=W a1;have:=a4 _ _ h1;cases c <;> simp[Aq.Ep,Aq.real]at h2 this
 exact{ h with
  box:=λj d O=>by obtain⟨k,c,h1,rfl,rfl⟩:=W O;obtain⟨m1,_,m3⟩:=Va I k c h1;rw[key k m1];exact(h.box k c h1).Ep λi hi=>key i (m3 i hi)
  Bh:=λj d O b U=>by obtain⟨k,c,h1,rfl,rfl⟩:=W O;rw[key k (Va I k c h1).1]at U;exact h.Bh k c h1 b U
  inj:=λj d j' d' O a2 b L a0=>by obtain⟨k,c,h1,rfl,rfl⟩:=W O;obtain⟨Z,c',h2,rfl,rfl⟩:=W a2;rw[key k (Va I k c h1).1]at L;rw[key Z (Va I Z c' h2).1]at a0;obtain⟨rfl,rfl⟩:=h.inj k c Z c' h1 h2 b L a0;simp
  fix:=λk i hi=>by grind
  one:=λk Y st Z Y' st' h1=>absurd h1 (E _ _ _)
  Fp:=λk Y st h1=>absurd h1 (E _ _ _) }
def B3c(P:Program)(f:FuncId)(args:List SV)(pre:Aa)(R:SV->Aa->Prop):Prop :=Enters P f/\∀(C:Ctx) (β:Names) (vs:List Value),Inv C C.S0 C.w0 β pre->Bz C.S0 C.w0 β args vs ->Calls P f ⟨vs⟩ C.w0 (λe w'=>∃r v E S' β',R r E/\e=.returned v/\Inv C S' w' β' E/\An S' w' β' r v)
def Ch.toR{f:FuncId}{args:List SV}{pre E:Aa}{r:SV}{R:SV->Aa->Prop}(h:Ch P f args pre r E)(hr:R r E):B3c P f args pre R :=⟨h.1,λC β vs O I=>(h.2 C β vs O I).mono λ_ _ ⟨v,S',β',J,U,L⟩=>⟨r,v,E,S',β',hr,J,U,L⟩⟩
def B3c.imp{f:FuncId}{args:List SV}{pre:Aa}{R I:SV->Aa->Prop}(h:B3c P f args pre R)(hr:∀r E,R r E->I r E):B3c P f args pre I :=⟨h.1,λC β vs V J=>(h.2 C β vs V J).mono λ_ _ ⟨r,v,E,S',β',U,L,W,O⟩=>⟨r,v,E,S',β',hr r E U,L,W,O⟩⟩
def A0.G2c{g:Operand}{p:Tmp}{assign body:Code}{f:FuncId}{caps caps':List SV}{N:Nat}{xs:Nat->SV}{go:Nat->Bool}{jump:Exit}{ks:List Nat}{slR:SL}{mb:Option Nat->Aa}{more:Nat->SV->Nat->Prop}{RS:Option Nat->Prop}
  (hX:B5n P n p assign body N xs go jump ks slR mb more)(hu:∀st,((mb st).map (·.1)).Nodup)(hg:Ao sl g=.Bk f caps)(a4:H6 [] caps=some caps')
  (hc:∀Y:Ku,Y.P=P->Y.N=N->Y.xs=xs->Y.go=go->Y.more=more->B3c P f (.Fa Y.l::caps') [(1000000,.ghost Y (some 0))] λ_ W=>∃st,RS st/\W=[(1000000,.ghost Y st)])
  (h1:sle sl (X0 Dq slR))(h2:ble bx (Po Dq (mb (some 0))))
  (aa:∀j,RS (some j)->(∀i,i<j->go i=true)->Q .normal (X0 Dq slR) (Po Dq (mb (some j))))(a0:RS none->Q jump (X0 Dq slR) (Po Dq (mb none))) :
  A0 none P n (.rangeFunc g #[p] assign body) Q sl bx:=by
 have h:=hX.ok;intro C S w β a a3;have a1:=a3.Ao g;rw[hg]at a1;generalize ac:a.eval g=gv at a1;have hs:St C n S w β a (X0 Dq slR) (Po Dq (mb (some 0))):=a3.weaken h1 h2;clear a3;cases a1 with
 |Bk _ _ cs g1 g2 =>
 refine wpIn_rangeFunc λfn _=>?_;obtain⟨w1,L⟩:∃w1,w1=(w.alloc (.deferred (some []))).alloc (.loop { state:=.ready,pending:=none,fn,tmps:=a.tmps,params:=#[p],assign,body,defers:=w.heap.size }):=⟨_,rfl⟩;have ar:w1.heap.size=w.heap.size+2:=by rw[L];simp[-World.alloc_eq,World.alloc]
 have ab:∀b,b<w.heap.size->w1.heap[b]?=w.heap[b]?:=λb hb=>by rw[L,RowKit.Below.heap_alloc _ _ b (by simp[-World.alloc_eq,World.alloc];omega),RowKit.Below.heap_alloc w _ b hb]
 have hD:w1.heap[w.heap.size]?=some (.deferred (some [])):=by rw[L,RowKit.Below.heap_alloc _ _ _ (by simp[-World.alloc_eq,World.alloc])];exact World.alloc_heap_new w _
 have hl:w1.heap[w.heap.size+1]?=some (.loop { state:=.ready,pending:=none,fn,tmps:=a.tmps,params:=#[p],assign,body,defers:=w.heap.size }):=by have:=World.alloc_heap_new (w.alloc (.deferred (some []))) (.loop { state:=.ready,pending:=none,fn,tmps:=a.tmps,params:=#[p],assign,body,defers:=w.heap.size });rw[World.size_alloc]at this;rw[L];exact this
 have ap:=hs.inv.size;obtain⟨Es,d1,d2,d3⟩:=hs.defers;obtain⟨i1,e1⟩:=hs.inv.grow (S':=λb=>S b\/b=w.heap.size) (w':=w1) (λb hb=>.inl hb) (λb hb=>hb.imp id λh=>by omega) (λb hb=>by rcases hb with hb|hb;have:=hs.inv.C3 b hb;omega;omega) ab (by rw[L];rfl) (by rw[L];rfl) (by rw[L];rfl) (by omega)
 have i2:=i1.Tw h.keys (h.B2z (some 0)) (hu _);have a2:∀t,An (λb=>S b\/b=w.heap.size) w1 (λk=>β (Dq k)) (Af slR t) (a.tmps.getD t undef):=λt=>by have:=hs.slot t;rw[C7q]at this;exact An.Tw (this.ext e1 (λ_ _=>rfl)) (λ_ _=>rfl)
 have ao:∀E,E∈w.heap.size::Es->E<w.heap.size+2:=λE hE=>by rcases B5.1 hE with rfl|hE;omega;have:=hs.inv.C3 E (d3 E hE).1;omega
 have af:=hX.rounds (C:=C) (sy:=C.G.sy) (ra:=C.G.ra) (l:=w.heap.size+1) (n0:=w.heap.size+2) (Ds:=w.heap.size::Es) (tmps:=a.tmps) (fn:=fn) (D:=w.heap.size) (βR:=λk=>β (Dq k)) hs.size (by omega) ao (by intro hm;rcases B5.1 hm with hm|hm;omega;have:=hs.inv.C3 _ (d3 _ hm).1;omega) (by omega) (by omega)
 have O:∀b,Rm (λk=>β (Dq k)) (mb (some 0)) b->¬(S b\/b=w.heap.size)/\b<w.heap.size:=λb ⟨k,c,hk,hb⟩=>by obtain⟨p1,p2,_⟩:=hs.inv.Bh _ _ (C0f.2 ⟨k,c,hk,rfl,rfl⟩) b hb;exact⟨λh=>h.elim p1 (by omega),p2⟩
 have ah:A4w C (w.heap.size+1) (w.heap.size::Es) a.tmps (λstate pending=>{ state,pending,fn,tmps:=a.tmps,params:=#[p],assign,body,defers:=w.heap.size }) (λk=>β (Dq k)) slR mb go (Qk jump) (some 0)
   (λb=>b=w.heap.size+1\/Rm (λk=>β (Dq k)) (mb (some 0)) b) (λb=>S b\/b=w.heap.size) w1:=by
  refine⟨_,i2,λb=>Iff.rfl,?_,λhb=>?_,by omega,hl,λE hE=>?_,a2,λj hj i hi=>?_⟩
  .rintro(hb|hb)
   .have:=hs.inv.C3 _ hb;omega
   .omega
  .have:=(O _ hb).2;omega
  .rcases B5.1 hE with rfl|hE
   .exact⟨.inr rfl,hD⟩
   .exact⟨.inl (d3 E hE).1,(ab E (hs.inv.C3 E (d3 E hE).1)).trans (d3 E hE).2.2⟩
  .cases hj;omega
 have a9:Inv ⟨w1,λb=>S b\/b=w.heap.size,λ_=>False,λ_ _=>False,C.G⟩ (λb=>S b\/b=w.heap.size) w1 β []:=i1.begin i1.C3 (λ_ h=>h);obtain⟨r1,r2⟩:=W3 a9 (C9.refl _ _) (by simp) a4 (vs:=cs) ⟨g1,λj c v hc hv=>(g2 j c v hc hv).ext e1 (λ_ _=>rfl)⟩;obtain⟨G,hG⟩:∃G:Gh,G=⟨⟨P,w.heap.size+1,w.heap.size+2,N,xs,go,more⟩,A4w C (w.heap.size+1) (w.heap.size::Es) a.tmps (λstate pending=>{ state,pending,fn,tmps:=a.tmps,params:=#[p],assign,body,defers:=w.heap.size }) (λk=>β (Dq k)) slR mb go (Qk jump),C.G.sy,C.G.ra⟩:=⟨_,rfl⟩;have J:G.Y=⟨P,w.heap.size+1,w.heap.size+2,N,xs,go,more⟩:=by rw[hG]
 have ag:Inv ⟨w1,λb=>S b\/b=w.heap.size,λb=>b=w.heap.size+1\/Rm (λk=>β (Dq k)) (mb (some 0)) b,λ_ _=>False,G⟩ (λb=>S b\/b=w.heap.size) w1 (Ej β 1000000 { base:=none }) [(1000000,.ghost G.Y (some 0))]:=by
  have V:∀U c',(U,c')∈[(1000000,Aq.ghost G.Y (some 0))]->∀b,(Ej β 1000000 { base:=none } U).base≠some b:=λU c' I b hb'=>by simp only[B5,Ew,Fb,Fg]at I;obtain⟨rfl,rfl⟩:=I;rw[Hp]at hb';cases hb'
  exact{
   Fh:=λ_ h=>h,Ei:=λ_ h=>.inl h,C3:=i1.C3,kept:=λ_ _ _=>rfl,os:=rfl,tape:=rfl,output:=rfl,size:=Bq _
   box:=λU a' I=>by simp only[B5,Ew,Fb,Fg]at I;obtain⟨rfl,rfl⟩:=I;rw[Hp];rfl
   Bh:=λU a' I b' hb'=>absurd hb' (V U a' I b')
   inj:=λk1 c1 k2 c2 h1 h2 b' ak av=>absurd ak (V k1 c1 h1 b')
   fix:=λ_ _ h=>h.elim
   Dv:=by rw[hG];exact i1.Dv
   one:=λk1 Y1 s1 k2 Y2 s2 h1 h2=>by simp only[B5,Ew,Aq.ghost.injEq,Fb,Fg]at h1 h2;obtain⟨rfl,rfl,rfl⟩:=h1;obtain⟨rfl,rfl,rfl⟩:=h2;exact⟨rfl,rfl⟩
   Fp:=λU Y' au I=>by
    have aq:=V;simp only[B5,Ew,Aq.ghost.injEq,Fb,Fg]at I;obtain⟨rfl,rfl,rfl⟩:=I;refine⟨rfl,by rw[hG];exact af,by rw[J];show w.heap.size+2<=w1.heap.size;omega,λU c' I b hb'=>absurd hb' (V U c' I b),_,by rw[hG];exact ah,λb hb'=>⟨?_,?_,.inl hb',λU c' I=>V U c' I b⟩⟩
    .rcases hb' with rfl|hb'
     .rintro(h|h)
      .have:=hs.inv.C3 _ h;omega
      .omega
     .exact(O b hb').1
    .rcases hb' with rfl|hb'
     .omega
     .have:=(O b hb').2;omega }
 have a7:=(hc G.Y (by rw[J]) (by rw[J]) (by rw[J]) (by rw[J]) (by rw[J])).2 _ _ (.func (.yield (w.heap.size+1)) #[] #[]::cs) ag (.cons (by rw[J];exact .Fa _) ⟨r1.1,λj c v hc hv=>(r1.2 j c v hc hv).closed (SV.B8u r2 j c hc)⟩);have hE:=(hc G.Y (by rw[J]) (by rw[J]) (by rw[J]) (by rw[J]) (by rw[J])).1;have ae:(invoke (.fn (.func f) ⟨cs⟩) #[.func (.yield (w.heap.size+1)) #[] #[]]).run P w1=.ok (.enter f ⟨.func (.yield (w.heap.size+1)) #[] #[]::cs⟩) w1:=by
  obtain⟨aw,q1,q2,q3⟩:=hE;have a5:(#[.func (.yield (w.heap.size+1)) #[] #[]]++⟨cs⟩:Array Value)=⟨.func (.yield (w.heap.size+1)) #[] #[]::cs⟩:=by apply Lk;simp
  simp only[invoke,callFunc,Ii,L8,Hm,run_program,q1,q2,q3,I5,Fm,a5]
 refine⟨w.heap.size+1,[{ target:=.collected w.heap.size,args:=#[] }],w1,⟨.fn (.func f) ⟨cs⟩,#[.func (.yield (w.heap.size+1)) #[] #[]]⟩,w1,f,⟨.func (.yield (w.heap.size+1)) #[] #[]::cs⟩,w1,?_,?_,λ_ _=>trivial,ae,λhx=>by simp[FW,Fence.wide]at hx,E2a (a7.mono ?_)⟩
 .rw[L];exact run_enterLoop_outer fn a.tmps #[p] assign body
 .have hy:Act.eval a (.const (.func (.yield (w.heap.size+1)) #[] #[]))=.func (.yield (w.heap.size+1)) #[] #[]:=rfl;simp[resolve,Deferred.ofValue,rangeCall,ac,hy]
 .rintro e w3 ⟨r,v,W,S',β',⟨st,a8,rfl⟩,rfl,hk,hv⟩;obtain⟨_,_,_,_,B',q5,q6⟩:=hk.Fp 1000000 G.Y st (by simp);simp only[hG]at q5;obtain⟨β3,k1,k2,k3,k4,k5,k6,k7,k8,k9⟩:=q5;have am:V7 (mb st):=λk c hm=>(Va (h.B2z st) k c hm).2.1;have a6:∀o,C.w0.putObj (w.heap.size+1) o=C.w0:=λo=>by
   unfold World.putObj;rw[Array.setIfInBounds_eq_of_size_le (by omega)]
  have ad:∀o,∃Z,St C n S' (w3.putObj (w.heap.size+1) o) Z { a with defers:=[{ target:=.collected w.heap.size,args:=#[] }]++a.defers } (X0 Dq slR) (Po Dq (mb st)):=by
   intro o;have j1:=k1.put (o:=o) am k3 k4;have aj:{ (C.rd λk=>β (Dq k))with w0:=(C.rd λk=>β (Dq k)).w0.putObj (w.heap.size+1) o }=C.rd λk=>β (Dq k):=by show({ w0:=C.w0.putObj (w.heap.size+1) o,S0:=_,pre:=_,A6y:=_,G:=_ }:Ctx)=_;rw[a6];rfl
   rw[aj]at j1;obtain⟨Z,j2,j3⟩:=j1.F9o h.keys h.high (h.B2z st) hs.inv.fix;refine⟨Z,j2,hs.size,⟨w.heap.size::Es,by simp[d1],Ao7.2 ⟨λhm=>by have:=hs.inv.C3 _ (d3 _ hm).1;omega,d2⟩,λE hE=>⟨(k7 E hE).1,?_,?_⟩⟩,λt=>?_⟩
   .rcases B5.1 hE with rfl|hE
    .exact ap
    .exact(d3 E hE).2.1
   .refine(World.putObj_heap_other ?_).trans (k7 E hE).2;rintro rfl;exact k3 (k7 _ hE).1
   .rw[C7q];have ai:∀b,S' b->b≠w.heap.size+1:=λb hb he=>by subst he;exact k3 hb
    refine An.Ep ((k8 t).ext ⟨λ_ h=>h,λb hb=>World.putObj_heap_other (ai b hb)⟩ (λ_ _=>rfl)) λk hk=>j3 k ?_;have:=C1a h.D7m t hk;simp only[Kr]at this;exact this.1
  cases st with
  |some j =>obtain⟨Z,s⟩:=ad (.loop { state:=.exhausted,pending:=none,fn,tmps:=a.tmps,params:=#[p],assign,body,defers:=w.heap.size });exact⟨none,_,run_endLoop k6 (by simp),_,_,S',Z,aa j a8 (k9 j rfl),s⟩
  |none =>
   obtain⟨Z,s⟩:=ad (.loop { state:=.exhausted,pending:=Qk jump,fn,tmps:=a.tmps,params:=#[p],assign,body,defers:=w.heap.size });obtain⟨c,hj⟩:=h.E4f;refine⟨_,_,run_endLoop k6 (by simp),?_⟩;have hq:=a0 a8;cases jump <;> simp only[Qk,reduceCtorEq]at hj
   .exact wpIn_exit ⟨_,_,S',Z,hq,s⟩
   .exact wpIn_ret ⟨_,_,S',Z,hq,s⟩
def A0.rangeFunc{g:Operand}{p:Tmp}{E body:Code}{f:FuncId}{caps caps':List SV}{r:SV}{N:Nat}{xs:Nat->SV}{go:Nat->Bool}{jump:Exit}{ks:List Nat}{slR:SL}{mb:Option Nat->Aa}{st:Option Nat}
  (h:A9a P n p E body N xs go jump ks slR mb)(Z:∀st,((mb st).map (·.1)).Nodup)(U:Ao sl g=.Bk f caps)(J:H6 [] caps=some caps')
  (V:∀Y:Ku,Y.P=P->Y.N=N->Y.xs=xs->Y.go=go->Ch P f (.Fa Y.l::caps') [(1000000,.ghost Y (some 0))] r [(1000000,.ghost Y st)])
  (O:sle sl (X0 Dq slR))(W:ble bx (Po Dq (mb (some 0))))
  (L:∀j,st=some j->(∀i,i<j->go i=true)->Q .normal (X0 Dq slR) (Po Dq (mb (some j))))(I:st=none->Q jump (X0 Dq slR) (Po Dq (mb none))) :
  A0 none P n (.rangeFunc g #[p] E body) Q sl bx :=
 A0.G2c (RS:=λs=>s=st) h.toX Z U J (λY a b c d _=>(V Y a b c d).toR ⟨st,rfl,rfl⟩) O W (λj e=>L j e.symm) λe=>I e.symm
end Go.Abs
