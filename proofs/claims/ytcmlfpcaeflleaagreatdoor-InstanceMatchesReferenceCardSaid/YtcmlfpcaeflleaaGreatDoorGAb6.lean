/- Ranges over functions. Own framework. -/
import Derived.RangeFuncIn
import Derived.Test.YtcmlfpcaeflleaaGreatDoorGAb5
set_option linter.all false
namespace Go.Abs
open Go
mutual
def SV.Dt(f:Nat->Nat):SV->SV
 |.box k off=>.box (f k) off
 |.acc k=>.acc (f k)
 |.Em k i off=>.Em (f k) i off
 |.mp k=>.mp (f k)
 |.agg cs=>.agg (SV.Pg f cs)
 |.tuple cs=>.tuple (SV.Pg f cs)
 |.B0 g cs=>.B0 g (SV.Pg f cs)
 |.Fs cs off=>.Fs (SV.Pg f cs) off
 |.undef=>.undef
 |.d x=>.d x
 |.Ah c off=>.Ah c off
 |.Ek l=>.Ek l
def SV.Pg(f:Nat->Nat):List SV->List SV
 |[]=>[]
 |c::cs=>c.Dt f::SV.Pg f cs
end
theorem SV.A1o(f:Nat->Nat):∀cs:List SV,SV.Pg f cs=cs.map (SV.Dt f)
 |[]=>rfl
 |c::cs=>by simp[SV.Pg,SV.A1o f cs]
theorem SV.B9i(f:Nat->Nat)(x:SV):(x.Dt f).one=x.one:=by cases x <;> rfl
theorem SV.A7r{k j:Nat}{c:SV}{cs:List SV}(E:cs[j]?=some c)(h:c.has k=true):SV.Lx k cs=true:=by grind [SV.A6g]
def Ak.Dt{S:Nat->Prop}{w:World}{β β':Names}{f:Nat->Nat}{x:SV}{v:Value}(h:Ak S w β x v)(L:∀k,x.has k=true->β' (f k) =β k):Ak S w β' (x.Dt f) v:=by
 induction h with
 |undef v=>exact .undef v
 |d x v h=>exact .d x v h
 |agg cells vs E I _ J =>
  simp only[SV.Dt,SV.A1o];refine .agg _ vs (by grind) ?_ ?_
  .grind [SV.B9i]
  grind [SV.has,SV.A7r]
 |tuple cells vs E _ J =>
  simp only[SV.Dt,SV.A1o];refine .tuple _ vs (by grind) ?_
  grind [SV.has,SV.A7r]
 |box k off b h=>exact .box _ off b (by grind [SV.has])
 |Ah cells off b base hs E I M=>exact .Ah cells off b base hs E I M
 |acc k=>have:=L k (by simp[SV.has]);rw[<-this];exact .acc (f k)
 |Em k i off b h=>have:=L k (by simp[SV.has]);rw[<-this];exact .Em (f k) i off b (by grind)
 |mp k b h=>exact .mp _ b (by grind [SV.has])
 |Ek l=>exact .Ek l
 |Fs cells off b hs E I _ J =>
  simp only[SV.Dt,SV.A1o];refine .Fs _ off b hs ?_ (by grind) ?_
  .grind [SV.B9i]
  grind [SV.has,SV.A7r]
 |B0 g cells vs E _ J =>
  simp only[SV.Dt,SV.A1o];refine .B0 g _ vs (by grind) ?_
  grind [SV.has,SV.A7r]
mutual
theorem Ak.Sf{S:Nat->Prop}{w:World}{β β':Names}{f:Nat->Nat}:∀{x:SV} {v:Value},Ak S w β' (x.Dt f) v->(∀k,x.has k=true->β' (f k) =β k)->Ak S w β x v
 |.undef,v,_,_=>.undef v
 |.d x,v,h,_=>by simp only[SV.Dt]at h;exact .d x v h.J0
 |.Ah c off,v,h,_=>by simp only[SV.Dt]at h;exact h.closed rfl
 |.Ek l,v,h,_=>by simp only[SV.Dt]at h;exact h.closed rfl
 |.box k off,v,h,E=>by simp only[SV.Dt]at h;cases h with|box _ _ b O=>exact .box k off b (by grind [SV.has])
 |.acc k,v,h,E=>by simp only[SV.Dt]at h;cases h;rw[E k (by simp[SV.has])];exact .acc k
 |.Em k i off,v,h,E=>by simp only[SV.Dt]at h;have I:=E k (by simp[SV.has]);cases h with|Em _ _ _ b O=>rw[I];exact .Em k i off b (by grind)
 |.mp k,v,h,E=>by simp only[SV.Dt]at h;cases h with|mp _ b O=>exact .mp k b (by grind [SV.has])
 |.agg cs,v,h,E=>by
  simp only[SV.Dt]at h;cases h with
  |agg _ vs M Z J =>
   have:=Bv.Sf (cs:=cs) ⟨M,J⟩ (λk I=>E k (by simp only[SV.has];exact I));refine .agg cs vs this.1 (λc L=>?_) this.2
   grind [SV.B9i,SV.A1o,List.mem_map_of_mem]
 |.tuple cs,v,h,E=>by
  simp only[SV.Dt]at h;cases h with
  |tuple _ vs M J =>have:=Bv.Sf (cs:=cs) ⟨M,J⟩ (λk I=>E k (by simp only[SV.has];exact I));exact .tuple cs vs this.1 this.2
 |.B0 g cs,v,h,E=>by
  simp only[SV.Dt]at h;cases h with
  |B0 _ _ vs M J =>have:=Bv.Sf (cs:=cs) ⟨M,J⟩ (λk I=>E k (by simp only[SV.has];exact I));exact .B0 g cs vs this.1 this.2
 |.Fs cs off,v,h,E=>by
  simp only[SV.Dt]at h;cases h with
  |Fs _ _ b hs M Z J =>
   obtain⟨vs,hl,V⟩:=C3m (w:=w) (b:=b) (off:=0) (n:=(SV.Pg f cs).length) (λj U=>by grind);have:=Bv.Sf (cs:=cs) (vs:=vs) ⟨hl,λj c v L W=>J j c v L (by grind)⟩ (λk I=>E k (by simp only[SV.has];exact I));have a0:(SV.Pg f cs).length=cs.length:=by rw[SV.A1o];simp
   refine .Fs cs off b hs (λc L=>?_) (λj U=>Z j (by omega)) (λj c v L W=>?_)
   .grind [SV.B9i,SV.A1o]
   .have a1:=(B5.1 L).1;have U:=V j (vs[j]'(by omega)) (B8 _);rw[Nd,W]at U;simp only[B4]at U;exact this.2 j c v L (by grind)
theorem Bv.Sf{S:Nat->Prop}{w:World}{β β':Names}{f:Nat->Nat}:∀{cs:List SV} {vs:List Value},Bv S w β' (SV.Pg f cs) vs->(∀k,SV.Lx k cs=true->β' (f k) =β k)->Bv S w β cs vs
 |[],vs,h,_=>⟨by simpa [SV.Pg]using h.1,by simp⟩
 |c::cs,vs,h,E=>by
  simp only[SV.Pg]at h;cases vs with
  |nil=>have:=h.1;grind
  |cons v vs =>
   exact .cons (Ak.Sf (h.2 0 _ v rfl rfl) (λk I=>E k (by simp[SV.Lx,I])))
    (Bv.Sf ⟨by have:=h.1;grind,λj c v L W=>h.2 (j+1) c v (by grind) (by grind)⟩ (λk I=>E k (by simp[SV.Lx,I])))
end
def Ap.Dt(f:Nat->Nat):Ap->Ap
 |.cells cs=>.cells (SV.Pg f cs)
 |c=>c
def Js(f:Nat->Nat):Aa->Aa
 |[]=>[]
 |(k,c)::r=>(f k,c.Dt f)::Js f r
def Xg(f:Nat->Nat):SL->SL
 |[]=>[]
 |(t,x)::r=>(t,x.Dt f)::Xg f r
def C4r(f:Nat->Nat):∀(sl:SL)(t:Nat),Ag (Xg f sl) t=(Ag sl t).Dt f
 |[],t=>rfl
 |(u,x)::r,t=>by
  simp only[Xg,Ag];split
  .rfl
  .exact C4r f r t
def A8a{f:Nat->Nat}{j:Nat}{d:Ap}:∀{bx:Aa},(j,d)∈Js f bx↔∃k c,(k,c)∈bx/\j=f k/\d=c.Dt f
 |[]=>by simp[Js]
 |(k,c)::r=>by
  simp only[Js,Aw,Eo,A8a (bx:=r)];constructor
  .rintro(⟨rfl,rfl⟩|⟨I,E,h,rfl,rfl⟩)
   .exact⟨k,c,.inl ⟨rfl,rfl⟩,rfl,rfl⟩
   grind
  grind
def Df.Dt{S:Nat->Prop}{w:World}{β β':Names}{f:Nat->Nat}{i:BI}{c:Ap}(h:Df S w β i c)(J:∀k,c.has k=true->β' (f k) =β k):Df S w β' i (c.Dt f):=by
 cases c with
 |cells cs =>obtain⟨b,ty,vs,I,M,L⟩:=h;refine⟨b,ty,vs,I,M,?_⟩;rw[SV.A1o];refine L.map (by simp) ?_;intro j x y v U E O;simp only[Db,U,Eu,B4]at E;subst E;exact O.Dt λk V=>J k (by grind [Ap.has,SV.A7r])
 |rows sz rs=>exact h
 |map kvs=>exact h
 |iter kvs seen=>exact h
 |ghost Y st=>exact h
def Df.Sf{S:Nat->Prop}{w:World}{β β':Names}{f:Nat->Nat}{i:BI}{c:Ap}(h:Df S w β' i (c.Dt f))(I:∀k,c.has k=true->β' (f k) =β k):Df S w β i c:=by
 cases c with
 |cells cs =>obtain⟨b,ty,vs,E,M,J⟩:=h;exact⟨b,ty,vs,E,M,Bv.Sf J λk L=>I k (by simp only[Ap.has];exact L)⟩
 |rows sz rs=>exact h
 |map kvs=>exact h
 |iter kvs seen=>exact h
 |ghost Y st=>exact h
mutual
def SV.only(ks:List Nat):SV->Bool
 |.box k _=>ks.contains k
 |.acc k=>ks.contains k
 |.Em k _ _=>ks.contains k
 |.mp k=>ks.contains k
 |.agg cs=>SV.A2r ks cs
 |.tuple cs=>SV.A2r ks cs
 |.B0 _ cs=>SV.A2r ks cs
 |.Fs cs _=>SV.A2r ks cs
 |.undef=>true
 |.d _=>true
 |.Ah _ _=>true
 |.Ek _=>true
def SV.A2r(ks:List Nat):List SV->Bool
 |[]=>true
 |c::cs=>c.only ks && SV.A2r ks cs
end
mutual
theorem SV.B2f{ks:List Nat}{k:Nat}:∀{x:SV},x.only ks=true->x.has k=true->k∈ks
 |.box j _,h,E=>by simp only[SV.only,Am2]at h;simp only[SV.has,Tu]at E;grind
 |.acc j,h,E=>by simp only[SV.only,Am2]at h;simp only[SV.has,Tu]at E;grind
 |.Em j _ _,h,E=>by simp only[SV.only,Am2]at h;simp only[SV.has,Tu]at E;grind
 |.mp j,h,E=>by simp only[SV.only,Am2]at h;simp only[SV.has,Tu]at E;grind
 |.agg cs,h,E=>by simp only[SV.only]at h;simp only[SV.has]at E;exact SV.A9t h E
 |.tuple cs,h,E=>by simp only[SV.only]at h;simp only[SV.has]at E;exact SV.A9t h E
 |.B0 _ cs,h,E=>by simp only[SV.only]at h;simp only[SV.has]at E;exact SV.A9t h E
 |.Fs cs _,h,E=>by simp only[SV.only]at h;simp only[SV.has]at E;exact SV.A9t h E
 |.undef,_,E=>by simp[SV.has]at E
 |.d _,_,E=>by simp[SV.has]at E
 |.Ah _ _,_,E=>by simp[SV.has]at E
 |.Ek _,_,E=>by simp[SV.has]at E
theorem SV.A9t{ks:List Nat}{k:Nat}:∀{cs:List SV},SV.A2r ks cs=true->SV.Lx k cs=true->k∈ks
 |[],_,E=>by simp[SV.Lx]at E
 |c::cs,h,E=>by simp only[SV.A2r,Bc]at h;simp only[SV.Lx,Yj]at E;exact E.elim (SV.B2f h.1) (SV.A9t h.2)
end
def Ap.only(ks:List Nat):Ap->Bool
 |.cells cs=>SV.A2r ks cs
 |.ghost _ _=>false
 |_=>true
def V7(ks:List Nat):Aa->Bool
 |[]=>true
 |(k,c)::r=>ks.contains k && c.only ks && V7 ks r
def C2p(ks:List Nat):SL->Bool
 |[]=>true
 |(_,x)::r=>x.only ks && C2p ks r
def C4p{ks:List Nat}{k:Nat}:∀{sl:SL},C2p ks sl=true->∀t,(Ag sl t).has k=true->k∈ks
 |[],_,t,E=>by simp[Ag,SV.has]at E
 |(u,x)::r,h,t,E=>by
  simp only[C2p,Bc]at h;simp only[Ag]at E;split at E
  .exact SV.B2f h.1 E
  .exact C4p h.2 t E
def Pq{ks:List Nat}:∀{bx:Aa},V7 ks bx=true->∀k c,(k,c)∈bx->k∈ks/\c.real=true/\∀j,c.has j=true->j∈ks
 |[],_,k,c,h=>by grind
 |(i,x)::r,h,k,c,hm=>by
  simp only[V7,Bc,Am2]at h;rcases Aw.1 hm with I|hm
  .simp only[Eo]at I;obtain⟨rfl,rfl⟩:=I;refine⟨h.1.1,?_,λj E=>?_⟩
   .cases c <;> first|rfl|simp[Ap.only]at h
   .cases c <;> first
     |(simp only[Ap.has]at E;exact SV.A9t h.1.2 E)
     |simp[Ap.has]at E
  .exact Pq h.2 k c hm
end Go.Abs
namespace Go.Abs
open Go
variable {P:Program} {n:Nat} {Q:Exit->SL->Aa->Prop} {sl:SL} {bx:Aa}
def Rm(β:Names)(bx:Aa)(b:Nat):Prop:=∃k c,(k,c)∈bx/\(β k).base=some b
def W4(bx:Aa):Prop:=∀k c,(k,c)∈bx->c.real=true
def W4.no{bx:Aa}(h:W4 bx){k:Nat}{Y:Iw}{st:Option Nat}:(k,Ap.ghost Y st) ∉bx:=λE=>by have:=h _ _ E;simp[Ap.real]at this
def Inv.S9{C:Ctx}{S S':Nat->Prop}{w w':World}{β:Names}{n0:Nat}{B:Nat->Prop}(h:Inv C S w β bx)(M:W4 bx)(J:∀b,Rm β bx b->B b)(V:C.w0.heap.size<=n0)(k:E6i n0 B S w S' w'):Inv C S' w' β bx:=by
 have e:Bk S w S' w':=⟨k.sub,λb hb=>k.same b (.inr (.inr hb))⟩;exact{
  Fg:=λb hb=>k.sub b (h.Fg b hb)
  Ee:=λb hb=>by
   rcases k.new b hb with hb|hb
   .exact h.Ee b hb
   omega
  Bf:=k.lt
  kept:=λb hb hp=>(k.same b (.inl (by omega))).trans (h.kept b hb hp)
  os:=k.os.trans h.os
  tape:=k.tape.trans h.tape
  output:=k.output.trans h.output
  size:=D3 h.size k.size
  box:=λj c E=>(h.box j c E).ext e (λb hb=>k.same b (.inr (.inl (J b ⟨j,c,E,hb⟩)))) (λ_ _=>rfl)
  B7:=λj c E b hb=>⟨k.off b (J b ⟨j,c,E,hb⟩),Vr (h.B7 j c E b hb).2.1 k.size,(h.B7 j c E b hb).2.2⟩
  inj:=h.inj
  fix:=h.fix
  Dh:=λb cs U=>by obtain⟨I,ty,O,L⟩:=h.Dh b cs U;exact⟨e.sub b I,ty,O,(e.same b I).trans L⟩
  one:=h.one
  Fm:=λj Y st E=>absurd E M.no }
def Inv.shut{C:Ctx}{S:Nat->Prop}{w:World}{β:Names}{D:Nat}{l U:Option (List Deferred)}(h:Inv C S w β bx)(L:W4 bx)(W:C.w0.heap.size<=D)(O:¬Rm β bx D)(q:w.heap[D]?=some (.deferred l)):Inv C S (w.putObj D (.deferred U)) β bx where
 Fg:=h.Fg
 Ee:=h.Ee
 Bf:=λb E=>by simpa using h.Bf b E
 kept:=λb E hp=>(World.putObj_heap_other (by omega)).trans (h.kept b E hp)
 os:=h.os
 tape:=h.tape
 output:=h.output
 size:=by simpa using h.size
 box:=λk c I=>(h.box k c I).shut q (λM=>O ⟨k,c,I,M⟩)
 B7:=λk c I b E=>by simpa using h.B7 k c I b E
 inj:=h.inj
 fix:=h.fix
 Dh:=λb cs V=>by
  obtain⟨Z,ty,fr,h2⟩:=h.Dh b cs V
  grind [World.putObj_heap_other]
 one:=h.one
 Fm:=λj Y st J=>absurd J L.no
def Inv.put{C:Ctx}{S:Nat->Prop}{w:World}{β:Names}{l:Nat}{o:Obj}(h:Inv C S w β bx)(V:W4 bx)(Z:¬S l)(O:¬Rm β bx l):Inv { C with w0:=C.w0.putObj l o } S (w.putObj l o) β bx:=by
 have a0:=h.size;have e:Bk S w S (w.putObj l o):=⟨λ_ h=>h,λb E=>World.putObj_heap_other λI=>Z (I ▸ E)⟩;exact{
  Fg:=h.Fg
  Ee:=λb E=>by simpa using h.Ee b E
  Bf:=λb E=>by simpa using h.Bf b E
  kept:=λb E hp=>by
   simp only[World.putObj_size]at E;by_cases I:b=l
   .grind [World.putObj_heap_same]
   .rw[World.putObj_heap_other I,World.putObj_heap_other I];exact h.kept b E hp
  os:=h.os
  tape:=h.tape
  output:=h.output
  size:=by simp_all
  box:=λk c J=>(h.box k c J).ext e (λb E=>World.putObj_heap_other λI=>O ⟨k,c,J,I ▸ E⟩) (λ_ _=>rfl)
  B7:=λk c J b E=>by simpa using h.B7 k c J b E
  inj:=h.inj
  fix:=h.fix
  Dh:=λb cs hv=>by obtain⟨L,ty,W,U⟩:=h.Dh b cs hv;exact⟨L,ty,W,(e.same b L).trans U⟩
  one:=h.one
  Fm:=λj Y st M=>absurd M V.no }
def Inv.G1d{C C2:Ctx}{S W:Nat->Prop}{w V:World}{β O:Names}{E:Aa}{B B2:Nat->Prop}(h:Inv C S w β bx)(L:Inv C2 W V O E)(hg:W4 E)(hB:∀b,B b->C.pre b\/C.w0.heap.size<=b)
  (U:∀b,Rm O E b->B2 b)(t:Zv B S w B2 W V)(M:∀k i,C.A8m k i->O k=i):Inv C W V O E:=by
 have a0:=h.size;have J:∀b,B b\/w.heap.size<=b->C.pre b\/C.w0.heap.size<=b:=λb hb=>hb.elim (hB b) λh=>.inr (by omega);exact{
  Fg:=λb hb=>t.ext.sub b (h.Fg b hb)
  Ee:=λb hb=>by
   rcases t.new b hb with hb|hb
   .exact h.Ee b hb
   grind
  Bf:=t.lt
  kept:=λb hb hp=>by
   rw[<-h.kept b hb hp];refine t.kept b (by omega) λa1=>?_
   grind
  os:=t.os.trans h.os
  tape:=t.tape.trans h.tape
  output:=t.output.trans h.output
  size:=D3 h.size t.size
  box:=L.box
  B7:=λk c I b hb=>⟨(L.B7 k c I b hb).1,(L.B7 k c I b hb).2.1,J b (t.own b (U b ⟨k,c,I,hb⟩)).2.2⟩
  inj:=L.inj
  fix:=λk i I=>⟨(h.fix k i I).1,M k i I⟩
  Dh:=λb cs hb=>by obtain⟨Z,ty,fr,hh⟩:=h.Dh b cs hb;exact⟨t.ext.sub b Z,ty,fr,(t.ext.same b Z).trans hh⟩
  one:=L.one
  Fm:=λj Y st hj=>absurd hj hg.no }
def Dw(k:Nat):Nat:=if 2000000<=k then k - 2000000 else k
def Ctx.rd(C:Ctx)(β:Names):Ctx:={ C with A8m:=λk i=>2000000<=k/\i =β k }
def A7u(C:Ctx)(l:Nat)(Ds:List Nat)(tmps:Array Value)(I:LoopState->Option Code->Loop)(βR:Names)(slR:SL)(mb:Option Nat->Aa)(go:Nat->Bool)(jump:Option Code)(st:Option Nat)(B S:Nat->Prop)(w:World):Prop :=
 ∃β,Inv (C.rd βR) S w β (mb st)/\(∀b,B b↔(b=l\/Rm β (mb st) b))/\¬S l/\¬Rm β (mb st) l/\l<w.heap.size /\
  w.heap[l]?=some (.loop (match st with|some _=>I .ready none|none=>I .done jump)) /\
  (∀E,E∈Ds->S E/\w.heap[E]?=some (.deferred (some [])))/\(∀t,Ak S w β (Ag slR t) (tmps.getD t undef))/\(∀j,st=some j->∀i,i<j->go i=true)
end Go.Abs
namespace Go.Abs
open Go
variable {P:Program} {n:Nat} {Q:Exit->SL->Aa->Prop} {sl:SL} {bx:Aa}
def R0:Exit->Option Code
 |.ret=>some .ret
 |.exit id=>some (.exit id)
 |_=>none
def C1c(mb:Option Nat->Aa)(go:Nat->Bool)(jump:Exit)(j:Nat)(e:Exit)(sl:SL)(bx:Aa):Prop :=
 match e with
 |.normal=>go j=true/\ble bx (mb (some (j+1)))
 |e=>go j=false/\e=jump/\ble bx (mb none)
def B3j:Aa->Bool
 |[]=>true
 |(_,c)::r=>c.real && B3j r
def E1a:∀{bx:Aa},B3j bx=true->W4 bx
 |[],_,k,c,h=>by grind
 |(i,x)::r,h,k,c,hm=>by
  simp only[B3j,Bc]at h;rcases Aw.1 hm with E|hm
  .grind
  .exact E1a h.2 k c hm
def C8z(P:Program)(n l:Nat)(body:Code)(Q:Exit->SL->Aa->Prop)(sl:SL)(bx:Aa):Prop:=B3j bx=true/\A0 (some l) P n body Q sl bx
structure B1g(P:Program)(n:Nat)(p:Tmp)(assign body:Code)(N:Nat)(xs:Nat->SV)(go:Nat->Bool)(jump:Exit)(ks:List Nat)(slR:SL)(mb:Option Nat->Aa):Prop where
 D3z:∃c,R0 jump=some c
 keys:(ks.map Dw).Nodup
 high:∀k,k∈ks->2000000<=k\/k<=999999
 E0o:C2p (ks.filter (2000000<=·)) slR=true
 B4x:∀st,V7 ks (mb st)=true
 pOK:p<n
 closed:∀j,(xs j).closed=true
 body:∀j,j<N->(∀i,i<j->go i=true)->∀l,A0 (some l) P n assign (A4 (C8z P n l body (C1c mb go jump j)) (λ_ _ _=>False)) ((p,xs j)::slR) (mb (some j))
def C5n(mb:Option Nat->Aa)(jump:Exit)(st':Option Nat)(e:Exit)(_:SL)(bx:Aa):Prop:=match st' with
 |some E=>e=.normal/\ble bx (mb (some E))
 |none=>e=jump/\ble bx (mb none)
variable {jump:Exit}
def C1c.B1y{mb:Option Nat->Aa}{go:Nat->Bool}{j:Nat}{e:Exit}{sl:SL}{bx:Aa}(h:C1c mb go jump j e sl bx):C5n mb jump (if go j=true then some (j+1)else none) e sl bx:=by
 unfold C1c at h;cases e with
 |normal=>rw[A9 h.1];exact⟨rfl,h.2⟩
 |_=>obtain⟨J,E,I⟩:=h;rw[A6 (by grind)];exact⟨E,I⟩
variable {ks:List Nat} {slR:SL}
def B1g.core{p:Tmp}{assign body:Code}{N:Nat}{xs:Nat->SV}{go:Nat->Bool}{mb:Option Nat->Aa}(h:B1g P n p assign body N xs go jump ks slR mb)
  {C:Ctx}{l n0:Nat}{Ds:List Nat}{tmps:Array Value}{fn:FuncId}{D:Nat}{βR:Names}(b0:tmps.size=n)(hl:l<n0)(ap:∀E,E∈Ds->E<n0)(aw:l∉Ds)(ak:C.w0.heap.size<=l)(aq:C.w0.heap.size<=n0)
  {j:Nat}{x:SV}{st':Option Nat}(hx:x.closed=true)(a6:A0 (some l) P n assign (A4 (C8z P n l body (C5n mb jump st')) (λ_ _ _=>False)) ((p,x)::slR) (mb (some j)))(ai:∀j',st'=some j'->∀i,i<j'->go i=true)
  {B S:Nat->Prop}{w:World}{β:Names}{v:Value}(hF:A7u C l Ds tmps (λstate pending=>{ state,pending,fn,tmps,params:=#[p],assign,body,defers:=D }) βR slR mb go (R0 jump) (some j) B S w)(hS:∀b,S b->b<w.heap.size)(hB:∀b,B b->¬S b/\b<w.heap.size)(hv:Ak S w β x v) :
  ∃f tm as bd,(Instr.yield l #[v]).run P w=.ok (.round l f tm as bd) w/\RoundIn Fence.wide 0 P l f tm as bd w (λe w'=>∃S' O,e=.returned (.bool st'.isSome)/\A7u C l Ds tmps (λstate pending=>{ state,pending,fn,tmps,params:=#[p],assign,body,defers:=D }) βR slR mb go (R0 jump) st' O S' w'/\Zv B S w O S' w'):=by
 have a5:∀st,W4 (mb st):=λst k c hm=>(Pq (h.B4x st) k c hm).2.1;obtain⟨β1,W,h2,h3,h4,h5,h6,h7,h8,h9⟩:=hF;simp only at h6;have ax:Ak S w β1 x v:=hv.closed hx;have hy:=run_yield (P:=P) (args:=#[v]) h6 (by simp);simp only[List.zip_toArray,List.zip_cons_cons,List.zip_nil_right,List.foldl_toArray,Jp,Q3]at hy;have Z:=W.B7;have am:∀b,Rm β1 (mb (some j)) b->b<w.heap.size/\¬S b:=λb ⟨k,c,L,I⟩=>⟨(Z k c L b I).2.1,(Z k c L b I).1⟩;have i1:Inv ⟨w,S,Rm β1 (mb (some j)),λk i=>2000000<=k/\i =βR k,C.G⟩ S w β1 (mb (some j)):={
  Fg:=λ_ h=>h,Ee:=λ_ h=>.inl h,Bf:=W.Bf,kept:=λ_ _ _=>rfl,os:=rfl,tape:=rfl,output:=rfl,size:=Bi _
  box:=W.box
  B7:=λk c L b I=>⟨(Z k c L b I).1,(Z k c L b I).2.1,.inl ⟨k,c,L,I⟩⟩
  inj:=W.inj
  fix:=W.fix
  Dh:=W.Dh
  one:=W.one
  Fm:=λk Y st L=>absurd L (a5 _).no }
 have a':∀t,(tmps.setIfInBounds p v).getD t undef=if p=t then v else tmps.getD t undef:=λt=>by
  simp only[Ao9,Array.getElem?_setIfInBounds];split
  .subst_vars;simp[h.pOK]
  .rfl
 have ah:St ⟨w,S,Rm β1 (mb (some j)),λk i=>2000000<=k/\i =βR k,C.G⟩ n S w β1 { tmps:=tmps.setIfInBounds p v,defers:=[] } ((p,x)::slR) (mb (some j)):=by
  refine⟨i1,by grind,.nil,λt=>?_⟩;simp only[a',Ag];split
  .omega
  .grind
 have hA:=a6;refine⟨_,_,_,_,hy,roundIn_of_wpIn trivial (Xw (hA _ S w β1 _ ah) ?_)⟩;rintro e a1 w1 ⟨av,az,S1,β2,hq,s1⟩;have a2:∀{S':Nat->Prop} {w':World} {β':Names} {bx':Aa} {w0:World},w0.heap.size=w.heap.size->Inv ⟨w0,S,Rm β1 (mb (some j)),λk i=>2000000<=k/\i =βR k,C.G⟩ S' w' β' bx'->¬S' l/\¬Rm β' bx' l:=by
  intro S' w' β' bx' w0 au hi;refine⟨λhs=>?_,λ⟨k,c,L,I⟩=>?_⟩
  .rcases hi.Ee l hs with h|h|h
   .grind
   .grind
   grind
  .rcases(hi.B7 k c L l I).2.2 with h|h
   .grind
   grind
 cases e with
 |normal =>
  simp only[A4]at hq;obtain⟨f1,f2⟩:=a2 rfl s1.inv;have ae:w1.heap[l]?=_:=(s1.inv.kept l h5 h4).trans h6;have g1:=E1a hq.1;refine⟨_,run_beginRound ae rfl,Xw (hq.2 _ S1 _ β2 a1 ⟨s1.inv.put g1 f1 f2,s1.size,?_,λt=>?_⟩) ?_⟩
  .obtain⟨Es,q1,q2,q3⟩:=s1.defers;refine⟨Es,q1,q2,λE hE=>⟨(q3 E hE).1,by simp_all,(World.putObj_heap_other ?_).trans (q3 E hE).2.2⟩⟩
   grind
  .have a7:∀b,S1 b->b≠l:=λb I he=>by grind
   exact(s1.slot t).ext ⟨λ_ h=>h,λb I=>World.putObj_heap_other (a7 b I)⟩ (λ_ _=>rfl)
  rintro e a3 V ⟨b1,ab,S3,β3,a8,M⟩;obtain⟨f3,f4⟩:=a2 (by simp) M.inv;have ao:w.heap.size<=V.heap.size:=by have:=M.inv.size;simpa using this
  have a9:V.heap[l]?=some (.loop { state:=.busy,pending:=none,fn,tmps,params:=#[p],assign,body,defers:=D }):=by rw[M.inv.kept l (by simp_all) h4];exact World.putObj_heap_same h5
  have ad:∀(st:Option Nat) (o:Obj),ble ab (mb st)->(∀j',st=some j'->∀i,i<j'->go i=true) ->
    (V.putObj l o).heap[l]?=some (.loop (match st with|some _=>{ state:=.ready,pending:=none,fn,tmps,params:=#[p],assign,body,defers:=D } |none=>{ state:=.done,pending:=R0 jump,fn,tmps,params:=#[p],assign,body,defers:=D })) ->
    ∃S' O,A7u C l Ds tmps (λstate pending=>{ state,pending,fn,tmps,params:=#[p],assign,body,defers:=D }) βR slR mb go (R0 jump) st O S' (V.putObj l o)/\Zv B S w O S' (V.putObj l o):=by
   intro st o J ar ho;have ac:=M.inv.sub (A1d J);have ag:=ac.put (o:=o) (a5 st) f3 (λ⟨k,c,L,I⟩=>f4 ⟨k,c,A1d J k c L,I⟩);have a0:∀k,2000000<=k->β3 k =βR k:=λk L=>(M.inv.fix k (βR k) ⟨L,rfl⟩).2;have aj:∀b,S b->b≠l:=λb I he=>by grind
   have e3:Bk S w S3 (V.putObj l o):=⟨M.inv.Fg,λb I=>by
    rw[World.putObj_heap_other (aj b I),M.inv.kept b (by simp_all) (λaf=>(am b af).2 I)]
    grind [World.putObj_heap_other]⟩
   have t:Zv B S w (λb=>b=l\/Rm β3 (mb st) b) S3 (V.putObj l o):={
    ext:=e3
    new:=λb I=>by
     rcases M.inv.Ee b I with h|h|h
     .grind
     .grind
     simp_all
    lt:=λb I=>by simpa using M.inv.Bf b I
    own:=λb I=>by
     rcases I with rfl|⟨k,c,L,I⟩
     .grind
     .obtain⟨p1,p2,p3⟩:=ac.B7 k c L b I;exact⟨p1,by simp_all,p3.imp (λh=>(h2 b).2 (.inr h)) (λh=>by simp_all)⟩
    kept:=λb I hn=>by have aa:b≠l:=λhe=>hn ((h2 b).2 (.inl he));rw[World.putObj_heap_other aa,M.inv.kept b (by simp_all) (λh=>hn ((h2 b).2 (.inr h)))];exact World.putObj_heap_other aa
    os:=M.inv.os
    tape:=M.inv.tape
    output:=M.inv.output
    size:=by simp_all }
   refine⟨S3,_,⟨β3,W.G1d ag (a5 st) (λb I=>?_) (λb I=>.inr I) t (λk i L=>?_),λb=>Iff.rfl,f3,λ⟨k,c,L,I⟩=>f4 ⟨k,c,A1d J k c L,I⟩,by grind,?_,λE hE=>⟨e3.sub E (h7 E hE).1,(e3.same E (h7 E hE).1).trans (h7 E hE).2⟩,λt=>(h8 t).ext e3 λk L=>?_,λj' ay i hi=>?_⟩,t⟩
   .rcases(h2 b).1 I with rfl|⟨k,c,L,I⟩
    .exact .inr ak
    grind
   .rw[a0 k L.1];exact L.2.symm
   .omega
   .have a4:=C4p h.E0o t L;simp only[Kc,Da]at a4;rw[a0 k a4.2,(W.fix k (βR k) ⟨a4.2,rfl⟩).2]
   .grind
  have U:∀o,(V.putObj l o).heap[l]?=some o:=λo=>World.putObj_heap_same (by omega);have stop:∀c,R0 jump=some c->ble ab (mb none)->∃v' w',(Instr.endRound l (some c)).run P V=.ok v' w'/\(∃S' O,(Ending.returned v')=.returned (.bool false)/\A7u C l Ds tmps (λstate pending=>{ state,pending,fn,tmps,params:=#[p],assign,body,defers:=D }) βR slR mb go (R0 jump) none O S' w'/\Zv B S w O S' w'):=by intro c hc J;obtain⟨S',O,p1,p2⟩:=ad none _ J (λ_ h=>by cases h) (by rw[U,hc]);exact⟨_,_,run_endRound (some c) a9,S',O,rfl,p1,p2⟩
  cases st' with
  |some j' =>obtain⟨rfl,J⟩:=a8;obtain⟨S',O,p1,p2⟩:=ad (some j') _ J ai (by rw[U]);exact⟨_,_,run_endRound none a9,S',O,rfl,p1,p2⟩
  |none =>
   obtain⟨he,J⟩:=a8;obtain⟨c,hc⟩:=h.D3z;cases e with
   |ret=>subst he;exact stop .ret rfl J
   |exit id=>subst he;exact stop (.exit id) rfl J
   |normal=>grind [R0]
   |goto t=>grind [R0]
   |panic ch=>grind [R0]
   |outgrown=>grind [R0]
 |_=>exact hq.elim
structure C0p(P:Program)(n:Nat)(p:Tmp)(assign body:Code)(N:Nat)(xs:Nat->SV)(go:Nat->Bool)(jump:Exit)(ks:List Nat)(slR:SL)(mb:Option Nat->Aa)(more:Nat->SV->Nat->Prop):Prop where
 ok:B1g P n p assign body N xs go jump ks slR mb
 G2n:∀j y j',more j y j'->y.closed=true/\(∀i,go i=true)/\∀l,A0 (some l) P n assign (A4 (C8z P n l body (C5n mb jump (some j'))) (λ_ _ _=>False)) ((p,y)::slR) (mb (some j))
def B1g.toX{p:Tmp}{E body:Code}{N:Nat}{xs:Nat->SV}{go:Nat->Bool}{mb:Option Nat->Aa}(h:B1g P n p E body N xs go jump ks slR mb):C0p P n p E body N xs go jump ks slR mb λ_ _ _=>False :=
 ⟨h,λ_ _ _ h=>h.elim⟩
def C0p.rounds{p:Tmp}{assign body:Code}{N:Nat}{xs:Nat->SV}{go:Nat->Bool}{mb:Option Nat->Aa}{more:Nat->SV->Nat->Prop}(hX:C0p P n p assign body N xs go jump ks slR mb more)
  {C:Ctx}{l n0:Nat}{Ds:List Nat}{tmps:Array Value}{fn:FuncId}{D:Nat}{βR:Names}(a1:tmps.size=n)(hl:l<n0)(I:∀E,E∈Ds->E<n0)(a0:l∉Ds)(W:C.w0.heap.size<=l)(L:C.w0.heap.size<=n0){sy ra:TypeId × Value} :
  D9t ⟨⟨P,l,n0,N,xs,go,more⟩,A7u C l Ds tmps (λstate pending=>{ state,pending,fn,tmps,params:=#[p],assign,body,defers:=D }) βR slR mb go (R0 jump),sy,ra⟩:=by
 have h:=hX.ok;have a3:∀st,W4 (mb st):=λst k c hm=>(Pq (h.B4x st) k c hm).2.1;refine⟨?_,?_,?_,?_⟩
 ·
  rintro st B S w S' w' ⟨β,h1,U,h3,h4,h5,h6,V,h8,M⟩ k;have e:Bk S w S' w':=⟨k.sub,λb hb=>k.same b (.inr (.inr hb))⟩;refine⟨β,h1.S9 (a3 st) (λb hb=>(U b).2 (.inr hb)) L k,U,k.off l ((U l).2 (.inl rfl)),h4,Vr h5 k.size,(k.same l (.inl hl)).trans h6,λE J=>⟨k.sub E (V E J).1,(k.same E (.inl (I E J))).trans (V E J).2⟩,λt=>(h8 t).ext e (λ_ _=>rfl),M⟩
 ·
  rintro st B S w D' q q' ⟨β,h1,U,h3,h4,h5,h6,V,h8,M⟩ hn Z O;have a2:∀E,E<n0->E≠D':=λE J he=>by grind
  refine⟨β,h1.shut (a3 st) (by simp only at hn;show C.w0.heap.size<=D';omega) (λhb=>Z ((U D').2 (.inr hb))) O,U,h3,h4,by grind,(World.putObj_heap_other (a2 l hl)).trans h6,λE J=>⟨(V E J).1,(World.putObj_heap_other (a2 E (I E J))).trans (V E J).2⟩,λt=>(h8 t).shut O,M⟩
 ·
  rintro j B S w β v a4 hF hS Z hv;have M:∀i,i<j->go i=true:=by obtain⟨_,_,_,_,_,_,_,_,_,M⟩:=hF;exact M j rfl
  obtain⟨f,tm,as,bd,g1,g2⟩:=h.core a1 hl I a0 W L (j:=j) (x:=xs j) (st':=if go j=true then some (j+1)else none) (h.closed j) ((h.body j a4 M l).mono λe sl bx O=>by
   cases e with
   |normal=>exact⟨O.1,O.2.mono λ_ _ _ h=>h.B1y⟩
   |_=>exact O) (λj' a5 i hi=>by
   grind) hF hS Z hv
  exact⟨f,tm,as,bd,g1,g2.mono λe w' ⟨S',B',q1,q2,q3⟩=>⟨S',B',by grind,q2,q3⟩⟩
 ·
  rintro j y j' B S w β v hm hF hS Z hv;obtain⟨c1,c2,c3⟩:=hX.G2n j y j' hm;exact h.core a1 hl I a0 W L (j:=j) (x:=y) (st':=some j') c1 (c3 l) (λ_ _ i _=>c2 i) hF hS Z hv
end Go.Abs
namespace Go.Abs
open Go
variable {P:Program} {n:Nat} {Q:Exit->SL->Aa->Prop} {sl:SL} {bx:Aa}
variable {ks:List Nat}
def C3n{f:Nat->Nat} :(ks.map f).Nodup->∀a b,a∈ks->b∈ks->f a=f b->a=b:=by
 induction ks with
 |nil=>simp
 |cons k ks E =>grind
variable {mb:Aa}
theorem H0o(h:(mb.map (·.1)).Nodup){k:Nat}{c E:Ap}(L:(k,c)∈mb)(I:(k,E)∈mb):c=E:=by
 induction mb with
 |nil=>grind
 |cons x mb J =>grind
def Inv.Sf{C:Ctx}{S:Nat->Prop}{w:World}{β:Names}(h:Inv C S w β (Js Dw mb))(hk:(ks.map Dw).Nodup)(L:V7 ks mb=true)(hu:(mb.map (·.1)).Nodup) :
  Inv (C.rd λk=>β (Dw k)) S w (λk=>β (Dw k)) mb:=by
 have E:∀{k:Nat} {c:Ap},(k,c)∈mb->(Dw k,c.Dt Dw)∈Js Dw mb:=λL=>A8a.2 ⟨_,_,L,rfl,rfl⟩;have M:W4 mb:=λk c U=>(Pq L k c U).2.1;exact{ h with
  box:=λk c I=>(h.box _ _ (E I)).Sf λ_ _=>rfl
  B7:=λk c I=>h.B7 _ _ (E I)
  inj:=λk c k' c' J W b V O=>by
   have:=C3n hk k k' (Pq L _ _ J).1 (Pq L _ _ W).1 (h.inj _ _ _ _ (E J) (E W) b V O).1
   grind [H0o]
  fix:=λk i Z=>⟨by have:=Z.1;omega,Z.2.symm⟩
  one:=λk Y st k' Y' st' J=>absurd J M.no
  Fm:=λk Y st J=>absurd J M.no }
def Inv.F0i{C:Ctx}{S:Nat->Prop}{w:World}{β β':Names}(h:Inv (C.rd λk=>β (Dw k)) S w β' mb)(hk:(ks.map Dw).Nodup)(hh:∀k,k∈ks->2000000<=k\/k<=999999)(I:V7 ks mb=true)(hC:∀k i,C.A8m k i->1000000<=k/\β k=i) :
  ∃J:Names,Inv C S w J (Js Dw mb)/\∀k,k∈ks->J (Dw k) =β' k:=by
 have a6:W4 mb:=λk c a5=>(Pq I k c a5).2.1;obtain⟨J,a1⟩:∃J:Names,∀k,J k=if k∈ks/\k<=999999 then β' k else β k:=⟨λk=>if k∈ks/\k<=999999 then β' k else β k,λ_=>rfl⟩
 have key:∀k,k∈ks->J (Dw k) =β' k:=by
  intro k L;rw[a1];rcases hh k L with h1|h1
  .have hl:Dw k=k - 2000000:=by unfold Dw;rw[A9 h1]
   have a2:¬(Dw k∈ks/\Dw k<=999999):=by
    rintro⟨a,b⟩;have a3:Dw (Dw k)=Dw k:=by
     have h5:¬ 2000000<=Dw k:=by omega
     generalize Dw k=q at h5;unfold Dw;rw[A6 h5]
    have:=C3n hk _ _ a L a3;omega
   rw[A6 a2];exact((h.fix k _ ⟨h1,rfl⟩).2).symm
  .have hl:Dw k=k:=by unfold Dw;rw[A6 (by omega)]
   grind
 refine⟨J,?_,key⟩;have O:∀{j:Nat} {d:Ap},(j,d)∈Js Dw mb->∃k c,(k,c)∈mb/\j=Dw k/\d=c.Dt Dw:=λI=>A8a.1 I;have E:∀(k:Nat) (Y:Iw) (st:Option Nat),(k,Ap.ghost Y st) ∉Js Dw mb:=λk Y st a0=>by obtain⟨V,c,h1,_,h2⟩:=O a0;have:=a6 _ _ h1;cases c <;> simp[Ap.Dt,Ap.real]at h2 this
 exact{ h with
  box:=λj d W=>by obtain⟨k,c,h1,rfl,rfl⟩:=O W;obtain⟨m1,_,m3⟩:=Pq I k c h1;rw[key k m1];exact(h.box k c h1).Dt λi hi=>key i (m3 i hi)
  B7:=λj d W b Z=>by obtain⟨k,c,h1,rfl,rfl⟩:=O W;rw[key k (Pq I k c h1).1]at Z;exact h.B7 k c h1 b Z
  inj:=λj d j' d' W a4 b M U=>by obtain⟨k,c,h1,rfl,rfl⟩:=O W;obtain⟨V,c',h2,rfl,rfl⟩:=O a4;rw[key k (Pq I k c h1).1]at M;rw[key V (Pq I V c' h2).1]at U;obtain⟨rfl,rfl⟩:=h.inj k c V c' h1 h2 b M U;simp
  fix:=λk i hi=>by grind
  one:=λk Y st V Y' st' h1=>absurd h1 (E _ _ _)
  Fm:=λk Y st h1=>absurd h1 (E _ _ _) }
def Kz(P:Program)(f:FuncId)(args:List SV)(pre:Aa)(R:SV->Aa->Prop):Prop :=
 Enters P f/\∀(C:Ctx) (β:Names) (vs:List Value),Inv C C.S0 C.w0 β pre->Bv C.S0 C.w0 β args vs ->
  Calls P f ⟨vs⟩ C.w0 (λe w'=>∃r v E S' β',R r E/\e=.returned v/\Inv C S' w' β' E/\Ak S' w' β' r v)
def Bj.toR{f:FuncId}{args:List SV}{pre E:Aa}{r:SV}{R:SV->Aa->Prop}(h:Bj P f args pre r E)(hr:R r E):Kz P f args pre R :=
 ⟨h.1,λC β vs M O=>(h.2 C β vs M O).mono λ_ _ ⟨v,S',β',I,L,J⟩=>⟨r,v,E,S',β',hr,I,L,J⟩⟩
def Kz.imp{f:FuncId}{args:List SV}{pre:Aa}{R I:SV->Aa->Prop}(h:Kz P f args pre R)(hr:∀r E,R r E->I r E):Kz P f args pre I :=
 ⟨h.1,λC β vs U V=>(h.2 C β vs U V).mono λ_ _ ⟨r,v,E,S',β',J,L,O,M⟩=>⟨r,v,E,S',β',hr r E J,L,O,M⟩⟩
def A0.C7b{g:Operand}{p:Tmp}{assign body:Code}{f:FuncId}{caps caps':List SV}{N:Nat}{xs:Nat->SV}{go:Nat->Bool}{jump:Exit}{slR:SL}{mb:Option Nat->Aa}{more:Nat->SV->Nat->Prop}{RS:Option Nat->Prop} 
  (hX:C0p P n p assign body N xs go jump ks slR mb more)(hu:∀st,((mb st).map (·.1)).Nodup)(hg:Ao sl g=.B0 f caps)(a5:G8 [] caps=some caps')
  (hc:∀Y:Iw,Y.P=P->Y.N=N->Y.xs=xs->Y.go=go->Y.more=more->Kz P f (.Ek Y.l::caps') [(1000000,.ghost Y (some 0))] λ_ Z=>∃st,RS st/\Z=[(1000000,.ghost Y st)])
  (h1:sle sl (Xg Dw slR))(h2:ble bx (Js Dw (mb (some 0))))
  (a8:∀j,RS (some j)->(∀i,i<j->go i=true)->Q .normal (Xg Dw slR) (Js Dw (mb (some j))))(a3:RS none->Q jump (Xg Dw slR) (Js Dw (mb none))) :
  A0 none P n (.rangeFunc g #[p] assign body) Q sl bx:=by
 have h:=hX.ok;intro C S w β a a7;have a4:=a7.Ao g;rw[hg]at a4;generalize a':a.eval g=gv at a4;have hs:St C n S w β a (Xg Dw slR) (Js Dw (mb (some 0))):=a7.weaken h1 h2;clear a7;cases a4 with
 |B0 _ _ cs g1 g2 =>
 refine wpIn_rangeFunc λfn _=>?_;obtain⟨L,M⟩:∃L,L=(w.alloc (.deferred (some []))).alloc (.loop { state:=.ready,pending:=none,fn,tmps:=a.tmps,params:=#[p],assign,body,defers:=w.heap.size }):=⟨_,rfl⟩;have au:L.heap.size=w.heap.size+2:=by rw[M];simp[-World.alloc_eq,World.alloc]
 have aa:∀b,b<w.heap.size->L.heap[b]?=w.heap[b]?:=λb hb=>by rw[M,RowKit.Below.heap_alloc _ _ b (by simp[-World.alloc_eq,World.alloc];omega),RowKit.Below.heap_alloc w _ b hb]
 have hD:L.heap[w.heap.size]?=some (.deferred (some [])):=by rw[M,RowKit.Below.heap_alloc _ _ _ (by simp[-World.alloc_eq,World.alloc])];exact World.alloc_heap_new w _
 have hl:L.heap[w.heap.size+1]?=some (.loop { state:=.ready,pending:=none,fn,tmps:=a.tmps,params:=#[p],assign,body,defers:=w.heap.size }):=by have:=World.alloc_heap_new (w.alloc (.deferred (some []))) (.loop { state:=.ready,pending:=none,fn,tmps:=a.tmps,params:=#[p],assign,body,defers:=w.heap.size });rw[World.size_alloc]at this;rw[M];exact this
 have aj:=hs.inv.size;obtain⟨Es,d1,d2,d3⟩:=hs.defers;obtain⟨i1,e1⟩:=hs.inv.grow (S':=λb=>S b\/b=w.heap.size) (w':=L) (λb hb=>.inl hb) (λb hb=>hb.imp id λh=>by omega) (λb hb=>by
  rcases hb with hb|hb
  .have:=hs.inv.Bf b hb;omega
  .omega) aa (by rw[M];rfl) (by rw[M];rfl) (by rw[M];rfl) (by omega)
 have i2:=i1.Sf h.keys (h.B4x (some 0)) (hu _);have a0:∀t,Ak (λb=>S b\/b=w.heap.size) L (λk=>β (Dw k)) (Ag slR t) (a.tmps.getD t undef):=λt=>by have:=hs.slot t;rw[C4r]at this;exact Ak.Sf (this.ext e1 (λ_ _=>rfl)) (λ_ _=>rfl)
 have ah:∀E,E∈w.heap.size::Es->E<w.heap.size+2:=λE hE=>by
  rcases Aw.1 hE with rfl|hE
  .omega
  .have:=hs.inv.Bf E (d3 E hE).1;omega
 have ap:=hX.rounds (C:=C) (sy:=C.G.sy) (ra:=C.G.ra) (l:=w.heap.size+1) (n0:=w.heap.size+2) (Ds:=w.heap.size::Es) (tmps:=a.tmps) (fn:=fn) (D:=w.heap.size) (βR:=λk=>β (Dw k)) hs.size (by omega) ah (by
  intro hm;rcases Aw.1 hm with hm|hm
  .omega
  .have:=hs.inv.Bf _ (d3 _ hm).1;omega) (by omega) (by omega)
 have O:∀b,Rm (λk=>β (Dw k)) (mb (some 0)) b->¬(S b\/b=w.heap.size)/\b<w.heap.size:=λb ⟨k,c,hk,hb⟩=>by obtain⟨p1,p2,_⟩:=hs.inv.B7 _ _ (A8a.2 ⟨k,c,hk,rfl,rfl⟩) b hb;exact⟨λh=>h.elim p1 (by omega),p2⟩
 have ag:A7u C (w.heap.size+1) (w.heap.size::Es) a.tmps (λstate pending=>{ state,pending,fn,tmps:=a.tmps,params:=#[p],assign,body,defers:=w.heap.size }) (λk=>β (Dw k)) slR mb go (R0 jump) (some 0)
   (λb=>b=w.heap.size+1\/Rm (λk=>β (Dw k)) (mb (some 0)) b) (λb=>S b\/b=w.heap.size) L:=by
  refine⟨_,i2,λb=>Iff.rfl,?_,λhb=>?_,by omega,hl,λE hE=>?_,a0,λj hj i hi=>?_⟩
  .rintro(hb|hb)
   .have:=hs.inv.Bf _ hb;omega
   .omega
  .have:=(O _ hb).2;omega
  .rcases Aw.1 hE with rfl|hE
   .exact⟨.inr rfl,hD⟩
   .exact⟨.inl (d3 E hE).1,(aa E (hs.inv.Bf E (d3 E hE).1)).trans (d3 E hE).2.2⟩
  .cases hj;omega
 have ac:Inv ⟨L,λb=>S b\/b=w.heap.size,λ_=>False,λ_ _=>False,C.G⟩ (λb=>S b\/b=w.heap.size) L β []:=i1.begin i1.Bf (λ_ h=>h);obtain⟨r1,r2⟩:=W7 ac (Bk.refl _ _) (by simp) a5 (vs:=cs) ⟨g1,λj c v hc hv=>(g2 j c v hc hv).ext e1 (λ_ _=>rfl)⟩;obtain⟨G,hG⟩:∃G:Gh,G=⟨⟨P,w.heap.size+1,w.heap.size+2,N,xs,go,more⟩,A7u C (w.heap.size+1) (w.heap.size::Es) a.tmps (λstate pending=>{ state,pending,fn,tmps:=a.tmps,params:=#[p],assign,body,defers:=w.heap.size }) (λk=>β (Dw k)) slR mb go (R0 jump),C.G.sy,C.G.ra⟩:=⟨_,rfl⟩;have J:G.Y=⟨P,w.heap.size+1,w.heap.size+2,N,xs,go,more⟩:=by rw[hG]
 have am:Inv ⟨L,λb=>S b\/b=w.heap.size,λb=>b=w.heap.size+1\/Rm (λk=>β (Dw k)) (mb (some 0)) b,λ_ _=>False,G⟩ (λb=>S b\/b=w.heap.size) L (Eg β 1000000 { base:=none }) [(1000000,.ghost G.Y (some 0))]:=by
  have V:∀U c',(U,c')∈[(1000000,Ap.ghost G.Y (some 0))]->∀b,(Eg β 1000000 { base:=none } U).base≠some b:=λU c' I b hb'=>by simp only[Aw,Eo,Ej,Eh]at I;obtain⟨rfl,rfl⟩:=I;rw[H2]at hb';cases hb'
  exact{
   Fg:=λ_ h=>h,Ee:=λ_ h=>.inl h,Bf:=i1.Bf,kept:=λ_ _ _=>rfl,os:=rfl,tape:=rfl,output:=rfl,size:=Bi _
   box:=λU ab I=>by simp only[Aw,Eo,Ej,Eh]at I;obtain⟨rfl,rfl⟩:=I;rw[H2];rfl
   B7:=λU ab I b' hb'=>absurd hb' (V U ab I b')
   inj:=λk1 c1 k2 c2 h1 h2 b' af av=>absurd af (V k1 c1 h1 b')
   fix:=λ_ _ h=>h.elim
   Dh:=by rw[hG];exact i1.Dh
   one:=λk1 Y1 s1 k2 Y2 s2 h1 h2=>by simp only[Aw,Eo,Ap.ghost.injEq,Ej,Eh]at h1 h2;obtain⟨rfl,rfl,rfl⟩:=h1;obtain⟨rfl,rfl,rfl⟩:=h2;exact⟨rfl,rfl⟩
   Fm:=λU Y' aq I=>by
    have ar:=V;simp only[Aw,Eo,Ap.ghost.injEq,Ej,Eh]at I;obtain⟨rfl,rfl,rfl⟩:=I;refine⟨rfl,by rw[hG];exact ap,by rw[J];show w.heap.size+2<=L.heap.size;omega,λU c' I b hb'=>absurd hb' (V U c' I b),_,by rw[hG];exact ag,λb hb'=>⟨?_,?_,.inl hb',λU c' I=>V U c' I b⟩⟩
    .rcases hb' with rfl|hb'
     .rintro(h|h)
      .have:=hs.inv.Bf _ h;omega
      .omega
     .exact(O b hb').1
    .rcases hb' with rfl|hb'
     .omega
     .have:=(O b hb').2;omega }
 have a1:=(hc G.Y (by rw[J]) (by rw[J]) (by rw[J]) (by rw[J]) (by rw[J])).2 _ _ (.func (.yield (w.heap.size+1)) #[] #[]::cs) am (.cons (by rw[J];exact .Ek _) ⟨r1.1,λj c v hc hv=>(r1.2 j c v hc hv).closed (SV.B9p r2 j c hc)⟩);have hE:=(hc G.Y (by rw[J]) (by rw[J]) (by rw[J]) (by rw[J]) (by rw[J])).1;have a9:(invoke (.fn (.func f) ⟨cs⟩) #[.func (.yield (w.heap.size+1)) #[] #[]]).run P L=.ok (.enter f ⟨.func (.yield (w.heap.size+1)) #[] #[]::cs⟩) L:=by
  obtain⟨aw,q1,q2,q3⟩:=hE;have a6:(#[.func (.yield (w.heap.size+1)) #[] #[]]++⟨cs⟩:Array Value)=⟨.func (.yield (w.heap.size+1)) #[] #[]::cs⟩:=by apply J6;simp
  simp only[invoke,callFunc,H5,Kx,Gz,run_program,q1,q2,q3,I6,Fy,a6]
 refine⟨w.heap.size+1,[{ target:=.collected w.heap.size,args:=#[] }],L,⟨.fn (.func f) ⟨cs⟩,#[.func (.yield (w.heap.size+1)) #[] #[]]⟩,L,f,⟨.func (.yield (w.heap.size+1)) #[] #[]::cs⟩,L,?_,?_,λ_ _=>trivial,a9,λhx=>by simp[FW,Fence.wide]at hx,E4c (a1.mono ?_)⟩
 .rw[M];exact run_enterLoop_outer fn a.tmps #[p] assign body
 .have hy:Act.eval a (.const (.func (.yield (w.heap.size+1)) #[] #[]))=.func (.yield (w.heap.size+1)) #[] #[]:=rfl;simp[resolve,Deferred.ofValue,rangeCall,a',hy]
 .rintro e w3 ⟨r,v,Z,S',β',⟨st,ae,rfl⟩,rfl,hk,hv⟩;obtain⟨_,_,_,_,B',q5,q6⟩:=hk.Fm 1000000 G.Y st (by simp);simp only[hG]at q5;obtain⟨β3,k1,k2,k3,k4,k5,k6,k7,k8,k9⟩:=q5;have ak:W4 (mb st):=λk c hm=>(Pq (h.B4x st) k c hm).2.1;have a2:∀o,C.w0.putObj (w.heap.size+1) o=C.w0:=λo=>by
   unfold World.putObj;rw[Array.setIfInBounds_eq_of_size_le (by omega)]
  have ad:∀o,∃W,St C n S' (w3.putObj (w.heap.size+1) o) W { a with defers:=[{ target:=.collected w.heap.size,args:=#[] }]++a.defers } (Xg Dw slR) (Js Dw (mb st)):=by
   intro o;have j1:=k1.put (o:=o) ak k3 k4;have ao:{ (C.rd λk=>β (Dw k))with w0:=(C.rd λk=>β (Dw k)).w0.putObj (w.heap.size+1) o }=C.rd λk=>β (Dw k):=by show({ w0:=C.w0.putObj (w.heap.size+1) o,S0:=_,pre:=_,A8m:=_,G:=_ }:Ctx)=_;rw[a2];rfl
   rw[ao]at j1;obtain⟨W,j2,j3⟩:=j1.F0i h.keys h.high (h.B4x st) hs.inv.fix;refine⟨W,j2,hs.size,⟨w.heap.size::Es,by simp[d1],Ui.2 ⟨λhm=>by have:=hs.inv.Bf _ (d3 _ hm).1;omega,d2⟩,λE hE=>⟨(k7 E hE).1,?_,?_⟩⟩,λt=>?_⟩
   .rcases Aw.1 hE with rfl|hE
    .exact aj
    .exact(d3 E hE).2.1
   .refine(World.putObj_heap_other ?_).trans (k7 E hE).2;rintro rfl;exact k3 (k7 _ hE).1
   .rw[C4r];have ai:∀b,S' b->b≠w.heap.size+1:=λb hb he=>by subst he;exact k3 hb
    refine Ak.Dt ((k8 t).ext ⟨λ_ h=>h,λb hb=>World.putObj_heap_other (ai b hb)⟩ (λ_ _=>rfl)) λk hk=>j3 k ?_;have:=C4p h.E0o t hk;simp only[Kc]at this;exact this.1
  cases st with
  |some j =>obtain⟨W,s⟩:=ad (.loop { state:=.exhausted,pending:=none,fn,tmps:=a.tmps,params:=#[p],assign,body,defers:=w.heap.size });exact⟨none,_,run_endLoop k6 (by simp),_,_,S',W,a8 j ae (k9 j rfl),s⟩
  |none =>
   obtain⟨W,s⟩:=ad (.loop { state:=.exhausted,pending:=R0 jump,fn,tmps:=a.tmps,params:=#[p],assign,body,defers:=w.heap.size });obtain⟨c,hj⟩:=h.D3z;refine⟨_,_,run_endLoop k6 (by simp),?_⟩;have hq:=a3 ae;cases jump <;> simp only[R0,reduceCtorEq]at hj
   .exact wpIn_exit ⟨_,_,S',W,hq,s⟩
   .exact wpIn_ret ⟨_,_,S',W,hq,s⟩
def A0.rangeFunc{g:Operand}{p:Tmp}{E body:Code}{f:FuncId}{caps caps':List SV}{r:SV}{N:Nat}{xs:Nat->SV}{go:Nat->Bool}{jump:Exit}{slR:SL}{mb:Option Nat->Aa}{st:Option Nat} 
  (h:B1g P n p E body N xs go jump ks slR mb)(W:∀st,((mb st).map (·.1)).Nodup)(U:Ao sl g=.B0 f caps)(I:G8 [] caps=some caps')
  (V:∀Y:Iw,Y.P=P->Y.N=N->Y.xs=xs->Y.go=go->Bj P f (.Ek Y.l::caps') [(1000000,.ghost Y (some 0))] r [(1000000,.ghost Y st)])
  (M:sle sl (Xg Dw slR))(O:ble bx (Js Dw (mb (some 0))))
  (L:∀j,st=some j->(∀i,i<j->go i=true)->Q .normal (Xg Dw slR) (Js Dw (mb (some j))))(J:st=none->Q jump (Xg Dw slR) (Js Dw (mb none))) :
  A0 none P n (.rangeFunc g #[p] E body) Q sl bx :=
 A0.C7b (RS:=λs=>s=st) h.toX W U I (λY a b c d _=>(V Y a b c d).toR ⟨st,rfl,rfl⟩) M O (λj e=>L j e.symm) λe=>J e.symm
end Go.Abs
