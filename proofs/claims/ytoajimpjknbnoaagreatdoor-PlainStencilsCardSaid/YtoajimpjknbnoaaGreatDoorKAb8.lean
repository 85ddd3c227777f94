import Derived.RangeFuncIn
import Derived.Test.YtoajimpjknbnoaaGreatDoorKAb5
import Derived.Laws.IdiomStrings
set_option linter.all false
namespace Go.iA
open Go
mutual
def SV.Fi(f:Nat->Nat):SV->SV
 |.box k off=>.box (f k) off
 |.acc k=>.acc (f k)
 |.Fa k i off=>.Fa (f k) i off
 |.mp k=>.mp (f k)
 |.agg cs=>.agg (qA f cs)
 |.tuple cs=>.tuple (qA f cs)
 |.Bi g cs=>.Bi g (qA f cs)
 |.Fy cs off=>.Fy (qA f cs) off
 |.undef=>.undef
 |.d x=>.d x
 |.A8 c off=>.A8 c off
 |.Fg l=>.Fg l
def qA(f:Nat->Nat):List SV->List SV
 |[]=>[]
 |c::cs=>c.Fi f::qA f cs
end
theorem vA(f:Nat->Nat):∀cs:List SV,qA f cs=cs.map (SV.Fi f)
 |[]=>rfl
 |c::cs=>by simp[qA,vA f cs]
theorem oB(f:Nat->Nat)(x:SV):(x.Fi f).one=x.one:=by cases x <;> rfl
theorem eB{k j:Nat}{c:SV}{cs:List SV}(E:cs[j]?=some c)(h:c.has k=true):SV.Mh k cs=true:=by grind[SA]
def An.Fi{S:Nat->Prop}{w:World}{β β':Names}{f:Nat->Nat}{x:SV}{v:Value}(h:An S w β x v)(L:∀k,x.has k=true->β' (f k) =β k):An S w β' (x.Fi f) v:=by
 induction h with
 |undef v=>exact .undef v
 |d x v h=>exact .d x v h
 |agg cells vs E J _ I =>simp only[SV.Fi,vA];refine .agg _ vs (by grind) ?_ ?_;grind[oB];grind[SV.has,eB]
 |tuple cells vs E _ I =>simp only[SV.Fi,vA];refine .tuple _ vs (by grind) ?_;grind[SV.has,eB]
 |box k off b h=>exact .box _ off b (by grind[SV.has])
 |A8 cells off b base hs E J O=>exact .A8 cells off b base hs E J O
 |acc k=>have:=L k (by simp[SV.has]);rw[<-this];exact .acc (f k)
 |Fa k i off b h=>have:=L k (by simp[SV.has]);rw[<-this];exact .Fa (f k) i off b (by grind)
 |mp k b h=>exact .mp _ b (by grind[SV.has])
 |Fg l=>exact .Fg l
 |Fy cells off b hs E J _ I =>simp only[SV.Fi,vA];refine .Fy _ off b hs ?_ (by grind) ?_;grind[oB];grind[SV.has,eB]
 |Bi g cells vs E _ I =>simp only[SV.Fi,vA];refine .Bi g _ vs (by grind) ?_;grind[SV.has,eB]
mutual
theorem An.Vb{S:Nat->Prop}{w:World}{β β':Names}{f:Nat->Nat}:∀{x:SV} {v:Value},An S w β' (x.Fi f) v->(∀k,x.has k=true->β' (f k) =β k)->An S w β x v
 |.undef,v,_,_=>.undef v
 |.d x,v,h,_=>by simp only[SV.Fi]at h;exact .d x v h.Js
 |.A8 c off,v,h,_=>by simp only[SV.Fi]at h;exact h.closed rfl
 |.Fg l,v,h,_=>by simp only[SV.Fi]at h;exact h.closed rfl
 |.box k off,v,h,E=>by simp only[SV.Fi]at h;cases h with|box _ _ b U=>exact .box k off b (by grind[SV.has])
 |.acc k,v,h,E=>by simp only[SV.Fi]at h;cases h;rw[E k (by simp[SV.has])];exact .acc k
 |.Fa k i off,v,h,E=>by simp only[SV.Fi]at h;have I:=E k (by simp[SV.has]);cases h with|Fa _ _ _ b U=>rw[I];exact .Fa k i off b (by grind)
 |.mp k,v,h,E=>by simp only[SV.Fi]at h;cases h with|mp _ b U=>exact .mp k b (by grind[SV.has])
 |.agg cs,v,h,E=>by
  simp only[SV.Fi]at h;cases h with
  |agg _ vs O h2 L =>have:=C7.Vb (cs:=cs) ⟨O,L⟩ (λk I=>E k (by simp only[SV.has];exact I));refine .agg cs vs this.1 (λc J=>?_) this.2;grind[oB,vA,List.mem_map_of_mem]
 |.tuple cs,v,h,E=>by
  simp only[SV.Fi]at h;cases h with
  |tuple _ vs O L =>have:=C7.Vb (cs:=cs) ⟨O,L⟩ (λk I=>E k (by simp only[SV.has];exact I));exact .tuple cs vs this.1 this.2
 |.Bi g cs,v,h,E=>by
  simp only[SV.Fi]at h;cases h with
  |Bi _ _ vs O L =>have:=C7.Vb (cs:=cs) ⟨O,L⟩ (λk I=>E k (by simp only[SV.has];exact I));exact .Bi g cs vs this.1 this.2
 |.Fy cs off,v,h,E=>by
  simp only[SV.Fi]at h;cases h with
  |Fy _ _ b hs O h2 L =>
   obtain⟨vs,hl,Z⟩:=sT (w:=w) (b:=b) (off:=0) (n:=(qA f cs).length) (λj V=>by grind);have:=C7.Vb (cs:=cs) (vs:=vs) ⟨hl,λj c v J W=>L j c v J (by grind)⟩ (λk I=>E k (by simp only[SV.has];exact I));have a0:(qA f cs).length=cs.length:=by rw[vA];simp
   refine .Fy cs off b hs (λc J=>?_) (λj V=>h2 j (by omega)) (λj c v J W=>?_);grind[oB,vA];have a1:=(Az.1 J).1;have V:=Z j (vs[j]'(by omega)) (Bu _);rw[Kf,W]at V;simp only[B8]at V;exact this.2 j c v J (by grind)
theorem C7.Vb{S:Nat->Prop}{w:World}{β β':Names}{f:Nat->Nat}:∀{cs:List SV} {vs:List Value},C7 S w β' (qA f cs) vs->(∀k,SV.Mh k cs=true->β' (f k) =β k)->C7 S w β cs vs
 |[],vs,h,_=>⟨by simpa [qA]using h.1,by simp⟩
 |c::cs,vs,h,E=>by
  simp only[qA]at h;cases vs with
  |nil=>have:=h.1;grind
  |cons v vs =>
   exact .cons (An.Vb (h.2 0 _ v rfl rfl) (λk I=>E k (by simp[SV.Mh,I]))) (C7.Vb ⟨by have:=h.1;grind,λj c v J W=>h.2 (j+1) c v (by grind) (by grind)⟩ (λk I=>E k (by simp[SV.Mh,I])))
end
def Ax.Fi(f:Nat->Nat):Ax->Ax
 |.cells cs=>.cells (qA f cs)
 |c=>c
def Qd(f:Nat->Nat):Ac->Ac
 |[]=>[]
 |(k,c)::r=>(f k,c.Fi f)::Qd f r
def Ys(f:Nat->Nat):SL->SL
 |[]=>[]
 |(t,x)::r=>(t,x.Fi f)::Ys f r
def VS(f:Nat->Nat):∀(sl:SL)(t:Nat),Ae (Ys f sl) t=(Ae sl t).Fi f
 |[],t=>rfl
 |(u,x)::r,t=>by simp only[Ys,Ae];split;rfl;exact VS f r t
def zQ{f:Nat->Nat}{j:Nat}{d:Ax}:∀{bx:Ac},(j,d)∈Qd f bx↔∃k c,(k,c)∈bx/\j=f k/\d=c.Fi f
 |[]=>by simp[Qd]
 |(k,c)::r=>by simp only[Qd,Ay,Gg,zQ (bx:=r)];constructor;rintro(⟨rfl,rfl⟩|⟨E,I,h,rfl,rfl⟩);exact⟨k,c,.inl ⟨rfl,rfl⟩,rfl,rfl⟩;grind;grind
def E4.Fi{S:Nat->Prop}{w:World}{β β':Names}{f:Nat->Nat}{i:BI}{c:Ax}(h:E4 S w β i c)(O:∀k,c.has k=true->β' (f k) =β k):E4 S w β' i (c.Fi f):=by
 cases c with
 |cells cs =>obtain⟨b,ty,vs,U,J,L⟩:=h;refine⟨b,ty,vs,U,J,?_⟩;rw[vA];refine L.map (by simp) ?_;intro j x y v V E I;simp only[Df,V,Em,B8]at E;subst E;exact I.Fi λk W=>O k (by grind[Ax.has,eB])
 |rows sz rs=>exact h
 |map kvs=>exact h
 |iter kvs seen=>exact h
 |ghost Y st=>exact h
def E4.Vb{S:Nat->Prop}{w:World}{β β':Names}{f:Nat->Nat}{i:BI}{c:Ax}(h:E4 S w β' i (c.Fi f))(L:∀k,c.has k=true->β' (f k) =β k):E4 S w β i c:=by
 cases c with
 |cells cs =>obtain⟨b,ty,vs,O,E,J⟩:=h;exact⟨b,ty,vs,O,E,C7.Vb J λk I=>L k (by simp only[Ax.has];exact I)⟩
 |rows sz rs=>exact h
 |map kvs=>exact h
 |iter kvs seen=>exact h
 |ghost Y st=>exact h
mutual
def SV.only(ks:List Nat):SV->Bool
 |.box k _=>ks.contains k
 |.acc k=>ks.contains k
 |.Fa k _ _=>ks.contains k
 |.mp k=>ks.contains k
 |.agg cs=>GA ks cs
 |.tuple cs=>GA ks cs
 |.Bi _ cs=>GA ks cs
 |.Fy cs _=>GA ks cs
 |.undef=>true
 |.d _=>true
 |.A8 _ _=>true
 |.Fg _=>true
def GA(ks:List Nat):List SV->Bool
 |[]=>true
 |c::cs=>c.only ks && GA ks cs
end
mutual
theorem nB{ks:List Nat}{k:Nat}:∀{x:SV},x.only ks=true->x.has k=true->k∈ks
 |.box j _,h,E=>by simp only[SV.only,EJ]at h;simp only[SV.has,W8]at E;grind
 |.acc j,h,E=>by simp only[SV.only,EJ]at h;simp only[SV.has,W8]at E;grind
 |.Fa j _ _,h,E=>by simp only[SV.only,EJ]at h;simp only[SV.has,W8]at E;grind
 |.mp j,h,E=>by simp only[SV.only,EJ]at h;simp only[SV.has,W8]at E;grind
 |.agg cs,h,E=>by simp only[SV.only]at h;simp only[SV.has]at E;exact VA h E
 |.tuple cs,h,E=>by simp only[SV.only]at h;simp only[SV.has]at E;exact VA h E
 |.Bi _ cs,h,E=>by simp only[SV.only]at h;simp only[SV.has]at E;exact VA h E
 |.Fy cs _,h,E=>by simp only[SV.only]at h;simp only[SV.has]at E;exact VA h E
 |.undef,_,E=>by simp[SV.has]at E
 |.d _,_,E=>by simp[SV.has]at E
 |.A8 _ _,_,E=>by simp[SV.has]at E
 |.Fg _,_,E=>by simp[SV.has]at E
theorem VA{ks:List Nat}{k:Nat}:∀{cs:List SV},GA ks cs=true->SV.Mh k cs=true->k∈ks
 |[],_,E=>by simp[SV.Mh]at E
 |c::cs,h,E=>by simp only[GA,Bh]at h;simp only[SV.Mh,U7]at E;exact E.elim (nB h.1) (VA h.2)
end
def Ax.only(ks:List Nat):Ax->Bool
 |.cells cs=>GA ks cs
 |.ghost _ _=>false
 |_=>true
def AI(ks:List Nat):Ac->Bool
 |[]=>true
 |(k,c)::r=>ks.contains k && c.only ks && AI ks r
def TN(ks:List Nat):SL->Bool
 |[]=>true
 |(_,x)::r=>x.only ks && TN ks r
def NT{ks:List Nat}{k:Nat}:∀{sl:SL},TN ks sl=true->∀t,(Ae sl t).has k=true->k∈ks
 |[],_,t,E=>by simp[Ae,SV.has]at E
 |(u,x)::r,h,t,E=>by simp only[TN,Bh]at h;simp only[Ae]at E;split at E;exact nB h.1 E;exact NT h.2 t E
def Wg{ks:List Nat}:∀{bx:Ac},AI ks bx=true->∀k c,(k,c)∈bx->k∈ks/\c.real=true/\∀j,c.has j=true->j∈ks
 |[],_,k,c,h=>by grind
 |(i,x)::r,h,k,c,hm=>by
  simp only[AI,Bh,EJ]at h;rcases Ay.1 hm with I|hm
  .simp only[Gg]at I;obtain⟨rfl,rfl⟩:=I;refine⟨h.1.1,?_,λj E=>?_⟩;cases c <;> first|rfl|simp[Ax.only]at h
   .cases c <;> first
     |(simp only[Ax.has]at E;exact VA h.1.2 E)
     |simp[Ax.has]at E
  exact Wg h.2 k c hm
variable {P:Program} {n:Nat} {Q:Exit->SL->Ac->Prop} {sl:SL} {bx:Ac}
def Ry(β:Names)(bx:Ac)(b:Nat):Prop:=∃k c,(k,c)∈bx/\(β k).base=some b
def X4(bx:Ac):Prop:=∀k c,(k,c)∈bx->c.real=true
def X4.no{bx:Ac}(h:X4 bx){k:Nat}{Y:Hq}{st:Option Nat}:(k,Ax.ghost Y st) ∉bx:=λE=>by have:=h _ _ E;simp[Ax.real]at this
def Inv.Xi{C:Ctx}{S S':Nat->Prop}{w w':World}{β:Names}{n0:Nat}{B:Nat->Prop}(h:Inv C S w β bx)(L:X4 bx)(I:∀b,Ry β bx b->B b)(W:C.w0.heap.size<=n0)(k:TX n0 B S w S' w'):Inv C S' w' β bx:=by
 have e:Cg S w S' w':=⟨k.sub,λb hb=>k.same b (.inr (.inr hb))⟩;exact{
  G7:=λb hb=>k.sub b (h.G7 b hb)
  F9:=λb hb=>by
   rcases k.new b hb with hb|hb
   .exact h.F9 b hb
   omega
  C9:=k.lt
  kept:=λb hb hp=>(k.same b (.inl (by omega))).trans (h.kept b hb hp)
  os:=k.os.trans h.os
  tape:=k.tape.trans h.tape
  output:=k.output.trans h.output
  size:=Cy h.size k.size
  box:=λj c E=>(h.box j c E).ext e (λb hb=>k.same b (.inr (.inl (I b ⟨j,c,E,hb⟩)))) (λ_ _=>rfl)
  Bk:=λj c E b hb=>⟨k.off b (I b ⟨j,c,E,hb⟩),X0 (h.Bk j c E b hb).2.1 k.size,(h.Bk j c E b hb).2.2⟩
  inj:=h.inj
  fix:=h.fix
  Ek:=λb cs O=>by obtain⟨J,ty,V,U⟩:=h.Ek b cs O;exact⟨e.sub b J,ty,V,(e.same b J).trans U⟩
  one:=h.one
  Gf:=λj Y st E=>absurd E L.no }
def Inv.shut{C:Ctx}{S:Nat->Prop}{w:World}{β:Names}{D:Nat}{l L:Option (List Deferred)}(h:Inv C S w β bx)(J:X4 bx)(hn:C.w0.heap.size<=D)(W:¬Ry β bx D)(q:w.heap[D]?=some (.deferred l)):Inv C S (w.putObj D (.deferred L)) β bx where
 G7:=h.G7
 F9:=h.F9
 C9:=λb E=>by simpa using h.C9 b E
 kept:=λb E hp=>(World.putObj_heap_other (by omega)).trans (h.kept b E hp)
 os:=h.os
 tape:=h.tape
 output:=h.output
 size:=by simpa using h.size
 box:=λk c I=>(h.box k c I).shut q (λV=>W ⟨k,c,I,V⟩)
 Bk:=λk c I b E=>by simpa using h.Bk k c I b E
 inj:=h.inj
 fix:=h.fix
 Ek:=λb cs U=>by
  obtain⟨h1,ty,fr,Z⟩:=h.Ek b cs U
  grind[World.putObj_heap_other]
 one:=h.one
 Gf:=λj Y st O=>absurd O J.no
def Inv.put{C:Ctx}{S:Nat->Prop}{w:World}{β:Names}{l:Nat}{o:Obj}(h:Inv C S w β bx)(O:X4 bx)(U:¬S l)(hb:¬Ry β bx l):Inv { C with w0:=C.w0.putObj l o } S (w.putObj l o) β bx:=by
 have a0:=h.size;have e:Cg S w S (w.putObj l o):=⟨λ_ h=>h,λb E=>World.putObj_heap_other λI=>U (I ▸ E)⟩;exact{
  G7:=h.G7
  F9:=λb E=>by simpa using h.F9 b E
  C9:=λb E=>by simpa using h.C9 b E
  kept:=λb E hp=>by
   simp only[World.putObj_size]at E;by_cases I:b=l
   .grind[World.putObj_heap_same]
   .rw[World.putObj_heap_other I,World.putObj_heap_other I];exact h.kept b E hp
  os:=h.os
  tape:=h.tape
  output:=h.output
  size:=by simp_all
  box:=λk c J=>(h.box k c J).ext e (λb E=>World.putObj_heap_other λI=>hb ⟨k,c,J,I ▸ E⟩) (λ_ _=>rfl)
  Bk:=λk c J b E=>by simpa using h.Bk k c J b E
  inj:=h.inj
  fix:=h.fix
  Ek:=λb cs W=>by obtain⟨L,ty,fr,Z⟩:=h.Ek b cs W;exact⟨L,ty,fr,(e.same b L).trans Z⟩
  one:=h.one
  Gf:=λj Y st V=>absurd V O.no }
def Inv.G3u{C C2:Ctx}{S Z:Nat->Prop}{w V:World}{β U:Names}{E:Ac}{B B2:Nat->Prop}(h:Inv C S w β bx)(J:Inv C2 Z V U E)(hg:X4 E)(hB:∀b,B b->C.pre b\/C.w0.heap.size<=b)
  (W:∀b,Ry U E b->B2 b)(t:FD B S w B2 Z V)(L:∀k i,C.bI k i->U k=i):Inv C Z V U E:=by
 have a0:=h.size;have O:∀b,B b\/w.heap.size<=b->C.pre b\/C.w0.heap.size<=b:=λb hb=>hb.elim (hB b) λh=>.inr (by omega);exact{
  G7:=λb hb=>t.ext.sub b (h.G7 b hb)
  F9:=λb hb=>by
   rcases t.new b hb with hb|hb
   .exact h.F9 b hb
   grind
  C9:=t.lt
  kept:=λb hb hp=>by
   rw[<-h.kept b hb hp];refine t.kept b (by omega) λa1=>?_
   grind
  os:=t.os.trans h.os
  tape:=t.tape.trans h.tape
  output:=t.output.trans h.output
  size:=Cy h.size t.size
  box:=J.box
  Bk:=λk c I b hb=>⟨(J.Bk k c I b hb).1,(J.Bk k c I b hb).2.1,O b (t.own b (W b ⟨k,c,I,hb⟩)).2.2⟩
  inj:=J.inj
  fix:=λk i I=>⟨(h.fix k i I).1,L k i I⟩
  Ek:=λb cs hb=>by obtain⟨h1,ty,fr,hh⟩:=h.Ek b cs hb;exact⟨t.ext.sub b h1,ty,fr,(t.ext.same b h1).trans hh⟩
  one:=J.one
  Gf:=λj Y st hj=>absurd hj hg.no }
def E7(k:Nat):Nat:=if 2000000<=k then k - 2000000 else k
def Ctx.rd(C:Ctx)(β:Names):Ctx:={ C with bI:=λk i=>2000000<=k/\i =β k }
def qH(C:Ctx)(l:Nat)(Ds:List Nat)(tmps:Array Value)(I:LoopState->Option Code->Loop)(βR:Names)(slR:SL)(mb:Option Nat->Ac)(go:Nat->Bool)(jump:Option Code)(st:Option Nat)(B S:Nat->Prop)(w:World):Prop :=∃β,Inv (C.rd βR) S w β (mb st)/\(∀b,B b↔(b=l\/Ry β (mb st) b))/\¬S l/\¬Ry β (mb st) l/\l<w.heap.size /\w.heap[l]?=some (.loop (match st with|some _=>I .ready none|none=>I .done jump)) /\(∀E,E∈Ds->S E/\w.heap[E]?=some (.deferred (some [])))/\(∀t,An S w β (Ae slR t) (tmps.getD t undef))/\(∀j,st=some j->∀i,i<j->go i=true)
end Go.iA
namespace Go.iA
open Go
variable {P:Program} {n:Nat} {Q:Exit->SL->Ac->Prop} {sl:SL} {bx:Ac}
def Rb:Exit->Option Code
 |.ret=>some .ret
 |.exit id=>some (.exit id)
 |_=>none
def jO(mb:Option Nat->Ac)(go:Nat->Bool)(jump:Exit)(j:Nat)(e:Exit)(sl:SL)(bx:Ac):Prop :=match e with
 |.normal=>go j=true/\ble bx (mb (some (j+1)))
 |e=>go j=false/\e=jump/\ble bx (mb none)
def JM:Ac->Bool
 |[]=>true
 |(_,c)::r=>c.real && JM r
def uZ:∀{bx:Ac},JM bx=true->X4 bx
 |[],_,k,c,h=>by grind
 |(i,x)::r,h,k,c,hm=>by simp only[JM,Bh]at h;rcases Ay.1 hm with E|hm;grind;exact uZ h.2 k c hm
def sU(P:Program)(n l:Nat)(body:Code)(Q:Exit->SL->Ac->Prop)(sl:SL)(bx:Ac):Prop:=JM bx=true/\A0 (some l) P n body Q sl bx
structure qK(P:Program)(n:Nat)(p:Tmp)(assign body:Code)(N:Nat)(xs:Nat->SV)(go:Nat->Bool)(jump:Exit)(ks:List Nat)(slR:SL)(mb:Option Nat->Ac):Prop where
 zg:∃c,Rb jump=some c
 keys:(ks.map E7).Nodup
 high:∀k,k∈ks->2000000<=k\/k<=999999
 vY:TN (ks.filter (2000000<=·)) slR=true
 QM:∀st,AI ks (mb st)=true
 pOK:p<n
 closed:∀j,(xs j).closed=true
 body:∀j,j<N->(∀i,i<j->go i=true)->∀l,A0 (some l) P n assign (Aa (sU P n l body (jO mb go jump j)) (λ_ _ _=>False)) ((p,xs j)::slR) (mb (some j))
def FV(mb:Option Nat->Ac)(jump:Exit)(st':Option Nat)(e:Exit)(_:SL)(bx:Ac):Prop:=match st' with
 |some E=>e=.normal/\ble bx (mb (some E))
 |none=>e=jump/\ble bx (mb none)
def jO.qQ{mb:Option Nat->Ac}{go:Nat->Bool}{jump:Exit}{j:Nat}{e:Exit}{sl:SL}{bx:Ac}(h:jO mb go jump j e sl bx):FV mb jump (if go j=true then some (j+1)else none) e sl bx:=by
 unfold jO at h;cases e with
 |normal=>rw[A7 h.1];exact⟨rfl,h.2⟩
 |_=>obtain⟨J,I,E⟩:=h;rw[A5 (by grind)];exact⟨I,E⟩
def qK.core{p:Tmp}{assign body:Code}{N:Nat}{xs:Nat->SV}{go:Nat->Bool}{jump:Exit}{ks:List Nat}{slR:SL}{mb:Option Nat->Ac}(h:qK P n p assign body N xs go jump ks slR mb)
  {C:Ctx}{l n0:Nat}{Ds:List Nat}{tmps:Array Value}{fn:FuncId}{D:Nat}{βR:Names}(b1:tmps.size=n)(hl:l<n0)(b0:∀E,E∈Ds->E<n0)(ar:l∉Ds)(ae:C.w0.heap.size<=l)(au:C.w0.heap.size<=n0)
  {j:Nat}{x:SV}{st':Option Nat}(hx:x.closed=true)(a4:A0 (some l) P n assign (Aa (sU P n l body (FV mb jump st')) (λ_ _ _=>False)) ((p,x)::slR) (mb (some j)))(am:∀j',st'=some j'->∀i,i<j'->go i=true)
  {B S:Nat->Prop}{w:World}{β:Names}{v:Value}(hF:qH C l Ds tmps (λstate pending=>{ state,pending,fn,tmps,params:=#[p],assign,body,defers:=D }) βR slR mb go (Rb jump) (some j) B S w)(hS:∀b,S b->b<w.heap.size)(hB:∀b,B b->¬S b/\b<w.heap.size)(hv:An S w β x v) :
  ∃f tm as bd,(Instr.yield l #[v]).run P w=.ok (.round l f tm as bd) w/\RoundIn Fence.wide 0 P l f tm as bd w (λe w'=>∃S' U,e=.returned (.bool st'.isSome)/\qH C l Ds tmps (λstate pending=>{ state,pending,fn,tmps,params:=#[p],assign,body,defers:=D }) βR slR mb go (Rb jump) st' U S' w'/\FD B S w U S' w'):=by
 have a5:∀st,X4 (mb st):=λst k c hm=>(Wg (h.QM st) k c hm).2.1;obtain⟨β1,h1,h2,h3,h4,h5,h6,h7,h8,h9⟩:=hF;simp only at h6;have av:An S w β1 x v:=hv.closed hx;have hy:=run_yield (P:=P) (args:=#[v]) h6 (by simp);simp only[List.zip_toArray,List.zip_cons_cons,List.zip_nil_right,List.foldl_toArray,Mt,Xq]at hy;have Z:=h1.Bk;have ah:∀b,Ry β1 (mb (some j)) b->b<w.heap.size/\¬S b:=λb ⟨k,c,L,I⟩=>⟨(Z k c L b I).2.1,(Z k c L b I).1⟩;have i1:Inv ⟨w,S,Ry β1 (mb (some j)),λk i=>2000000<=k/\i =βR k,C.G⟩ S w β1 (mb (some j)):={
  G7:=λ_ h=>h,F9:=λ_ h=>.inl h,C9:=h1.C9,kept:=λ_ _ _=>rfl,os:=rfl,tape:=rfl,output:=rfl,size:=Bv _
  box:=h1.box
  Bk:=λk c L b I=>⟨(Z k c L b I).1,(Z k c L b I).2.1,.inl ⟨k,c,L,I⟩⟩
  inj:=h1.inj
  fix:=h1.fix
  Ek:=h1.Ek
  one:=h1.one
  Gf:=λk Y st L=>absurd L (a5 _).no }
 have ac:∀t,(tmps.setIfInBounds p v).getD t undef=if p=t then v else tmps.getD t undef:=λt=>by
  simp only[wR,Array.getElem?_setIfInBounds];split
  .subst_vars;simp[h.pOK]
  .rfl
 have af:St ⟨w,S,Ry β1 (mb (some j)),λk i=>2000000<=k/\i =βR k,C.G⟩ n S w β1 { tmps:=tmps.setIfInBounds p v,defers:=[] } ((p,x)::slR) (mb (some j)):=by refine⟨i1,by grind,.nil,λt=>?_⟩;simp only[ac,Ae];split;omega;grind
 have hA:=a4;refine⟨_,_,_,_,hy,roundIn_of_wpIn trivial (PC (hA _ S w β1 _ af) ?_)⟩;rintro e a1 w1 ⟨az,aw,S1,β2,hq,s1⟩;have a2:∀{S':Nat->Prop} {w':World} {β':Names} {bx':Ac} {w0:World},w0.heap.size=w.heap.size->Inv ⟨w0,S,Ry β1 (mb (some j)),λk i=>2000000<=k/\i =βR k,C.G⟩ S' w' β' bx'->¬S' l/\¬Ry β' bx' l:=by intro S' w' β' bx' w0 aq hi;refine⟨λhs=>?_,λ⟨k,c,L,I⟩=>?_⟩;rcases hi.F9 l hs with h|h|h;grind;grind;grind;rcases(hi.Bk k c L l I).2.2 with h|h;grind;grind
 cases e with
 |normal =>
  simp only[Aa]at hq;obtain⟨f1,f2⟩:=a2 rfl s1.inv;have ag:w1.heap[l]?=_:=(s1.inv.kept l h5 h4).trans h6;have g1:=uZ hq.1;refine⟨_,run_beginRound ag rfl,PC (hq.2 _ S1 _ β2 a1 ⟨s1.inv.put g1 f1 f2,s1.size,?_,λt=>?_⟩) ?_⟩
  .obtain⟨Es,q1,q2,q3⟩:=s1.defers;refine⟨Es,q1,q2,λE hE=>⟨(q3 E hE).1,by simp_all,(World.putObj_heap_other ?_).trans (q3 E hE).2.2⟩⟩
   grind
  .have ad:∀b,S1 b->b≠l:=λb I he=>by grind
   exact(s1.slot t).ext ⟨λ_ h=>h,λb I=>World.putObj_heap_other (ad b I)⟩ (λ_ _=>rfl)
  rintro e a3 W ⟨ax,a',S3,β3,ab,O⟩;obtain⟨f3,f4⟩:=a2 (by simp) O.inv;have ao:w.heap.size<=W.heap.size:=by have:=O.inv.size;simpa using this
  have a8:W.heap[l]?=some (.loop { state:=.busy,pending:=none,fn,tmps,params:=#[p],assign,body,defers:=D }):=by rw[O.inv.kept l (by simp_all) h4];exact World.putObj_heap_same h5
  have a7:∀(st:Option Nat) (o:Obj),ble a' (mb st)->(∀j',st=some j'->∀i,i<j'->go i=true) ->(W.putObj l o).heap[l]?=some (.loop (match st with|some _=>{ state:=.ready,pending:=none,fn,tmps,params:=#[p],assign,body,defers:=D } |none=>{ state:=.done,pending:=Rb jump,fn,tmps,params:=#[p],assign,body,defers:=D })) ->∃S' U,qH C l Ds tmps (λstate pending=>{ state,pending,fn,tmps,params:=#[p],assign,body,defers:=D }) βR slR mb go (Rb jump) st U S' (W.putObj l o)/\FD B S w U S' (W.putObj l o):=by
   intro st o J ay ho;have aa:=O.inv.sub (LJ J);have ak:=aa.put (o:=o) (a5 st) f3 (λ⟨k,c,L,I⟩=>f4 ⟨k,c,LJ J k c L,I⟩);have a0:∀k,2000000<=k->β3 k =βR k:=λk L=>(O.inv.fix k (βR k) ⟨L,rfl⟩).2;have aj:∀b,S b->b≠l:=λb I he=>by grind
   have e3:Cg S w S3 (W.putObj l o):=⟨O.inv.G7,λb I=>by
    rw[World.putObj_heap_other (aj b I),O.inv.kept b (by simp_all) (λai=>(ah b ai).2 I)]
    grind[World.putObj_heap_other]⟩
   have t:FD B S w (λb=>b=l\/Ry β3 (mb st) b) S3 (W.putObj l o):={
    ext:=e3
    new:=λb I=>by
     rcases O.inv.F9 b I with h|h|h
     .grind
     .grind
     simp_all
    lt:=λb I=>by simpa using O.inv.C9 b I
    own:=λb I=>by
     rcases I with rfl|⟨k,c,L,I⟩
     .grind
     .obtain⟨p1,p2,p3⟩:=aa.Bk k c L b I;exact⟨p1,by simp_all,p3.imp (λh=>(h2 b).2 (.inr h)) (λh=>by simp_all)⟩
    kept:=λb I hn=>by have a9:b≠l:=λhe=>hn ((h2 b).2 (.inl he));rw[World.putObj_heap_other a9,O.inv.kept b (by simp_all) (λh=>hn ((h2 b).2 (.inr h)))];exact World.putObj_heap_other a9
    os:=O.inv.os
    tape:=O.inv.tape
    output:=O.inv.output
    size:=by simp_all }
   refine⟨S3,_,⟨β3,h1.G3u ak (a5 st) (λb I=>?_) (λb I=>.inr I) t (λk i L=>?_),λb=>Iff.rfl,f3,λ⟨k,c,L,I⟩=>f4 ⟨k,c,LJ J k c L,I⟩,by grind,?_,λE hE=>⟨e3.sub E (h7 E hE).1,(e3.same E (h7 E hE).1).trans (h7 E hE).2⟩,λt=>(h8 t).ext e3 λk L=>?_,λj' ap i hi=>?_⟩,t⟩
   .rcases(h2 b).1 I with rfl|⟨k,c,L,I⟩
    .exact .inr ae
    grind
   .rw[a0 k L.1];exact L.2.symm
   .omega
   .have a6:=NT h.vY t L;simp only[Kp,Di]at a6;rw[a0 k a6.2,(h1.fix k (βR k) ⟨a6.2,rfl⟩).2]
   .grind
  have V:∀o,(W.putObj l o).heap[l]?=some o:=λo=>World.putObj_heap_same (by omega);have stop:∀c,Rb jump=some c->ble a' (mb none)->∃v' w',(Instr.endRound l (some c)).run P W=.ok v' w'/\(∃S' U,(Ending.returned v')=.returned (.bool false)/\qH C l Ds tmps (λstate pending=>{ state,pending,fn,tmps,params:=#[p],assign,body,defers:=D }) βR slR mb go (Rb jump) none U S' w'/\FD B S w U S' w'):=by intro c hc J;obtain⟨S',U,p1,p2⟩:=a7 none _ J (λ_ h=>by cases h) (by rw[V,hc]);exact⟨_,_,run_endRound (some c) a8,S',U,rfl,p1,p2⟩
  cases st' with
  |some j' =>obtain⟨rfl,J⟩:=ab;obtain⟨S',U,p1,p2⟩:=a7 (some j') _ J am (by rw[V]);exact⟨_,_,run_endRound none a8,S',U,rfl,p1,p2⟩
  |none =>
   obtain⟨he,J⟩:=ab;obtain⟨c,hc⟩:=h.zg;cases e with
   |ret=>subst he;exact stop .ret rfl J
   |exit id=>subst he;exact stop (.exit id) rfl J
   |normal=>grind[Rb]
   |goto t=>grind[Rb]
   |panic ch=>grind[Rb]
   |outgrown=>grind[Rb]
 |_=>exact hq.elim
structure TP(P:Program)(n:Nat)(p:Tmp)(assign body:Code)(N:Nat)(xs:Nat->SV)(go:Nat->Bool)(jump:Exit)(ks:List Nat)(slR:SL)(mb:Option Nat->Ac)(more:Nat->SV->Nat->Prop):Prop where
 ok:qK P n p assign body N xs go jump ks slR mb
 G9t:∀j y j',more j y j'->y.closed=true/\(∀i,go i=true)/\∀l,A0 (some l) P n assign (Aa (sU P n l body (FV mb jump (some j'))) (λ_ _ _=>False)) ((p,y)::slR) (mb (some j))
def qK.toX{p:Tmp}{E body:Code}{N:Nat}{xs:Nat->SV}{go:Nat->Bool}{jump:Exit}{ks:List Nat}{slR:SL}{mb:Option Nat->Ac}(h:qK P n p E body N xs go jump ks slR mb):TP P n p E body N xs go jump ks slR mb λ_ _ _=>False :=⟨h,λ_ _ _ h=>h.elim⟩
def TP.rounds{p:Tmp}{assign body:Code}{N:Nat}{xs:Nat->SV}{go:Nat->Bool}{jump:Exit}{ks:List Nat}{slR:SL}{mb:Option Nat->Ac}{more:Nat->SV->Nat->Prop}(hX:TP P n p assign body N xs go jump ks slR mb more)
  {C:Ctx}{l n0:Nat}{Ds:List Nat}{tmps:Array Value}{fn:FuncId}{D:Nat}{βR:Names}(a1:tmps.size=n)(hl:l<n0)(I:∀E,E∈Ds->E<n0)(a2:l∉Ds)(a3:C.w0.heap.size<=l)(O:C.w0.heap.size<=n0){sy ra:TypeId × Value} :
  RW ⟨⟨P,l,n0,N,xs,go,more⟩,qH C l Ds tmps (λstate pending=>{ state,pending,fn,tmps,params:=#[p],assign,body,defers:=D }) βR slR mb go (Rb jump),sy,ra⟩:=by
 have h:=hX.ok;have W:∀st,X4 (mb st):=λst k c hm=>(Wg (h.QM st) k c hm).2.1;refine⟨?_,?_,?_,?_⟩
 ·
  rintro st B S w S' w' ⟨β,h1,U,h3,h4,h5,h6,h7,h8,L⟩ k;have e:Cg S w S' w':=⟨k.sub,λb hb=>k.same b (.inr (.inr hb))⟩;refine⟨β,h1.Xi (W st) (λb hb=>(U b).2 (.inr hb)) O k,U,k.off l ((U l).2 (.inl rfl)),h4,X0 h5 k.size,(k.same l (.inl hl)).trans h6,λE J=>⟨k.sub E (h7 E J).1,(k.same E (.inl (I E J))).trans (h7 E J).2⟩,λt=>(h8 t).ext e (λ_ _=>rfl),L⟩
 ·
  rintro st B S w D' q q' ⟨β,h1,U,h3,h4,h5,h6,h7,h8,L⟩ hn Z V;have a0:∀E,E<n0->E≠D':=λE J he=>by grind
  refine⟨β,h1.shut (W st) (by simp only at hn;show C.w0.heap.size<=D';omega) (λhb=>Z ((U D').2 (.inr hb))) V,U,h3,h4,by grind,(World.putObj_heap_other (a0 l hl)).trans h6,λE J=>⟨(h7 E J).1,(World.putObj_heap_other (a0 E (I E J))).trans (h7 E J).2⟩,λt=>(h8 t).shut V,L⟩
 ·
  rintro j B S w β v a4 hF hS Z hv;have L:∀i,i<j->go i=true:=by obtain⟨_,_,_,_,_,_,_,_,_,L⟩:=hF;exact L j rfl
  obtain⟨f,tm,as,bd,g1,g2⟩:=h.core a1 hl I a2 a3 O (j:=j) (x:=xs j) (st':=if go j=true then some (j+1)else none) (h.closed j) ((h.body j a4 L l).mono λe sl bx V=>by
   cases e with
   |normal=>exact⟨V.1,V.2.mono λ_ _ _ h=>h.qQ⟩
   |_=>exact V) (λj' a5 i hi=>by
   grind) hF hS Z hv
  exact⟨f,tm,as,bd,g1,g2.mono λe w' ⟨S',B',q1,q2,q3⟩=>⟨S',B',by grind,q2,q3⟩⟩
 ·
  rintro j y j' B S w β v hm hF hS Z hv;obtain⟨c1,c2,c3⟩:=hX.G9t j y j' hm;exact h.core a1 hl I a2 a3 O (j:=j) (x:=y) (st':=some j') c1 (c3 l) (λ_ _ i _=>c2 i) hF hS Z hv
end Go.iA
namespace Go.iA
open Go
variable {P:Program} {n:Nat} {Q:Exit->SL->Ac->Prop} {sl:SL} {bx:Ac}
def qb{ks:List Nat}{f:Nat->Nat}:(ks.map f).Nodup->∀a b,a∈ks->b∈ks->f a=f b->a=b:=by
 induction ks with
 |nil=>simp
 |cons k ks E =>grind
theorem G1z{mb:Ac}(h:(mb.map (·.1)).Nodup){k:Nat}{c E:Ax}(L:(k,c)∈mb)(J:(k,E)∈mb):c=E:=by
 induction mb with
 |nil=>grind
 |cons x mb I =>grind
def Inv.Vb{C:Ctx}{S:Nat->Prop}{w:World}{β:Names}{mb:Ac}{ks:List Nat}(h:Inv C S w β (Qd E7 mb))(hk:(ks.map E7).Nodup)(O:AI ks mb=true)(hu:(mb.map (·.1)).Nodup) :Inv (C.rd λk=>β (E7 k)) S w (λk=>β (E7 k)) mb:=by
 have E:∀{k:Nat} {c:Ax},(k,c)∈mb->(E7 k,c.Fi E7)∈Qd E7 mb:=λO=>zQ.2 ⟨_,_,O,rfl,rfl⟩;have L:X4 mb:=λk c U=>(Wg O k c U).2.1;exact{ h with
  box:=λk c I=>(h.box _ _ (E I)).Vb λ_ _=>rfl
  Bk:=λk c I=>h.Bk _ _ (E I)
  inj:=λk c k' c' J Z b W V=>by
   have:=qb hk k k' (Wg O _ _ J).1 (Wg O _ _ Z).1 (h.inj _ _ _ _ (E J) (E Z) b W V).1
   grind[G1z]
  fix:=λk i hi=>⟨by have:=hi.1;omega,hi.2.symm⟩
  one:=λk Y st k' Y' st' J=>absurd J L.no
  Gf:=λk Y st J=>absurd J L.no }
def Inv.ur{C:Ctx}{S:Nat->Prop}{w:World}{β β':Names}{mb:Ac}{ks:List Nat}(h:Inv (C.rd λk=>β (E7 k)) S w β' mb)(hk:(ks.map E7).Nodup)(hh:∀k,k∈ks->2000000<=k\/k<=999999)(J:AI ks mb=true)(hC:∀k i,C.bI k i->1000000<=k/\β k=i) :∃I:Names,Inv C S w I (Qd E7 mb)/\∀k,k∈ks->I (E7 k) =β' k:=by
 have a1:X4 mb:=λk c a3=>(Wg J k c a3).2.1;obtain⟨I,a2⟩:∃I:Names,∀k,I k=if k∈ks/\k<=999999 then β' k else β k:=⟨λk=>if k∈ks/\k<=999999 then β' k else β k,λ_=>rfl⟩
 have key:∀k,k∈ks->I (E7 k) =β' k:=by
  intro k L;rw[a2];rcases hh k L with h1|h1
  .have hl:E7 k=k - 2000000:=by unfold E7;rw[A7 h1]
   have a6:¬(E7 k∈ks/\E7 k<=999999):=by
    rintro⟨a,b⟩;have a5:E7 (E7 k)=E7 k:=by
     have h5:¬ 2000000<=E7 k:=by omega
     generalize E7 k=q at h5;unfold E7;rw[A5 h5]
    have:=qb hk _ _ a L a5;omega
   rw[A5 a6];exact((h.fix k _ ⟨h1,rfl⟩).2).symm
  .have hl:E7 k=k:=by unfold E7;rw[A5 (by omega)]
   grind
 refine⟨I,?_,key⟩;have hb:∀{j:Nat} {d:Ax},(j,d)∈Qd E7 mb->∃k c,(k,c)∈mb/\j=E7 k/\d=c.Fi E7:=λJ=>zQ.1 J;have E:∀(k:Nat) (Y:Hq) (st:Option Nat),(k,Ax.ghost Y st) ∉Qd E7 mb:=λk Y st a4=>by obtain⟨V,c,h1,_,h2⟩:=hb a4;have:=a1 _ _ h1;cases c <;> simp[Ax.Fi,Ax.real]at h2 this
 exact{ h with
  box:=λj d U=>by obtain⟨k,c,h1,rfl,rfl⟩:=hb U;obtain⟨m1,_,m3⟩:=Wg J k c h1;rw[key k m1];exact(h.box k c h1).Fi λi hi=>key i (m3 i hi)
  Bk:=λj d U b Z=>by obtain⟨k,c,h1,rfl,rfl⟩:=hb U;rw[key k (Wg J k c h1).1]at Z;exact h.Bk k c h1 b Z
  inj:=λj d j' d' U a0 b O W=>by obtain⟨k,c,h1,rfl,rfl⟩:=hb U;obtain⟨V,c',h2,rfl,rfl⟩:=hb a0;rw[key k (Wg J k c h1).1]at O;rw[key V (Wg J V c' h2).1]at W;obtain⟨rfl,rfl⟩:=h.inj k c V c' h1 h2 b O W;simp
  fix:=λk i hi=>by grind
  one:=λk Y st V Y' st' h1=>absurd h1 (E _ _ _)
  Gf:=λk Y st h1=>absurd h1 (E _ _ _) }
def tL(P:Program)(f:FuncId)(args:List SV)(pre:Ac)(R:SV->Ac->Prop):Prop :=Enters P f/\∀(C:Ctx) (β:Names) (vs:List Value),Inv C C.S0 C.w0 β pre->C7 C.S0 C.w0 β args vs ->Calls P f ⟨vs⟩ C.w0 (λe w'=>∃r v E S' β',R r E/\e=.returned v/\Inv C S' w' β' E/\An S' w' β' r v)
def Ci.toR{f:FuncId}{args:List SV}{pre E:Ac}{r:SV}{R:SV->Ac->Prop}(h:Ci P f args pre r E)(hr:R r E):tL P f args pre R :=⟨h.1,λC β vs O I=>(h.2 C β vs O I).mono λ_ _ ⟨v,S',β',U,J,L⟩=>⟨r,v,E,S',β',hr,U,J,L⟩⟩
def tL.imp{f:FuncId}{args:List SV}{pre:Ac}{R I:SV->Ac->Prop}(h:tL P f args pre R)(hr:∀r E,R r E->I r E):tL P f args pre I :=⟨h.1,λC β vs U J=>(h.2 C β vs U J).mono λ_ _ ⟨r,v,E,S',β',V,W,L,O⟩=>⟨r,v,E,S',β',hr r E V,W,L,O⟩⟩
def qG{g:Operand}{p:Tmp}{assign body:Code}{f:FuncId}{caps caps':List SV}{N:Nat}{xs:Nat->SV}{go:Nat->Bool}{jump:Exit}{ks:List Nat}{slR:SL}{mb:Option Nat->Ac}{more:Nat->SV->Nat->Prop}{RS:Option Nat->Prop}
  (hX:TP P n p assign body N xs go jump ks slR mb more)(hu:∀st,((mb st).map (·.1)).Nodup)(hg:Aq sl g=.Bi f caps)(a6:Gz [] caps=some caps')
  (hc:∀Y:Hq,Y.P=P->Y.N=N->Y.xs=xs->Y.go=go->Y.more=more->tL P f (.Fg Y.l::caps') [(1000000,.ghost Y (some 0))] λ_ a0=>∃st,RS st/\a0=[(1000000,.ghost Y st)])
  (h1:sle sl (Ys E7 slR))(h2:ble bx (Qd E7 (mb (some 0))))
  (a9:∀j,RS (some j)->(∀i,i<j->go i=true)->Q .normal (Ys E7 slR) (Qd E7 (mb (some j))))(a3:RS none->Q jump (Ys E7 slR) (Qd E7 (mb none))) :
  A0 none P n (.rangeFunc g #[p] assign body) Q sl bx:=by
 have h:=hX.ok;intro C S w β a a5;have a2:=a5.Aq g;rw[hg]at a2;generalize aa:a.eval g=gv at a2;have hs:St C n S w β a (Ys E7 slR) (Qd E7 (mb (some 0))):=a5.weaken h1 h2;cases a2 with
 |Bi _ _ cs g1 g2 =>
 refine wpIn_rangeFunc λfn _=>?_;obtain⟨L,O⟩:∃L,L=(w.alloc (.deferred (some []))).alloc (.loop { state:=.ready,pending:=none,fn,tmps:=a.tmps,params:=#[p],assign,body,defers:=w.heap.size }):=⟨_,rfl⟩;have av:L.heap.size=w.heap.size+2:=by rw[O];simp[-World.alloc_eq,World.alloc]
 have ab:∀b,b<w.heap.size->L.heap[b]?=w.heap[b]?:=λb hb=>by rw[O,RowKit.Below.heap_alloc _ _ b (by simp[-World.alloc_eq,World.alloc];omega),RowKit.Below.heap_alloc w _ b hb]
 have hD:L.heap[w.heap.size]?=some (.deferred (some [])):=by rw[O,RowKit.Below.heap_alloc _ _ _ (by simp[-World.alloc_eq,World.alloc])];exact World.alloc_heap_new w _
 have hl:L.heap[w.heap.size+1]?=some (.loop { state:=.ready,pending:=none,fn,tmps:=a.tmps,params:=#[p],assign,body,defers:=w.heap.size }):=by have:=World.alloc_heap_new (w.alloc (.deferred (some []))) (.loop { state:=.ready,pending:=none,fn,tmps:=a.tmps,params:=#[p],assign,body,defers:=w.heap.size });rw[World.size_alloc]at this;rw[O];exact this
 have ag:=hs.inv.size;obtain⟨Es,d1,d2,d3⟩:=hs.defers;obtain⟨i1,e1⟩:=hs.inv.grow (S':=λb=>S b\/b=w.heap.size) (w':=L) (λb hb=>.inl hb) (λb hb=>hb.imp id λh=>by omega) (λb hb=>by rcases hb with hb|hb;have:=hs.inv.C9 b hb;omega;omega) ab (by rw[O];rfl) (by rw[O];rfl) (by rw[O];rfl) (by omega)
 have i2:=i1.Vb h.keys (h.QM (some 0)) (hu _);have a8:∀t,An (λb=>S b\/b=w.heap.size) L (λk=>β (E7 k)) (Ae slR t) (a.tmps.getD t undef):=λt=>by have:=hs.slot t;rw[VS]at this;exact An.Vb (this.ext e1 (λ_ _=>rfl)) (λ_ _=>rfl)
 have aq:∀E,E∈w.heap.size::Es->E<w.heap.size+2:=λE hE=>by rcases Ay.1 hE with rfl|hE;omega;have:=hs.inv.C9 E (d3 E hE).1;omega
 have aj:=hX.rounds (C:=C) (sy:=C.G.sy) (ra:=C.G.ra) (l:=w.heap.size+1) (n0:=w.heap.size+2) (Ds:=w.heap.size::Es) (tmps:=a.tmps) (fn:=fn) (D:=w.heap.size) (βR:=λk=>β (E7 k)) hs.size (by omega) aq (by intro hm;rcases Ay.1 hm with hm|hm;omega;have:=hs.inv.C9 _ (d3 _ hm).1;omega) (by omega) (by omega)
 have U:∀b,Ry (λk=>β (E7 k)) (mb (some 0)) b->¬(S b\/b=w.heap.size)/\b<w.heap.size:=λb ⟨k,c,hk,hb⟩=>by obtain⟨p1,p2,_⟩:=hs.inv.Bk _ _ (zQ.2 ⟨k,c,hk,rfl,rfl⟩) b hb;exact⟨λh=>h.elim p1 (by omega),p2⟩
 have ah:qH C (w.heap.size+1) (w.heap.size::Es) a.tmps (λstate pending=>{ state,pending,fn,tmps:=a.tmps,params:=#[p],assign,body,defers:=w.heap.size }) (λk=>β (E7 k)) slR mb go (Rb jump) (some 0)
   (λb=>b=w.heap.size+1\/Ry (λk=>β (E7 k)) (mb (some 0)) b) (λb=>S b\/b=w.heap.size) L:=by
  refine⟨_,i2,λb=>Iff.rfl,?_,λhb=>?_,by omega,hl,λE hE=>?_,a8,λj hj i hi=>?_⟩
  .rintro(hb|hb)
   .have:=hs.inv.C9 _ hb;omega
   .omega
  .have:=(U _ hb).2;omega
  .rcases Ay.1 hE with rfl|hE
   .exact⟨.inr rfl,hD⟩
   .exact⟨.inl (d3 E hE).1,(ab E (hs.inv.C9 E (d3 E hE).1)).trans (d3 E hE).2.2⟩
  .cases hj;omega
 have ad:Inv ⟨L,λb=>S b\/b=w.heap.size,λ_=>False,λ_ _=>False,C.G⟩ (λb=>S b\/b=w.heap.size) L β []:=i1.begin i1.C9 (λ_ h=>h);obtain⟨r1,r2⟩:=Vt ad (Cg.refl _ _) (by simp) a6 (vs:=cs) ⟨g1,λj c v hc hv=>(g2 j c v hc hv).ext e1 (λ_ _=>rfl)⟩;obtain⟨G,hG⟩:∃G:Gh,G=⟨⟨P,w.heap.size+1,w.heap.size+2,N,xs,go,more⟩,qH C (w.heap.size+1) (w.heap.size::Es) a.tmps (λstate pending=>{ state,pending,fn,tmps:=a.tmps,params:=#[p],assign,body,defers:=w.heap.size }) (λk=>β (E7 k)) slR mb go (Rb jump),C.G.sy,C.G.ra⟩:=⟨_,rfl⟩;have J:G.Y=⟨P,w.heap.size+1,w.heap.size+2,N,xs,go,more⟩:=by rw[hG]
 have ai:Inv ⟨L,λb=>S b\/b=w.heap.size,λb=>b=w.heap.size+1\/Ry (λk=>β (E7 k)) (mb (some 0)) b,λ_ _=>False,G⟩ (λb=>S b\/b=w.heap.size) L (F4 β 1000000 { base:=none }) [(1000000,.ghost G.Y (some 0))]:=by
  have V:∀W c',(W,c')∈[(1000000,Ax.ghost G.Y (some 0))]->∀b,(F4 β 1000000 { base:=none } W).base≠some b:=λW c' I b hb'=>by simp only[Ay,Gg,Eh,Eo]at I;obtain⟨rfl,rfl⟩:=I;rw[Ht]at hb';cases hb'
  exact{
   G7:=λ_ h=>h,F9:=λ_ h=>.inl h,C9:=i1.C9,kept:=λ_ _ _=>rfl,os:=rfl,tape:=rfl,output:=rfl,size:=Bv _
   box:=λW ae I=>by simp only[Ay,Gg,Eh,Eo]at I;obtain⟨rfl,rfl⟩:=I;rw[Ht];rfl
   Bk:=λW ae I b' hb'=>absurd hb' (V W ae I b')
   inj:=λk1 c1 k2 c2 h1 h2 b' am ax=>absurd am (V k1 c1 h1 b')
   fix:=λ_ _ h=>h.elim
   Ek:=by rw[hG];exact i1.Ek
   one:=λk1 Y1 s1 k2 Y2 s2 h1 h2=>by simp only[Ay,Gg,Ax.ghost.injEq,Eh,Eo]at h1 h2;obtain⟨rfl,rfl,rfl⟩:=h1;obtain⟨rfl,rfl,rfl⟩:=h2;exact⟨rfl,rfl⟩
   Gf:=λW Y' au I=>by
    have ar:=V;simp only[Ay,Gg,Ax.ghost.injEq,Eh,Eo]at I;obtain⟨rfl,rfl,rfl⟩:=I;refine⟨rfl,by rw[hG];exact aj,by rw[J];show w.heap.size+2<=L.heap.size;omega,λW c' I b hb'=>absurd hb' (V W c' I b),_,by rw[hG];exact ah,λb hb'=>⟨?_,?_,.inl hb',λW c' I=>V W c' I b⟩⟩
    .rcases hb' with rfl|hb'
     .rintro(h|h)
      .have:=hs.inv.C9 _ h;omega
      .omega
     .exact(U b hb').1
    .rcases hb' with rfl|hb'
     .omega
     .have:=(U b hb').2;omega }
 have a1:=(hc G.Y (by rw[J]) (by rw[J]) (by rw[J]) (by rw[J]) (by rw[J])).2 _ _ (.func (.yield (w.heap.size+1)) #[] #[]::cs) ai (.cons (by rw[J];exact .Fg _) ⟨r1.1,λj c v hc hv=>(r1.2 j c v hc hv).closed (mB r2 j c hc)⟩);have hE:=(hc G.Y (by rw[J]) (by rw[J]) (by rw[J]) (by rw[J]) (by rw[J])).1;have ac:(invoke (.fn (.func f) ⟨cs⟩) #[.func (.yield (w.heap.size+1)) #[] #[]]).run P L=.ok (.enter f ⟨.func (.yield (w.heap.size+1)) #[] #[]::cs⟩) L:=by
  obtain⟨aw,q1,q2,q3⟩:=hE;have a4:(#[.func (.yield (w.heap.size+1)) #[] #[]]++⟨cs⟩:Array Value)=⟨.func (.yield (w.heap.size+1)) #[] #[]::cs⟩:=by apply L5;simp
  simp only[invoke,callFunc,Ha,L3,Hp,run_program,q1,q2,q3,Iu,Gi,a4]
 refine⟨w.heap.size+1,[{ target:=.collected w.heap.size,args:=#[] }],L,⟨.fn (.func f) ⟨cs⟩,#[.func (.yield (w.heap.size+1)) #[] #[]]⟩,L,f,⟨.func (.yield (w.heap.size+1)) #[] #[]::cs⟩,L,?_,?_,λ_ _=>trivial,ac,λhx=>by simp[FW,Fence.wide]at hx,xa (a1.mono ?_)⟩
 .rw[O];exact run_enterLoop_outer fn a.tmps #[p] assign body
 .have hy:Act.eval a (.const (.func (.yield (w.heap.size+1)) #[] #[]))=.func (.yield (w.heap.size+1)) #[] #[]:=rfl;simp[resolve,Deferred.ofValue,rangeCall,aa,hy]
 .rintro e w3 ⟨r,v,a0,S',β',⟨st,af,rfl⟩,rfl,hk,hv⟩;obtain⟨_,_,_,_,B',q5,q6⟩:=hk.Gf 1000000 G.Y st (by simp);simp only[hG]at q5;obtain⟨β3,k1,k2,k3,k4,k5,k6,k7,k8,k9⟩:=q5;have ak:X4 (mb st):=λk c hm=>(Wg (h.QM st) k c hm).2.1;have a7:∀o,C.w0.putObj (w.heap.size+1) o=C.w0:=λo=>by
   unfold World.putObj;rw[Array.setIfInBounds_eq_of_size_le (by omega)]
  have a':∀o,∃Z,St C n S' (w3.putObj (w.heap.size+1) o) Z { a with defers:=[{ target:=.collected w.heap.size,args:=#[] }]++a.defers } (Ys E7 slR) (Qd E7 (mb st)):=by
   intro o;have j1:=k1.put (o:=o) ak k3 k4;have ao:{ (C.rd λk=>β (E7 k))with w0:=(C.rd λk=>β (E7 k)).w0.putObj (w.heap.size+1) o }=C.rd λk=>β (E7 k):=by show({ w0:=C.w0.putObj (w.heap.size+1) o,S0:=_,pre:=_,bI:=_,G:=_ }:Ctx)=_;rw[a7];rfl
   rw[ao]at j1;obtain⟨Z,j2,j3⟩:=j1.ur h.keys h.high (h.QM st) hs.inv.fix;refine⟨Z,j2,hs.size,⟨w.heap.size::Es,by simp[d1],Vm.2 ⟨λhm=>by have:=hs.inv.C9 _ (d3 _ hm).1;omega,d2⟩,λE hE=>⟨(k7 E hE).1,?_,?_⟩⟩,λt=>?_⟩
   .rcases Ay.1 hE with rfl|hE
    .exact ag
    .exact(d3 E hE).2.1
   .refine(World.putObj_heap_other ?_).trans (k7 E hE).2;rintro rfl;exact k3 (k7 _ hE).1
   .rw[VS];have ap:∀b,S' b->b≠w.heap.size+1:=λb hb he=>by subst he;exact k3 hb
    refine An.Fi ((k8 t).ext ⟨λ_ h=>h,λb hb=>World.putObj_heap_other (ap b hb)⟩ (λ_ _=>rfl)) λk hk=>j3 k ?_;have:=NT h.vY t hk;simp only[Kp]at this;exact this.1
  cases st with
  |some j =>obtain⟨Z,s⟩:=a' (.loop { state:=.exhausted,pending:=none,fn,tmps:=a.tmps,params:=#[p],assign,body,defers:=w.heap.size });exact⟨none,_,run_endLoop k6 (by simp),_,_,S',Z,a9 j af (k9 j rfl),s⟩
  |none =>
   obtain⟨Z,s⟩:=a' (.loop { state:=.exhausted,pending:=Rb jump,fn,tmps:=a.tmps,params:=#[p],assign,body,defers:=w.heap.size });obtain⟨c,hj⟩:=h.zg;refine⟨_,_,run_endLoop k6 (by simp),?_⟩;have hq:=a3 af;cases jump <;> simp only[Rb,reduceCtorEq]at hj
   .exact wpIn_exit ⟨_,_,S',Z,hq,s⟩
   .exact wpIn_ret ⟨_,_,S',Z,hq,s⟩
def A0.rangeFunc{g:Operand}{p:Tmp}{E body:Code}{f:FuncId}{caps caps':List SV}{r:SV}{N:Nat}{xs:Nat->SV}{go:Nat->Bool}{jump:Exit}{ks:List Nat}{slR:SL}{mb:Option Nat->Ac}{st:Option Nat}
  (h:qK P n p E body N xs go jump ks slR mb)(Z:∀st,((mb st).map (·.1)).Nodup)(O:Aq sl g=.Bi f caps)(I:Gz [] caps=some caps')
  (U:∀Y:Hq,Y.P=P->Y.N=N->Y.xs=xs->Y.go=go->Ci P f (.Fg Y.l::caps') [(1000000,.ghost Y (some 0))] r [(1000000,.ghost Y st)])
  (W:sle sl (Ys E7 slR))(V:ble bx (Qd E7 (mb (some 0))))
  (L:∀j,st=some j->(∀i,i<j->go i=true)->Q .normal (Ys E7 slR) (Qd E7 (mb (some j))))(J:st=none->Q jump (Ys E7 slR) (Qd E7 (mb none))) :
  A0 none P n (.rangeFunc g #[p] E body) Q sl bx :=
 qG (RS:=λs=>s=st) h.toX Z O I (λY a b c d _=>(U Y a b c d).toR ⟨st,rfl,rfl⟩) W V (λj e=>L j e.symm) λe=>J e.symm
end Go.iA
namespace Go.iA
open Go
variable {P:Program} {sl:SL} {bx:Ac}
def two(E I k1 k2:Nat)(q:Nat):Nat:=if q=E then k1 else if q=I then k2 else q
def SU{f:FuncId}{fo:Operand}{args:List Operand}{Dr:List TypeId}{dst:Option Nat}{caps a5:List SV}{r:SV}{Z q2 W V:Nat}{I E:List (List D)}(k1 k2:Nat)
  (hf:Aq sl fo=.Bi f caps)(a8:Gz [] (args.map (Aq sl)++caps)=some a5)(hc:Ci P f a5 [] r [(Z,.rows W I),(q2,.rows V E)])(hr:r.only [Z,q2]=true)(hq:Z≠q2)
  (h1:k1<=999999)(h2:k2<=999999)(hk:k1≠k2)(f1:aF k1 bx=false)(f2:aF k2 bx=false) :
  QK P sl bx dst (.call ⟨.value fo,args.toArray,Dr.toArray⟩) (r.Fi (two Z q2 k1 k2)) ((k1,.rows W I)::(k2,.rows V E)::bx) [k1,k2]:=by
 intro o ho _ C S w β a hi ha;have a7:=ha fo (mC ho);rw[hf]at a7;generalize ab:a.eval fo=v at a7;cases a7 with
 |Bi _ _ cs g1 g2 =>
  have a':C7 S w β (args.map (Aq sl)++caps) (args.map a.eval++cs):=(MA _ λx hx=>ha x (mo ho (by grind[Op.operands,Call.operands]))).append ⟨g1,g2⟩;have aa:Inv ⟨w,S,λ_=>False,λ_ _=>False,C.G⟩ S w β []:=hi.begin hi.C9 (λ_ h=>h);obtain⟨r1,r2⟩:=Vt aa (Cg.refl S w) (by simp) a8 a';have a6:=hc.2 ⟨w,S,λ_=>False,λ_ _=>False,C.G⟩ β _ aa r1;refine Ja ?_;unfold Oper.wp;rw[tD hc.1 ho ab,gC];have a4:(args.toArray.map a.eval)++(⟨cs⟩:Array Value)=⟨args.map a.eval++cs⟩:=by apply L5;simp
  rw[a4];refine a6.mono ?_;rintro e w' ⟨v,S',β',rfl,hI,hv⟩;have a9:w.heap.size<=w'.heap.size:=hI.size;have ac:∀b,S' b->S b\/w.heap.size<=b:=λb J=>by rcases hI.F9 b J with h|h|h;all_goals grind
  have e:Cg S w S' w':=⟨hI.G7,λb J=>hI.kept b (hi.C9 b J) id⟩;have u1:F4 (F4 β k2 (β' q2)) k1 (β' Z) k1 =β' Z:=Ht ..;have u2:F4 (F4 β k2 (β' q2)) k1 (β' Z) k2 =β' q2:=by rw[Mz (Zy hk),Ht]
  have u3:∀j,j≠k1->j≠k2->F4 (F4 β k2 (β' q2)) k1 (β' Z) j =β j:=λj a b=>by rw[Mz a,Mz b]
  have m1:(Z,Ax.rows W I)∈[(Z,Ax.rows W I),(q2,.rows V E)]:=by simp
  have m2:(q2,Ax.rows V E)∈[(Z,Ax.rows W I),(q2,.rows V E)]:=by simp
  have U:∀q c,(q,c)∈[(Z,Ax.rows W I),(q2,.rows V E)]->∀b,(β' q).base=some b->¬S' b/\b<w'.heap.size/\w.heap.size<=b:=λq c hm b J=>by obtain⟨p1,p2,p3⟩:=hI.Bk q c hm b J;grind
  have O:∀k c,(k,c)∈bx->k≠k1/\k≠k2/\(∀j,c.has j=true->j≠k1/\j≠k2):=λk c hm=>by obtain⟨a1,a2⟩:=GQ f1 k c hm;obtain⟨b1,b2⟩:=GQ f2 k c hm;grind
  have L:∀k c,(k,c)∈(k1,Ax.rows W I)::(k2,.rows V E)::bx->(k=k1/\c=.rows W I)\/(k=k2/\c=.rows V E)\/(k,c)∈bx:=λk c hm=>by grind
  refine⟨v,S',F4 (F4 β k2 (β' q2)) k1 (β' Z),rfl,?_,e,hv.Fi λk ad=>?_,λj hj=>?_⟩
  .refine hi.step e ac hI.C9 (λb J _=>hI.kept b J id) hI.os hI.tape hI.output a9 ?_ ?_ (λj hj=>u3 j (by omega) (by omega)) ?_;intro k c hm;rcases L k c hm with⟨rfl,rfl⟩|⟨rfl,rfl⟩|hm;rw[u1];exact⟨E4.ext (c:=.rows W I) (hI.box Z _ m1) (Cg.refl _ _) (λ_ _=>rfl) (by simp[Ax.has]),λb J=>⟨(U _ _ m1 b J).1,(U _ _ m1 b J).2.1,.inl (U _ _ m1 b J).2.2⟩⟩;rw[u2];exact⟨E4.ext (c:=.rows V E) (hI.box q2 _ m2) (Cg.refl _ _) (λ_ _=>rfl) (by simp[Ax.has]),λb J=>⟨(U _ _ m2 b J).1,(U _ _ m2 b J).2.1,.inl (U _ _ m2 b J).2.2⟩⟩;obtain⟨a1,a2,a3⟩:=O k c hm;rw[u3 k a1 a2];obtain⟨p1,p2,p3⟩:(∀b,(β k).base=some b->¬S b)/\(∀b,(β k).base=some b->b<w.heap.size)/\True:=⟨λb J=>(hi.Bk k c hm b J).1,λb J=>(hi.Bk k c hm b J).2.1,trivial⟩;refine⟨(hi.box k c hm).ext e (λb J=>hI.kept b (p2 b J) id) (λj hj=>u3 j (a3 j hj).1 (a3 j hj).2),λb J=>⟨λhs=>?_,X0 (p2 b J) a9,.inr ⟨k,c,hm,J⟩⟩⟩;grind
   .intro k c k' c' hm hm' b J a0;have low:∀k c,(k,c)∈bx->(F4 (F4 β k2 (β' q2)) k1 (β' Z) k).base=some b->b<w.heap.size:=λk c hm J=>by rw[u3 k (O k c hm).1 (O k c hm).2.1]at J;exact(hi.Bk k c hm b J).2.1
    rcases L k c hm with⟨rfl,rfl⟩|⟨rfl,rfl⟩|hm;rw[u1]at J;rcases L k' c' hm' with⟨rfl,rfl⟩|⟨rfl,rfl⟩|hm';simp;rw[u2]at a0;exact absurd (hI.inj _ _ _ _ m1 m2 b J a0).1 hq;grind
    .rw[u2]at J;rcases L k' c' hm' with⟨rfl,rfl⟩|⟨rfl,rfl⟩|hm';rw[u1]at a0;exact absurd (hI.inj _ _ _ _ m1 m2 b a0 J).1 hq;all_goals grind
    have ae:=low _ _ hm J;rcases L k' c' hm' with⟨rfl,rfl⟩|⟨rfl,rfl⟩|hm';grind;grind;rw[u3 k (O k c hm).1 (O k c hm).2.1]at J;rw[u3 k' (O k' c' hm').1 (O k' c' hm').2.1]at a0;exact hi.inj k c k' c' hm hm' b J a0
   simp
  have:=nB hr ad;simp at this;rcases this with rfl|rfl;simp only[two,Av];exact u1;simp only[two,A5 (Zy hq),Av];exact u2;grind
def oq{src dst e:TypeId}{x:Operand}{rows:List (List D)}(l:A3)(hs:P.underlying src=some (.slice e))(he:P.underlying e=some (.int .u8))(hd:P.underlying dst=some .string)(hx:Aq sl x=.d (.slice rows))
  (hr:rows=l.map λc=>[.int .u8 c.toNat])(hl:l≠[]):cC P sl bx (.convert src dst x) (.d (.str l)):=by
 intro o Z;refine .Ei λC S w β a hi ha=>?_;have h1:=ha x (mC Z);rw[hx]at h1;have V:=h1.Js;have W:rows.length=l.length:=by rw[hr];simp
 generalize U:a.eval x=v at V;cases V with
 |Nv=>grind
 |slice _ b off cap sz hb h3 h4 h5 h6 h7 h8 =>
  subst hr;have L:sz=1:=by
   cases l with
   |nil=>grind
   |cons c l=>simp_all
  subst L;have E:∀j (hj:j<l.length),w.cell? ((⟨b,off,none⟩:Addr).add j)=some (.int .u8 (l[j].toNat:Int)):=λj hj=>by
   obtain⟨u,O⟩:=h7 j 0 (by omega) (by omega);have I:=h8 j 0 [.int .u8 l[j].toNat] (.int .u8 l[j].toNat) u (by grind) rfl O;rw[Zf];have:off+(j*1+0)=off+j:=by omega
   rw[this]at O;rw[O];cases I;rfl
  have J:=run_convert_bytes_back (P:=P) w src dst e ⟨b,off,none⟩ cap l hs he hd E;refine⟨_,?_,.d _ _ (.str l (by omega))⟩;simp at U;simp only[execOp,Z,U,Ha,J,Hp,L3];rfl
def Ci.NO{f:FuncId}{args:List SV}{r U:SV}{J:Ac}(h:Ci P f args [] r J)(hr:JM J=true)(V:coerce J r=some U):Ab P f args U:=by
 refine⟨h.1,λC β vs Z O=>(h.2 C β vs Z O).mono ?_⟩;rintro e w' ⟨v,S',β',rfl,I,O⟩;refine⟨v,λb=>S' b\/∃k c,(k,c)∈J/\(β' k).base=some b,β',rfl,?_,(aH I ⟨λ_ h=>.inl h,λ_ _=>rfl⟩ (λk c L b E=>.inr ⟨k,c,L,E⟩) V O).1⟩;exact{
  G7:=λb E=>.inl (I.G7 b E)
  F9:=λb E=>by
   rcases E with E|⟨k,c,L,E⟩
   .exact I.F9 b E
   .exact .inr (I.Bk k c L b E).2.2
  C9:=λb E=>by
   rcases E with E|⟨k,c,L,E⟩
   .exact I.C9 b E
   .exact(I.Bk k c L b E).2.1
  kept:=I.kept
  os:=I.os
  tape:=I.tape
  output:=I.output
  size:=I.size
  box:=λk c L=>by grind
  Bk:=λk c L=>by grind
  inj:=λk c W c' L=>by simp
  Ek:=λb cs E=>⟨.inl (I.Ek b cs E).1,(I.Ek b cs E).2⟩
  one:=λk Y st W Y' st' L=>by simp
  Gf:=λk Y st L=>by grind
  fix:=I.fix }
end Go.iA
