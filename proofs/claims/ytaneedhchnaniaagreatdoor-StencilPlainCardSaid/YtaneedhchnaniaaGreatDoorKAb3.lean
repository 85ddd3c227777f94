/- Contracts out of bodies, maps, closures, parts of slices. Own framework. -/
import Derived.DeepKeys3
import Derived.MapKept
import Derived.WideKeyRuns
import Derived.Laws.MakeOwn
import Derived.RangeFuncRecord
import Derived.Test.YtaneedhchnaniaaGreatDoorKAb2
set_option linter.all false
namespace Go.Abs
open Go
variable {ro:Option Nat} {P:Program} {n:Nat} {Q:Exit→SL→Ab→Prop} {sl:SL} {bx:Ab}
def Kn (P:Program)(bx:Ab)(T:TypeId)(x:SV):Option SV :=
 match x with
 |.box k off=>match A7 bx k with
  |some (.cells cs)=>match D4 P T with
   |some false=>cs[off]?
   |some true=>match Bs P T with
    |some m=>if off+m≤cs.length∧(part cs off m).all SV.one=true then some (.agg (part cs off m)) else none
    |none=>none
   |none=>none
  |_=>none
 |.Ag cells off=>match D4 P T with
  |some false=>(cells[off]?).map SV.d
  |some true=>match Bs P T with
   |some m=>if off+m≤cells.length then some (.agg ((A4b cells off m).map SV.d)) else none
   |none=>none
  |none=>none
 |.d (.ptr cells)=>match D4 P T with
  |some false=>(cells[0]?).map SV.d
  |some true=>match Bs P T with
   |some m=>if 0+m≤cells.length then some (.agg ((A4b cells 0 m).map SV.d)) else none
   |none=>none
  |none=>none
 |.Eb k i off=>match A7 bx k with
  |some (.rows sz rows)=>match rows[i]? with
   |some row=>match D4 P T with
    |some false=>(row[off]?).map SV.d
    |some true=>match Bs P T with
     |some m=>if off+m≤row.length∧row.length=sz then some (.agg ((A4b row off m).map SV.d)) else none
     |none=>none
    |none=>none
   |none=>none
  |_=>none
 |.Fh cells off=>match D4 P T with
  |some false=>cells[off]?
  |_=>none
 |_=>none
variable {S:Nat→Prop} {w:World} {β:Names}
theorem E8i {k i off sz:Nat} {rows:List (List D)} {row:List D} {v:Value} (hb:Dh S w β (β k) (.rows sz rows))(hr:rows[i]? = some row)(hv:Am S w β (.Eb k i off) v) :
  ∃b base,v=.pointer (some ⟨b,base+off,none⟩)∧(∀d,d∈row→d.one=true)∧(∀j,j < row.length→∃v,w.cell? ⟨b,base+j,none⟩=some v)∧(∀(j:Nat) (d:D) (v:Value),row[j]? = some d→w.cell? ⟨b,base+j,none⟩=some v→Br S w d v):=by
 cases hv with
 |Eb _ _ _ b I =>
  obtain⟨g1,g2,g3,g4,W,V,O⟩:=hb;subst g1;rw [I] at O;obtain⟨ty,vs,R,U,J⟩:=O;have E:=Bx hr;have a0:=(Ay.1 hr).1;refine⟨b,((β k).off+i)*(β k).sz,rfl,V row E,?_,?_⟩
  ·intro j Z;rw [W row E] at Z;have h1:((β k).off+i+1)*(β k).sz≤((β k).off+(β k).cap)*(β k).sz:=H4 _ (by omega);rw [Ei _ 1] at h1;have:((β k).off+i)*(β k).sz+j < vs.length:=by omega
   exact⟨vs[((β k).off+i)*(β k).sz+j],by rw [cells_of_row R];exact Ba this⟩
  ·intro j d u hd L;rw [cells_of_row R] at L;exact J i j row d u hr hd L
variable {C:Ctx}
theorem E0j {T:TypeId} {x c:SV} {v:Value} (hi:Inv C S w β bx)(O:Am S w β x v)(h:Kn P bx T x=some c) :
  ∃a u,v=.pointer (some a)∧(loadVar T a).run P w=.ok u w∧Am S w β c u:=by
 have conv:∀{p:Addr} {u:Value},(Instr.loadAt T (.pointer (some p))).run P w=.ok u w→(loadVar T p).run P w=.ok u w:=by intro p u I;simpa [Instr.loadAt,Instr.sureAddr] using I
 have E:∀{cells:List D} {off:Nat} {b base:Nat},v=.pointer (some ⟨b,base+off,none⟩)→(∀d,d∈cells→d.one=true)→(∀j,j < cells.length→∃v,w.cell? ⟨b,base+j,none⟩=some v) →
   (∀(j:Nat) (d:D) (v:Value),cells[j]? = some d→w.cell? ⟨b,base+j,none⟩=some v→Br S w d v) →
   (match D4 P T with
    |some false=>(cells[off]?).map SV.d
    |some true=>match Bs P T with
     |some m=>if off+m≤cells.length then some (.agg ((A4b cells off m).map SV.d)) else none
     |none=>none
    |none=>none)=some c→∃a u,v=.pointer (some a)∧(loadVar T a).run P w=.ok u w∧Am S w β c u:=by
  intro cells off b base O h1 U V h;cases hT:D4 P T with
  |none=>simp [hT] at h
  |some g =>
   cases g with
   |false =>simp only [hT,Ij] at h;obtain⟨d,hd,rfl⟩:=h;obtain⟨u,I⟩:=U off (Ay.1 hd).1;exact⟨_,u,O,conv (C0z hT I),.d _ _ (V off d u hd I)⟩
   |true =>
    simp only [hT] at h;cases hs:Bs P T with
    |none=>simp [hs] at h
    |some m =>
     simp only [hs] at h;split at h
     ·rename_i hl;simp only [Av] at h;subst h;obtain⟨vs,a1,W⟩:=C1z (w:=w) (b:=b) (off:=base+off) (n:=m) (fun j hj=>by rw [Mh];exact U (off+j) (by omega));refine⟨_,.agg ⟨vs⟩,O,conv (D0n hT hs a1 W),D7r (.agg _ vs (by simp [A4b,a1];omega) ?_ ?_)⟩
      ·intro d hd;exact h1 d (U5 (Iq hd))
      ·intro j d u hd I;simp only [A4b,Yd,Ri] at hd;split at hd
       ·exact V (off+j) d u hd (by rw [←Mh];exact W j u I)
       ·simp at hd
     ·simp at h
 cases x with
 |box k off =>
  obtain⟨b,R,rfl⟩:=O.B3s;simp only [Kn] at h;cases J:A7 bx k with
  |none=>simp [J] at h
  |some bc =>
   cases bc with
   |cells cs =>
    simp only [J] at h;obtain⟨b',ty,vs,Z,hh,hr⟩:=hi.box k _ (G0 J);rw [R] at Z;cases Z;cases hT:D4 P T with
    |none=>simp [hT] at h
    |some g =>
     cases g with
     |false =>simp only [hT] at h;obtain⟨u,I,a0⟩:=hr.get h;exact⟨_,u,rfl,conv (C0z hT (by rw [cells_of_row hh];exact I)),a0⟩
     |true =>
      simp only [hT] at h;cases hs:Bs P T with
      |none=>simp [hs] at h
      |some m =>
       simp only [hs] at h;split at h
       ·rename_i hl;simp only [Av] at h;subst h;have:=hr.1;refine⟨_,.agg ⟨(vs.drop off).take m⟩,rfl,conv (D0n hT hs (by simp;omega) ?_),Am.A9t (hr.part off m) hl.2⟩;intro j u I;rw [cells_of_row hh];simp only [Yd,Ri] at I;split at I
        ·exact I
        ·simp at I
       ·simp at h
   |rows _ _=>simp [J] at h
   |map _=>simp [J] at h
   |iter _ _=>simp [J] at h
   |ghost _ _=>simp [J] at h
 |Ag cells off =>obtain⟨b,base,L⟩:=O.A9q;exact E L.v L.one L.there L.rep h
 |d y =>cases y <;> simp only [Kn,reduceCtorEq] at h;rename_i cells;obtain⟨b,base,L⟩:=O.D2v;exact E L.v L.one L.there L.rep h
 |Eb k i off =>
  simp only [Kn] at h;cases J:A7 bx k with
  |none=>simp [J] at h
  |some bc =>
   cases bc with
   |rows sz rows =>
    simp only [J] at h;cases hr:rows[i]? with
    |none=>simp [hr] at h
    |some row =>
     simp only [hr] at h;obtain⟨b,base,h0,h1,U,V⟩:=E8i (hi.box k _ (G0 J)) hr O;refine E h0 h1 U V ?_;cases hT:D4 P T with
     |none=>simp [hT] at h
     |some g =>
      cases g with
      |false=>simpa [hT] using h
      |true =>
       simp only [hT] at h ⊢;cases hs:Bs P T with
       |none=>simp [hs] at h
       |some m =>
        simp only [hs] at h ⊢;split at h
        ·rename_i hl;rw [A8 hl.1];exact h
        ·simp at h
   |cells _=>simp [J] at h
   |map _=>simp [J] at h
   |iter _ _=>simp [J] at h
   |ghost _ _=>simp [J] at h
 |undef=>simp [Kn] at h
 |agg _=>simp [Kn] at h
 |tuple _=>simp [Kn] at h
 |acc _=>simp [Kn] at h
 |mp _=>simp [Kn] at h
 |Fm _=>simp [Kn] at h
 |Fh cells off =>
  simp only [Kn] at h;cases O with
  |Fh _ _ b J h1 U V =>
   cases hT:D4 P T with
   |none=>simp [hT] at h
   |some g =>
    cases g with
    |true=>simp [hT] at h
    |false =>simp only [hT] at h;obtain⟨u,I⟩:=U off (Ay.1 h).1;exact⟨_,u,rfl,conv (C0z hT I),V off c u h I⟩
 |Bf _ _=>simp [Kn] at h
theorem E7u {o:Oper} {ρ:Hq} {T:TypeId} {x:Operand} (E:o.op=.load T x) {c:SV} (h:Kn P bx T (ρ x)=some c):Bt P o ρ bx c bx [] :=
 .Ef fun _ _ w β a J I=>by obtain⟨p,u,O,hr,L⟩:=E0j J (I x (mC E)) h;exact⟨u,by simp [execOp,E,O,Instr.loadAt,Instr.sureAddr,hr],L⟩
def B6q (P:Program)(bx:Ab)(sl:SL):ResultVar→Option SV
 |.tmp t=>some (Ae sl t)
 |.cell t T=>Kn P bx T (Ae sl t)
def U9 (P:Program)(bx:Ab)(sl:SL):List ResultVar→Option (List SV)
 |[]=>some []
 |r::rs=>match B6q P bx sl r with
  |some x=>match U9 P bx sl rs with
   |some l=>some (x::l)
   |none=>none
  |none=>none
def Xy:List SV→SV
 |[x]=>x
 |xs=>.tuple xs
variable {a:Act}
theorem E0t (hs:St C n S w β a sl bx)(g:ResultVar→Sem Value)(L:∀t,g (.tmp t)=pure (a.tmps.getD t undef))
  (O:∀x t,g (.cell x t)=do loadVar t (←asAddr (a.tmps.getD x undef))):∀(rs:List ResultVar) (xs:List SV),U9 P bx sl rs=some xs→∃vs,(rs.mapM g).run P w=.ok vs w∧Bm S w β xs vs
 |[],xs,h=>by simp only [U9,Av] at h;subst h;exact⟨[],rfl,.nil⟩
 |r::rs,xs,h=>by
  simp only [U9] at h;cases E:B6q P bx sl r with
  |none=>simp [E] at h
  |some x =>
   cases I:U9 P bx sl rs with
   |none=>simp [E,I] at h
   |some l =>
    simp only [E,I,Av] at h;subst h;obtain⟨vs,J,R⟩:=E0t hs g L O rs l I;cases r with
    |tmp t =>simp only [B6q,Av] at E;subst E;refine⟨_::vs,?_,.cons (hs.slot t) R⟩;simp only [Av8,Hu,L,Kp,H8,J]
    |cell t T =>simp only [B6q] at E;obtain⟨p,u,W,hr,V⟩:=E0j hs.inv (hs.slot t) E;refine⟨u::vs,?_,.cons V R⟩;have U:asAddr (.pointer (some p))=pure p:=rfl;simp only [Av8,Hu,O,W,U,Kp,H8,hr,J]
theorem C2y {fn:Func} (hs:St C n S w β a sl bx) {xs:List SV} (h:U9 P bx sl fn.results.toList=some xs) :
  ∃v,(results fn a.tmps).run P w=.ok v w∧Am S w β (Xy xs) v:=by
 have key:∀(g:ResultVar→Sem Value),(∀t,g (.tmp t)=pure (a.tmps.getD t undef))→(∀x t,g (.cell x t)=do loadVar t (←asAddr (a.tmps.getD x undef))) →
   ∃v,(do let vs ←fn.results.mapM g;pure (if h:vs.size=1 then vs[0] else .tuple vs):Sem Value).run P w=.ok v w∧Am S w β (Xy xs) v:=by
  intro g L O;obtain⟨vs,R,I⟩:=E0t hs g L O _ _ h;have J:(fn.results.mapM g).run P w=.ok ⟨vs⟩ w:=by rw [Array.mapM_eq_mapM_toList,Sem.run_map,R];rfl
  have E:=I.1;simp only [Hu,J,H8,Kp]
  match xs,vs,I,E with
  |[],[],I,_=>exact⟨.tuple ⟨[]⟩,rfl,.tuple [] [] rfl (by simp)⟩
  |[x],[v],I,_=>exact⟨v,rfl,I.2 0 x v rfl rfl⟩
  |x::y::xs,v::u::vs,I,_=>exact⟨.tuple ⟨v::u::vs⟩,by simp,.tuple _ _ I.1 I.2⟩
  |[],_::_,_,E=>simp at E
  |[_],[],_,E=>simp at E
  |[_],_::_::_,_,E=>simp at E
  |_::_::_,[],_,E=>simp at E
  |_::_::_,[_],_,E=>simp at E
 exact key _ (fun _=>rfl) (fun _ _=>rfl)
def Uc:Nat→List SV→SL
 |_,[]=>[]
 |i,x::xs=>(i,x)::Uc (i+1) xs
theorem E1f:∀(xs:List SV)(i t:Nat),Ae (Uc i xs) t=if i≤t then (xs[t - i]?).getD .undef else .undef
 |[],i,t=>by simp [Uc,Ae]
 |x::xs,i,t=>by
  simp only [Uc,Ae];split
  ·subst_vars;simp
  ·rename_i E;rw [E1f xs (i+1) t];by_cases h:i+1≤t
   ·rw [A8 h,A8 (by omega),show t - i=(t - (i+1))+1 by omega,Ny]
   ·rw [A6 h,A6 (by omega)]
def D9k (P:Program)(fn:Func)(r:SV)(e:Exit)(sl:SL)(bx:Ab):Prop :=
 match e with
 |.normal| .ret=>∃xs,U9 P bx sl fn.results.toList=some xs∧coerce bx (Xy xs)=some r
 |_=>False
theorem St.start {pre:Ab} {args:List SV} {vs:List Value} {m:Nat} (O:Inv C C.S0 C.w0 β pre)(I:Bm C.S0 C.w0 β args vs)(U:args.length≤m) :
  St C m C.S0 C.w0 β { tmps:=(⟨vs⟩:Array Value)++Array.replicate (m - (⟨vs⟩:Array Value).size) undef,defers:=[] } (Uc 0 args) pre:=by
 have R:=I.1;refine⟨O,by simp;omega,.nil,?_⟩;intro t;rw [E1f];simp only [Uf,Af,As4];cases ht:args[t]? with
 |none=>exact .undef _
 |some x =>
  obtain⟨v,J,L⟩:=I.get ht;have E:=(Ay.1 J).1;have:((⟨vs⟩:Array Value)++Array.replicate (m - (⟨vs⟩:Array Value).size) undef).getD t undef=v:=by rw [Ao5,Am4 (by simpa using E)];simp [J]
  rw [this];exact L
theorem A2u {D:Nat} {l E:Option (List Deferred)} (h:w.heap[D]? = some (.deferred l))(b off:Nat):(w.putObj D (.deferred E)).cell? ⟨b,off,none⟩=w.cell? ⟨b,off,none⟩:=by
 by_cases I:b=D
 ·subst I;have J:(w.putObj b (.deferred E)).heap[b]? = some (.deferred E):=World.putObj_heap_same (X6.1 h).1;unfold World.cell?;simp only [h,J]
 ·exact Au5 (World.putObj_heap_other I)
theorem Br.shut {D:Nat} {l l':Option (List Deferred)} (h:w.heap[D]? = some (.deferred l)) {d:Go.Abs.D} {v:Value} (hr:Br S w d v):Br S (w.putObj D (.deferred l')) d v:=by
 induction hr with
 |int k n=>exact .int k n
 |bool b=>exact .bool b
 |str s hs=>exact .str s hs
 |nil=>exact .nil
 |emp a cap=>exact .emp a cap
 |Ja a cap h=>exact .Ja a cap h
 |slice rows b off cap sz Z I L h3 h4 h5 _ E =>
  refine .slice rows b off cap sz Z I L h3 h4 ?_ ?_
  ·intro i j hi V;rw [A2u h];exact h5 i j hi V
  ·intro i j row d v hr hd O;rw [A2u h] at O;exact E i j row d v hr hd O
 |agg cells vs I L _ E=>exact .agg cells vs I L E
 |ptr cells b base Z L I _ E =>
  refine .ptr cells b base Z L ?_ ?_
  ·intro j V;rw [A2u h];exact I j V
  ·intro j d v hd O;rw [A2u h] at O;exact E j d v hd O
 |Lb=>exact .Lb
 |map kvs r es J hr W hs _ _ U R =>refine .map kvs r es J hr ?_ hs U R;rw [World.putObj_heap_other (by rintro rfl;rw [h] at W;cases W)];exact W
 |M6=>exact .M6
 |iface t d v _ E=>exact .iface t d v E
 |J3=>exact .J3
 |fn f caps vs I _ E=>exact .fn f caps vs I E
 |Kz=>exact .Kz
 |cl f caps vs I _ E=>exact .cl f caps vs I E
theorem Am.shut {D:Nat} {l Z:Option (List Deferred)} (h:w.heap[D]? = some (.deferred l)) {x:SV} {v:Value} (hr:Am S w β x v):Am S (w.putObj D (.deferred Z)) β x v:=by
 induction hr with
 |undef v=>exact .undef v
 |d x v U=>exact .d x v (U.shut h)
 |agg cells vs E L _ I=>exact .agg cells vs E L I
 |tuple cells vs E _ I=>exact .tuple cells vs E I
 |box k off b J=>exact .box k off b J
 |Ag cells off b base J E L W =>
  refine .Ag cells off b base J E ?_ ?_
  ·intro j R;rw [A2u h];exact L j R
  ·intro j d v hd O;rw [A2u h] at O;exact (W j d v hd O).shut h
 |acc k=>exact .acc k
 |Eb k i off b J=>exact .Eb k i off b J
 |mp k b J=>exact .mp k b J
 |Fm l=>exact .Fm l
 |Fh cells off b hs E L _ I =>
  refine .Fh cells off b hs E ?_ ?_
  ·intro j R;rw [A2u h];exact L j R
  ·intro j c v V O;rw [A2u h] at O;exact I j c v V O
 |Bf f cells vs E _ I=>exact .Bf f cells vs E I
theorem Dh.shut {D:Nat} {l l':Option (List Deferred)} (h:w.heap[D]? = some (.deferred l)) {i:BI} {c:Ar} (a0:i.base≠some D)(U:Dh S w β i c):Dh S (w.putObj D (.deferred l')) β i c:=by
 have Z:∀b,i.base=some b→(w.putObj D (.deferred l')).heap[b]? = w.heap[b]?:=fun b U=>World.putObj_heap_other (by rintro rfl;exact a0 U);cases c with
 |cells cs =>obtain⟨b,ty,vs,J,R,L⟩:=U;exact⟨b,ty,vs,J,(Z b J).trans R,L.1,fun j c v hc hv=>(L.2 j c v hc hv).shut h⟩
 |rows sz rs =>
  obtain⟨J,R,L,O,h5,h6,W⟩:=U;refine⟨J,R,L,O,h5,h6,?_⟩;cases I:i.base with
  |none=>rw [I] at W;exact W
  |some b =>rw [I] at W;obtain⟨ty,vs,g1,g2,g3⟩:=W;exact⟨ty,vs,(Z b I).trans g1,g2,fun r j row d v hr hd hv=>(g3 r j row d v hr hd hv).shut h⟩
 |map kvs =>obtain⟨b,es,E,J,R,L,O⟩:=U;exact⟨b,es,E,J,(Z b J).trans R,L,fun r kv x hr V=>⟨(O r kv x hr V).1.shut h,(O r kv x hr V).2.shut h⟩⟩
 |iter kvs seen =>obtain⟨b,m,es,E,sn,J,R,hS,hm,L,O,h5⟩:=U;exact⟨b,m,es,E,sn,J,(Z b J).trans R,hS,(World.putObj_heap_other (by rintro rfl;rw [hm] at h;cases h)).trans hm,L,fun r kv x hr V=>⟨(O r kv x hr V).1.shut h,(O r kv x hr V).2.shut h⟩,h5⟩
 |ghost Y st=>exact U
theorem St.leave {m:Nat} {sl:SL} {bx:Ab} {fn:Func} {R:Ending→World→Prop} (hs:St C m S w β a sl bx)
  (h:∀w',St C m S w' β { tmps:=a.tmps,defers:=[] } sl bx→∃v,(results fn a.tmps).run P w'=.ok v w'∧R (.returned v) w'):LeavesInM Fence.wide 0 P fn a.tmps R a.defers .returning w:=by
 obtain⟨E,a0,⟨Ds,hd,W,hD⟩,I⟩:=hs;rw [hd];clear hd
 induction Ds generalizing w with
 |nil=>exact h w ⟨E,a0,.nil,I⟩
 |cons D Ds ih =>
  obtain⟨q1,q2,V⟩:=hD D (by simp);refine⟨by simp,.inl ⟨D,w.putObj D (.deferred none),rfl,run_takeDeferred V,ih ?_ ?_ (Ys.1 W).2 ?_⟩⟩
  ·exact {
    Ek:=E.Ek,Dx:=E.Dx,Bi:=fun b J=>by simpa using E.Bi b J
    kept:=fun b J hp=>(World.putObj_heap_other (by omega)).trans (E.kept b J hp)
    os:=E.os,tape:=E.tape,output:=E.output,size:=by simpa using E.size
    box:=fun k c L=>(E.box k c L).shut V (fun he=>(E.B8 k c L D he).1 q1)
    B8:=fun k c L b J=>by simpa using E.B8 k c L b J
    inj:=E.inj
    D9:=fun b cs hv=>by obtain⟨Z,ty,fr,O⟩:=E.D9 b cs hv;refine⟨Z,ty,fr,(World.putObj_heap_other ?_).trans O⟩;rintro rfl;rw [V] at O;cases O
    one:=E.one
    Ez:=fun k Y st L=>by obtain⟨Z,O,h3,h4,B,h5,h6⟩:=E.Ez k Y st L;refine⟨Z,O,h3,h4,B,O.shut st B S w D _ _ h5 (by rw [Z];omega) (fun J=>(h6 D J).1 q1) V,fun b J=>?_⟩;simpa using h6 b J
    fix:=E.fix }
  ·exact fun t=>(I t).shut V
  ·intro D' U;obtain⟨r1,r2,r3⟩:=hD D' (by simp [U]);refine⟨r1,r2,?_⟩;rw [World.putObj_heap_other (by rintro rfl;exact (Ys.1 W).1 U)];exact r3
variable {c:Code}
theorem C0h {f:FuncId} {fn:Func} {args:Array Value} {R:Ending→World→Prop} (E:P.funcs[f]? = some fn)(I:fn.body=some c)
  (h:c.wpIn (FW none) 0 P (bodyPostM Fence.wide 0 P fn R) { tmps:=args++Array.replicate (fn.ntmps - args.size) undef,defers:=[] } w):Calls P f args w R :=
 (callsIn_wide (n:=0)).1 (callsIn_of_wp_marks (F:=Fence.wide) E I trivial h)
theorem Ac.A7y {f:FuncId} {fn:Func} {args:List SV} {r:SV} (O:P.funcs[f]? = some fn)(E:fn.body=some c)(hn:(fn.name == "runtime.NumGoroutine")=false)(Z:args.length≤fn.ntmps)
  (h:A0 none P fn.ntmps c (D9k P fn r) (Uc 0 args) []):Ac P f args r:=by
 refine⟨⟨fn,O,hn,by rw [E];rfl⟩,?_⟩;intro C β vs V J;refine C0h O E ?_;refine At5 (h C C.S0 C.w0 β _ (St.start V J Z)) ?_;rintro e L w' ⟨sl',bx',S',β',q,hs⟩;have key:(∃xs,U9 P bx' sl' fn.results.toList=some xs∧coerce bx' (Xy xs)=some r)→LeavesInM Fence.wide 0 P fn L.tmps (fun e w'=>∃v S' β',e=.returned v∧Inv C S' w' β' []∧Am S' w' β' r v) L.defers .returning w':=by
  rintro⟨xs,h1,U⟩;refine hs.leave fun w' hs=>?_;obtain⟨v,h3,h4⟩:=C2y (P:=P) hs h1;refine⟨v,h3,v,fun b=>S' b∨∃k c,(k,c)∈bx'∧(β' k).base=some b,β',rfl,?_,?_⟩
  ·exact {
    Ek:=fun b E=>.inl (hs.inv.Ek b E)
    Dx:=fun b E=>by
     rcases E with E| ⟨k,c,I,E⟩
     ·exact hs.inv.Dx b E
     ·exact .inr (hs.inv.B8 k c I b E).2.2
    Bi:=fun b E=>by
     rcases E with E| ⟨k,c,I,E⟩
     ·exact hs.inv.Bi b E
     ·exact (hs.inv.B8 k c I b E).2.1
    kept:=hs.inv.kept
    os:=hs.inv.os
    tape:=hs.inv.tape
    output:=hs.inv.output
    size:=hs.inv.size
    box:=fun k c I=>by simp at I
    B8:=fun k c I=>by simp at I
    inj:=fun k c W c' I=>by simp at I
    D9:=fun b cs J=>⟨.inl (hs.inv.D9 b cs J).1,(hs.inv.D9 b cs J).2⟩
    one:=fun k Y st W Y' R I=>by simp at I
    Ez:=fun k Y st I=>by simp at I
    fix:=hs.inv.fix }
  ·exact (A5e hs.inv ⟨fun _ h=>.inl h,fun _ _=>rfl⟩ (fun k c I b E=>.inr ⟨k,c,I,E⟩) U h4).1
 cases e with
 |normal=>exact key q
 |ret=>exact key q
 |_=>exact q.elim
structure Pq where
 fb:Nat→SV
 fa:SV
 fm:SV
mutual
def SV.sub (k:Nat)(f:Pq):SV→SV
 |.box j off=>if j=k then f.fb off else .box j off
 |.acc j=>if j=k then f.fa else .acc j
 |.mp j=>if j=k then f.fm else .mp j
 |.Eb j i off=>.Eb j i off
 |.agg cs=>.agg (SV.Kq k f cs)
 |.tuple cs=>.tuple (SV.Kq k f cs)
 |.Bf g cs=>.Bf g (SV.Kq k f cs)
 |.undef=>.undef
 |.d x=>.d x
 |.Ag c off=>.Ag c off
 |.Fm l=>.Fm l
 |.Fh cs off=>.Fh (SV.Kq k f cs) off
def SV.Kq (k:Nat)(f:Pq):List SV→List SV
 |[]=>[]
 |c::cs=>c.sub k f::SV.Kq k f cs
end
theorem SV.A3k (k:Nat)(f:Pq):∀cs:List SV,SV.Kq k f cs=cs.map (SV.sub k f)
 |[]=>rfl
 |c::cs=>by simp [SV.Kq,SV.A3k k f cs]
structure A8a (S S':Nat→Prop)(w:World) (β:Names)(k:Nat)(f:Pq):Prop where
 fb:∀off v,Am S w β (.box k off) v→Am S' w β (f.fb off) v
 fa:∀v,Am S w β (.acc k) v→Am S' w β f.fa v
 fm:∀v,Am S w β (.mp k) v→Am S' w β f.fm v
 one:(∀off,(f.fb off).one=true)∧f.fa.one=true∧f.fm.one=true
theorem SV.sub_one {S S':Nat→Prop} {k:Nat} {f:Pq} (E:A8a S S' w β k f) {x:SV} (h:x.one=true):(x.sub k f).one=true:=by
 cases x <;> simp only [SV.sub] <;> first
  |exact h
  |(split;exact E.one.1 _;rfl)
  |(split;exact E.one.2.1;rfl)
  |(split;exact E.one.2.2;rfl)
  |rfl
theorem Am.sub {S S':Nat→Prop} {k:Nat} {f:Pq} (U:A8a S S' w β k f)(e:Bo S w S' w) {x:SV} {v:Value} (h:Am S w β x v):Am S' w β (x.sub k f) v:=by
 induction h with
 |undef v=>exact .undef v
 |d x v h=>exact .d x v (h.ext e)
 |agg cells vs J R _ L =>
  simp only [SV.sub,SV.A3k];refine .agg _ vs (by simpa using J) ?_ ?_
  ·intro c I;obtain⟨x,E,rfl⟩:=Ax.1 I;exact SV.sub_one U (R x E)
  ·intro j c v I O;obtain⟨x,E,rfl⟩:=by simpa using I
   exact L j x v E O
 |tuple cells vs J _ L =>
  simp only [SV.sub,SV.A3k];refine .tuple _ vs (by simpa using J) ?_;intro j c v I O;obtain⟨x,E,rfl⟩:=by simpa using I
  exact L j x v E O
 |box j off b h =>
  simp only [SV.sub];split
  ·subst_vars;exact U.fb off _ (.box _ off b h)
  ·exact .box j off b h
 |Ag cells off b base J R V W=>exact Am.ext (.Ag cells off b base J R V W) e (fun _ _=>rfl)
 |acc j =>
  simp only [SV.sub];split
  ·subst_vars;exact U.fa _ (.acc _)
  ·exact .acc j
 |Eb j i off b h=>exact .Eb j i off b h
 |Fm l=>exact .Fm l
 |Fh cells off b hs J R _ L =>
  simp only [SV.sub,SV.A3k];refine .Fh _ off b (e.sub b hs) ?_ (by simpa using R) ?_
  ·intro c I;obtain⟨x,E,rfl⟩:=Ax.1 I;exact SV.sub_one U (J x E)
  ·intro j c v I O;obtain⟨x,E,rfl⟩:=by simpa using I
   exact L j x v E O
 |mp j b h =>
  simp only [SV.sub];split
  ·subst_vars;exact U.fm _ (.mp _ b h)
  ·exact .mp j b h
 |Bf f cells vs J _ L =>
  simp only [SV.sub,SV.A3k];refine .Bf f _ vs (by simpa using J) ?_;intro j c v I O;obtain⟨x,E,rfl⟩:=by simpa using I
  exact L j x v E O
def Ky (k:Nat)(f:Pq):SL→SL
 |[]=>[]
 |(t,x)::r=>(t,x.sub k f)::Ky k f r
def Ar.sub (k:Nat)(f:Pq):Ar→Ar
 |.cells cs=>.cells (SV.Kq k f cs)
 |c=>c
def Jg (k:Nat)(f:Pq):Ab→Ab
 |[]=>[]
 |(j,c)::r=>(j,c.sub k f)::Jg k f r
theorem C2x (k:Nat)(f:Pq):∀(sl:SL)(t:Nat),Ae (Ky k f sl) t=(Ae sl t).sub k f
 |[],t=>rfl
 |(u,x)::r,t=>by
  simp only [Ky,Ae];split
  ·rfl
  ·exact C2x k f r t
theorem P3 {k j:Nat} {f:Pq} {c:Ar} :∀{bx:Ab},(j,c)∈Jg k f bx→∃x,(j,x)∈bx∧c=x.sub k f
 |[],h=>by simp [Jg] at h
 |(i,x)::r,h=>by
  simp only [Jg,As,Df] at h;rcases h with ⟨L,I⟩| h
  ·subst L;exact⟨x,by simp,I⟩
  ·obtain⟨y,E,J⟩:=P3 h;exact⟨y,by simp [E],J⟩
theorem A0.A3n (k:Nat) {bc:Ar} {f:Pq} (hk:(k,bc)∈bx)
  (hf:∀(S:Nat→Prop) (w:World) (β:Names),Dh S w β (β k) bc→(∀b,(β k).base=some b→S b)→A8a S S w β k f)
  (h:A0 ro P n c Q (Ky k f sl) (Jg k f (C3 k bx))):A0 ro P n c Q sl bx:=by
 intro C S w β a hs
 let S':Nat→Prop:=fun b=>S b∨(β k).base=some b
 have e:Bo S w S' w:=⟨fun _ h=>.inl h,fun _ _=>rfl⟩;have E:=hs.inv;have a2:Dh S' w β (β k) bc:=(E.box k _ hk).ext e (fun _ _=>rfl) (fun _ _=>rfl);have a6:=hf S' w β a2 (fun b hb=>.inr hb);have hr:A8a S' S' w β k f:=a6;have Z:∀{x:SV} {v:Value},Am S w β x v→Am S' w β (x.sub k f) v:=fun hv=>(hv.ext e (fun _ _=>rfl)).sub hr (Bo.refl _ _);refine h C S' w β a ⟨?_,hs.size,hs.defers.ext e,fun t=>by rw [C2x];exact Z (hs.slot t)⟩;exact {
  Ek:=fun b hb=>.inl (E.Ek b hb)
  Dx:=fun b hb=>by
   rcases hb with hb| hb
   ·exact E.Dx b hb
   ·exact .inr (E.B8 k _ hk b hb).2.2
  Bi:=fun b hb=>by
   rcases hb with hb| hb
   ·exact E.Bi b hb
   ·exact (E.B8 k _ hk b hb).2.1
  kept:=E.kept
  os:=E.os
  tape:=E.tape
  output:=E.output
  size:=E.size
  box:=fun j c U=>by
   obtain⟨x,I,rfl⟩:=P3 U;obtain⟨a4,I⟩:=Dq.1 I;have:=E.box j x I;cases x with
   |cells cs =>obtain⟨b,ty,vs,W,h2,h3⟩:=this;refine⟨b,ty,vs,W,h2,?_⟩;rw [SV.A3k];refine h3.map (by simp) ?_;intro i x y v O hy hv;simp only [D3,O,E8,Av] at hy;subst hy;exact Z hv
   |rows sz rs=>exact Dh.ext (c:=.rows sz rs) this e (fun _ _=>rfl) (fun _ _=>rfl)
   |map kvs=>exact Dh.ext (c:=.map kvs) this e (fun _ _=>rfl) (fun _ _=>rfl)
   |iter kvs seen=>exact Dh.ext (c:=.iter kvs seen) this e (fun _ _=>rfl) (fun _ _=>rfl)
   |ghost Y st=>exact this
  B8:=fun j c U b hb=>by
   obtain⟨x,I,rfl⟩:=P3 U;obtain⟨a4,I⟩:=Dq.1 I;obtain⟨W,h2,h3⟩:=E.B8 j x I b hb;refine⟨fun hs=>?_,h2,h3⟩;rcases hs with hs| hs
   ·exact W hs
   ·exact a4 (E.inj j x k _ I hk b hb hs).1
  inj:=fun j c j' c' U a1 b hb a5=>by obtain⟨x,I,rfl⟩:=P3 U;obtain⟨x',O,rfl⟩:=P3 a1;obtain⟨W,h2⟩:=E.inj j x j' x' (Dq.1 I).2 (Dq.1 O).2 b hb a5;exact⟨W,by rw [h2]⟩
  D9:=fun b cs hv=>⟨.inl (E.D9 b cs hv).1,(E.D9 b cs hv).2⟩
  one:=fun j Y st j' Y' a3 U a1=>by
   obtain⟨x,I,L⟩:=P3 U;obtain⟨x',O,V⟩:=P3 a1;have e1:x=.ghost Y st:=by cases x <;> simp only [Ar.sub,reduceCtorEq] at L;exact L.symm
   have e2:x'=.ghost Y' a3:=by cases x' <;> simp only [Ar.sub,reduceCtorEq] at V;exact V.symm
   subst e1;subst e2;exact E.one j Y st j' Y' a3 (Dq.1 I).2 (Dq.1 O).2
  Ez:=fun j Y st U=>by
   obtain⟨x,I,L⟩:=P3 U;have a7:x=.ghost Y st:=by cases x <;> simp only [Ar.sub,reduceCtorEq] at L;exact L.symm
   subst a7;obtain⟨W,h2,h3,h4,B,h5,h6⟩:=E.Ez j Y st (Dq.1 I).2;have a8:=E.size;have hB:∀b,B b→¬S' b:=fun b hb hs=>hs.elim (h6 b hb).1 ((h6 b hb).2.2.2 k _ hk);have a0:∀R c',(R,c')∈Jg k f (C3 k bx)→∃y,(R,y)∈bx:=fun R c' J=>by obtain⟨y,hy,_⟩:=P3 J;exact⟨y,(Dq.1 hy).2⟩
   refine⟨W,h2,h3,fun R c' J=>(a0 R c' J).elim fun y hy=>h4 R y hy,B,h2.Sf st B S w _ w h5 ⟨fun _ h=>.inl h,fun b hb=>hb.imp id fun hb=>by rw [W];exact h4 k _ hk b hb,fun b hb=>?_,hB,fun _ _=>rfl,rfl,rfl,rfl,Cq _⟩,
    fun b hb=>⟨hB b hb,(h6 b hb).2.1,(h6 b hb).2.2.1,fun R c' J=>(a0 R c' J).elim fun y hy=>(h6 b hb).2.2.2 R y hy⟩⟩
   rcases hb with hb| hb
   ·exact E.Bi b hb
   ·exact (E.B8 k _ hk b hb).2.1
  fix:=E.fix }
theorem A0.Kx (k:Nat) {sz:Nat} {rs:List (List D)} (J:A7 bx k=some (.rows sz rs))
  (h:A0 ro P n c Q (Ky k ⟨fun off=>.box k off,.d (.slice rs),.mp k⟩ sl) (Jg k ⟨fun off=>.box k off,.d (.slice rs),.mp k⟩ (C3 k bx))):A0 ro P n c Q sl bx :=
 A0.A3n k (G0 J) (fun S w β L I=>⟨fun off v E=>E,fun v E=>by cases E;exact .d _ _ (L.A9y I),fun v E=>E,fun _=>rfl,rfl,rfl⟩) h
theorem A0.zz (k:Nat) {cs:List SV} {ds:List D} (V:A7 bx k=some (.cells cs))(hd:Ru cs=some ds)
  (h:A0 ro P n c Q (Ky k ⟨fun off=>.Ag ds off,.acc k,.mp k⟩ sl) (Jg k ⟨fun off=>.Ag ds off,.acc k,.mp k⟩ (C3 k bx))):A0 ro P n c Q sl bx:=by
 refine A0.A3n k (G0 V) (fun S w β Z U=>⟨fun off v E=>?_,fun v E=>E,fun v E=>E,fun _=>rfl,rfl,rfl⟩) h;obtain⟨b,ty,vs,O,J,L⟩:=Z;obtain⟨q1,W,R⟩:=B0h cs ds vs hd L;have hl:=L.1;cases E with
 |box _ _ b' I =>
  rw [O] at I;cases I;have:=Am.Ag (S:=S) (w:=w) (β:=β) ds off b 0 (U b O) W (fun j hj=>⟨vs[j]'(by omega),by rw [cells_of_row J,I2];exact Ba _⟩)
   (fun j d v hd E=>R j d v hd (by rw [cells_of_row J,I2] at E;exact E))
  simpa using this
theorem A0.E5h (k:Nat) {cs:List SV} (V:A7 bx k=some (.cells cs))(Z:cs.all SV.one=true)
  (h:A0 ro P n c Q (Ky k ⟨fun off=>.Fh cs off,.acc k,.mp k⟩ sl) (Jg k ⟨fun off=>.Fh cs off,.acc k,.mp k⟩ (C3 k bx))):A0 ro P n c Q sl bx:=by
 refine A0.A3n k (G0 V) (fun S w β W U=>⟨fun off v E=>?_,fun v E=>E,fun v E=>E,fun _=>rfl,rfl,rfl⟩) h;obtain⟨b,ty,vs,O,R,L⟩:=W;have hl:=L.1;cases E with
 |box _ _ b' I =>
  rw [O] at I;cases I;exact .Fh cs off b (U b O) (fun c J=>Cf.1 Z c J) (fun j hj=>⟨vs[j]'(by omega),by rw [cells_of_row R];exact Ba _⟩)
   (fun j c v J E=>L.2 j c v J (by rw [cells_of_row R] at E;exact E))
theorem A0.E7y (k:Nat) {kvs:List (D × D)} (J:A7 bx k=some (.map kvs))
  (h:A0 ro P n c Q (Ky k ⟨fun off=>.box k off,.acc k,.d (.map kvs)⟩ sl) (Jg k ⟨fun off=>.box k off,.acc k,.d (.map kvs)⟩ (C3 k bx))):A0 ro P n c Q sl bx:=by
 refine A0.A3n k (G0 J) (fun S w β hb Z=>⟨fun off v L=>L,fun v L=>L,fun v L=>?_,fun _=>rfl,rfl,rfl⟩) h;obtain⟨b,es,E,U,V,W,R⟩:=hb;cases L with
 |mp _ b' I =>rw [U] at I;cases I;exact .d _ _ (.map _ b es E (Z b U) V W (fun i kv e J O=>(R i kv e J O).1) (fun i kv e J O=>(R i kv e J O).2))
theorem A0.pp (k sz t:Nat)(hd:Ae sl t=.d .nil)(h:A0 ro P n c Q ((t,.acc k)::Ub k sl) ((k,.rows sz [])::H7 k (C3 k bx)))(I:k≤999999:=by decide):A0 ro P n c Q sl bx:=by
 intro C S w β a hs;obtain⟨O,J⟩:=hs.inv.Vo (k:=k) (w':=w) (c:=.rows sz []) { base:=none,sz:=sz } I (by simp) (fun _ _ _=>rfl) rfl rfl rfl (Cq _) (fun _=>B8n);refine h C S w _ a ⟨O,hs.size,hs.defers,?_⟩;intro u;simp only [Ae];split
 ·rename_i L;subst L;have E:=hs.slot t;rw [hd] at E;generalize a.tmps.getD t undef=v at E;cases E with
  |d _ _ E =>cases E;have:=Am.acc (S:=S) (w:=w) (β:=E3 β k { base:=none,sz:=sz }) k;rw [G8] at this;exact this
 ·rw [A5j];exact (hs.slot u).Qu J
end Go.Abs
namespace Go.Abs
open Go
variable {P:Program} {o:Oper} {ρ:Hq} {bx:Ab}
def D.lit:D→Lit
 |.str s=>.string s
 |.int k n=>.int k n
 |.bool b=>.bool b
 |_=>.nil
def D.flatK:D→Bool
 |.str _| .int _ _| .bool _=>true
 |_=>false
def D.lits:D→List Lit
 |.agg cs=>cs.map D.lit
 |d=>[d.lit]
def D.kv:D→Value
 |.agg cs=>.agg ⟨cs.map fun c=>c.lit.value⟩
 |d=>d.lit.value
def D.isKey:D→Bool
 |.agg cs=>cs.all D.flatK
 |d=>d.flatK
variable {S:Nat→Prop} {w:World}
theorem Br.D1g {d:D} {v:Value} (h:Br S w d v)(E:d.flatK=true):v=d.lit.value:=by cases h <;> simp [D.flatK] at E <;> rfl
theorem Br.kv {d:D} {v:Value} (h:Br S w d v)(I:d.isKey=true):v=d.kv:=by
 cases h with
 |agg cells vs U O L =>
  simp only [D.kv,Value.agg.injEq];apply I6;simp only;apply Lu;intro j;rw [D3];cases E:cells[j]? with
  |none =>have:=List.getElem?_eq_none_iff.1 E;rw [Xn (by omega)];rfl
  |some c =>have R:=(Ay.1 E).1;have J:vs[j]? = some (vs[j]'(by omega)):=Ba (by omega);rw [J];have:=L j c _ E J;simp only [D.isKey,Cf] at I;rw [this.D1g (I c (Bx E))];rfl
 |_=>first| exact Br.D1g (by assumption) I| (simp [D.isKey,D.flatK] at I;done)| rfl
structure Fq (P:Program)(kt:TypeId)(d:D):Prop where
 isKey:d.isKey=true
 formed:d.kv.formed P kt=true
 lits:P.keyLits (P.types.size+1) kt d.kv.cells.toList=some d.lits
def Q1 (P:Program)(E:TypeId):Bool:=P.keyTypeAt 100 E && match P.underlying E with
 |some .string| some (.struct _)| some (.array _ _)=>true
 |_=>false
theorem Fq.same {J:TypeId} {d E:D} (h:Fq P J d)(L:Fq P J E)(e:d.lits=E.lits):d.kv=E.kv:=by
 have f1:=h.formed;have f2:=L.formed;have m:∀a b:List D,a.map D.lit=b.map D.lit→(a.map fun c=>c.lit.value)=b.map fun c=>c.lit.value:=fun a b I=>by have:=K9 (List.map Lit.value) I;simpa [Fx,Function.comp_def] using this
 have R:=h.isKey;have O:=L.isKey;cases d with
 |agg cs =>
  cases E with
  |agg cs'=>simp only [D.lits] at e;simp only [D.kv];rw [m cs cs' e]
  |str _| int _ _| bool _ =>simp only [D.kv,D.lit,Lit.value,Value.formed] at f1 f2;split at f1 <;> simp_all
  |_=>simp [D.isKey,D.flatK] at O
 |str _| int _ _| bool _ =>
  cases E with
  |agg cs' =>simp only [D.kv,D.lit,Lit.value,Value.formed] at f1 f2;split at f2 <;> simp_all
  |str _| int _ _| bool _=>simp only [D.lits,Aq4,S8] at e;simp only [D.kv];rw [e]
  |_=>simp [D.isKey,D.flatK] at O
 |_=>simp [D.isKey,D.flatK] at R
theorem E6q (l:Lit)(h:l≠.nil):Instr.sameBits 9999 l.value l.value=true:=by cases l <;> simp only [Lit.value,Instr.sameBits,ne_eq,Av9,beq_self_eq_true,Bool.and_self] at * <;> first| exact (Aw0 _ _).2 rfl| skip
theorem G0h {d:D} (h:d.isKey=true):Instr.sameBits 10000 d.kv d.kv=true:=by
 cases d with
 |agg cs =>
  simp only [D.kv,Instr.sameBits,beq_self_eq_true,Ca];simp only [D.isKey,Cf] at h;rw [Cf];intro p O;obtain⟨i,J⟩:=Nt.1 O;rw [Ak6] at J;obtain⟨L,I⟩:=J;have U:p.1=p.2:=by rw [L] at I;exact As5 I
  obtain⟨c,R,E⟩:=Ax.1 (Bx L);rw [←U,←E];refine E6q _ ?_;have:=h c R;cases c <;> simp [D.flatK] at this <;> simp [D.lit]
 |_=>first| (simp [D.isKey,D.flatK] at h;done)| (simp [D.kv,D.lit,Lit.value,Instr.sameBits];done)| exact (Aw0 _ _).2 rfl
instance litDec:DecidableEq Lit:=by intro a b;cases a <;> cases b <;> simp only [Lit.bool.injEq,Lit.int.injEq,Lit.float.injEq,Lit.string.injEq,reduceCtorEq] <;> infer_instance
def G1 (l:List Lit):List (D × D)→Nat→Option (Nat × D)
 |[],_=>none
 |kv::r,i=>if l=kv.1.lits then some (i,kv.2) else G1 l r (i+1)
def Y6 (k v:D)(kvs:List (D × D)):List (D × D):=match G1 k.lits kvs 0 with
 |some (j,_)=>kvs.set j (k,v)
 |none=>kvs++[(k,v)]
theorem F6h {E:TypeId} (I:Q1 P E=true)(w:World) {a b:D} (J:Fq P E a)(L:Fq P E b) :
  ∃r:Bool,(Op.equal E a.kv b.kv).run P w=.ok r w∧(r=true↔a.lits=b.lits):=by
 unfold Q1 at I;simp only [B1] at I;exact run_equalIn_deep 9900 100 E I.1 w _ _ a.kv b.kv a.lits b.lits J.formed L.formed J.lits L.lits
theorem C6r {E:TypeId} (I:Q1 P E=true)(L:Bool)(w:World) {a:D} (J:Fq P E a):(Instr.checkKey L 10000 E a.kv).run P w=.ok () w:=by unfold Q1 at I;simp only [B1] at I;exact run_checkKey_deep L 9900 100 E I.1 w _ a.kv a.lits J.formed J.lits
def Found (E:List MapEntry)(i:Nat):Option (Nat × D)→Option (Nat × Value)→List (D × D)→Prop
 |none,r,_=>r=none
 |some (j,d),r,kvs=>∃e k,i≤j∧E[j - i]? = some e∧kvs[j - i]? = some (k,d)∧r=some (j,e.val)
theorem D3y {O:TypeId} (Z:Q1 P O=true)(w:World) {a:D} (W:Fq P O a):∀(L:List MapEntry)(kvs:List (D × D))(i:Nat),L.length=kvs.length →
  (∀(j:Nat) (e:MapEntry) (kv:D × D),L[j]? = some e→kvs[j]? = some kv→e.key=kv.1.kv∧Fq P O kv.1) →
  ∃r,(Instr.findAsking O a.kv L i).run P w=.ok r w∧Found L i (G1 a.lits kvs i) r kvs
 |[],[],i,_,_=>⟨none,by simp [Instr.findAsking],rfl⟩
 |[],_::_,_,h,_=>by simp at h
 |_::_,[],_,h,_=>by simp at h
 |e::L,kv::kvs,i,h,I=>by
  obtain⟨V,h2⟩:=I 0 e kv rfl rfl;obtain⟨r,hr,E⟩:=F6h Z w W h2;simp only [G1];by_cases J:a.lits=kv.1.lits
  ·rw [A8 J];have:r=true:=E.2 J;subst this;exact⟨some (i,e.val),by simp [Instr.findAsking,V,hr],e,kv.1,by omega,by simp,by simp,rfl⟩
  ·rw [A6 J];have:r=false:=by cases r with| false=>rfl| true=>exact absurd (E.1 rfl) J
   subst this;obtain⟨r,g1,U⟩:=D3y Z w W L kvs (i+1) (by simpa using h) (fun j e kv J R=>I (j+1) e kv (by simpa using J) (by simpa using R));refine⟨r,by simp [Instr.findAsking,V,hr,g1],?_⟩;generalize G1 a.lits kvs (i+1)=q at *;cases q with
   |none=>exact U
   |some jd =>
    obtain⟨j,d⟩:=jd;obtain⟨e',k',q1,q2,q3,q4⟩:=U;refine⟨e',k',by omega,?_,?_,q4⟩
    ·rw [show j - i=(j - (i+1))+1 by omega];simpa using q2
    ·rw [show j - i=(j - (i+1))+1 by omega];simpa using q3
theorem D7v {O:TypeId} (hs:P.underlying O=some .string) {a:D} (U:Fq P O a):∀(J:List MapEntry)(kvs:List (D × D))(i:Nat),J.length=kvs.length →
  (∀(j:Nat) (e:MapEntry) (kv:D × D),J[j]? = some e→kvs[j]? = some kv→e.key=kv.1.kv∧Fq P O kv.1) →
  ∃r,Instr.findNow .string a.kv J i=some r∧Found J i (G1 a.lits kvs i) r kvs
 |[],[],i,_,_=>⟨none,by simp [Instr.findNow],rfl⟩
 |[],_::_,_,h,_=>by simp at h
 |_::_,[],_,h,_=>by simp at h
 |e::J,kv::kvs,i,h,I=>by
  obtain⟨h1,W⟩:=I 0 e kv rfl rfl;have str:∀{d:D},Fq P O d→∃s,d=.str s:=fun {d} hd=>by
   have f:=hd.formed;have l:=hd.lits;have k:=hd.isKey;cases d with
   |str s=>exact⟨s,rfl⟩
   |agg cs=>simp [D.kv,Value.formed,hs] at f
   |int k n=>simp [D.kv,D.lit,Lit.value,Program.keyLits,hs,Value.cells] at l
   |bool b=>simp [D.kv,D.lit,Lit.value,Program.keyLits,hs,Value.cells] at l
   |_=>simp [D.isKey,D.flatK] at k
  obtain⟨s,rfl⟩:=str U;obtain⟨k,d⟩:=kv;obtain⟨t,rfl⟩:=str W;simp only [G1];have E:Instr.sameNow .string (D.str s).kv e.key=some (decide (s=t)):=by
   rw [h1];simp only [D.kv,D.lit,Lit.value,Instr.sameNow,Av];rw [Aq5];rw [Aw0];simp only [ByteArray.mk.injEq,D8];constructor
   ·intro h;have:=K9 Array.toList h;simpa using this
   ·rintro rfl;rfl
  by_cases L:s=t
  ·subst L;rw [A8 rfl];exact⟨some (i,e.val),by simp [Instr.findNow,E],e,_,by omega,by simp,by simp;rfl,rfl⟩
  ·rw [A6 (by simpa [D.lits,D.lit] using L)];obtain⟨r,g1,V⟩:=D7v hs U J kvs (i+1) (by simpa using h) (fun j e kv L R=>I (j+1) e kv (by simpa using L) (by simpa using R));refine⟨r,by simp [Instr.findNow,E,L,g1],?_⟩;generalize G1 (D.str s).lits kvs (i+1)=q at *;cases q with
   |none=>exact V
   |some jd =>
    obtain⟨j,d⟩:=jd;obtain⟨e',k',q1,q2,Z,q4⟩:=V;refine⟨e',k',by omega,?_,?_,q4⟩
    ·rw [show j - i=(j - (i+1))+1 by omega];simpa using q2
    ·rw [show j - i=(j - (i+1))+1 by omega];simpa using Z
theorem D6y {J:TypeId} (W:Q1 P J=true)(w:World) {a:D} (V:Fq P J a)(L:List MapEntry)(kvs:List (D × D))(U:L.length=kvs.length)
  (E:∀(j:Nat) (e:MapEntry) (kv:D × D),L[j]? = some e→kvs[j]? = some kv→e.key=kv.1.kv∧Fq P J kv.1) :
  ∃r,(Instr.findKey J a.kv L).run P w=.ok r w∧Found L 0 (G1 a.lits kvs 0) r kvs:=by
 by_cases hs:P.underlying J=some .string
 ·obtain⟨r,R,O⟩:=D7v hs V L kvs 0 U E;exact⟨r,MapKept.run_findKey hs R,O⟩
 ·have Z:(match P.underlying J with| some (.array _ _)| some (.struct _)=>true| _=>false)=true:=by
   have I:=W;unfold Q1 at I;simp only [B1] at I;have:=I.2;split at this <;> simp_all
  obtain⟨r,R,O⟩:=D3y W w V L kvs 0 U E;exact⟨r,by rw [run_findKey_eq w Z];exact R,O⟩
def N8:SV→Option D
 |.d x=>some x
 |.agg cs=>(Ru cs).map .agg
 |_=>none
def ofD:D→SV
 |.agg cs=>.agg (cs.map .d)
 |d=>.d d
variable {β:Names}
theorem C5h {x:SV} {d:D} {v:Value} (h:Am S w β x v)(hd:N8 x=some d):Br S w d v:=by
 cases h with
 |d x v h=>simp only [N8,Av] at hd;subst hd;exact h
 |agg cells vs O R J =>simp only [N8,Ij] at hd;obtain⟨ds,E,rfl⟩:=hd;obtain⟨U,L,I⟩:=B0h cells ds vs E ⟨O,J⟩;exact .agg ds vs (by omega) L I
 |_=>simp [N8] at hd
theorem F5f {d:D} {v:Value} (h:Br S w d v):Am S w β (ofD d) v:=by
 cases h with
 |agg cells vs O I J =>
  refine .agg _ vs (by simpa using O) ?_ ?_
  ·intro c E;obtain⟨d,hd,rfl⟩:=Ax.1 E;exact I d hd
  ·intro j c v E L;rw [D3,Ij] at E;obtain⟨d,hd,rfl⟩:=E;exact .d _ _ (J j d v hd L)
 |int| bool| str| nil| emp| Ja| slice| ptr| Lb| map| M6| iface| J3| fn| Kz| cl=>exact .d _ _ (by constructor <;> assumption)
def A5n (P:Program)(T:TypeId):Option SV:=match (P.info? T).bind (·.zero) with
 |some (.agg _)=>none
 |some z=>some (Kc z)
 |none=>none
theorem E3v {T:TypeId} {z:SV} (h:A5n P T=some z)(w:World):∃v,(zeroValue T).run P w=.ok v w∧z=Kc v:=by
 unfold A5n at h;cases E:P.info? T with
 |none=>simp [E] at h
 |some i =>
  cases I:i.zero with
  |none=>simp [E,I] at h
  |some v =>
   simp only [E,I,Ao7] at h;refine⟨v,by simp [zeroValue,typeInfo,E,I],?_⟩;split at h
   ·simp at h
   ·rename_i e;simp only [Av] at e h;subst e;exact h.symm
   ·rename_i e;simp at e
theorem F1g {T k:Nat} (E:k≤999999)(O:o.op=.makeMap T none):Bt P o ρ bx (.mp k) ((k,.map [])::H7 k (C3 k bx)) [k]:=by
 intro C S w β a J V;obtain⟨U,L⟩:=J.Vo (k:=k) (w':={ w with heap:=w.heap.push (.map #[] 0) }) (c:=.map []) { base:=some w.heap.size } E (by
   intro b I;cases I;exact⟨fun h=>by have:=J.Bi _ h;omega,by simp,.inl (Cq _)⟩)
  (fun b I _=>by simp [Av1,Nat.ne_of_lt I]) rfl rfl rfl (by simp) (fun _=>by refine⟨w.heap.size,#[],0,rfl,by simp,⟨rfl,by simp [A2j]⟩,?_⟩;intro r kv e hr;simp at hr)
 refine He ?_;unfold Oper.wp;have:(execOp a.eval o).run P w=.ok (.value (.map (some w.heap.size))) { w with heap:=w.heap.push (.map #[] 0) }:=by simp [execOp,O,Instr.makeMap,newObj];rfl
 rw [this];exact⟨_,S,_,rfl,U,L,.mp k _ (by rw [G8]),fun j R=>Jk (by simpa using R)⟩
theorem C4h {L:TypeId} {kvs:List (D × D)} {J:Array MapEntry} (R:J.size=kvs.length)
  (h:∀(r:Nat) (kv:D × D) (e:MapEntry),kvs[r]? = some kv→J[r]? = some e→Br S w kv.1 e.key) (I:∀kv,kv∈kvs→Fq P L kv.1) :
  ∀(j:Nat) (e:MapEntry) (kv:D × D),J.toList[j]? = some e→kvs[j]? = some kv→e.key=kv.1.kv∧Fq P L kv.1:=by
 intro j e kv U E;have O:=I kv (Bx E);exact⟨(h j kv e E (by simpa using U)).kv O.isKey,O⟩
theorem D7h {C:Ctx} {k r:Nat} {x:Ar} {kvs:List (D × D)} (W:Inv C S w β bx)(hb:(k,x)∈bx)(I:(β k).base=some r)(U:r < w.heap.size)
  (L:Array MapEntry) (E:Nat) (V:MSz L E kvs.length) (O:∀(j:Nat) (kv:D × D) (e:MapEntry),kvs[j]? = some kv→L[j]? = some e→Br S w kv.1 e.key∧Br S w kv.2 e.val) :
  Inv C S { w with heap:=w.heap.setIfInBounds r (.map L E) } β ((k,.map kvs)::C3 k bx)∧Bo S w S { w with heap:=w.heap.setIfInBounds r (.map L E) }:=by
 refine W.A6a hb I (fun b' J=>by simp [Array.getElem?_setIfInBounds,Pp J]) rfl rfl rfl (by simp) ?_;have Z:Bo S w S { w with heap:=w.heap.setIfInBounds r (.map L E) } :=
  ⟨fun _ h=>h,fun b' J=>by have:b'≠r:=fun R=>(W.B8 k _ hb r I).1 (R ▸ J);simp [Array.getElem?_setIfInBounds,Pp this]⟩
 exact⟨r,L,E,I,by simp [Array.getElem?_setIfInBounds,U],V,fun j kv e hk R=>⟨(O j kv e hk R).1.ext Z,(O j kv e hk R).2.ext Z⟩⟩
theorem C6g (l:List Lit):∀(kvs:List (D × D))(i j:Nat)(d:D),G1 l kvs i=some (j,d)→∃k,i≤j∧kvs[j - i]? = some (k,d)∧l=k.lits
 |[],_,_,_,h=>by simp [G1] at h
 |kv::r,i,j,d,h=>by
  simp only [G1] at h;split at h
  ·rename_i I;simp only [Av,Df] at h;obtain⟨rfl,rfl⟩:=h;exact⟨kv.1,Cq _,by simp,I⟩
  ·obtain⟨k,L,E,J⟩:=C6g l r (i+1) j d h;exact⟨k,by omega,by rw [show j - i=(j - (i+1))+1 by omega];simpa using E,J⟩
theorem E8s {T kt et k:Nat} {m x y:Operand} (ho:o.op=.mapUpdate T m x y) {kvs:List (D × D)} {kd vd:D} (hm:ρ m=.mp k)(hb:(k,Ar.map kvs)∈bx)
  (hT:P.underlying T=some (.map kt et)) (a7:Q1 P kt=true) (hx:N8 (ρ x)=some kd) (V:Fq P kt kd) (Z:∀kv,kv∈kvs→Fq P kt kv.1) (hy:N8 (ρ y)=some vd) :
  Bt P o ρ bx (.tuple []) ((k,.map (Y6 kd vd kvs))::C3 k bx) []:=by
 intro C S w β a hi ha;have a2:=ha m (mC ho);rw [hm] at a2;have a5:=C5h (ha x (mC ho)) hx;have a9:=C5h (ha y (mC ho)) hy;have a6:=a5.kv V.isKey;obtain⟨r,es,E,I,hh,a3,W⟩:=hi.box k _ hb;have U:=a3.1;generalize a8:a.eval m=mv at a2;cases a2 with
 |mp _ b L =>
  rw [I] at L;cases L;obtain⟨q,hq,hf⟩:=D6y a7 w V es.toList kvs (by simpa using U) (C4h U (fun r kv e h1 h2=>(W r kv e h1 h2).1) Z);have R:=C6r a7 false w V;have a':r < w.heap.size:=(hi.B8 k _ hb r I).2.1;rw [←a6] at hq R;unfold Y6;cases a0:G1 kd.lits kvs 0 with
  |none =>
   rw [a0] at hf;simp only [Found] at hf;subst hf;obtain⟨h1,h2⟩:=D7h (kvs:=kvs++[(kd,vd)]) hi hb I a' (es.push { key:=a.eval x,val:=a.eval y,born:=E }) (E+1) ⟨by simp [U],a3.2.push _ _⟩ (by
    intro j kv e J O;rw [List.getElem?_append] at J;rw [Av1] at O;split at J
    ·rw [A6 (by omega)] at O;exact W j kv e J O
    ·rename_i hj;have ab:j - kvs.length=0:=by
      have:=(Ay.1 J).1;simp at this;omega
     rw [ab] at J;rw [A8 (by omega)] at O;simp only [Iz,Av] at J O;subst J O;exact⟨a5,a9⟩)
   refine He ?_;unfold Oper.wp;rw [show (execOp a.eval o).run P w=.ok .skip { w with heap:=w.heap.setIfInBounds r (.map (es.push { key:=a.eval x,val:=a.eval y,born:=E }) (E+1)) } by simp [execOp,ho,a8,Instr.mapUpdate,Zn hT,Ak5 hh,R,hq,MapKept.run_setObj_map _ hh]]
   exact⟨undef,S,β,rfl,h1,h2,.tuple [] [] rfl (by simp),fun _ _=>rfl⟩
  |some jd =>
   obtain⟨j,d⟩:=jd;rw [a0] at hf;obtain⟨e,k',_,g1,g2,rfl⟩:=hf;simp only [As4,Wd] at g1 g2;have aa:e.key=a.eval x:=by obtain⟨p1,p2⟩:=C4h U (fun r kv e h1 h2=>(W r kv e h1 h2).1) Z j e (k',d) (by simpa using g1) g2;obtain⟨k2,_,q2,q3⟩:=C6g _ _ _ _ _ a0;simp only [As4] at q2;rw [g2] at q2;simp only [Av,Df,S8] at q2;subst q2;rw [p1,a6];exact (V.same p2 q3).symm
   have a4:(Instr.keyThatStays (a.eval x) (a.eval x)).run P w=.ok (a.eval x) w:=by rw [a6];simp [Instr.keyThatStays,G0h V.isKey]
   have hj:j < es.size:=(X6.1 g1).1;obtain⟨h1,h2⟩:=D7h (kvs:=kvs.set j (kd,vd)) hi hb I a' (es.modify j fun e=>{ e with key:=a.eval x,val:=a.eval y }) E ⟨by simp [U],a3.2.modify _ _ (fun _=>rfl)⟩ (by
    intro i kv e' J O;rw [Am6] at J;rw [Xx] at O;split at J
    ·rename_i a1;subst a1;rw [A8 rfl,g1] at O;simp only [E8,Av] at O;split at J
     ·simp only [Av] at J;subst J O;exact⟨a5,a9⟩
     ·simp at J
    ·rename_i a1;rw [A6 a1] at O;exact W i kv e' J O)
   refine He ?_;unfold Oper.wp;rw [show (execOp a.eval o).run P w=.ok .skip { w with heap:=w.heap.setIfInBounds r (.map (es.modify j fun e=>{ e with key:=a.eval x,val:=a.eval y }) E) } by simp [execOp,ho,a8,Instr.mapUpdate,Zn hT,Ak5 hh,R,hq,g1,aa,a4,MapKept.run_setObj_map _ hh]]
   exact⟨undef,S,β,rfl,h1,h2,.tuple [] [] rfl (by simp),fun _ _=>rfl⟩
inductive IsMap (bx:Ab):SV→List (D × D)→Prop where
 |mp (k:Nat) (kvs:List (D × D)):(k,Ar.map kvs)∈bx→IsMap bx (.mp k) kvs
 |d (kvs:List (D × D)):IsMap bx (.d (.map kvs)) kvs
theorem IsMap.rep {C:Ctx} {x:SV} {kvs:List (D × D)} {v:Value} (h:IsMap bx x kvs)(hi:Inv C S w β bx)(W:Am S w β x v) :
  ∃r O E,v=.map (some r)∧w.heap[r]? = some (.map O E)∧O.size=kvs.length∧∀(j:Nat) (kv:D × D) (e:MapEntry),kvs[j]? = some kv→O[j]? = some e→Br S w kv.1 e.key∧Br S w kv.2 e.val:=by
 cases h with
 |mp k kvs hb =>
  obtain⟨r,O,E,J,R,L,U⟩:=hi.box k _ hb;cases W with
  |mp _ b I =>rw [J] at I;cases I;exact⟨r,O,E,rfl,R,L.1,U⟩
 |d kvs =>
  cases W with
  |d _ _ h =>
   cases h with
   |map _ r O E hS R L h1 h2=>exact⟨r,O,E,rfl,R,L.1,fun j kv e V Z=>⟨h1 j kv e V Z,h2 j kv e V Z⟩⟩
theorem D8t {T U R:Nat} {x:Operand} (I:o.op=.call { callee:=.builtin .len,args:=#[x],argTypes:=#[T] }) {kvs:List (D × D)} (O:IsMap bx (ρ x) kvs)(hT:P.underlying T=some (.map U R)) :
  Bt P o ρ bx (.d (.int .i64 kvs.length)) bx [] :=
 .Ef fun _ _ w β a L J=>by obtain⟨r,es,E,W,V,Z,_⟩:=O.rep L (J x (mC I));exact⟨.int .i64 kvs.length,by simp [execOp,I,resolve,invoke,builtin,W,Builtin.len_,Zn hT,Ak5 V,Z,goInt],.int _ _⟩
def Tw (E:D)(kvs:List (D × D))(z:SV):SV:=match G1 E.lits kvs 0 with
 |some (_,d)=>ofD d
 |none=>z
def A2n (I:Bool)(E:D)(kvs:List (D × D))(z:SV):SV:=match I with
 |true=>.tuple [Tw E kvs z,.d (.bool (G1 E.lits kvs 0).isSome)]
 |false=>Tw E kvs z
theorem F7c {T kt et:Nat} {m x:Operand} {ok:Bool} (U:o.op=.lookup T m x ok) {kvs:List (D × D)} {kd:D} {z:SV} (hm:IsMap bx (ρ m) kvs)
  (hT:P.underlying T=some (.map kt et)) (V:Q1 P kt=true) (hx:N8 (ρ x)=some kd) (R:Fq P kt kd) (Z:∀kv,kv∈kvs→Fq P kt kv.1) (hz:A5n P et=some z) :
  Bt P o ρ bx (A2n ok kd kvs z) bx []:=by
 refine Bt.Ef fun C S w β a hi ha=>?_;have a5:=C5h (ha x (mC U)) hx;obtain⟨r,es,a3,L,hh,a0,a2⟩:=hm.rep hi (ha m (mC U));have a6:=a5.kv R.isKey;obtain⟨q,W,hf⟩:=D6y V w R es.toList kvs (by simpa using a0) (C4h a0 (fun r kv e h1 h2=>(a2 r kv e h1 h2).1) Z);have E:=C6r V es.isEmpty w R;rw [←a6] at W E;obtain⟨zv,a1,a4⟩:=E3v hz w;cases I:G1 kd.lits kvs 0 with
 |none =>
  rw [I] at hf;simp only [Found] at hf;subst hf;have J:Am S w β z zv:=by rw [a4];exact A3c S w β zv
  cases ok with
  |true =>refine⟨.tuple #[zv,.bool false],by simp [execOp,U,L,Instr.lookup,Zn hT,Ak5 hh,E,W,a1],?_⟩;simp only [A2n,Tw,I,L7];exact .tuple _ _ rfl (Bm.cons J (Bm.cons (.d _ _ (.bool _)) .nil)).2
  |false =>refine⟨zv,by simp [execOp,U,L,Instr.lookup,Zn hT,Ak5 hh,E,W,a1],?_⟩;simpa only [A2n,Tw,I] using J
 |some jd =>
  obtain⟨j,d⟩:=jd;rw [I] at hf;obtain⟨e,k',_,g1,g2,rfl⟩:=hf;simp only [As4,Wd] at g1 g2;have O:Am S w β (ofD d) e.val:=F5f (a2 j (k',d) e g2 g1).2;cases ok with
  |true =>refine⟨.tuple #[e.val,.bool true],by simp [execOp,U,L,Instr.lookup,Zn hT,Ak5 hh,E,W],?_⟩;simp only [A2n,Tw,I,Am2];exact .tuple _ _ rfl (Bm.cons O (Bm.cons (.d _ _ (.bool _)) .nil)).2
  |false =>refine⟨e.val,by simp [execOp,U,L,Instr.lookup,Zn hT,Ak5 hh,E,W],?_⟩;simpa only [A2n,Tw,I] using O
end Go.Abs
namespace Go.Abs
open Go
variable {P:Program} {o:Oper} {ρ:Hq} {bx:Ab}
theorem G4a {f:FuncId} {caps:Array Operand} (E:o.op=.makeFunc (.func f) #[] caps):Bt P o ρ bx (.Bf f (caps.toList.map ρ)) bx []:=by
 refine Bt.Ef fun C S w β a O J=>?_;refine⟨.func (.func f) #[] (caps.map a.eval),by simp [execOp,E,Instr.makeFunc],?_⟩;have:=Bm.Tk (ρ:=ρ) (S:=S) (w:=w) (β:=β) (a:=a) caps.toList fun x L=>J x (mo E (by simp [Op.operands];simpa using L));have I:caps.map a.eval=⟨caps.toList.map a.eval⟩:=by apply I6;simp
 rw [I];exact .Bf f _ _ this.1 this.2
theorem F4b {T e sz k:Nat} {x y:Operand} (ho:o.op=.slice T x (some y) none none)(a0:k≤999999) {rs:List (List D)} {ik:IntKind} {i:Int} (hx:ρ x=.acc k)(W:(k,Ar.rows sz rs)∈bx)
  (hy:ρ y=.d (.int ik i)) (hT:Dv P T=some e) (hs:Bs P e=some sz) (h0:0≤i) (h1:i≤rs.length) :
  Bt P o ρ bx (.acc k) ((k,.rows sz (rs.drop i.toNat))::H7 k (C3 k bx)) [k]:=by
 intro C S w β a V ha;have L:=ha x (mC ho);rw [hx] at L;have hv:a.eval x=Hk (β k):=by generalize a.eval x=v at L;cases L;rfl
 have R:=ha y (mC ho);rw [hy] at R;have a1:a.eval y=.int ik i:=R.J4;obtain⟨q1,q2,q3,q4,q5,q6,U⟩:=V.box k _ W
 let I:BI:={ β k with off:=if (β k).cap=i.toNat then (β k).off else (β k).off+i.toNat,len:=(β k).len - i.toNat,cap:=(β k).cap - i.toNat }
 have a3:i.toNat≤(β k).len:=by omega
 obtain⟨h1,h2⟩:=V.Vo (k:=k) (w':=w) (c:=.rows sz (rs.drop i.toNat)) I a0
  (fun b J=>⟨(V.B8 k _ W b J).1,(V.B8 k _ W b J).2.1,.inr ⟨_,W,J⟩⟩) (fun _ _ _=>rfl) rfl rfl rfl (Cq _) (fun _=>by
   refine⟨q1,by simp [I,q2],by simp only [I];omega,by simp;omega,fun row h=>q5 row (U5 h),fun row h=>q6 row (U5 h),?_⟩;show match (β k).base with| none=>_| some b=>_
   cases E:(β k).base with
   |none=>rw [E] at U;simp only [I];simp only at U;omega
   |some b =>
    rw [E] at U;obtain⟨ty,vs,g1,g2,g3⟩:=U;refine⟨ty,vs,g1,?_,?_⟩
    ·simp only [I];split
     ·rename_i hc;rw [hc,At4,Q6];exact Dk (H4 _ (by omega)) g2
     ·rw [show (β k).off+i.toNat+((β k).cap - i.toNat)=(β k).off+(β k).cap by omega];exact g2
    ·intro r j row d v hr hd hv;rw [Ri] at hr;have a4:=(Ay.1 hr).1;refine g3 (i.toNat+r) j row d v hr hd ?_;rw [←hv];simp only [I];rw [A6 (by omega),Mh])
 refine He ?_;unfold Oper.wp;have O:(execOp a.eval o).run P w=.ok (.value (Hk I)) w:=by
  have Z:=A1c hT w;have a2:(β k).cap=i.toNat→(β k).len=i.toNat:=fun h=>by omega
  simp only [execOp,ho,Instr.sliceAt,hv,a1,Hk,Hu,Z,H8,Instr.slice,Instr.sliceBounds,Instr.sliceBound,Kp,E8,Ap8,asIntOf,Ra hs];rw [A8 ⟨h0,by omega⟩];simp only [Kp,H8,Result.ok.injEq,Next.value.injEq,Value.slice.injEq,S8,I];split
  ·rfl
  ·cases (β k).base with
   |none=>rfl
   |some b=>simp [Addr.add,q1,Ei]
 rw [O];refine⟨_,S,_,rfl,h1,h2,?_,fun j hj=>Jk (by simpa using hj)⟩;have:=Am.acc (S:=S) (w:=w) (β:=E3 β k I) k;rw [G8] at this;exact this
variable {β:Names}
theorem Inv.D5c {C:Ctx} {S S':Nat→Prop} {w w':World} {g:Nat} {Y:Hj} {st W:Option Nat} (L:Inv C S w β bx)(hb:(g,Ar.ghost Y st)∈bx) {B B':Nat→Prop}
  (hB:∀b,B b→¬S b∧b < w.heap.size∧(C.pre b∨C.w0.heap.size≤b)∧∀U c',(U,c')∈bx→(β U).base≠some b)
  (t:A5h B S w B' S' w') (hF:C.G.F W B' S' w'):Inv C S' w' β ((g,.ghost Y W)::C3 g bx)∧Bo S w S' w':=by
 refine⟨?_,t.ext⟩;obtain⟨e1,e2,e3,e4,_⟩:=L.Ez g Y st hb;have a8:=L.size;have a7:=t.size;have V:∀b,(β g).base≠some b:=fun b h=>by have:(β g).base=none:=L.box g _ hb;rw [this] at h;cases h
 have I:∀k c,(k,c)∈(g,Ar.ghost Y W)::C3 g bx→(k=g∧c=.ghost Y W)∨(k≠g∧(k,c)∈bx):=fun k c hk=>by
  rcases As.1 hk with he| hk
  ·simp only [Df] at he;exact .inl he
  ·exact .inr (Dq.1 hk)
 have a0:∀b,B b∨w.heap.size≤b→C.pre b∨C.w0.heap.size≤b:=fun b E=>E.elim (fun h=>(hB b h).2.2.1) fun h=>.inr (by omega);have O:∀k c,(k,c)∈bx→∀b,(β k).base=some b→¬B b∧b < w.heap.size∧w'.heap[b]? = w.heap[b]?:=fun k c hk b E=>by have R:¬B b:=fun h=>(hB b h).2.2.2 k c hk E;have Z:=(L.B8 k c hk b E).2.1;exact⟨R,Z,t.kept b Z R⟩
 exact {
  Ek:=fun b E=>t.ext.sub b (L.Ek b E)
  Dx:=fun b E=>by
   rcases t.new b E with h| h
   ·exact L.Dx b h
   ·exact .inr (a0 b h)
  Bi:=t.lt
  kept:=fun b E hp=>by
   rw [←L.kept b E hp];refine t.kept b (by omega) fun h=>?_;rcases (hB b h).2.2.1 with h' | h'
   ·exact hp h'
   ·omega
  os:=t.os.trans L.os
  tape:=t.tape.trans L.tape
  output:=t.output.trans L.output
  size:=by omega
  box:=fun k c hk=>by
   rcases I k c hk with ⟨rfl,rfl⟩| ⟨_,hk⟩
   ·exact L.box _ _ hb
   ·exact (L.box k c hk).ext t.ext (fun b E=>(O k c hk b E).2.2) (fun _ _=>rfl)
  B8:=fun k c hk b E=>by
   rcases I k c hk with ⟨rfl,rfl⟩| ⟨_,hk⟩
   ·exact absurd E (V b)
   ·obtain⟨p1,p2,p3⟩:=L.B8 k c hk b E;refine⟨fun hs=>?_,by omega,p3⟩;rcases t.new b hs with h| h| h
    ·exact p1 h
    ·exact (O k c hk b E).1 h
    ·omega
  inj:=fun k c U c' hk J b R Z=>by
   rcases I k c hk with ⟨rfl,rfl⟩| ⟨_,hk⟩
   ·exact absurd R (V b)
   ·rcases I U c' J with ⟨rfl,rfl⟩| ⟨_,J⟩
    ·exact absurd Z (V b)
    ·exact L.inj k c U c' hk J b R Z
  fix:=L.fix
  D9:=fun b cs hv=>by obtain⟨R,ty,fr,Z⟩:=L.D9 b cs hv;exact⟨t.ext.sub b R,ty,fr,(t.ext.same b R).trans Z⟩
  one:=fun k1 Y1 s1 k2 Y2 s2 R Z=>by
   rcases I k1 _ R with ⟨rfl,a2⟩| ⟨a5,R⟩
   ·rcases I k2 _ Z with ⟨rfl,a3⟩| ⟨a6,Z⟩
    ·cases a2;cases a3;exact⟨rfl,rfl⟩
    ·exact absurd (L.one _ _ _ _ _ _ Z hb).1 a6
   ·exact absurd (L.one _ _ _ _ _ _ R hb).1 a5
  Ez:=fun k Y' a1 hk=>by
   have hY:Y'=Y∧a1=W:=by
    rcases I k _ hk with ⟨_,he⟩| ⟨a4,hk⟩
    ·cases he;exact⟨rfl,rfl⟩
    ·exact absurd (L.one k Y' a1 g Y st hk hb).1 a4
   obtain⟨rfl,rfl⟩:=hY;refine⟨e1,e2,e3,fun U c' J b E=>?_,B',hF,fun b E=>⟨(t.own b E).1,(t.own b E).2.1,a0 b (t.own b E).2.2,fun U c' J he=>?_⟩⟩
   ·rcases I U c' J with ⟨rfl,rfl⟩| ⟨_,J⟩
    ·exact absurd E (V b)
    ·exact e4 U c' J b E
   ·rcases I U c' J with ⟨rfl,rfl⟩| ⟨_,J⟩
    ·exact V b he
    ·obtain⟨p1,p2,_⟩:=O U c' J b he;rcases (t.own b E).2.2 with h| h
     ·exact p1 h
     ·omega }
def Ar.closed:Ar→Bool
 |.cells cs=>SV.Jb cs
 |.ghost _ _=>false
 |_=>true
def A4s (k j:Nat):SV→Option SV
 |.mp i=>if i=k then some (.mp j) else none
 |.box i off=>if i=k then some (.box j off) else none
 |.acc i=>if i=k then some (.acc j) else none
 |x=>coerce [] x
def W0 (k j:Nat):List SV→Option (List SV)
 |[]=>some []
 |c::cs=>match A4s k j c with
  |some x=>match W0 k j cs with
   |some l=>some (x::l)
   |none=>none
  |none=>none
variable {S:Nat→Prop} {w:World}
theorem B8x {C:Ctx} {k j:Nat} (V:Inv C S w β []):∀{cs l:List SV} {vs:List Value},W0 k j cs=some l→Bm S w β cs vs→Bm S w (E3 β j (β k)) l vs
 |[],l,vs,h,I=>by simp only [W0,Av] at h;subst h;exact⟨I.1,by simp⟩
 |c::cs,l,vs,h,I=>by
  simp only [W0] at h;cases E:A4s k j c with
  |none=>simp [E] at h
  |some x =>
   cases L:W0 k j cs with
   |none=>simp [E,L] at h
   |some m =>
    simp only [E,L,Av] at h;subst h;cases vs with
    |nil=>have:=I.1;simp at this
    |cons v vs =>
     have q:=B8x V L ⟨by have:=I.1;simpa using this,fun i c v E O=>I.2 (i+1) c v (by simpa using E) (by simpa using O)⟩;have J:=I.2 0 c v rfl rfl;refine .cons ?_ q;unfold A4s at E;split at E
     ·split at E
      ·simp only [Av] at E;subst E;subst_vars;cases J with| mp _ b R=>exact .mp j b (by rw [G8];exact R)
      ·simp at E
     ·split at E
      ·simp only [Av] at E;subst E;subst_vars;cases J with| box _ _ b R=>exact .box j _ b (by rw [G8];exact R)
      ·simp at E
     ·split at E
      ·rename_i U;simp only [Av] at E;subst E;rw [U] at J;cases J;have:=Am.acc (S:=S) (w:=w) (β:=E3 β j (β k)) j;rw [G8] at this;exact this
      ·simp at E
     ·obtain⟨W,Z⟩:=A5e V (Bo.refl S w) (by simp) E J;exact W.closed Z
theorem Dh.closed {β β':Names} {i:BI} {c:Ar} (h:Dh S w β i c)(L:c.closed=true):Dh S w β' i c:=by
 cases c with
 |rows sz rs=>exact h
 |cells cs =>obtain⟨b,ty,vs,R,J,I⟩:=h;refine⟨b,ty,vs,R,J,I.1,fun j c v E O=>(I.2 j c v E O).closed (SV.B2e L j c E)⟩
 |map kvs=>exact h
 |iter kvs seen=>exact h
 |ghost Y st=>exact h
theorem G3c {f:FuncId} {fo:Operand} {args:Array Operand} {Co:Array TypeId} (ho:o.op=.call { callee:=.value fo,args:=args,argTypes:=Co }) {caps U:List SV} {r:SV} {k j:Nat} {c c':Ar}
  (hf:ρ fo=.Bf f caps) (hb:(k,c)∈bx) (hj:1000000≤j) (a7:c.closed=true) (a1:c'.closed=true)
  (a6:W0 k j (args.toList.map ρ++caps)=some U) (hc:Cd P f U [(j,c)] r [(j,c')]) (hr:r.closed=true):Bt P o ρ bx r ((k,c')::C3 k bx) []:=by
 have a8:c.real=true:=by cases c <;> first| rfl| simp [Ar.closed] at a7
 have aa:c'.real=true:=by cases c' <;> first| rfl| simp [Ar.closed] at a1
 intro C S w β a I ha;have a3:=(ha fo (mC ho));rw [hf] at a3;generalize ad:a.eval fo=v at a3;cases a3 with
 |Bf _ _ cs h1 h2 =>
  have a9:Bm S w β (args.toList.map ρ++caps) (args.toList.map a.eval++cs):=(Bm.Tk _ fun x hx=>ha x (mo ho (by simp [Op.operands,Call.operands];simp at hx;exact .inr hx))).append ⟨h1,h2⟩;have a':Inv ⟨w,S,fun _=>False,fun _ _=>False,C.G⟩ S w β []:=I.begin I.Bi (fun _ h=>h);have g1:=B8x (j:=j) a' a6 a9;have hp:=I.B8 k c hb;have ae:Inv ⟨w,S,fun i=>(β k).base=some i,fun i x=>i=j∧x = β k,C.G⟩ S w (E3 β j (β k)) [(j,c)]:={
   Ek:=fun _ h=>h
   Dx:=fun _ h=>.inl h
   Bi:=I.Bi
   kept:=fun _ _ _=>rfl
   os:=rfl
   tape:=rfl
   output:=rfl
   size:=Cq _
   box:=fun R L hk'=>by simp only [As,Df,Dt,Du] at hk';obtain⟨rfl,rfl⟩:=hk';rw [G8];exact (I.box k _ hb).closed a7
   B8:=fun R L hk' E hb'=>by simp only [As,Df,Dt,Du] at hk';obtain⟨rfl,rfl⟩:=hk';rw [G8] at hb';exact⟨(hp E hb').1,(hp E hb').2.1,.inl hb'⟩
   inj:=fun k1 c1 k2 c2 h1 h2 E a0 Z=>by simp only [As,Df,Dt,Du] at h1 h2;obtain⟨rfl,rfl⟩:=h1;obtain⟨rfl,rfl⟩:=h2;exact⟨rfl,rfl⟩
   D9:=I.D9
   one:=fun R Y st ag Y' af hk'=>by simp only [As,Df,Dt,Du] at hk';obtain⟨_,rfl⟩:=hk';simp [Ar.real] at a8
   Ez:=fun R Y st hk'=>by simp only [As,Df,Dt,Du] at hk';obtain⟨_,rfl⟩:=hk';simp [Ar.real] at a8
   fix:=fun R E h=>by obtain⟨rfl,rfl⟩:=h;exact⟨hj,by rw [G8]⟩ }
  have a5:=hc.2 ⟨w,S,fun i=>(β k).base=some i,fun i x=>i=j∧x = β k,C.G⟩ _ _ ae g1;refine He ?_;unfold Oper.wp;rw [Rn hc.1 ho ad,R0];have V:args.map a.eval++(⟨cs⟩:Array Value)=⟨args.toList.map a.eval++cs⟩:=by apply I6;simp
  rw [V];refine a5.mono ?_;rintro e w' ⟨v,S',β',rfl,W,hv⟩;have a2:β' j = β k:=(W.fix j _ ⟨rfl,rfl⟩).2;have a4:∀b,(β k).base=some b→¬S' b∧b < w'.heap.size:=fun b hb'=>by have:=W.B8 j c' (by simp) b (by rw [a2];exact hb');exact⟨this.1,this.2.1⟩
  have J:∀E,E < w.heap.size→(β k).base≠some E→w'.heap[E]? = w.heap[E]?:=fun E h1 h2=>W.kept E h1 h2;have e1:Bo S w (fun b=>S b∨(S' b∧w.heap.size≤b)) w':=⟨fun _ h=>.inl h,fun E hb'=>J E (I.Bi E hb') fun he=>(hp E he).1 hb'⟩;have e2:Bo S' w' (fun b=>S b∨(S' b∧w.heap.size≤b)) w':=⟨fun E hb'=>by
   rcases W.Dx E hb' with h| h| h
   ·exact .inl h
   ·exact ((a4 E h).1 hb').elim
   ·exact .inr ⟨hb',h⟩,fun _ _=>rfl⟩
  have ac:w.heap.size≤w'.heap.size:=W.size;refine⟨v,_,β,rfl,?_,e1,(hv.ext e2 (fun _ _=>rfl)).closed hr,fun _ _=>rfl⟩;refine I.step e1 (fun E hb'=>hb'.imp id (·.2)) ?_ (fun E hb' ab=>J E hb' fun he=>ab k c hb he) W.os W.tape W.output ac ?_ ?_ (fun _ _=>rfl) ?_
  ·intro E hb';rcases hb' with hb' | hb'
   ·have:=I.Bi E hb';omega
   ·exact W.Bi E hb'.1
  ·intro R L hk';simp only [As,Df] at hk';rcases hk' with ⟨rfl,rfl⟩| hk'
   ·refine⟨?_,fun E hb'=>?_⟩
    ·have:=(Dh.ext (W.box j _ (by simp)) e2 (fun _ _=>rfl) (fun _ _=>rfl)).closed (β':=β) a1;rw [a2] at this;exact this
    ·exact⟨fun h=>h.elim (hp E hb').1 fun h=>(a4 E hb').1 h.1,(a4 E hb').2,.inr ⟨_,c,hb,hb'⟩⟩
   ·obtain⟨O,hk'⟩:=Dq.1 hk';refine⟨(I.box R L hk').ext e1 (fun E hb'=>?_) (fun _ _=>rfl),fun E hb'=>?_⟩
    ·exact J E (I.B8 R L hk' E hb').2.1 fun he=>O (I.inj R L k c hk' hb E hb' he).1
    ·obtain⟨p1,p2,_⟩:=I.B8 R L hk' E hb';exact⟨fun h=>h.elim p1 fun h=>by omega,by omega,.inr ⟨R,L,hk',hb'⟩⟩
  ·intro k1 c1 k2 c2 h1 h2 E a0 Z;simp only [As,Df] at h1 h2;rcases h1 with ⟨rfl,rfl⟩| h1
   ·rcases h2 with ⟨rfl,rfl⟩| h2
    ·exact⟨rfl,rfl⟩
    ·obtain⟨O,h2⟩:=Dq.1 h2;exact absurd (I.inj k2 c2 _ c h2 hb E Z a0).1 O
   ·rcases h2 with ⟨rfl,rfl⟩| h2
    ·obtain⟨O,h1⟩:=Dq.1 h1;exact absurd (I.inj k1 c1 _ c h1 hb E a0 Z).1 O
    ·obtain⟨O,h1⟩:=Dq.1 h1;obtain⟨_,h2⟩:=Dq.1 h2;exact I.inj k1 c1 k2 c2 h1 h2 E a0 Z
  ·intro R Y st hk';simp only [As,Df] at hk';rcases hk' with ⟨_,rfl⟩| hk'
   ·simp [Ar.real] at aa
   ·exact (Dq.1 hk').2
theorem E6h {f:FuncId} {fo:Operand} {args:Array Operand} {Co:Array TypeId} (ho:o.op=.call { callee:=.value fo,args:=args,argTypes:=Co }) {caps J:List SV} {r:SV} {g:Nat} {Y:Hj} {st W:Option Nat}
  (hf:ρ fo=.Bf f caps) (hb:(g,Ar.ghost Y st)∈bx) (a1:Gy [] (args.toList.map ρ++caps)=some J) (hc:Cd P f J [(1000000,.ghost Y st)] r [(1000000,.ghost Y W)]) (hr:r.closed=true) :
  Bt P o ρ bx r ((g,.ghost Y W)::C3 g bx) []:=by
 intro C S w β a U ha;have Z:=(ha fo (mC ho));rw [hf] at Z;generalize a':a.eval fo=v at Z;cases Z with
 |Bf _ _ cs V h2 =>
  have a4:Bm S w β (args.toList.map ρ++caps) (args.toList.map a.eval++cs):=(Bm.Tk _ fun x hx=>ha x (mo ho (by simp [Op.operands,Call.operands];simp at hx;exact .inr hx))).append ⟨V,h2⟩;have a5:Inv ⟨w,S,fun _=>False,fun _ _=>False,C.G⟩ S w β []:=U.begin U.Bi (fun _ h=>h);obtain⟨g1,g2⟩:=Ua a5 (Bo.refl S w) (by simp) a1 a4;obtain⟨e1,e2,e3,e4,B,e5,e6⟩:=U.Ez g Y st hb;have a6:=U.size;have aa:Inv ⟨w,S,B,fun _ _=>False,C.G⟩ S w (E3 β 1000000 { base:=none }) [(1000000,.ghost Y st)]:={
   Ek:=fun _ h=>h
   Dx:=fun _ h=>.inl h
   Bi:=U.Bi
   kept:=fun _ _ _=>rfl
   os:=rfl
   tape:=rfl
   output:=rfl
   size:=Cq _
   box:=fun O a9 I=>by simp only [As,Df,Dt,Du] at I;obtain⟨rfl,rfl⟩:=I;rw [G8];rfl
   B8:=fun O a9 I b' E=>by simp only [As,Df,Dt,Du] at I;obtain⟨rfl,rfl⟩:=I;rw [G8] at E;cases E
   inj:=fun k1 c1 k2 c2 V h2 b' ac ab=>by simp only [As,Df,Dt,Du] at V h2;obtain⟨rfl,rfl⟩:=V;obtain⟨rfl,rfl⟩:=h2;exact⟨rfl,rfl⟩
   fix:=fun _ _ h=>h.elim
   D9:=U.D9
   one:=fun k1 Y1 s1 k2 Y2 s2 V h2=>by simp only [As,Df,Ar.ghost.injEq,Dt,Du] at V h2;obtain⟨rfl,rfl,rfl⟩:=V;obtain⟨rfl,rfl,rfl⟩:=h2;exact⟨rfl,rfl⟩
   Ez:=fun O Y' a7 I=>by
    simp only [As,Df,Ar.ghost.injEq,Dt,Du] at I;obtain⟨rfl,rfl,rfl⟩:=I;have a3:∀O c',(O,c')∈[(1000000,Ar.ghost Y' a7)]→∀b,(E3 β 1000000 { base:=none } O).base≠some b:=fun O c' I b E=>by simp only [As,Df,Dt,Du] at I;obtain⟨rfl,rfl⟩:=I;rw [G8] at E;cases E
    exact⟨e1,e2,Dk e3 a6,fun O c' I b E=>absurd E (a3 O c' I b),B,e5,fun b E=>⟨(e6 b E).1,(e6 b E).2.1,.inl E,fun O c' I=>a3 O c' I b⟩⟩ }
  have a0:=hc.2 ⟨w,S,B,fun _ _=>False,C.G⟩ _ _ aa ⟨g1.1,fun j c v a2 hv=>(g1.2 j c v a2 hv).closed (SV.B2e g2 j c a2)⟩;refine He ?_;unfold Oper.wp;rw [Rn hc.1 ho a',R0];have L:args.map a.eval++(⟨cs⟩:Array Value)=⟨args.toList.map a.eval++cs⟩:=by apply I6;simp
  rw [L];refine a0.mono ?_;rintro e w' ⟨v,S',β',rfl,R,hv⟩;obtain⟨_,_,_,_,B',q5,q6⟩:=R.Ez 1000000 Y W (by simp);have a8:w.heap.size≤w'.heap.size:=R.size;have hS:∀b,S' b→S b∨B b∨w.heap.size≤b:=fun b E=>R.Dx b E;have t:A5h B S w B' S' w':=⟨⟨R.Ek,fun b E=>R.kept b (U.Bi b E) fun h=>(e6 b h).1 E⟩,hS,R.Bi,fun b E=>⟨(q6 b E).1,(q6 b E).2.1,(q6 b E).2.2.1⟩,fun b E hn=>R.kept b E hn,R.os,R.tape,R.output,a8⟩;obtain⟨r1,r2⟩:=U.D5c hb e6 t q5;exact⟨v,S',β,rfl,r1,r2,hv.closed hr,fun _ _=>rfl⟩
theorem E7h {fo x:Operand} {Co:Array TypeId} (U:o.op=.call { callee:=.value fo,args:=#[x],argTypes:=Co }) {g l j:Nat} {Y:Hj} {y:SV} (hf:ρ fo=.Fm l)(Z:(g,Ar.ghost Y (some j))∈bx)
  (hx:coerce [] (ρ x)=some y) (hP:Y.P=P) (hl:Y.l=l) (hN:j < Y.N) (hy:Y.xs j=y):Bt P o ρ bx (.d (.bool (Y.go j))) ((g,.ghost Y (Y.next j))::C3 g bx) []:=by
 intro C S w β a O W;have I:=(W fo (mC U));rw [hf] at I;generalize V:a.eval fo=v at I;cases I;have L:Inv ⟨w,S,fun _=>False,fun _ _=>False,C.G⟩ S w β []:=O.begin O.Bi (fun _ h=>h);obtain⟨g1,_⟩:=A5e L (Bo.refl S w) (by simp) hx (W x (mC U));obtain⟨e1,e2,e3,e4,B,e5,R⟩:=O.Ez g Y (some j) Z;subst e1;subst hP;subst hl;subst hy;obtain⟨f,tmps,E,body,h1,h2⟩:=e2.round j B S w β _ hN e5 O.Bi (fun b J=>⟨(R b J).1,(R b J).2.1⟩) g1;refine Or.inr ⟨C.G.Y.l,f,tmps,E,body,w,?_,h2.mono ?_⟩
 ·simp [execOp,U,resolve,Deferred.ofValue,V,invoke,h1]
 ·rintro e w' ⟨S',B',rfl,q5,t⟩;obtain⟨r1,r2⟩:=O.D5c Z R t q5;exact⟨.bool (C.G.Y.go j),S',β,rfl,r1,r2,.bool _,fun _ _=>rfl⟩
def loN (ρ:Hq):Option Operand→Option Nat
 |none=>some 0
 |some y=>match ρ y with
  |.d (.int _ i)=>if 0≤i then some i.toNat else none
  |_=>none
def hiN (ρ:Hq)(n:Nat):Option Operand→Option Nat
 |none=>some n
 |some y=>match ρ y with
  |.d (.int _ i)=>if 0≤i then some i.toNat else none
  |_=>none
theorem C9g {a:Act} {O V:Option Operand} {n cap l h:Nat} {t:Bool} (W:∀x,x∈O.toList++V.toList→Am S w β (ρ x) (a.eval x))(E:loN ρ O=some l)(J:hiN ρ n V=some h)(h1:l≤h)(h2:h≤n)(h3:n≤cap) :
  (Instr.sliceBounds t n cap (O.map a.eval) (V.map a.eval) none).run P w=.ok (l,h,cap) w:=by
 have key:∀(y:Operand) (m:Nat),Am S w β (ρ y) (a.eval y)→(match ρ y with| .d (.int _ i)=>if 0≤i then some i.toNat else none| _=>none)=some m→∃k,a.eval y=.int k (m:Int):=by
  intro y m hv L;split at L
  ·rename_i k i he;rw [he] at hv;split at L
   ·rename_i h0;simp only [Av] at L;subst L;exact⟨k,by rw [hv.J4,Int.toNat_of_nonneg h0]⟩
   ·simp at L
  ·simp at L
 have U:∀(k:IntKind) (m q:Nat) (I:BoundsCode),m≤q→(Instr.sliceBound (.int k (m:Int)) q I).run P w=.ok m w:=by intro k m q I hq;simp only [Instr.sliceBound,asIntOf,Hu,Kp,H8];rw [A8 ⟨by omega,by omega⟩];simp
 cases V with
 |none =>
  simp only [hiN,Av] at J;subst J;cases O with
  |none =>simp only [loN,Av] at E;subst E;simp [Instr.sliceBounds]
  |some y =>obtain⟨k,Z⟩:=key y l (W y (by simp)) (by simpa [loN] using E);simp [Instr.sliceBounds,Z,U k l n _ h1]
 |some z =>
  obtain⟨k',R⟩:=key z h (W z (by simp)) (by simpa [hiN] using J);cases O with
  |none =>simp only [loN,Av] at E;subst E;simp [Instr.sliceBounds,R,U k' h cap _ (by omega)]
  |some y =>obtain⟨k,Z⟩:=key y l (W y (by simp)) (by simpa [loN] using E);simp [Instr.sliceBounds,Z,R,U k l h _ h1,U k' h cap _ (by omega)]
theorem G2h {T e sz:Nat} {x:Operand} {lo hi:Option Operand} (ho:o.op=.slice T x lo hi none) {rows:List (List D)} (hx:ρ x=.d (.slice rows))(hT:Dv P T=some e)(hs:Bs P e=some sz)
  (a0:∀row,row∈rows→row.length=sz) {l h:Nat} (a8:loN ρ lo=some l) (a9:hiN ρ rows.length hi=some h) (h1:l≤h) (h2:h≤rows.length):Bt P o ρ bx (.d (.slice ((rows.take h).drop l))) bx []:=by
 refine .Ef fun C S w β a aa ha=>?_;have Z:=ha x (mC ho);rw [hx] at Z;have J:∀cap,rows.length≤cap→(Instr.sliceBounds true rows.length cap (lo.map a.eval) (hi.map a.eval) none).run P w=.ok (l,h,cap) w:=fun cap hc =>
  C9g (ρ:=ρ) (S:=S) (β:=β) (fun y hy=>ha y (mo ho (by simp only [Op.operands];rcases Bw.1 hy with hy| hy <;> simp only [Option.mem_toList] at hy <;> subst hy <;> simp))) a8 a9 h1 h2 hc
 have a5:=A1c hT w;have run:∀(p:Option Addr) (cap:Nat),rows.length≤cap→a.eval x=.slice p rows.length cap→(execOp a.eval o).run P w=.ok (.value (.slice (if cap=l then p else p.map (·.add (l*sz))) (h - l) (cap - l))) w:=by intro p cap hc W;simp only [execOp,ho,Instr.sliceAt,W,Hu,a5,H8,Instr.slice,Ap8,J cap hc,Ra hs,Kp]
 generalize W:a.eval x=v at Z;have hd:=Z.Gp;have O:((rows.take h).drop l).length=h - l:=by simp;omega
 cases hd with
 |Ja p cap hp =>
  have:=run p cap (by simp) (by rw [W];rfl);simp only [Ch,Nat.le_zero] at h2;subst h2;have a':l=0:=by omega
  subst a';refine⟨_,this,.d _ _ ?_⟩;simp only [List.take_nil,List.drop_nil,As4,Nat.zero_mul];have a4:(if cap=0 then p else p.map (·.add 0))=p:=by
   split
   ·rfl
   ·cases p <;> simp [Addr.add]
  rw [a4];exact .Ja p cap hp
 |slice _ b off cap E hb ab a6 hr a1 V a2 =>
  have:=run (some ⟨b,off,none⟩) cap a6 W;refine⟨_,this,.d _ _ ?_⟩;by_cases he:h=l
  ·subst he;have:(rows.take h).drop h=[]:=Rk (by rw [O];omega);rw [this,At4];have U:∃q,(if cap=h then (some ⟨b,off,none⟩:Option Addr) else (some ⟨b,off,none⟩:Option Addr).map (·.add (h*sz)))=some q:=by split <;> exact⟨_,rfl⟩
   obtain⟨q,hq⟩:=U;rw [hq];exact .Ja (some q) _ (by simp)
  ·have L:l < rows.length:=by omega
   have a7:E=sz:=by rw [←hr rows[l] (F7 L),a0 rows[l] (F7 L)]
   subst a7;rw [A6 (by omega)];simp only [E8,Xk];rw [←O];have a3:∀(i:Nat) (row:List D),((rows.take h).drop l)[i]? = some row→rows[l+i]? = some row:=by intro i row I;rw [Ri] at I;have L:=(Ay.1 I).1;rw [Cw] at L;rw [An7 (by omega)] at I;exact I
   have R:∀row,row∈(rows.take h).drop l→row∈rows:=fun row hm=>Iq (U5 hm);refine .slice _ b (off+l*E) (cap - l) E hb (by omega) (by omega) (fun row hm=>hr row (R row hm)) (fun row hm=>a1 row (R row hm)) ?_ ?_
   ·intro i j I hj;have:=V (l+i) j (by omega) hj;rw [Ei] at this;rw [show off+l*E+(i*E+j)=off+(l*E+i*E+j) by omega];exact this
   ·intro i j row d v I hd W;refine a2 (l+i) j row d v (a3 i row I) hd ?_;rw [Ei];rw [show off+l*E+(i*E+j)=off+(l*E+i*E+j) by omega] at W;exact W
theorem G0d {T:Nat} {x:Operand} {V W:Option Operand} (L:o.op=.slice T x V W none) {s:A3} (hx:ρ x=.d (.str s))(hT:P.underlying T=some .string)
  {l h:Nat} (J:loN ρ V=some l) (I:hiN ρ s.length W=some h) (h1:l≤h) (h2:h≤s.length):Bt P o ρ bx (.d (.str ((s.take h).drop l))) bx []:=by
 refine .Ef fun C S w β a Z U=>?_;have E:=U x (mC L);rw [hx] at E;obtain⟨hv,a0⟩:=E.Tx;have hb:=C9g (P:=P) (t:=false) (n:=s.length) (cap:=s.length) (w:=w) (a:=a) (ρ:=ρ) (S:=S) (β:=β) (fun y hy=>U y (mo L (by simp only [Op.operands];rcases Bw.1 hy with hy| hy <;> simp only [Option.mem_toList] at hy <;> subst hy <;> simp))) J I h1 h2 (Cq _)
 have hu:=Zn hT w;have R:(mkStr s).size=s.length:=B7j s;refine⟨.string (mkStr ((s.take h).drop l)),?_,.d _ _ (.str _ ?_)⟩
 ·have O:(mkStr s).extract l h=mkStr ((s.take h).drop l):=by
   apply ByteArray.ext;rw [ByteArray.data_extract];apply I6;simp [mkStr,List.drop_take,List.extract_eq_take_drop]
   try (congr 1;omega)
  simp only [execOp,L,Instr.sliceAt,hv,Hu,hu,H8,Instr.slice,Ap8,L7,Hh,Et,Kp,R,hb,O]
 ·simp only [Ao8,Cw];omega
theorem F7y {T e sz bytes k:Nat} {x y:Operand} (a8:k≤999999)(ho:o.op=.makeSlice T x y) {kx ky:IntKind} {n m:Int} (hx:ρ x=.d (.int kx n))(hy:ρ y=.d (.int ky m))(Z:A7t P T e sz bytes) {O:List D}
  (V:Cj P e=some (O.map SV.d)) (a1:∀d,d∈O→d.one=true) (h0:0≤n) (aa:n≤m) (hm:m*(bytes:Int)≤(lim:Int)) (ae:1≤sz):Bt P o ρ bx (.acc k) ((k,.rows sz (List.replicate n.toNat O))::H7 k (C3 k bx)) [k]:=by
 intro C S w β a hi ha;have a3:=ha x (mC ho);rw [hx] at a3;have a4:=ha y (mC ho);rw [hy] at a4;have ad:=a3.J4;have ac:=a4.J4;obtain⟨i,z,R,a7,a5⟩:∃i z,P.info? e=some i∧i.zero=some z∧z.cells.toList.map Kc=O.map SV.d:=by
  unfold Cj at V;cases hq:P.info? e with
  |none=>simp [hq] at V
  |some i =>
   simp only [hq,Ao7] at V;cases L:i.zero with
   |none=>simp [L] at V
   |some z=>exact⟨i,z,rfl,L,by simpa [L] using V⟩
 have a2:i.size=sz:=by have:=Z.Ms;unfold Bs at this;rw [R] at this;simpa using this
 have a9:i.bytes=bytes:=by have:=Z.D9y;rw [R] at this;simpa using this
 have ab:O.length=sz:=by have:=Z.hzero;rw [V] at this;simpa using this
 have a0:z.cells.size=sz:=by have:=K9 List.length a5;simp only [B6,V3] at this;omega
 have hT:P.underlying T=some (.slice e):=by
  have:=Z.hT;unfold Dv at this;split at this
  ·simp only [Av] at this;subst this;assumption
  ·simp at this
 have af:1≤bytes:=by have:=Z.Qg;omega
 have a':m≤(lim:Int):=by have h1:m*1≤m*(bytes:Int):=Int.mul_le_mul_of_nonneg_left (by omega) (by omega);omega
 have J:=Go.run_make (P:=P) w T e i z hT R a7 kx ky n m h0 aa (by rw [a9,Int.mul_comm];unfold lim at hm;omega) (by unfold lim at a';omega);rw [a2] at J;have E:∀(j:Nat),j < m.toNat*sz→(madeCells z.cells (m.toNat*sz)).toList[j]? = z.cells[j % sz]?:=by
  intro j hj;have I:j % sz < z.cells.size:=by rw [a0];exact Xp _ (by omega)
  simp only [madeCells,Wd,Array.getElem?_map,Array.getElem?_range,hj,Af,E8,a0];rw [Rj I,Jp z.cells (j % sz) I]
 obtain⟨h1,h2⟩:=hi.Vo (k:=k) (w':=w.alloc (.cells (madeCells z.cells (m.toNat*sz)) e)) (c:=.rows sz (List.replicate n.toNat O)) { base:=some w.heap.size,len:=n.toNat,cap:=m.toNat,sz:=sz } a8 (by
   intro b hb;cases hb;exact⟨fun h=>by have:=hi.Bi _ h;omega,by simp [-World.alloc_eq,World.alloc],.inl (Cq _)⟩)
  (fun b hb _=>RowKit.Below.heap_alloc w _ b hb) rfl rfl rfl (by simp [-World.alloc_eq,World.alloc]) (fun _=>by
   refine⟨rfl,by simp,by simp only;omega,by simp;unfold lim at *;omega,?_,?_,e,(madeCells z.cells (m.toNat*sz)).toList,by simp [-World.alloc_eq,World.alloc],by simp [size_madeCells],?_⟩
   ·intro row hr;rw [(Av7.1 hr).2,ab]
   ·intro row hr d hd;rw [(Av7.1 hr).2] at hd;exact a1 d hd
   ·intro r j row d v hr hd hv;have a6:=(Ay.1 hr).1;rw [List.length_replicate] at a6;have W:row=O:=(Av7.1 (Bx hr)).2;subst W;have ag:=(Ay.1 hd).1;have I:r*sz+j < m.toNat*sz:=by
     have:(r+1)*sz≤m.toNat*sz:=H4 _ (by omega);rw [Ei] at this;omega
    simp only [I2] at hv;rw [E _ I,Tf,Nat.mul_add_mod,Nat.mod_eq_of_lt (by omega)] at hv;have U:(z.cells.toList.map Kc)[j]? = some (Kc v):=by rw [D3];simp [hv]
    rw [a5,D3,hd] at U;simp only [E8,Av] at U;have:=A3c S (w.alloc (.cells (madeCells z.cells (m.toNat*sz)) e)) β v;rw [←U] at this;exact this.Gp)
 refine He ?_;unfold Oper.wp;rw [show (execOp a.eval o).run P w=.ok (.value (.slice (some ⟨w.heap.size,0,none⟩) n.toNat m.toNat)) (w.alloc (.cells (madeCells z.cells (m.toNat*sz)) e)) by simp [execOp,ho,ad,ac,J]]
 refine⟨_,S,_,rfl,h1,h2,?_,fun j hj=>Jk (by simpa using hj)⟩;have:=Am.acc (S:=S) (w:=w.alloc (.cells (madeCells z.cells (m.toNat*sz)) e)) (β:=E3 β k { base:=some w.heap.size,len:=n.toNat,cap:=m.toNat,sz:=sz }) k;rw [G8] at this;simpa using this
theorem F8t {T U e sz k:Nat} {x y:Operand} (ho:o.op=.call { callee:=.builtin .copy,args:=#[x,y],argTypes:=#[T,U] }) {rs xs:List (List D)} (hT:Dv P T=some e)(hs:Bs P e=some sz)
  (hx:ρ x=.acc k) (hb:(k,Ar.rows sz rs)∈bx) (hy:V2 bx sz (ρ y) xs) (a4:xs.length≤rs.length) :
  Bt P o ρ bx (.d (.int .i64 xs.length)) ((k,.rows sz (xs++rs.drop xs.length))::C3 k bx) []:=by
 intro C S w β a hi ha;obtain⟨vs,E⟩:=hy.src (P:=P) hi ((ha y (mC ho)));have a0:=(ha x (mC ho));rw [hx] at a0;have W:a.eval x=Hk (β k):=by generalize a.eval x=v at a0;cases a0;rfl
 obtain⟨g1,g2,g3,g4,g5,g6,g7⟩:=hi.box k _ hb;have J:=E.cells xs.length w rfl (fun _ _=>rfl);have O:Nat.min xs.length (β k).len=xs.length:=by rw [←g2];exact Nat.min_eq_left a4
 have a7:(execOp a.eval o).run P w=((Builtin.copy_ #[T,U] o.type #[Hk (β k),a.eval y]).run P w).andThen fun v w=>.ok (.value v) w:=by simp [execOp,ho,resolve,invoke,builtin,W]
 refine He ?_;unfold Oper.wp;rw [a7];cases I:(β k).base with
 |none =>
  rw [I] at g7;simp only at g7;have hr:rs=[]:=Rk (by omega);subst hr;have a6:xs=[]:=Rk (by simpa using a4);subst a6;have a5:vs=[]:=Rk (by rw [E.flat.len];simp);subst a5;have L:(Builtin.copy_ #[T,U] o.type #[Hk (β k),a.eval y]).run P w=.ok (goInt 0) w:=by simp only [Ch] at O J;have a1:=E.len;simp only [Ch] at a1;simp [Builtin.copy_,Hk,I,A1c hT,Ra hs,a1,O,J]
  rw [L];exact⟨_,S,β,rfl,hi.sub fun j c hj=>by
   simp only [Ch,List.drop_nil,Ge,As,Df] at hj;rcases hj with ⟨rfl,rfl⟩| hj
   ·exact hb
   ·exact (Dq.1 hj).2,Bo.refl S w,.int _ _,fun _ _=>rfl⟩
 |some b =>
  rw [I] at g7;obtain⟨ty,bs,hh,V,a3⟩:=g7;subst g1;have hl:=E.flat.len;have R:(β k).off*(β k).sz+0+vs.length≤bs.length:=by have:((β k).off+xs.length)*(β k).sz≤((β k).off+(β k).cap)*(β k).sz:=H4 _ (by omega);simp only [Ei] at this V;omega
  obtain⟨w',L,q1,q2,q3,q4,q5,q6⟩:=B1e (P:=P) vs bs b ((β k).off*(β k).sz) 0 ty w hh R E.one;have a9:(Builtin.copy_ #[T,U] o.type #[Hk (β k),a.eval y]).run P w=.ok (goInt xs.length) w':=by simp [Builtin.copy_,Hk,I,A1c hT,Ra hs,E.len,O,J,L]
  rw [a9];have e0:Bo S w S w':=⟨fun _ h=>h,fun b' Z=>q2 b' fun he=>(hi.B8 k _ hb b I).1 (he ▸ Z)⟩;obtain⟨p1,p2⟩:=hi.A6a (w':=w') (c:=.rows (β k).sz (xs++rs.drop xs.length)) hb I (fun b' Z=>q2 b' Z) q3 q4 q5 (by omega) (by
   refine⟨rfl,by simp;omega,g3,by simp;omega,?_,?_,?_⟩
   ·intro row hr;rcases Bw.1 hr with hr| hr
    ·exact E.flat.row row hr
    ·exact g5 row (U5 hr)
   ·intro row hr;rcases Bw.1 hr with hr| hr
    ·exact E.flat.one row hr
    ·exact g6 row (U5 hr)
   ·rw [I];refine⟨ty,Gs bs ((β k).off*(β k).sz+0) vs,q1,by rw [A4h];exact V,?_⟩;intro r j row d v hr hd W;rw [Zv _ _ _ _ (by simpa using R)] at W;by_cases a8:r < xs.length
    ·rw [J6 a8] at hr;have hj:j < (β k).sz:=by rw [←E.flat.row row (Bx hr)];exact (Ay.1 hd).1
     have a2:r*(β k).sz+j < vs.length:=by have:(r+1)*(β k).sz≤xs.length*(β k).sz:=H4 _ (by omega);rw [Ei] at this;omega
     rw [A8 (by rw [Ei];omega)] at W;rw [show ((β k).off+r)*(β k).sz+j - ((β k).off*(β k).sz+0)=r*(β k).sz+j by rw [Ei];omega] at W;exact (E.flat.rep r j row d v hr hd W).ext e0
    ·rw [Jh (by omega),Ri] at hr;rw [show xs.length+(r - xs.length)=r by omega] at hr;have a2:vs.length≤r*(β k).sz:=by
      rw [hl];exact H4 _ (by omega)
     rw [A6 (by rw [Ei];omega)] at W;exact (a3 r j row d v hr hd W).ext e0)
  exact⟨_,S,β,rfl,p1,p2,.int _ _,fun _ _=>rfl⟩
end Go.Abs
