/- Contracts out of bodies, maps, closures, parts of slices. Own framework. -/
import Derived.DeepKeys3
import Derived.MapKept
import Derived.WideKeyRuns
import Derived.Laws.MakeOwn
import Derived.RangeFuncRecord
import Derived.Test.YtieakoebgfiniaaGreatDoorZAb2
set_option linter.all false
namespace Go.Abs
open Go
variable {ro:Option Nat} {P:Program} {n:Nat} {Q:Exit->SL->Ab->Prop} {sl:SL} {bx:Ab}
def L5(P:Program)(bx:Ab)(T:TypeId)(x:SV):Option SV :=
 match x with
 |.box k off=>match A7 bx k with
  |some (.cells cs)=>match Cr P T with
   |some false=>cs[off]?
   |some true=>match Be P T with
    |some m=>if off+m<=cs.length/\(part cs off m).all SV.one=true then some (.agg (part cs off m))else none
    |none=>none
   |none=>none
  |_=>none
 |.A9 cells off=>match Cr P T with
  |some false=>(cells[off]?).map SV.d
  |some true=>match Be P T with
   |some m=>if off+m<=cells.length then some (.agg ((A3z cells off m).map SV.d))else none
   |none=>none
  |none=>none
 |.d (.ptr cells)=>match Cr P T with
  |some false=>(cells[0]?).map SV.d
  |some true=>match Be P T with
   |some m=>if 0+m<=cells.length then some (.agg ((A3z cells 0 m).map SV.d))else none
   |none=>none
  |none=>none
 |.Eg k i off=>match A7 bx k with
  |some (.rows sz rows)=>match rows[i]? with
   |some row=>match Cr P T with
    |some false=>(row[off]?).map SV.d
    |some true=>match Be P T with
     |some m=>if off+m<=row.length/\row.length=sz then some (.agg ((A3z row off m).map SV.d))else none
     |none=>none
    |none=>none
   |none=>none
  |_=>none
 |.F5 cells off=>match Cr P T with
  |some false=>cells[off]?
  |_=>none
 |_=>none
variable {S:Nat->Prop} {w:World} {β:Names}
def F1w{k i off sz:Nat}{rows:List (List D)}{row:List D}{v:Value}(hb:De S w β (β k) (.rows sz rows))(hr:rows[i]?=some row)(hv:Am S w β (.Eg k i off) v) :
  ∃b base,v=.pointer (some ⟨b,base+off,none⟩)/\(∀d,d∈row->d.one=true)/\(∀j,j<row.length->∃v,w.cell? ⟨b,base+j,none⟩=some v)/\(∀(j:Nat) (d:D) (v:Value),row[j]?=some d->w.cell? ⟨b,base+j,none⟩=some v->Bu S w d v):=by
 cases hv with
 |Eg _ _ _ b I =>
  obtain⟨W,g2,g3,g4,g5,g6,J⟩:=hb;subst W;rw[I]at J;obtain⟨ty,vs,hh,L,O⟩:=J;have E:=C6 hr;have U:=(Az.1 hr).1;refine⟨b,((β k).off+i)*(β k).sz,rfl,g6 row E,?_,?_⟩
  .intro j Z;rw[g5 row E]at Z;have V:((β k).off+i+1)*(β k).sz<=((β k).off+(β k).cap)*(β k).sz:=Hp _ (by omega);rw[Hw _ 1]at V;have:((β k).off+i)*(β k).sz+j<vs.length:=by omega
   exact⟨vs[((β k).off+i)*(β k).sz+j],by rw[cells_of_row hh];simp⟩
  grind[cells_of_row]
variable {C:Ctx}
def D2a{T:TypeId}{x c:SV}{v:Value}(hi:Inv C S w β bx)(O:Am S w β x v)(h:L5 P bx T x=some c) :
  ∃a u,v=.pointer (some a)/\(loadVar T a).run P w=.ok u w/\Am S w β c u:=by
 have conv:∀{p:Addr} {u:Value},(Instr.loadAt T (.pointer (some p))).run P w=.ok u w->(loadVar T p).run P w=.ok u w:=by intro p u J;simpa [Instr.loadAt,Instr.sureAddr]using J
 have E:∀{cells:List D} {off:Nat} {b base:Nat},v=.pointer (some ⟨b,base+off,none⟩)->(∀d,d∈cells->d.one=true)->(∀j,j<cells.length->∃v,w.cell? ⟨b,base+j,none⟩=some v) ->
   (∀(j:Nat) (d:D) (v:Value),cells[j]?=some d->w.cell? ⟨b,base+j,none⟩=some v->Bu S w d v) ->
   (match Cr P T with
    |some false=>(cells[off]?).map SV.d
    |some true=>match Be P T with
     |some m=>if off+m<=cells.length then some (.agg ((A3z cells off m).map SV.d))else none
     |none=>none
    |none=>none)=some c->∃a u,v=.pointer (some a)/\(loadVar T a).run P w=.ok u w/\Am S w β c u:=by
  intro cells off b base O h1 V W h;cases hT:Cr P T with
  |none=>simp[hT]at h
  |some g =>
   cases g with
   |false =>simp only[hT,Jv]at h;obtain⟨d,hd,rfl⟩:=h;obtain⟨u,J⟩:=V off (Az.1 hd).1;exact⟨_,u,O,conv (C2a hT J),.d _ _ (W off d u hd J)⟩
   |true =>
    simp only[hT]at h;cases hs:Be P T with
    |none=>simp[hs]at h
    |some m =>
     simp only[hs]at h;split at h
     .rename_i hl;simp only[B5]at h;subst h;obtain⟨vs,a0,Z⟩:=C8w (w:=w) (b:=b) (off:=base+off) (n:=m) (λj hj=>by rw[Si];exact V (off+j) (by omega));refine⟨_,.agg ⟨vs⟩,O,conv (C4h hT hs a0 Z),D8p (.agg _ vs (by simp[A3z,a0];omega) ?_ ?_)⟩
      .intro d hd;exact h1 d (Zz (Ji hd))
      .intro j d u hd J;simp only[A3z,Ak4,Wn]at hd;split at hd
       .exact W (off+j) d u hd (by rw[<-Si];exact Z j u J)
       .simp at hd
     .simp at h
 cases x with
 |box k off =>
  obtain⟨b,U,rfl⟩:=O.A8i;simp only[L5]at h;cases I:A7 bx k with
  |none=>simp[I]at h
  |some bc =>
   cases bc with
   |cells cs =>
    simp only[I]at h;obtain⟨b',ty,vs,a1,hh,hr⟩:=hi.box k _ (Gu I);rw[U]at a1;cases a1;cases hT:Cr P T with
    |none=>simp[hT]at h
    |some g =>
     cases g with
     |false =>simp only[hT]at h;obtain⟨u,J,a2⟩:=hr.get h;exact⟨_,u,rfl,conv (C2a hT (by rw[cells_of_row hh];exact J)),a2⟩
     |true =>
      simp only[hT]at h;cases hs:Be P T with
      |none=>simp[hs]at h
      |some m =>
       simp only[hs]at h;split at h
       .rename_i hl;simp only[B5]at h;subst h;have:=hr.1;refine⟨_,.agg ⟨(vs.drop off).take m⟩,rfl,conv (C4h hT hs (by simp;omega) ?_),Am.A7x (hr.part off m) hl.2⟩;intro j u J;rw[cells_of_row hh];simp only[Ak4,Wn]at J;split at J
        .exact J
        .simp at J
       .simp at h
   |rows _ _=>simp[I]at h
   |map _=>simp[I]at h
   |iter _ _=>simp[I]at h
   |ghost _ _=>simp[I]at h
 |A9 cells off =>obtain⟨b,base,L⟩:=O.B1u;exact E L.v L.one L.there L.rep h
 |d y =>cases y <;> simp only[L5,reduceCtorEq]at h;rename_i cells;obtain⟨b,base,L⟩:=O.E1m;exact E L.v L.one L.there L.rep h
 |Eg k i off =>
  simp only[L5]at h;cases I:A7 bx k with
  |none=>simp[I]at h
  |some bc =>
   cases bc with
   |rows sz rows =>
    simp only[I]at h;cases hr:rows[i]? with
    |none=>simp[hr]at h
    |some row =>
     simp only[hr]at h;obtain⟨b,base,h0,h1,V,W⟩:=F1w (hi.box k _ (Gu I)) hr O;refine E h0 h1 V W ?_;cases hT:Cr P T with
     |none=>simp[hT]at h
     |some g =>
      cases g with
      |false=>simpa [hT]using h
      |true =>
       simp only[hT]at h |-;cases hs:Be P T with
       |none=>simp[hs]at h
       |some m =>
        simp only[hs]at h |-;split at h
        .rename_i hl;rw[A8 hl.1];exact h
        .simp at h
   |cells _=>simp[I]at h
   |map _=>simp[I]at h
   |iter _ _=>simp[I]at h
   |ghost _ _=>simp[I]at h
 |undef=>simp[L5]at h
 |agg _=>simp[L5]at h
 |tuple _=>simp[L5]at h
 |acc _=>simp[L5]at h
 |mp _=>simp[L5]at h
 |Eo _=>simp[L5]at h
 |F5 cells off =>
  simp only[L5]at h;cases O with
  |F5 _ _ b I h1 V W =>
   cases hT:Cr P T with
   |none=>simp[hT]at h
   |some g =>
    cases g with
    |true=>simp[hT]at h
    |false =>simp only[hT]at h;obtain⟨u,J⟩:=V off (Az.1 h).1;exact⟨_,u,rfl,conv (C2a hT J),W off c u h J⟩
 |Bf _ _=>simp[L5]at h
def E8o{o:Oper}{ρ:Hz}{T:TypeId}{x:Operand}(E:o.op=.load T x){c:SV}(h:L5 P bx T (ρ x)=some c):Br P o ρ bx c bx [] :=
 .E4 λ_ _ w β a I O=>by obtain⟨p,u,L,hr,J⟩:=D2a I (O x (mC E)) h;exact⟨u,by simp[execOp,E,L,Instr.loadAt,Instr.sureAddr,hr],J⟩
def B5j(P:Program)(bx:Ab)(sl:SL):ResultVar->Option SV
 |.tmp t=>some (Ae sl t)
 |.cell t T=>L5 P bx T (Ae sl t)
def Uv(P:Program)(bx:Ab)(sl:SL):List ResultVar->Option (List SV)
 |[]=>some []
 |r::rs=>match B5j P bx sl r with
  |some x=>match Uv P bx sl rs with
   |some l=>some (x::l)
   |none=>none
  |none=>none
def Wq:List SV->SV
 |[x]=>x
 |xs=>.tuple xs
variable {a:Act}
def D5d(hs:St C n S w β a sl bx)(g:ResultVar->Sem Value)(O:∀t,g (.tmp t)=pure (a.tmps.getD t undef))
  (L:∀x t,g (.cell x t)=do loadVar t (<-asAddr (a.tmps.getD x undef))):∀(rs:List ResultVar) (xs:List SV),Uv P bx sl rs=some xs->∃vs,(rs.mapM g).run P w=.ok vs w/\Bv S w β xs vs
 |[],xs,h=>by simp only[Uv,B5]at h;subst h;exact⟨[],rfl,.nil⟩
 |r::rs,xs,h=>by
  simp only[Uv]at h;cases E:B5j P bx sl r with
  |none=>grind
  |some x =>
   cases J:Uv P bx sl rs with
   |none=>grind
   |some l =>
    simp only[E,J,B5]at h;subst h;obtain⟨vs,V,I⟩:=D5d hs g O L rs l J;cases r with
    |tmp t =>simp only[B5j,B5]at E;subst E;refine⟨_::vs,?_,.cons (hs.slot t) I⟩;simp_all
    |cell t T =>simp only[B5j]at E;obtain⟨p,u,Z,hr,U⟩:=D2a hs.inv (hs.slot t) E;refine⟨u::vs,?_,.cons U I⟩;have W:asAddr (.pointer (some p))=pure p:=rfl;simp_all
def C8q{fn:Func}(hs:St C n S w β a sl bx){xs:List SV}(h:Uv P bx sl fn.results.toList=some xs) :
  ∃v,(results fn a.tmps).run P w=.ok v w/\Am S w β (Wq xs) v:=by
 have key:∀(g:ResultVar->Sem Value),(∀t,g (.tmp t)=pure (a.tmps.getD t undef))->(∀x t,g (.cell x t)=do loadVar t (<-asAddr (a.tmps.getD x undef))) ->
   ∃v,(do let vs <-fn.results.mapM g;pure (if h:vs.size=1 then vs[0]else .tuple vs):Sem Value).run P w=.ok v w/\Am S w β (Wq xs) v:=by
  intro g U O;obtain⟨vs,L,E⟩:=D5d hs g U O _ _ h;have J:(fn.results.mapM g).run P w=.ok ⟨vs⟩ w:=by rw[Array.mapM_eq_mapM_toList,Sem.run_map,L];rfl
  have I:=E.1;simp only[Hm,J,H0,K8]
  match xs,vs,E,I with
  |[],[],E,_=>exact⟨.tuple ⟨[]⟩,rfl,.tuple [] [] rfl (by simp)⟩
  |[x],[v],E,_=>exact⟨v,rfl,E.2 0 x v rfl rfl⟩
  |x::y::xs,v::u::vs,E,_=>exact⟨.tuple ⟨v::u::vs⟩,by simp,.tuple _ _ E.1 E.2⟩
  |[],_::_,_,I=>grind
 exact key _ (λ_=>rfl) (λ_ _=>rfl)
def V6:Nat->List SV->SL
 |_,[]=>[]
 |i,x::xs=>(i,x)::V6 (i+1) xs
def E2u:∀(xs:List SV)(i t:Nat),Ae (V6 i xs) t=if i<=t then(xs[t - i]?).getD .undef else .undef
 |[],i,t=>by simp[V6,Ae]
 |x::xs,i,t=>by
  simp only[V6,Ae];split
  .grind
  .rename_i E;rw[E2u xs (i+1) t]
   grind
def D4c(P:Program)(fn:Func)(r:SV)(e:Exit)(sl:SL)(bx:Ab):Prop :=
 match e with
 |.normal| .ret=>∃xs,Uv P bx sl fn.results.toList=some xs/\coerce bx (Wq xs)=some r
 |_=>False
def St.start{pre:Ab}{args:List SV}{vs:List Value}{m:Nat}(L:Inv C C.S0 C.w0 β pre)(I:Bv C.S0 C.w0 β args vs)(O:args.length<=m) :
  St C m C.S0 C.w0 β { tmps:=(⟨vs⟩:Array Value)++Array.replicate (m - (⟨vs⟩:Array Value).size) undef,defers:=[] } (V6 0 args) pre:=by
 have V:=I.1;refine⟨L,by grind,.nil,?_⟩;intro t;rw[E2u];simp only[Ap6,Af,At4];cases ht:args[t]? with
 |none=>exact .undef _
 |some x =>
  obtain⟨v,E,U⟩:=I.get ht;have J:=(Az.1 E).1;have:((⟨vs⟩:Array Value)++Array.replicate (m - (⟨vs⟩:Array Value).size) undef).getD t undef=v:=by rw[An7,Aq2 (by omega)];simp[E]
  grind
theorem A1w{D:Nat}{l E:Option (List Deferred)}(h:w.heap[D]?=some (.deferred l))(b off:Nat):(w.putObj D (.deferred E)).cell? ⟨b,off,none⟩=w.cell? ⟨b,off,none⟩:=by grind[World.putObj_heap_same,World.cell?,World.putObj_heap_other]
def Bu.shut{D:Nat}{l Z:Option (List Deferred)}(h:w.heap[D]?=some (.deferred l)){d:Go.Abs.D}{v:Value}(hr:Bu S w d v):Bu S (w.putObj D (.deferred Z)) d v:=by
 induction hr with
 |int k n=>exact .int k n
 |bool b=>exact .bool b
 |str s hs=>exact .str s hs
 |nil=>exact .nil
 |emp a cap=>exact .emp a cap
 |Mk a cap h=>exact .Mk a cap h
 |slice rows b off cap sz O I L h3 W h5 _ E =>
  refine .slice rows b off cap sz O I L h3 W ?_ ?_
  .grind[A1w]
  grind[A1w]
 |agg cells vs I L _ E=>exact .agg cells vs I L E
 |ptr cells b base O L I _ E =>
  refine .ptr cells b base O L ?_ ?_
  .grind[A1w]
  grind[A1w]
 |Kx=>exact .Kx
 |map kvs r es J hr hh hs _ _ V U =>
  refine .map kvs r es J hr ?_ hs V U
  grind[World.putObj_heap_other]
 |Lg=>exact .Lg
 |iface t d v _ E=>exact .iface t d v E
 |Hc=>exact .Hc
 |fn f caps vs I _ E=>exact .fn f caps vs I E
 |Fh=>exact .Fh
 |cl f caps vs I _ E=>exact .cl f caps vs I E
def Am.shut{D:Nat}{l V:Option (List Deferred)}(h:w.heap[D]?=some (.deferred l)){x:SV}{v:Value}(hr:Am S w β x v):Am S (w.putObj D (.deferred V)) β x v:=by
 induction hr with
 |undef v=>exact .undef v
 |d x v U=>exact .d x v (U.shut h)
 |agg cells vs E L _ J=>exact .agg cells vs E L J
 |tuple cells vs E _ J=>exact .tuple cells vs E J
 |box k off b I=>exact .box k off b I
 |A9 cells off b base I E L W =>
  refine .A9 cells off b base I E ?_ ?_
  .grind[A1w]
  .intro j d v hd O;rw[A1w h]at O;exact(W j d v hd O).shut h
 |acc k=>exact .acc k
 |Eg k i off b I=>exact .Eg k i off b I
 |mp k b I=>exact .mp k b I
 |Eo l=>exact .Eo l
 |F5 cells off b hs E L _ J =>
  refine .F5 cells off b hs E ?_ ?_
  .grind[A1w]
  grind[A1w]
 |Bf f cells vs E _ J=>exact .Bf f cells vs E J
def De.shut{D:Nat}{l l':Option (List Deferred)}(h:w.heap[D]?=some (.deferred l)){i:BI}{c:Aq}(a0:i.base≠some D)(V:De S w β i c):De S (w.putObj D (.deferred l')) β i c:=by
 have Z:∀b,i.base=some b->(w.putObj D (.deferred l')).heap[b]?=w.heap[b]?:=λb V=>World.putObj_heap_other (by grind);cases c with
 |cells cs =>obtain⟨b,ty,vs,J,O,L⟩:=V;exact⟨b,ty,vs,J,(Z b J).trans O,L.1,λj c v hc hv=>(L.2 j c v hc hv).shut h⟩
 |rows sz rs =>
  obtain⟨J,O,L,U,h5,h6,h7⟩:=V;refine⟨J,O,L,U,h5,h6,?_⟩;cases I:i.base with
  |none=>grind
  |some b =>rw[I]at h7;obtain⟨ty,vs,g1,g2,g3⟩:=h7;exact⟨ty,vs,(Z b I).trans g1,g2,λr j row d v hr hd hv=>(g3 r j row d v hr hd hv).shut h⟩
 |map kvs =>obtain⟨b,es,E,J,O,L,U⟩:=V;exact⟨b,es,E,J,(Z b J).trans O,L,λr kv x hr W=>⟨(U r kv x hr W).1.shut h,(U r kv x hr W).2.shut h⟩⟩
 |iter kvs seen =>obtain⟨b,m,es,E,sn,J,O,hS,hm,L,U,h5⟩:=V;exact⟨b,m,es,E,sn,J,(Z b J).trans O,hS,(World.putObj_heap_other (by grind)).trans hm,L,λr kv x hr W=>⟨(U r kv x hr W).1.shut h,(U r kv x hr W).2.shut h⟩,h5⟩
 |ghost Y st=>exact V
def St.leave{m:Nat}{sl:SL}{bx:Ab}{fn:Func}{R:Ending->World->Prop}(hs:St C m S w β a sl bx)
  (h:∀w',St C m S w' β { tmps:=a.tmps,defers:=[] } sl bx->∃v,(results fn a.tmps).run P w'=.ok v w'/\R (.returned v) w'):LeavesInM Fence.wide 0 P fn a.tmps R a.defers .returning w:=by
 obtain⟨E,V,⟨Ds,hd,W,hD⟩,I⟩:=hs;rw[hd];clear hd
 induction Ds generalizing w with
 |nil=>exact h w ⟨E,V,.nil,I⟩
 |cons D Ds ih =>
  obtain⟨Z,q2,O⟩:=hD D (by simp);refine⟨by simp,.inl ⟨D,w.putObj D (.deferred none),rfl,run_takeDeferred O,ih ?_ ?_ (Ao3.1 W).2 ?_⟩⟩
  .exact{
    Fe:=E.Fe,Ej:=E.Ej,Bw:=λb J=>by simpa using E.Bw b J
    kept:=λb J hp=>(World.putObj_heap_other (by omega)).trans (E.kept b J hp)
    os:=E.os,tape:=E.tape,output:=E.output,size:=by simpa using E.size
    box:=λk c L=>(E.box k c L).shut O (λhe=>(E.Ba k c L D he).1 Z)
    Ba:=λk c L b J=>by simpa using E.Ba k c L b J
    inj:=E.inj
    E2:=λb cs hv=>by
     obtain⟨h1,ty,fr,U⟩:=E.E2 b cs hv
     grind[World.putObj_heap_other]
    one:=E.one
    Fo:=λk Y st L=>by obtain⟨h1,U,h3,h4,B,h5,h6⟩:=E.Fo k Y st L;refine⟨h1,U,h3,h4,B,U.shut st B S w D _ _ h5 (by grind) (λJ=>(h6 D J).1 Z) O,λb J=>?_⟩;simpa using h6 b J
    fix:=E.fix }
  .exact λt=>(I t).shut O
  grind[World.putObj_heap_other]
variable {c:Code}
def C3g{f:FuncId}{fn:Func}{args:Array Value}{R:Ending->World->Prop}(I:P.funcs[f]?=some fn)(E:fn.body=some c)
  (h:c.wpIn (FW none) 0 P (bodyPostM Fence.wide 0 P fn R) { tmps:=args++Array.replicate (fn.ntmps - args.size) undef,defers:=[] } w):Calls P f args w R :=
 (callsIn_wide (n:=0)).1 (callsIn_of_wp_marks (F:=Fence.wide) I E trivial h)
def Aa.B7w{f:FuncId}{fn:Func}{args:List SV}{r:SV}(O:P.funcs[f]?=some fn)(E:fn.body=some c)(hn:(fn.name == "runtime.NumGoroutine")=false)(V:args.length<=fn.ntmps)
  (h:A0 none P fn.ntmps c (D4c P fn r) (V6 0 args) []):Aa P f args r:=by
 refine⟨⟨fn,O,hn,by grind⟩,?_⟩;intro C β vs Z J;refine C3g O E ?_;refine Zq (h C C.S0 C.w0 β _ (St.start Z J V)) ?_;rintro e L w' ⟨sl',bx',S',β',q,hs⟩;have key:(∃xs,Uv P bx' sl' fn.results.toList=some xs/\coerce bx' (Wq xs)=some r)->LeavesInM Fence.wide 0 P fn L.tmps (λe w'=>∃v S' β',e=.returned v/\Inv C S' w' β' []/\Am S' w' β' r v) L.defers .returning w':=by
  rintro⟨xs,h1,h2⟩;refine hs.leave λw' hs=>?_;obtain⟨v,h3,W⟩:=C8q (P:=P) hs h1;refine⟨v,h3,v,λb=>S' b\/∃k c,(k,c)∈bx'/\(β' k).base=some b,β',rfl,?_,?_⟩
  .exact{
    Fe:=λb E=>.inl (hs.inv.Fe b E)
    Ej:=λb E=>by
     rcases E with E|⟨k,c,I,E⟩
     .exact hs.inv.Ej b E
     .exact .inr (hs.inv.Ba k c I b E).2.2
    Bw:=λb E=>by
     rcases E with E|⟨k,c,I,E⟩
     .exact hs.inv.Bw b E
     .exact(hs.inv.Ba k c I b E).2.1
    kept:=hs.inv.kept
    os:=hs.inv.os
    tape:=hs.inv.tape
    output:=hs.inv.output
    size:=hs.inv.size
    box:=λk c I=>by grind
    Ba:=λk c I=>by grind
    inj:=λk c U c' I=>by simp
    E2:=λb cs J=>⟨.inl (hs.inv.E2 b cs J).1,(hs.inv.E2 b cs J).2⟩
    one:=λk Y st U Y' st' I=>by simp
    Fo:=λk Y st I=>by grind
    fix:=hs.inv.fix }
  .exact(A6b hs.inv ⟨λ_ h=>.inl h,λ_ _=>rfl⟩ (λk c I b E=>.inr ⟨k,c,I,E⟩) h2 W).1
 cases e with
 |normal=>exact key q
 |ret=>exact key q
 |_=>exact q.elim
structure Py where
 fb:Nat->SV
 fa:SV
 fm:SV
mutual
def SV.sub(k:Nat)(f:Py):SV->SV
 |.box j off=>if j=k then f.fb off else .box j off
 |.acc j=>if j=k then f.fa else .acc j
 |.mp j=>if j=k then f.fm else .mp j
 |.Eg j i off=>.Eg j i off
 |.agg cs=>.agg (SV.L8 k f cs)
 |.tuple cs=>.tuple (SV.L8 k f cs)
 |.Bf g cs=>.Bf g (SV.L8 k f cs)
 |.undef=>.undef
 |.d x=>.d x
 |.A9 c off=>.A9 c off
 |.Eo l=>.Eo l
 |.F5 cs off=>.F5 (SV.L8 k f cs) off
def SV.L8(k:Nat)(f:Py):List SV->List SV
 |[]=>[]
 |c::cs=>c.sub k f::SV.L8 k f cs
end
def SV.A4s(k:Nat)(f:Py):∀cs:List SV,SV.L8 k f cs=cs.map (SV.sub k f)
 |[]=>rfl
 |c::cs=>by simp[SV.L8,SV.A4s k f cs]
structure A6u(S S':Nat->Prop)(w:World)(β:Names)(k:Nat)(f:Py):Prop where
 fb:∀off v,Am S w β (.box k off) v->Am S' w β (f.fb off) v
 fa:∀v,Am S w β (.acc k) v->Am S' w β f.fa v
 fm:∀v,Am S w β (.mp k) v->Am S' w β f.fm v
 one:(∀off,(f.fb off).one=true)/\f.fa.one=true/\f.fm.one=true
theorem SV.sub_one{S S':Nat->Prop}{k:Nat}{f:Py}(E:A6u S S' w β k f){x:SV}(h:x.one=true):(x.sub k f).one=true:=by
 cases x <;> simp only[SV.sub] <;> first
  |exact h
  |(split;exact E.one.1 _;rfl)
  |(split;exact E.one.2.1;rfl)
  |(split;exact E.one.2.2;rfl)
  |rfl
def Am.sub{S S':Nat->Prop}{k:Nat}{f:Py}(I:A6u S S' w β k f)(e:C4 S w S' w){x:SV}{v:Value}(h:Am S w β x v):Am S' w β (x.sub k f) v:=by
 induction h with
 |undef v=>exact .undef v
 |d x v h=>exact .d x v (h.ext e)
 |agg cells vs E L _ J =>
  simp only[SV.sub,SV.A4s];refine .agg _ vs (by grind) ?_ ?_
  .grind[SV.sub_one]
  grind
 |tuple cells vs E _ J =>
  simp only[SV.sub,SV.A4s];refine .tuple _ vs (by grind) ?_
  grind
 |box j off b h =>
  simp only[SV.sub];split
  .subst_vars;exact I.fb off _ (.box _ off b h)
  .exact .box j off b h
 |A9 cells off b base E L U O=>exact Am.ext (.A9 cells off b base E L U O) e (λ_ _=>rfl)
 |acc j =>
  simp only[SV.sub];split
  .subst_vars;exact I.fa _ (.acc _)
  .exact .acc j
 |Eg j i off b h=>exact .Eg j i off b h
 |Eo l=>exact .Eo l
 |F5 cells off b hs E L _ J =>
  simp only[SV.sub,SV.A4s];refine .F5 _ off b (e.sub b hs) ?_ (by grind) ?_
  .grind[SV.sub_one]
  grind
 |mp j b h =>
  simp only[SV.sub];split
  .subst_vars;exact I.fm _ (.mp _ b h)
  .exact .mp j b h
 |Bf f cells vs E _ J =>
  simp only[SV.sub,SV.A4s];refine .Bf f _ vs (by grind) ?_
  grind
def L7(k:Nat)(f:Py):SL->SL
 |[]=>[]
 |(t,x)::r=>(t,x.sub k f)::L7 k f r
def Aq.sub(k:Nat)(f:Py):Aq->Aq
 |.cells cs=>.cells (SV.L8 k f cs)
 |c=>c
def Jo(k:Nat)(f:Py):Ab->Ab
 |[]=>[]
 |(j,c)::r=>(j,c.sub k f)::Jo k f r
def C6h(k:Nat)(f:Py):∀(sl:SL)(t:Nat),Ae (L7 k f sl) t=(Ae sl t).sub k f
 |[],t=>rfl
 |(u,x)::r,t=>by
  simp only[L7,Ae];split
  .rfl
  .exact C6h k f r t
def Nu{k j:Nat}{f:Py}{c:Aq} :∀{bx:Ab},(j,c)∈Jo k f bx->∃x,(j,x)∈bx/\c=x.sub k f
 |[],h=>by simp[Jo]at h
 |(i,x)::r,h=>by
  simp only[Jo,B1,Fp]at h;rcases h with⟨L,E⟩|h
  .grind
  .obtain⟨y,J,I⟩:=Nu h;grind
def A0.A3x(k:Nat){bc:Aq}{f:Py}(hk:(k,bc)∈bx)
  (hf:∀(S:Nat->Prop) (w:World) (β:Names),De S w β (β k) bc->(∀b,(β k).base=some b->S b)->A6u S S w β k f)
  (h:A0 ro P n c Q (L7 k f sl) (Jo k f (Cd k bx))):A0 ro P n c Q sl bx:=by
 intro C S w β a hs
 let S':Nat->Prop:=λb=>S b\/(β k).base=some b
 have e:C4 S w S' w:=⟨λ_ h=>.inl h,λ_ _=>rfl⟩;have E:=hs.inv;have a2:De S' w β (β k) bc:=(E.box k _ hk).ext e (λ_ _=>rfl) (λ_ _=>rfl);have a6:=hf S' w β a2 (λb hb=>.inr hb);have hr:A6u S' S' w β k f:=a6;have Z:∀{x:SV} {v:Value},Am S w β x v->Am S' w β (x.sub k f) v:=λhv=>(hv.ext e (λ_ _=>rfl)).sub hr (C4.refl _ _);refine h C S' w β a ⟨?_,hs.size,hs.defers.ext e,λt=>by rw[C6h];exact Z (hs.slot t)⟩;exact{
  Fe:=λb hb=>.inl (E.Fe b hb)
  Ej:=λb hb=>by
   rcases hb with hb|hb
   .exact E.Ej b hb
   .exact .inr (E.Ba k _ hk b hb).2.2
  Bw:=λb hb=>by
   rcases hb with hb|hb
   .exact E.Bw b hb
   .exact(E.Ba k _ hk b hb).2.1
  kept:=E.kept
  os:=E.os
  tape:=E.tape
  output:=E.output
  size:=E.size
  box:=λj c U=>by
   obtain⟨x,I,rfl⟩:=Nu U;obtain⟨a3,I⟩:=Ee.1 I;have:=E.box j x I;cases x with
   |cells cs =>obtain⟨b,ty,vs,h1,h2,h3⟩:=this;refine⟨b,ty,vs,h1,h2,?_⟩;rw[SV.A4s];refine h3.map (by simp) ?_;intro i x y v L hy hv;simp only[Df,L,Ez,B5]at hy;subst hy;exact Z hv
   |rows sz rs=>exact De.ext (c:=.rows sz rs) this e (λ_ _=>rfl) (λ_ _=>rfl)
   |map kvs=>exact De.ext (c:=.map kvs) this e (λ_ _=>rfl) (λ_ _=>rfl)
   |iter kvs seen=>exact De.ext (c:=.iter kvs seen) this e (λ_ _=>rfl) (λ_ _=>rfl)
   |ghost Y st=>exact this
  Ba:=λj c U b hb=>by
   obtain⟨x,I,rfl⟩:=Nu U;obtain⟨a3,I⟩:=Ee.1 I;obtain⟨h1,h2,h3⟩:=E.Ba j x I b hb;refine⟨λhs=>?_,h2,h3⟩;rcases hs with hs|hs
   .grind
   .exact a3 (E.inj j x k _ I hk b hb hs).1
  inj:=λj c j' c' U a1 b hb a5=>by
   obtain⟨x,I,rfl⟩:=Nu U;obtain⟨x',L,rfl⟩:=Nu a1;obtain⟨h1,h2⟩:=E.inj j x j' x' (Ee.1 I).2 (Ee.1 L).2 b hb a5
   grind
  E2:=λb cs hv=>⟨.inl (E.E2 b cs hv).1,(E.E2 b cs hv).2⟩
  one:=λj Y st j' Y' st' U a1=>by
   obtain⟨x,I,O⟩:=Nu U;obtain⟨x',L,a0⟩:=Nu a1;have e1:x=.ghost Y st:=by cases x <;> simp only[Aq.sub,reduceCtorEq]at O;exact O.symm
   have e2:x'=.ghost Y' st':=by cases x' <;> simp only[Aq.sub,reduceCtorEq]at a0;exact a0.symm
   subst e1;subst e2;exact E.one j Y st j' Y' st' (Ee.1 I).2 (Ee.1 L).2
  Fo:=λj Y st U=>by
   obtain⟨x,I,O⟩:=Nu U;have a4:x=.ghost Y st:=by cases x <;> simp only[Aq.sub,reduceCtorEq]at O;exact O.symm
   subst a4;obtain⟨h1,h2,h3,h4,B,h5,h6⟩:=E.Fo j Y st (Ee.1 I).2;have a7:=E.size;have hB:∀b,B b->¬S' b:=λb hb hs=>hs.elim (h6 b hb).1 ((h6 b hb).2.2.2 k _ hk);have W:∀V c',(V,c')∈Jo k f (Cd k bx)->∃y,(V,y)∈bx:=λV c' J=>by obtain⟨y,hy,_⟩:=Nu J;exact⟨y,(Ee.1 hy).2⟩
   refine⟨h1,h2,h3,λV c' J=>(W V c' J).elim λy hy=>h4 V y hy,B,h2.W3 st B S w _ w h5 ⟨λ_ h=>.inl h,λb hb=>hb.imp id λhb=>by grind,λb hb=>?_,hB,λ_ _=>rfl,rfl,rfl,rfl,Bs _⟩,
    λb hb=>⟨hB b hb,(h6 b hb).2.1,(h6 b hb).2.2.1,λV c' J=>(W V c' J).elim λy hy=>(h6 b hb).2.2.2 V y hy⟩⟩
   rcases hb with hb|hb
   .exact E.Bw b hb
   .exact(E.Ba k _ hk b hb).2.1
  fix:=E.fix }
def A0.Lw(k:Nat){sz:Nat}{rs:List (List D)}(L:A7 bx k=some (.rows sz rs))
  (h:A0 ro P n c Q (L7 k ⟨λoff=>.box k off,.d (.slice rs),.mp k⟩ sl) (Jo k ⟨λoff=>.box k off,.d (.slice rs),.mp k⟩ (Cd k bx))):A0 ro P n c Q sl bx :=
 A0.A3x k (Gu L) (λS w β J I=>⟨λoff v E=>E,λv E=>by cases E;exact .d _ _ (J.B5t I),λv E=>E,λ_=>rfl,rfl,rfl⟩) h
def A0.zz(k:Nat){cs:List SV}{ds:List D}(U:A7 bx k=some (.cells cs))(hd:Tq cs=some ds)
  (h:A0 ro P n c Q (L7 k ⟨λoff=>.A9 ds off,.acc k,.mp k⟩ sl) (Jo k ⟨λoff=>.A9 ds off,.acc k,.mp k⟩ (Cd k bx))):A0 ro P n c Q sl bx:=by
 refine A0.A3x k (Gu U) (λS w β Z V=>⟨λoff v E=>?_,λv E=>E,λv E=>E,λ_=>rfl,rfl,rfl⟩) h;obtain⟨b,ty,vs,J,L,O⟩:=Z;obtain⟨q1,W,q3⟩:=B2d cs ds vs hd O;have hl:=O.1;cases E with
 |box _ _ b' I =>
  rw[J]at I;cases I;have:=Am.A9 (S:=S) (w:=w) (β:=β) ds off b 0 (V b J) W (λj hj=>⟨vs[j]'(by omega),by rw[cells_of_row L,Ky];simp⟩)
   (λj d v hd E=>q3 j d v hd (by rw[cells_of_row L,Ky]at E;exact E))
  grind
def A0.D5t(k:Nat){cs:List SV}(U:A7 bx k=some (.cells cs))(V:cs.all SV.one=true)
  (h:A0 ro P n c Q (L7 k ⟨λoff=>.F5 cs off,.acc k,.mp k⟩ sl) (Jo k ⟨λoff=>.F5 cs off,.acc k,.mp k⟩ (Cd k bx))):A0 ro P n c Q sl bx:=by
 refine A0.A3x k (Gu U) (λS w β Z hS=>⟨λoff v E=>?_,λv E=>E,λv E=>E,λ_=>rfl,rfl,rfl⟩) h;obtain⟨b,ty,vs,L,W,O⟩:=Z;have hl:=O.1;cases E with
 |box _ _ b' I =>
  rw[L]at I;cases I;exact .F5 cs off b (hS b L) (λc J=>Dm.1 V c J) (λj hj=>⟨vs[j]'(by omega),by rw[cells_of_row W];simp⟩)
   (λj c v J E=>O.2 j c v J (by grind[cells_of_row]))
def A0.E5t(k:Nat){kvs:List (D × D)}(I:A7 bx k=some (.map kvs))
  (h:A0 ro P n c Q (L7 k ⟨λoff=>.box k off,.acc k,.d (.map kvs)⟩ sl) (Jo k ⟨λoff=>.box k off,.acc k,.d (.map kvs)⟩ (Cd k bx))):A0 ro P n c Q sl bx:=by
 refine A0.A3x k (Gu I) (λS w β hb hS=>⟨λoff v L=>L,λv L=>L,λv L=>?_,λ_=>rfl,rfl,rfl⟩) h;obtain⟨b,es,E,V,W,Z,U⟩:=hb;cases L with
 |mp _ b' J =>rw[V]at J;cases J;exact .d _ _ (.map _ b es E (hS b V) W Z (λi kv e I O=>(U i kv e I O).1) (λi kv e I O=>(U i kv e I O).2))
def A0.pp(k sz t:Nat)(hd:Ae sl t=.d .nil)(h:A0 ro P n c Q ((t,.acc k)::W9 k sl) ((k,.rows sz [])::H8 k (Cd k bx)))(I:k<=999999:=by decide):A0 ro P n c Q sl bx:=by
 intro C S w β a hs;obtain⟨J,O⟩:=hs.inv.Tb (k:=k) (w':=w) (c:=.rows sz []) { base:=none,sz:=sz } I (by simp) (λ_ _ _=>rfl) rfl rfl rfl (Bs _) (λ_=>B9a);refine h C S w _ a ⟨J,hs.size,hs.defers,?_⟩;intro u;simp only[Ae];split
 .rename_i L;subst L;have E:=hs.slot t;rw[hd]at E;generalize a.tmps.getD t undef=v at E;cases E with
  |d _ _ E =>
   cases E;have:=Am.acc (S:=S) (w:=w) (β:=Ed β k { base:=none,sz:=sz }) k
   grind[Gw]
 .rw[A7h];exact(hs.slot u).Sc O
end Go.Abs
namespace Go.Abs
open Go
variable {P:Program} {o:Oper} {ρ:Hz} {bx:Ab}
def D.lit:D->Lit
 |.str s=>.string s
 |.int k n=>.int k n
 |.bool b=>.bool b
 |_=>.nil
def D.flatK:D->Bool
 |.str _| .int _ _| .bool _=>true
 |_=>false
def D.lits:D->List Lit
 |.agg cs=>cs.map D.lit
 |d=>[d.lit]
def D.kv:D->Value
 |.agg cs=>.agg ⟨cs.map λc=>c.lit.value⟩
 |d=>d.lit.value
def D.isKey:D->Bool
 |.agg cs=>cs.all D.flatK
 |d=>d.flatK
variable {S:Nat->Prop} {w:World}
def Bu.F2c{d:D}{v:Value}(h:Bu S w d v)(E:d.flatK=true):v=d.lit.value:=by cases h <;> simp[D.flatK]at E <;> rfl
theorem Bu.kv{d:D}{v:Value}(h:Bu S w d v)(E:d.isKey=true):v=d.kv:=by
 cases h with
 |agg cells vs O V L =>
  simp only[D.kv,Value.agg.injEq];apply Kt;simp only;apply Ld;intro j;rw[Df];cases I:cells[j]? with
  |none =>grind
  |some c =>have U:=(Az.1 I).1;have J:vs[j]?=some (vs[j]'(by omega)):=Bi (by omega);rw[J];have:=L j c _ I J;simp only[D.isKey,Dm]at E;rw[this.F2c (E c (C6 I))];rfl
 |_=>first|rfl| (simp[D.isKey,D.flatK]at E;done)|rfl
structure E7(P:Program)(kt:TypeId)(d:D):Prop where
 isKey:d.isKey=true
 formed:d.kv.formed P kt=true
 lits:P.keyLits (P.types.size+1) kt d.kv.cells.toList=some d.lits
def Mi(P:Program)(E:TypeId):Bool:=P.keyTypeAt 100 E && match P.underlying E with
 |some .string|some (.struct _)|some (.array _ _)=>true
 |_=>false
def E7.same{J:TypeId}{d E:D}(h:E7 P J d)(L:E7 P J E)(e:d.lits=E.lits):d.kv=E.kv:=by
 have f1:=h.formed;have f2:=L.formed;have m:∀a b:List D,a.map D.lit=b.map D.lit->(a.map λc=>c.lit.value)=b.map λc=>c.lit.value:=λa b I=>by
  have:=Gi (List.map Lit.value) I
  grind[Function.comp_def]
 have U:=h.isKey;have O:=L.isKey;cases d with
 |agg cs =>
  cases E with
  |agg cs'=>grind[D.lits,D.kv]
  |str _|int _ _|bool _ =>grind[D.kv,D.lit,Lit.value,Value.formed]
  |_=>simp[D.isKey,D.flatK]at O
 |str _|int _ _|bool _ =>
  cases E with
  |agg cs' =>grind[D.kv,D.lit,Lit.value,Value.formed]
  |str _|int _ _|bool _=>simp only[D.lits,Z2,Sn]at e;simp only[D.kv];rw[e]
  |_=>simp[D.isKey,D.flatK]at O
 |_=>simp[D.isKey,D.flatK]at U
def F8x(l:Lit)(h:l≠.nil):Instr.sameBits 9999 l.value l.value=true:=by cases l <;> simp only[Lit.value,Instr.sameBits,ne_eq,At9,beq_self_eq_true,Bool.and_self]at* <;> grind[MapKept.bytes_beq]
def E9m{d:D}(h:d.isKey=true):Instr.sameBits 10000 d.kv d.kv=true:=by
 cases d with
 |agg cs =>
  simp only[D.kv,Instr.sameBits,beq_self_eq_true,Cj];simp only[D.isKey,Dm]at h;rw[Dm];intro p O;obtain⟨i,J⟩:=Sy.1 O;rw[Am2]at J;obtain⟨I,L⟩:=J;have U:p.1=p.2:=by rw[I]at L;exact X9 L
  obtain⟨c,V,E⟩:=Au.1 (C6 I);rw[<-U,<-E];refine F8x _ ?_;have:=h c V;cases c <;> simp[D.flatK]at this <;> simp[D.lit]
 |_=>first|rfl|grind[D.kv,D.lit,Lit.value,Instr.sameBits]|exact(Au0 _ _).2 rfl
instance litDec:DecidableEq Lit:=by intro a b;cases a <;> cases b <;> simp only[Lit.bool.injEq,Lit.int.injEq,Lit.float.injEq,Lit.string.injEq,reduceCtorEq] <;> infer_instance
def F9(l:List Lit):List (D × D)->Nat->Option (Nat × D)
 |[],_=>none
 |kv::r,i=>if l=kv.1.lits then some (i,kv.2)else F9 l r (i+1)
def Wf(k v:D)(kvs:List (D × D)):List (D × D):=match F9 k.lits kvs 0 with
 |some (j,_)=>kvs.set j (k,v)
 |none=>kvs++[(k,v)]
def G6e{E:TypeId}(I:Mi P E=true)(w:World){a b:D}(L:E7 P E a)(J:E7 P E b) :
  ∃r:Bool,(Op.equal E a.kv b.kv).run P w=.ok r w/\(r=true↔a.lits=b.lits):=by
 unfold Mi at I;simp only[Bb]at I;exact run_equalIn_deep 9900 100 E I.1 w _ _ a.kv b.kv a.lits b.lits L.formed J.formed L.lits J.lits
def C7g{E:TypeId}(I:Mi P E=true)(L:Bool)(w:World){a:D}(J:E7 P E a):(Instr.checkKey L 10000 E a.kv).run P w=.ok () w:=by unfold Mi at I;simp only[Bb]at I;exact run_checkKey_deep L 9900 100 E I.1 w _ a.kv a.lits J.formed J.lits
def Found(es:List MapEntry)(i:Nat):Option (Nat × D)->Option (Nat × Value)->List (D × D)->Prop
 |none,r,_=>r=none
 |some (j,d),r,kvs=>∃e k,i<=j/\es[j - i]?=some e/\kvs[j - i]?=some (k,d)/\r=some (j,e.val)
def E0n{J:TypeId}(O:Mi P J=true)(w:World){a:D}(W:E7 P J a):∀(es:List MapEntry)(kvs:List (D × D))(i:Nat),es.length=kvs.length ->
  (∀(j:Nat) (e:MapEntry) (kv:D × D),es[j]?=some e->kvs[j]?=some kv->e.key=kv.1.kv/\E7 P J kv.1) ->
  ∃r,(Instr.findAsking J a.kv es i).run P w=.ok r w/\Found es i (F9 a.lits kvs i) r kvs
 |[],[],i,_,_=>⟨none,by rfl,rfl⟩
 |[],_::_,_,h,_=>by grind
 |_::_,[],_,h,_=>by grind
 |e::es,kv::kvs,i,h,E=>by
  obtain⟨V,h2⟩:=E 0 e kv rfl rfl;obtain⟨r,hr,I⟩:=G6e O w W h2;simp only[F9];by_cases L:a.lits=kv.1.lits
  .rw[A8 L];have:r=true:=I.2 L;subst this;exact⟨some (i,e.val),by simp[Instr.findAsking,V,hr],e,kv.1,by omega,by simp,by simp,rfl⟩
  .rw[A6 L];have:r=false:=by cases r with|false=>rfl|true=>grind
   subst this;obtain⟨r,g1,U⟩:=E0n O w W es kvs (i+1) (by grind) (λj e kv L a0=>E (j+1) e kv (by grind) (by grind));refine⟨r,by simp[Instr.findAsking,V,hr,g1],?_⟩;generalize F9 a.lits kvs (i+1)=q at*;cases q with
   |none=>exact U
   |some jd =>
    obtain⟨j,d⟩:=jd;obtain⟨Z,k',q1,q2,q3,q4⟩:=U;refine⟨Z,k',by omega,?_,?_,q4⟩
    .grind
    grind
def E3u{J:TypeId}(hs:P.underlying J=some .string){a:D}(U:E7 P J a):∀(es:List MapEntry)(kvs:List (D × D))(i:Nat),es.length=kvs.length ->
  (∀(j:Nat) (e:MapEntry) (kv:D × D),es[j]?=some e->kvs[j]?=some kv->e.key=kv.1.kv/\E7 P J kv.1) ->
  ∃r,Instr.findNow .string a.kv es i=some r/\Found es i (F9 a.lits kvs i) r kvs
 |[],[],i,_,_=>⟨none,by rfl,rfl⟩
 |[],_::_,_,h,_=>by grind
 |_::_,[],_,h,_=>by grind
 |e::es,kv::kvs,i,h,E=>by
  obtain⟨h1,h2⟩:=E 0 e kv rfl rfl;have str:∀{d:D},E7 P J d->∃s,d=.str s:=λ{d} hd=>by
   have f:=hd.formed;have l:=hd.lits;have k:=hd.isKey;cases d with
   |str s=>simp
   |agg cs=>grind[D.kv,Value.formed]
   |int k n=>simp[D.kv,D.lit,Lit.value,Program.keyLits,hs,Value.cells]at l
   |bool b=>simp[D.kv,D.lit,Lit.value,Program.keyLits,hs,Value.cells]at l
   |_=>simp[D.isKey,D.flatK]at k
  obtain⟨s,rfl⟩:=str U;obtain⟨k,d⟩:=kv;obtain⟨t,rfl⟩:=str h2;simp only[F9];have I:Instr.sameNow .string (D.str s).kv e.key=some (decide (s=t)):=by
   rw[h1];simp only[D.kv,D.lit,Lit.value,Instr.sameNow,B5];rw[Xm];rw[Au0];simp only[ByteArray.mk.injEq,Dp];constructor
   .simp
   .simp
  by_cases L:s=t
  .subst L;rw[A8 rfl];exact⟨some (i,e.val),by simp[Instr.findNow,I],e,_,by omega,by simp,by simp;rfl,rfl⟩
  .rw[A6 (by simpa [D.lits,D.lit]using L)];obtain⟨r,g1,O⟩:=E3u hs U es kvs (i+1) (by grind) (λj e kv L a0=>E (j+1) e kv (by grind) (by grind));refine⟨r,by grind[Instr.findNow],?_⟩;generalize F9 (D.str s).lits kvs (i+1)=q at*;cases q with
   |none=>exact O
   |some Z =>
    obtain⟨j,d⟩:=Z;obtain⟨V,W,q1,q2,q3,q4⟩:=O;refine⟨V,W,by omega,?_,?_,q4⟩
    .grind
    grind
def C3q{J:TypeId}(L:Mi P J=true)(w:World){a:D}(O:E7 P J a)(es:List MapEntry)(kvs:List (D × D))(U:es.length=kvs.length)
  (E:∀(j:Nat) (e:MapEntry) (kv:D × D),es[j]?=some e->kvs[j]?=some kv->e.key=kv.1.kv/\E7 P J kv.1) :
  ∃r,(Instr.findKey J a.kv es).run P w=.ok r w/\Found es 0 (F9 a.lits kvs 0) r kvs:=by
 by_cases hs:P.underlying J=some .string
 .obtain⟨r,V,W⟩:=E3u hs O es kvs 0 U E
  grind[MapKept.run_findKey]
 .have Z:(match P.underlying J with|some (.array _ _)|some (.struct _)=>true|_=>false)=true:=by
   have I:=L;unfold Mi at I;simp only[Bb]at I;have:=I.2
   grind
  obtain⟨r,V,W⟩:=E0n L w O es kvs 0 U E
  grind[run_findKey_eq]
def Me:SV->Option D
 |.d x=>some x
 |.agg cs=>(Tq cs).map .agg
 |_=>none
def ofD:D->SV
 |.agg cs=>.agg (cs.map .d)
 |d=>.d d
variable {β:Names}
def C1f{x:SV}{d:D}{v:Value}(h:Am S w β x v)(hd:Me x=some d):Bu S w d v:=by
 cases h with
 |d x v h=>grind[Me]
 |agg cells vs I U L =>simp only[Me,Jv]at hd;obtain⟨ds,E,rfl⟩:=hd;obtain⟨V,J,O⟩:=B2d cells ds vs E ⟨I,L⟩;exact .agg ds vs (by omega) J O
 |_=>simp[Me]at hd
def G7q{d:D}{v:Value}(h:Bu S w d v):Am S w β (ofD d) v:=by
 cases h with
 |agg cells vs O I J =>
  refine .agg _ vs (by grind) ?_ ?_
  .intro c E;obtain⟨d,hd,rfl⟩:=Au.1 E;exact I d hd
  .intro j c v E L;rw[Df,Jv]at E;obtain⟨d,hd,rfl⟩:=E;exact .d _ _ (J j d v hd L)
 |int|bool|str|nil|emp|Mk|slice|ptr|Kx|map|Lg|iface|Hc|fn|Fh|cl=>exact .d _ _ (by constructor <;> omega)
def A4k(P:Program)(T:TypeId):Option SV:=match(P.info? T).bind (·.zero)with
 |some (.agg _)=>none
 |some z=>some (Kc z)
 |none=>none
def F4n{T:TypeId}{z:SV}(h:A4k P T=some z)(w:World):∃v,(zeroValue T).run P w=.ok v w/\z=Kc v:=by
 unfold A4k at h;cases E:P.info? T with
 |none=>grind
 |some i =>
  cases I:i.zero with
  |none=>grind
  |some v =>
   simp only[E,I,Aq6]at h;refine⟨v,by simp[zeroValue,typeInfo,E,I],?_⟩
   grind
theorem G8g{T k:Nat}(E:k<=999999)(L:o.op=.makeMap T none):Br P o ρ bx (.mp k) ((k,.map [])::H8 k (Cd k bx)) [k]:=by
 intro C S w β a I W;obtain⟨O,U⟩:=I.Tb (k:=k) (w':={ w with heap:=w.heap.push (.map #[] 0) }) (c:=.map []) { base:=some w.heap.size } E (by
   intro b J;cases J;exact⟨λh=>by have:=I.Bw _ h;omega,by simp,.inl (Bs _)⟩)
  (λb J _=>by grind) rfl rfl rfl (by simp) (λ_=>by refine⟨w.heap.size,#[],0,rfl,by simp,⟨rfl,by simp[Vw]⟩,?_⟩;simp)
 refine I7 ?_;unfold Oper.wp;have:(execOp a.eval o).run P w=.ok (.value (.map (some w.heap.size))) { w with heap:=w.heap.push (.map #[] 0) }:=by simp[execOp,L,Instr.makeMap,newObj];rfl
 rw[this];exact⟨_,S,_,rfl,O,U,.mp k _ (by rw[Gw]),λj V=>Lu (by grind)⟩
def C0k{L:TypeId}{kvs:List (D × D)}{es:Array MapEntry}(O:es.size=kvs.length)
  (h:∀(r:Nat) (kv:D × D) (e:MapEntry),kvs[r]?=some kv->es[r]?=some e->Bu S w kv.1 e.key)(E:∀kv,kv∈kvs->E7 P L kv.1) :
  ∀(j:Nat) (e:MapEntry) (kv:D × D),es.toList[j]?=some e->kvs[j]?=some kv->e.key=kv.1.kv/\E7 P L kv.1:=by
 intro j e kv U I;have J:=E kv (C6 I);exact⟨(h j kv e I (by grind)).kv J.isKey,J⟩
def B8s{C:Ctx}{k r:Nat}{x:Aq}{kvs:List (D × D)}(W:Inv C S w β bx)(Z:(k,x)∈bx)(I:(β k).base=some r)(a0:r<w.heap.size)
  (es:Array MapEntry)(E:Nat)(U:MSz es E kvs.length)(L:∀(j:Nat) (kv:D × D) (e:MapEntry),kvs[j]?=some kv->es[j]?=some e->Bu S w kv.1 e.key/\Bu S w kv.2 e.val) :
  Inv C S { w with heap:=w.heap.setIfInBounds r (.map es E) } β ((k,.map kvs)::Cd k bx)/\C4 S w S { w with heap:=w.heap.setIfInBounds r (.map es E) }:=by
 refine W.B3d Z I (λb' J=>by grind) rfl rfl rfl (by simp) ?_;have e0:C4 S w S { w with heap:=w.heap.setIfInBounds r (.map es E) } :=
  ⟨λ_ h=>h,λb' J=>by
   have:b'≠r:=λO=>(W.Ba k _ Z r I).1 (O ▸ J)
   grind⟩
 exact⟨r,es,E,I,by grind,U,λj kv e V O=>⟨(L j kv e V O).1.ext e0,(L j kv e V O).2.ext e0⟩⟩
def E3f(l:List Lit):∀(kvs:List (D × D))(i j:Nat)(d:D),F9 l kvs i=some (j,d)->∃k,i<=j/\kvs[j - i]?=some (k,d)/\l=k.lits
 |[],_,_,_,h=>by simp[F9]at h
 |kv::r,i,j,d,h=>by
  simp only[F9]at h;split at h
  .grind
  .obtain⟨k,J,E,I⟩:=E3f l r (i+1) j d h
   grind
def F4m{T kt et k:Nat}{m x y:Operand}(ho:o.op=.mapUpdate T m x y){kvs:List (D × D)}{kd vd:D}(hm:ρ m=.mp k)(hb:(k,Aq.map kvs)∈bx)
  (hT:P.underlying T=some (.map kt et))(a4:Mi P kt=true)(hx:Me (ρ x)=some kd)(L:E7 P kt kd)(U:∀kv,kv∈kvs->E7 P kt kv.1)(hy:Me (ρ y)=some vd) :
  Br P o ρ bx (.tuple []) ((k,.map (Wf kd vd kvs))::Cd k bx) []:=by
 intro C S w β a hi ha;have a2:=ha m (mC ho);rw[hm]at a2;have a9:=C1f (ha x (mC ho)) hx;have aa:=C1f (ha y (mC ho)) hy;have a1:=a9.kv L.isKey;obtain⟨r,es,E,I,hh,a3,a5⟩:=hi.box k _ hb;have a6:=a3.1;generalize a8:a.eval m=mv at a2;cases a2 with
 |mp _ b J =>
  rw[I]at J;cases J;obtain⟨q,hq,hf⟩:=C3q a4 w L es.toList kvs (by omega) (C0k a6 (λr kv e Z W=>(a5 r kv e Z W).1) U);have O:=C7g a4 false w L;have a7:r<w.heap.size:=(hi.Ba k _ hb r I).2.1;rw[<-a1]at hq O;unfold Wf;cases a0:F9 kd.lits kvs 0 with
  |none =>
   rw[a0]at hf;simp only[Found]at hf;subst hf;obtain⟨Z,W⟩:=B8s (kvs:=kvs++[(kd,vd)]) hi hb I a7 (es.push { key:=a.eval x,val:=a.eval y,born:=E }) (E+1) ⟨by grind,a3.2.push _ _⟩ (by grind)
   refine I7 ?_;unfold Oper.wp;rw[show(execOp a.eval o).run P w=.ok .skip { w with heap:=w.heap.setIfInBounds r (.map (es.push { key:=a.eval x,val:=a.eval y,born:=E }) (E+1)) } by simp[execOp,ho,a8,Instr.mapUpdate,Xp hT,Ai1 hh,O,hq,MapKept.run_setObj_map _ hh]]
   exact⟨undef,S,β,rfl,Z,W,.tuple [] [] rfl (by simp),λ_ _=>rfl⟩
  |some jd =>
   obtain⟨j,d⟩:=jd;rw[a0]at hf;obtain⟨e,k',_,g1,g2,rfl⟩:=hf;simp only[At4,Am9]at g1 g2;have a':e.key=a.eval x:=by obtain⟨p1,p2⟩:=C0k a6 (λr kv e Z W=>(a5 r kv e Z W).1) U j e (k',d) (by grind) g2;obtain⟨k2,_,q2,q3⟩:=E3f _ _ _ _ _ a0;simp only[At4]at q2;rw[g2]at q2;simp only[B5,Fp,Sn]at q2;subst q2;rw[p1,a1];exact(L.same p2 q3).symm
   have V:(Instr.keyThatStays (a.eval x) (a.eval x)).run P w=.ok (a.eval x) w:=by rw[a1];simp[Instr.keyThatStays,E9m L.isKey]
   have hj:j<es.size:=(Uq.1 g1).1;obtain⟨Z,W⟩:=B8s (kvs:=kvs.set j (kd,vd)) hi hb I a7 (es.modify j λe=>{ e with key:=a.eval x,val:=a.eval y }) E ⟨by grind,a3.2.modify _ _ (λ_=>rfl)⟩ (by grind)
   refine I7 ?_;unfold Oper.wp;rw[show(execOp a.eval o).run P w=.ok .skip { w with heap:=w.heap.setIfInBounds r (.map (es.modify j λe=>{ e with key:=a.eval x,val:=a.eval y }) E) } by simp[execOp,ho,a8,Instr.mapUpdate,Xp hT,Ai1 hh,O,hq,g1,a',V,MapKept.run_setObj_map _ hh]]
   exact⟨undef,S,β,rfl,Z,W,.tuple [] [] rfl (by simp),λ_ _=>rfl⟩
inductive IsMap(bx:Ab):SV->List (D × D)->Prop where
 |mp (k:Nat) (kvs:List (D × D)):(k,Aq.map kvs)∈bx->IsMap bx (.mp k) kvs
 |d (kvs:List (D × D)):IsMap bx (.d (.map kvs)) kvs
def IsMap.rep{C:Ctx}{x:SV}{kvs:List (D × D)}{v:Value}(h:IsMap bx x kvs)(hi:Inv C S w β bx)(Z:Am S w β x v) :
  ∃r es E,v=.map (some r)/\w.heap[r]?=some (.map es E)/\es.size=kvs.length/\∀(j:Nat) (kv:D × D) (e:MapEntry),kvs[j]?=some kv->es[j]?=some e->Bu S w kv.1 e.key/\Bu S w kv.2 e.val:=by
 cases h with
 |mp k kvs hb =>
  obtain⟨r,es,E,L,O,J,U⟩:=hi.box k _ hb;cases Z with
  |mp _ b I =>rw[L]at I;cases I;exact⟨r,es,E,rfl,O,J.1,U⟩
 |d kvs =>
  cases Z with
  |d _ _ h =>
   cases h with
   |map _ r es E hS O J h1 h2=>exact⟨r,es,E,rfl,O,J.1,λj kv e V W=>⟨h1 j kv e V W,h2 j kv e V W⟩⟩
def E6k{T L et:Nat}{x:Operand}(I:o.op=.call { callee:=.builtin .len,args:=#[x],argTypes:=#[T] }){kvs:List (D × D)}(J:IsMap bx (ρ x) kvs)(hT:P.underlying T=some (.map L et)) :
  Br P o ρ bx (.d (.int .i64 kvs.length)) bx [] :=
 .E4 λ_ _ w β a O Z=>by obtain⟨r,es,E,W,U,V,_⟩:=J.rep O (Z x (mC I));exact⟨.int .i64 kvs.length,by simp[execOp,I,resolve,invoke,builtin,W,Builtin.len_,Xp hT,Ai1 U,V,goInt],.int _ _⟩
def U5(E:D)(kvs:List (D × D))(z:SV):SV:=match F9 E.lits kvs 0 with
 |some (_,d)=>ofD d
 |none=>z
def A1c(ok:Bool)(E:D)(kvs:List (D × D))(z:SV):SV:=match ok with
 |true=>.tuple [U5 E kvs z,.d (.bool (F9 E.lits kvs 0).isSome)]
 |false=>U5 E kvs z
def G3z{T kt et:Nat}{m x:Operand}{ok:Bool}(U:o.op=.lookup T m x ok){kvs:List (D × D)}{kd:D}{z:SV}(hm:IsMap bx (ρ m) kvs)
  (hT:P.underlying T=some (.map kt et))(V:Mi P kt=true)(hx:Me (ρ x)=some kd)(L:E7 P kt kd)(W:∀kv,kv∈kvs->E7 P kt kv.1)(hz:A4k P et=some z) :
  Br P o ρ bx (A1c ok kd kvs z) bx []:=by
 refine Br.E4 λC S w β a hi ha=>?_;have a4:=C1f (ha x (mC U)) hx;obtain⟨r,es,a2,J,hh,a3,Z⟩:=hm.rep hi (ha m (mC U));have a5:=a4.kv L.isKey;obtain⟨q,hq,hf⟩:=C3q V w L es.toList kvs (by omega) (C0k a3 (λr kv e h1 h2=>(Z r kv e h1 h2).1) W);have E:=C7g V es.isEmpty w L;rw[<-a5]at hq E;obtain⟨zv,a1,a6⟩:=F4n hz w;cases I:F9 kd.lits kvs 0 with
 |none =>
  rw[I]at hf;simp only[Found]at hf;subst hf;have O:Am S w β z zv:=by rw[a6];exact A5a S w β zv
  cases ok with
  |true =>refine⟨.tuple #[zv,.bool false],by simp[execOp,U,J,Instr.lookup,Xp hT,Ai1 hh,E,hq,a1],?_⟩;simp only[A1c,U5,I,Sk];exact .tuple _ _ rfl (Bv.cons O (Bv.cons (.d _ _ (.bool _)) .nil)).2
  |false =>
   refine⟨zv,by simp[execOp,U,J,Instr.lookup,Xp hT,Ai1 hh,E,hq,a1],?_⟩
   grind[A1c,U5]
 |some jd =>
  obtain⟨j,d⟩:=jd;rw[I]at hf;obtain⟨e,k',_,g1,g2,rfl⟩:=hf;simp only[At4,Am9]at g1 g2;have a0:Am S w β (ofD d) e.val:=G7q (Z j (k',d) e g2 g1).2;cases ok with
  |true =>refine⟨.tuple #[e.val,.bool true],by simp[execOp,U,J,Instr.lookup,Xp hT,Ai1 hh,E,hq],?_⟩;simp only[A1c,U5,I,Ar3];exact .tuple _ _ rfl (Bv.cons a0 (Bv.cons (.d _ _ (.bool _)) .nil)).2
  |false =>
   refine⟨e.val,by simp[execOp,U,J,Instr.lookup,Xp hT,Ai1 hh,E,hq],?_⟩
   grind[A1c,U5]
end Go.Abs
namespace Go.Abs
open Go
variable {P:Program} {o:Oper} {ρ:Hz} {bx:Ab}
def F9d{f:FuncId}{caps:Array Operand}(E:o.op=.makeFunc (.func f) #[] caps):Br P o ρ bx (.Bf f (caps.toList.map ρ)) bx []:=by
 refine Br.E4 λC S w β a O J=>?_;refine⟨.func (.func f) #[] (caps.map a.eval),by simp[execOp,E,Instr.makeFunc],?_⟩;have:=Bv.Vd (ρ:=ρ) (S:=S) (w:=w) (β:=β) (a:=a) caps.toList λx L=>J x (mo E (by grind[Op.operands]));have I:caps.map a.eval=⟨caps.toList.map a.eval⟩:=by apply Kt;simp
 rw[I];exact .Bf f _ _ this.1 this.2
theorem H4f{T e sz k:Nat}{x y:Operand}(Z:o.op=.slice T x (some y) none none)(a0:k<=999999){rs:List (List D)}{ik:IntKind}{i:Int}(hx:ρ x=.acc k)(V:(k,Aq.rows sz rs)∈bx)
  (hy:ρ y=.d (.int ik i))(hT:Dt P T=some e)(hs:Be P e=some sz)(h0:0<=i)(h1:i<=rs.length) :
  Br P o ρ bx (.acc k) ((k,.rows sz (rs.drop i.toNat))::H8 k (Cd k bx)) [k]:=by
 intro C S w β a U ha;have I:=ha x (mC Z);rw[hx]at I;have hv:a.eval x=I2 (β k):=by generalize a.eval x=v at I;cases I;rfl
 have O:=ha y (mC Z);rw[hy]at O;have a2:a.eval y=.int ik i:=O.J2;obtain⟨q1,q2,q3,q4,q5,q6,q7⟩:=U.box k _ V
 let W:BI:={ β k with off:=if(β k).cap=i.toNat then(β k).off else(β k).off+i.toNat,len:=(β k).len - i.toNat,cap:=(β k).cap - i.toNat }
 have a4:i.toNat<=(β k).len:=by omega
 obtain⟨h1,h2⟩:=U.Tb (k:=k) (w':=w) (c:=.rows sz (rs.drop i.toNat)) W a0
  (λb E=>⟨(U.Ba k _ V b E).1,(U.Ba k _ V b E).2.1,.inr ⟨_,V,E⟩⟩) (λ_ _ _=>rfl) rfl rfl rfl (Bs _) (λ_=>by
   refine⟨q1,by grind,by grind,by grind,λrow h=>q5 row (Zz h),λrow h=>q6 row (Zz h),?_⟩;show match(β k).base with|none=>_|some b=>_
   cases J:(β k).base with
   |none=>grind
   |some b =>
    rw[J]at q7;obtain⟨ty,vs,g1,g2,g3⟩:=q7
    grind)
 refine I7 ?_;unfold Oper.wp;have L:(execOp a.eval o).run P w=.ok (.value (I2 W)) w:=by
  have a1:=A1x hT w;have a3:(β k).cap=i.toNat->(β k).len=i.toNat:=λh=>by omega
  simp only[execOp,Z,Instr.sliceAt,hv,a2,I2,Hm,a1,H0,Instr.slice,Instr.sliceBounds,Instr.sliceBound,K8,Ez,Ap5,asIntOf,Pb hs];rw[A8 ⟨h0,by omega⟩];simp only[K8,H0,Result.ok.injEq,Next.value.injEq,Value.slice.injEq,Sn,W];split
  .rfl
  .cases (β k).base with
   |none=>rfl
   |some b=>grind[Addr.add]
 rw[L];refine⟨_,S,_,rfl,h1,h2,?_,λj hj=>Lu (by grind)⟩;have:=Am.acc (S:=S) (w:=w) (β:=Ed β k W) k;rw[Gw]at this;exact this
variable {β:Names}
def Inv.C1e{C:Ctx}{S S':Nat->Prop}{w w':World}{g:Nat}{Y:Gx}{st st':Option Nat}(L:Inv C S w β bx)(hb:(g,Aq.ghost Y st)∈bx){B B':Nat->Prop}
  (hB:∀b,B b->¬S b/\b<w.heap.size/\(C.pre b\/C.w0.heap.size<=b)/\∀Z c',(Z,c')∈bx->(β Z).base≠some b)
  (t:A0o B S w B' S' w')(hF:C.G.F st' B' S' w'):Inv C S' w' β ((g,.ghost Y st')::Cd g bx)/\C4 S w S' w':=by
 refine⟨?_,t.ext⟩;obtain⟨e1,e2,e3,e4,_⟩:=L.Fo g Y st hb;have a7:=L.size;have a5:=t.size;have a8:∀b,(β g).base≠some b:=λb h=>by have:(β g).base=none:=L.box g _ hb;grind
 have I:∀k c,(k,c)∈(g,Aq.ghost Y st')::Cd g bx->(k=g/\c=.ghost Y st')\/(k≠g/\(k,c)∈bx):=λk c J=>by grind[Ee]
 have a1:∀b,B b\/w.heap.size<=b->C.pre b\/C.w0.heap.size<=b:=λb E=>E.elim (λh=>(hB b h).2.2.1) λh=>.inr (by omega);have V:∀k c,(k,c)∈bx->∀b,(β k).base=some b->¬B b/\b<w.heap.size/\w'.heap[b]?=w.heap[b]?:=λk c J b E=>by have U:¬B b:=λh=>(hB b h).2.2.2 k c J E;have W:=(L.Ba k c J b E).2.1;exact⟨U,W,t.kept b W U⟩
 exact{
  Fe:=λb E=>t.ext.sub b (L.Fe b E)
  Ej:=λb E=>by
   rcases t.new b E with h|h
   .exact L.Ej b h
   grind
  Bw:=t.lt
  kept:=λb E hp=>by
   rw[<-L.kept b E hp];refine t.kept b (by omega) λh=>?_
   grind
  os:=t.os.trans L.os
  tape:=t.tape.trans L.tape
  output:=t.output.trans L.output
  size:=by omega
  box:=λk c J=>by
   rcases I k c J with⟨rfl,rfl⟩|⟨_,J⟩
   .exact L.box _ _ hb
   .exact(L.box k c J).ext t.ext (λb E=>(V k c J b E).2.2) (λ_ _=>rfl)
  Ba:=λk c J b E=>by
   rcases I k c J with⟨rfl,rfl⟩|⟨_,J⟩
   .grind
   .obtain⟨p1,p2,p3⟩:=L.Ba k c J b E;refine⟨λhs=>?_,by omega,p3⟩;rcases t.new b hs with h|h|h
    .grind
    .grind
    .omega
  inj:=λk c Z c' J O b U W=>by
   rcases I k c J with⟨rfl,rfl⟩|⟨_,J⟩
   .grind
   .rcases I Z c' O with⟨rfl,rfl⟩|⟨_,O⟩
    .grind
    .exact L.inj k c Z c' J O b U W
  fix:=L.fix
  E2:=λb cs hv=>by obtain⟨U,ty,fr,W⟩:=L.E2 b cs hv;exact⟨t.ext.sub b U,ty,fr,(t.ext.same b U).trans W⟩
  one:=λk1 Y1 s1 k2 Y2 s2 U W=>by
   rcases I k1 _ U with⟨rfl,a9⟩|⟨a3,U⟩
   .rcases I k2 _ W with⟨rfl,a6⟩|⟨a2,W⟩
    .grind
    .exact absurd (L.one _ _ _ _ _ _ W hb).1 a2
   .exact absurd (L.one _ _ _ _ _ _ U hb).1 a3
  Fo:=λk Y' a0 J=>by
   have hY:Y'=Y/\a0=st':=by
    rcases I k _ J with⟨_,he⟩|⟨a4,J⟩
    .grind
    .exact absurd (L.one k Y' a0 g Y st J hb).1 a4
   obtain⟨rfl,rfl⟩:=hY;refine⟨e1,e2,e3,λZ c' O b E=>?_,B',hF,λb E=>⟨(t.own b E).1,(t.own b E).2.1,a1 b (t.own b E).2.2,λZ c' O he=>?_⟩⟩
   .grind
   .rcases I Z c' O with⟨rfl,rfl⟩|⟨_,O⟩
    .grind
    .obtain⟨p1,p2,_⟩:=V Z c' O b he;rcases(t.own b E).2.2 with h|h
     .grind
     .omega }
def Aq.closed:Aq->Bool
 |.cells cs=>SV.M8 cs
 |.ghost _ _=>false
 |_=>true
def A6r(k j:Nat):SV->Option SV
 |.mp i=>if i=k then some (.mp j)else none
 |.box i off=>if i=k then some (.box j off)else none
 |.acc i=>if i=k then some (.acc j)else none
 |x=>coerce [] x
def A0a(k j:Nat):List SV->Option (List SV)
 |[]=>some []
 |c::cs=>match A6r k j c with
  |some x=>match A0a k j cs with
   |some l=>some (x::l)
   |none=>none
  |none=>none
variable {S:Nat->Prop} {w:World}
def D5j{C:Ctx}{k j:Nat}(U:Inv C S w β []):∀{cs l:List SV} {vs:List Value},A0a k j cs=some l->Bv S w β cs vs->Bv S w (Ed β j (β k)) l vs
 |[],l,vs,h,I=>by simp only[A0a,B5]at h;subst h;exact⟨I.1,by simp⟩
 |c::cs,l,vs,h,I=>by
  simp only[A0a]at h;cases E:A6r k j c with
  |none=>grind
  |some x =>
   cases V:A0a k j cs with
   |none=>grind
   |some m =>
    simp only[E,V,B5]at h;subst h;cases vs with
    |nil=>have:=I.1;grind
    |cons v vs =>
     have q:=D5j U V ⟨by have:=I.1;simpa using this,λi c v E W=>I.2 (i+1) c v (by grind) (by grind)⟩;have J:=I.2 0 c v rfl rfl;refine .cons ?_ q;unfold A6r at E;split at E
     .split at E
      .simp only[B5]at E;subst E;subst_vars;cases J with|mp _ b L=>exact .mp j b (by rw[Gw];exact L)
      grind
     .split at E
      .simp only[B5]at E;subst E;subst_vars;cases J with|box _ _ b L=>exact .box j _ b (by rw[Gw];exact L)
      grind
     .split at E
      .rename_i O;simp only[B5]at E;subst E;rw[O]at J;cases J;have:=Am.acc (S:=S) (w:=w) (β:=Ed β j (β k)) j
       grind[Gw]
      grind
     .obtain⟨Z,p2⟩:=A6b U (C4.refl S w) (by simp) E J;exact Z.closed p2
def De.closed{β β':Names}{i:BI}{c:Aq}(h:De S w β i c)(O:c.closed=true):De S w β' i c:=by
 cases c with
 |rows sz rs=>exact h
 |cells cs =>obtain⟨b,ty,vs,J,L,I⟩:=h;refine⟨b,ty,vs,J,L,I.1,λj c v E U=>(I.2 j c v E U).closed (SV.C0t O j c E)⟩
 |map kvs=>exact h
 |iter kvs seen=>exact h
 |ghost Y st=>exact h
def F1x{f:FuncId}{fo:Operand}{args:Array Operand}{Da:Array TypeId}(ho:o.op=.call { callee:=.value fo,args:=args,argTypes:=Da }){caps U:List SV}{r:SV}{k j:Nat}{c c':Aq}
  (hf:ρ fo=.Bf f caps)(hb:(k,c)∈bx)(hj:1000000<=j)(a6:c.closed=true)(a1:c'.closed=true)
  (a2:A0a k j (args.toList.map ρ++caps)=some U)(hc:C8 P f U [(j,c)] r [(j,c')])(hr:r.closed=true):Br P o ρ bx r ((k,c')::Cd k bx) []:=by
 have ad:c.real=true:=by cases c <;> first|rfl|simp[Aq.closed]at a6
 have ac:c'.real=true:=by cases c' <;> first|rfl|simp[Aq.closed]at a1
 intro C S w β a I ha;have a3:=(ha fo (mC ho));rw[hf]at a3;generalize a':a.eval fo=v at a3;cases a3 with
 |Bf _ _ cs h1 h2 =>
  have a5:Bv S w β (args.toList.map ρ++caps) (args.toList.map a.eval++cs):=(Bv.Vd _ λx hx=>ha x (mo ho (by grind[Op.operands,Call.operands]))).append ⟨h1,h2⟩;have a7:Inv ⟨w,S,λ_=>False,λ_ _=>False,C.G⟩ S w β []:=I.begin I.Bw (λ_ h=>h);have g1:=D5j (j:=j) a7 a2 a5;have hp:=I.Ba k c hb;have a8:Inv ⟨w,S,λi=>(β k).base=some i,λi x=>i=j/\x =β k,C.G⟩ S w (Ed β j (β k)) [(j,c)]:={
   Fe:=λ_ h=>h
   Ej:=λ_ h=>.inl h
   Bw:=I.Bw
   kept:=λ_ _ _=>rfl
   os:=rfl
   tape:=rfl
   output:=rfl
   size:=Bs _
   box:=λk' L hk'=>by simp only[B1,Fp,E5,Ea]at hk';obtain⟨rfl,rfl⟩:=hk';rw[Gw];exact(I.box k _ hb).closed a6
   Ba:=λk' L hk' E hb'=>by
    simp only[B1,Fp,E5,Ea]at hk'
    grind[Gw]
   inj:=λk1 c1 k2 c2 h1 h2 E Z a0=>by grind
   E2:=I.E2
   one:=λk' Y st ae Y' st' hk'=>by grind
   Fo:=λk' Y st hk'=>by
    simp only[B1,Fp,E5,Ea]at hk'
    grind[Aq.real]
   fix:=λk' E h=>by grind[Gw] }
  have a4:=hc.2 ⟨w,S,λi=>(β k).base=some i,λi x=>i=j/\x =β k,C.G⟩ _ _ a8 g1;refine I7 ?_;unfold Oper.wp;rw[Yh hc.1 ho a',X2];have V:args.map a.eval++(⟨cs⟩:Array Value)=⟨args.toList.map a.eval++cs⟩:=by apply Kt;simp
  rw[V];refine a4.mono ?_;rintro e w' ⟨v,S',β',rfl,W,hv⟩;have ab:β' j =β k:=(W.fix j _ ⟨rfl,rfl⟩).2;have af:∀b,(β k).base=some b->¬S' b/\b<w'.heap.size:=λb hb'=>by have:=W.Ba j c' (by simp) b (by grind);grind
  have J:∀E,E<w.heap.size->(β k).base≠some E->w'.heap[E]?=w.heap[E]?:=λE h1 h2=>W.kept E h1 h2;have e1:C4 S w (λb=>S b\/(S' b/\w.heap.size<=b)) w':=⟨λ_ h=>.inl h,λE hb'=>J E (I.Bw E hb') λhe=>(hp E he).1 hb'⟩;have e2:C4 S' w' (λb=>S b\/(S' b/\w.heap.size<=b)) w':=⟨λE hb'=>by
   rcases W.Ej E hb' with h|h|h
   .grind
   .grind
   grind,λ_ _=>rfl⟩
  have a9:w.heap.size<=w'.heap.size:=W.size;refine⟨v,_,β,rfl,?_,e1,(hv.ext e2 (λ_ _=>rfl)).closed hr,λ_ _=>rfl⟩;refine I.step e1 (λE hb'=>hb'.imp id (·.2)) ?_ (λE hb' aa=>J E hb' λhe=>aa k c hb he) W.os W.tape W.output a9 ?_ ?_ (λ_ _=>rfl) ?_
  .intro E hb';rcases hb' with hb' |hb'
   .have:=I.Bw E hb';omega
   .exact W.Bw E hb'.1
  .intro k' L hk';simp only[B1,Fp]at hk';rcases hk' with⟨rfl,rfl⟩|hk'
   .refine⟨?_,λE hb'=>?_⟩
    .have:=(De.ext (W.box j _ (by simp)) e2 (λ_ _=>rfl) (λ_ _=>rfl)).closed (β':=β) a1
     grind
    grind
   .obtain⟨O,hk'⟩:=Ee.1 hk';refine⟨(I.box k' L hk').ext e1 (λE hb'=>?_) (λ_ _=>rfl),λE hb'=>?_⟩
    .exact J E (I.Ba k' L hk' E hb').2.1 λhe=>O (I.inj k' L k c hk' hb E hb' he).1
    .obtain⟨p1,p2,_⟩:=I.Ba k' L hk' E hb'
     grind
  .intro k1 c1 k2 c2 h1 h2 E Z a0;simp only[B1,Fp]at h1 h2;rcases h1 with⟨rfl,rfl⟩|h1
   .rcases h2 with⟨rfl,rfl⟩|h2
    .simp
    .obtain⟨O,h2⟩:=Ee.1 h2;exact absurd (I.inj k2 c2 _ c h2 hb E a0 Z).1 O
   .rcases h2 with⟨rfl,rfl⟩|h2
    .obtain⟨O,h1⟩:=Ee.1 h1;exact absurd (I.inj k1 c1 _ c h1 hb E Z a0).1 O
    .obtain⟨O,h1⟩:=Ee.1 h1;obtain⟨_,h2⟩:=Ee.1 h2;exact I.inj k1 c1 k2 c2 h1 h2 E Z a0
  grind[Aq.real,Ee]
theorem G8k{f:FuncId}{fo:Operand}{args:Array Operand}{Da:Array TypeId}(ho:o.op=.call { callee:=.value fo,args:=args,argTypes:=Da }){caps J:List SV}{r:SV}{g:Nat}{Y:Gx}{st st':Option Nat}
  (hf:ρ fo=.Bf f caps)(hb:(g,Aq.ghost Y st)∈bx)(V:G7 [] (args.toList.map ρ++caps)=some J)(hc:C8 P f J [(1000000,.ghost Y st)] r [(1000000,.ghost Y st')])(hr:r.closed=true) :
  Br P o ρ bx r ((g,.ghost Y st')::Cd g bx) []:=by
 intro C S w β a U ha;have W:=(ha fo (mC ho));rw[hf]at W;generalize a7:a.eval fo=v at W;cases W with
 |Bf _ _ cs h1 h2 =>
  have a0:Bv S w β (args.toList.map ρ++caps) (args.toList.map a.eval++cs):=(Bv.Vd _ λx hx=>ha x (mo ho (by grind[Op.operands,Call.operands]))).append ⟨h1,h2⟩;have a2:Inv ⟨w,S,λ_=>False,λ_ _=>False,C.G⟩ S w β []:=U.begin U.Bw (λ_ h=>h);obtain⟨g1,g2⟩:=Uf a2 (C4.refl S w) (by simp) V a0;obtain⟨e1,e2,e3,e4,B,e5,e6⟩:=U.Fo g Y st hb;have a8:=U.size;have a5:Inv ⟨w,S,B,λ_ _=>False,C.G⟩ S w (Ed β 1000000 { base:=none }) [(1000000,.ghost Y st)]:={
   Fe:=λ_ h=>h
   Ej:=λ_ h=>.inl h
   Bw:=U.Bw
   kept:=λ_ _ _=>rfl
   os:=rfl
   tape:=rfl
   output:=rfl
   size:=Bs _
   box:=λk' a4 I=>by simp only[B1,Fp,E5,Ea]at I;obtain⟨rfl,rfl⟩:=I;rfl
   Ba:=λk' a4 I b' E=>by
    simp only[B1,Fp,E5,Ea]at I
    grind[Gw]
   inj:=λk1 c1 k2 c2 h1 h2 b' a9 a'=>by grind
   fix:=λ_ _ h=>h.elim
   E2:=U.E2
   one:=λk1 Y1 s1 k2 Y2 s2 h1 h2=>by grind
   Fo:=λk' Y' a1 I=>by
    simp only[B1,Fp,Aq.ghost.injEq,E5,Ea]at I;obtain⟨rfl,rfl,rfl⟩:=I;have aa:∀k' c',(k',c')∈[(1000000,Aq.ghost Y' a1)]->∀b,(Ed β 1000000 { base:=none } k').base≠some b:=λk' c' I b E=>by
     simp only[B1,Fp,E5,Ea]at I
     grind[Gw]
    grind }
  have Z:=hc.2 ⟨w,S,B,λ_ _=>False,C.G⟩ _ _ a5 ⟨g1.1,λj c v a3 hv=>(g1.2 j c v a3 hv).closed (SV.C0t g2 j c a3)⟩;refine I7 ?_;unfold Oper.wp;rw[Yh hc.1 ho a7,X2];have L:args.map a.eval++(⟨cs⟩:Array Value)=⟨args.toList.map a.eval++cs⟩:=by apply Kt;simp
  rw[L];refine Z.mono ?_;rintro e w' ⟨v,S',β',rfl,O,hv⟩;obtain⟨_,_,_,_,B',q5,q6⟩:=O.Fo 1000000 Y st' (by simp);have a6:w.heap.size<=w'.heap.size:=O.size;have hS:∀b,S' b->S b\/B b\/w.heap.size<=b:=λb E=>O.Ej b E;have t:A0o B S w B' S' w':=⟨⟨O.Fe,λb E=>O.kept b (U.Bw b E) λh=>(e6 b h).1 E⟩,hS,O.Bw,λb E=>⟨(q6 b E).1,(q6 b E).2.1,(q6 b E).2.2.1⟩,λb E hn=>O.kept b E hn,O.os,O.tape,O.output,a6⟩;obtain⟨r1,r2⟩:=U.C1e hb e6 t q5;exact⟨v,S',β,rfl,r1,r2,hv.closed hr,λ_ _=>rfl⟩
theorem F4b{fo x:Operand}{Da:Array TypeId}(V:o.op=.call { callee:=.value fo,args:=#[x],argTypes:=Da }){g l j:Nat}{Y:Gx}{y:SV}(hf:ρ fo=.Eo l)(W:(g,Aq.ghost Y (some j))∈bx)
  (hx:coerce [] (ρ x)=some y)(hP:Y.P=P)(hl:Y.l=l)(hN:j<Y.N)(hy:Y.xs j=y):Br P o ρ bx (.d (.bool (Y.go j))) ((g,.ghost Y (Y.next j))::Cd g bx) []:=by
 intro C S w β a J Z;have I:=(Z fo (mC V));rw[hf]at I;generalize a0:a.eval fo=v at I;cases I;have O:Inv ⟨w,S,λ_=>False,λ_ _=>False,C.G⟩ S w β []:=J.begin J.Bw (λ_ h=>h);obtain⟨g1,_⟩:=A6b O (C4.refl S w) (by simp) hx (Z x (mC V));obtain⟨e1,e2,e3,e4,B,e5,U⟩:=J.Fo g Y (some j) W;subst e1;subst hP;subst hl;subst hy;obtain⟨f,tmps,E,body,h1,h2⟩:=e2.round j B S w β _ hN e5 J.Bw (λb L=>⟨(U b L).1,(U b L).2.1⟩) g1;refine Or.inr ⟨C.G.Y.l,f,tmps,E,body,w,?_,h2.mono ?_⟩
 .grind[execOp,resolve,Deferred.ofValue,invoke]
 .rintro e w' ⟨S',B',rfl,q5,t⟩;obtain⟨r1,r2⟩:=J.C1e W U t q5;exact⟨.bool (C.G.Y.go j),S',β,rfl,r1,r2,.bool _,λ_ _=>rfl⟩
def Zt(ρ:Hz):Option Operand->Option Nat
 |none=>some 0
 |some y=>match ρ y with
  |.d (.int _ i)=>if 0<=i then some i.toNat else none
  |_=>none
def hiN(ρ:Hz)(n:Nat):Option Operand->Option Nat
 |none=>some n
 |some y=>match ρ y with
  |.d (.int _ i)=>if 0<=i then some i.toNat else none
  |_=>none
def D6n{a:Act}{O V:Option Operand}{n cap l h:Nat}{t:Bool}(ha:∀x,x∈O.toList++V.toList->Am S w β (ρ x) (a.eval x))(E:Zt ρ O=some l)(J:hiN ρ n V=some h)(h1:l<=h)(h2:h<=n)(h3:n<=cap) :
  (Instr.sliceBounds t n cap (O.map a.eval) (V.map a.eval) none).run P w=.ok (l,h,cap) w:=by
 have key:∀(y:Operand) (m:Nat),Am S w β (ρ y) (a.eval y)->(match ρ y with| .d (.int _ i)=>if 0<=i then some i.toNat else none|_=>none)=some m->∃k,a.eval y=.int k (m:Int):=by
  intro y m hv U;split at U
  .rename_i k i he;rw[he]at hv;split at U
   .rename_i h0;simp only[B5]at U;subst U;exact⟨k,by rw[hv.J2,Int.toNat_of_nonneg h0]⟩
   grind
  .grind
 have W:∀(k:IntKind) (m q:Nat) (I:BoundsCode),m<=q->(Instr.sliceBound (.int k (m:Int)) q I).run P w=.ok m w:=by intro k m q I hq;simp only[Instr.sliceBound,asIntOf,Hm,K8,H0];rw[A8 ⟨by omega,by omega⟩];simp
 cases V with
 |none =>
  simp only[hiN,B5]at J;subst J;cases O with
  |none =>simp only[Zt,B5]at E;subst E;rfl
  |some y =>obtain⟨k,Z⟩:=key y l (ha y (by simp)) (by simpa [Zt]using E);simp[Instr.sliceBounds,Z,W k l n _ h1]
 |some z =>
  obtain⟨k',L⟩:=key z h (ha z (by simp)) (by simpa [hiN]using J);cases O with
  |none =>simp only[Zt,B5]at E;subst E;simp[Instr.sliceBounds,L,W k' h cap _ (by omega)]
  |some y =>obtain⟨k,Z⟩:=key y l (ha y (by simp)) (by simpa [Zt]using E);simp[Instr.sliceBounds,Z,L,W k l h _ h1,W k' h cap _ (by omega)]
def G8c{T e sz:Nat}{x:Operand}{lo hi:Option Operand}(ho:o.op=.slice T x lo hi none){rows:List (List D)}(hx:ρ x=.d (.slice rows))(hT:Dt P T=some e)(hs:Be P e=some sz)
  (a0:∀row,row∈rows->row.length=sz){l h:Nat}(a3:Zt ρ lo=some l)(a9:hiN ρ rows.length hi=some h)(h1:l<=h)(h2:h<=rows.length):Br P o ρ bx (.d (.slice ((rows.take h).drop l))) bx []:=by
 refine .E4 λC S w β a aa ha=>?_;have V:=ha x (mC ho);rw[hx]at V;have E:∀cap,rows.length<=cap->(Instr.sliceBounds true rows.length cap (lo.map a.eval) (hi.map a.eval) none).run P w=.ok (l,h,cap) w:=λcap hc =>
  D6n (ρ:=ρ) (S:=S) (β:=β) (λy hy=>ha y (mo ho (by grind[Op.operands]))) a3 a9 h1 h2 hc
 have a6:=A1x hT w;have run:∀(p:Option Addr) (cap:Nat),rows.length<=cap->a.eval x=.slice p rows.length cap->(execOp a.eval o).run P w=.ok (.value (.slice (if cap=l then p else p.map (·.add (l*sz))) (h - l) (cap - l))) w:=by intro p cap hc hv;simp only[execOp,ho,Instr.sliceAt,hv,Hm,a6,H0,Instr.slice,Ap5,E cap hc,Pb hs,K8]
 generalize hv:a.eval x=v at V;have hd:=V.Ij;have a1:((rows.take h).drop l).length=h - l:=by simp;omega
 cases hd with
 |Mk p cap hp =>
  have:=run p cap (by simp) (by omega);simp only[Ca,Nat.le_zero]at h2;subst h2;have a7:l=0:=by omega
  subst a7;refine⟨_,this,.d _ _ ?_⟩;simp only[List.take_nil,List.drop_nil,At4,Nat.zero_mul];have a8:(if cap=0 then p else p.map (·.add 0))=p:=by
   split
   .rfl
   .cases p <;> rfl
  rw[a8];exact .Mk p cap hp
 |slice _ b off cap O hb ac a5 hr a2 U ab =>
  have:=run (some ⟨b,off,none⟩) cap a5 hv;refine⟨_,this,.d _ _ ?_⟩;by_cases he:h=l
  .subst he;have:(rows.take h).drop h=[]:=Zp (by simp);rw[this,Au7];have W:∃q,(if cap=h then(some ⟨b,off,none⟩:Option Addr)else(some ⟨b,off,none⟩:Option Addr).map (·.add (h*sz)))=some q:=by grind
   obtain⟨q,hq⟩:=W;rw[hq];exact .Mk (some q) _ (by simp)
  .have J:l<rows.length:=by omega
   have a4:O=sz:=by rw[<-hr rows[l] (Fq J),a0 rows[l] (Fq J)]
   subst a4;rw[A6 (by omega)];simp only[Ez,Wt];rw[<-a1];have a':∀(i:Nat) (row:List D),((rows.take h).drop l)[i]?=some row->rows[l+i]?=some row:=by intro i row I;rw[Wn]at I;have J:=(Az.1 I).1;rw[D4]at J;rw[An5 (by omega)]at I;exact I
   have L:∀row,row∈(rows.take h).drop l->row∈rows:=λrow Z=>Ji (Zz Z);refine .slice _ b (off+l*O) (cap - l) O hb (by omega) (by omega) (λrow Z=>hr row (L row Z)) (λrow Z=>a2 row (L row Z)) ?_ ?_
   .intro i j I hj;have:=U (l+i) j (by omega) hj
    grind
   grind
def G1t{T:Nat}{x:Operand}{W V:Option Operand}(I:o.op=.slice T x W V none){s:A2}(hx:ρ x=.d (.str s))(hT:P.underlying T=some .string)
  {l h:Nat}(O:Zt ρ W=some l)(J:hiN ρ s.length V=some h)(h1:l<=h)(h2:h<=s.length):Br P o ρ bx (.d (.str ((s.take h).drop l))) bx []:=by
 refine .E4 λC S w β a U Z=>?_;have E:=Z x (mC I);rw[hx]at E;obtain⟨hv,a0⟩:=E.U1;have hb:=D6n (P:=P) (t:=false) (n:=s.length) (cap:=s.length) (w:=w) (a:=a) (ρ:=ρ) (S:=S) (β:=β) (λy hy=>Z y (mo I (by grind[Op.operands]))) O J h1 h2 (Bs _)
 have hu:=Xp hT w;have L:(mkStr s).size=s.length:=C7a s;refine⟨.string (mkStr ((s.take h).drop l)),?_,.d _ _ (.str _ ?_)⟩
 .have hex:(mkStr s).extract l h=mkStr ((s.take h).drop l):=by
   apply ByteArray.ext;rw[ByteArray.data_extract];apply Kt;simp[mkStr,List.drop_take,List.extract_eq_take_drop]
   try(congr 1;omega)
  simp only[execOp,I,Instr.sliceAt,hv,Hm,hu,H0,Instr.slice,Ap5,Sk,I0,Fx,K8,L,hb,hex]
 grind
def G4d{T e sz bytes k:Nat}{x y:Operand}(a4:k<=999999)(ho:o.op=.makeSlice T x y){kx ky:IntKind}{n m:Int}(hx:ρ x=.d (.int kx n))(hy:ρ y=.d (.int ky m))(hE:A9w P T e sz bytes){U:List D}
  (hz:Cb P e=some (U.map SV.d))(a':∀d,d∈U->d.one=true)(h0:0<=n)(a7:n<=m)(hm:m*(bytes:Int)<=(lim:Int))(ad:1<=sz):Br P o ρ bx (.acc k) ((k,.rows sz (List.replicate n.toNat U))::H8 k (Cd k bx)) [k]:=by
 intro C S w β a hi ha;have a0:=ha x (mC ho);rw[hx]at a0;have a2:=ha y (mC ho);rw[hy]at a2;have a6:=a0.J2;have a5:=a2.J2;obtain⟨i,z,L,a9,V⟩:∃i z,P.info? e=some i/\i.zero=some z/\z.cells.toList.map Kc=U.map SV.d:=by
  unfold Cb at hz;cases hq:P.info? e with
  |none=>grind
  |some i =>simp_all
 have Z:i.size=sz:=by have:=hE.Ms;unfold Be at this;rw[L]at this;simpa using this
 have ab:i.bytes=bytes:=by have:=hE.B0w;rw[L]at this;simpa using this
 have ae:U.length=sz:=by have:=hE.hzero;rw[hz]at this;simpa using this
 have a1:z.cells.size=sz:=by have:=Gi List.length V;simp only[Bc,Ao8]at this;omega
 have hT:P.underlying T=some (.slice e):=by
  have:=hE.hT;unfold Dt at this;split at this
  .grind
  .grind
 have ac:1<=bytes:=by have:=hE.Sg;omega
 have a8:m<=(lim:Int):=by have h1:m*1<=m*(bytes:Int):=Int.mul_le_mul_of_nonneg_left (by omega) (by omega);omega
 have J:=Go.run_make (P:=P) w T e i z hT L a9 kx ky n m h0 a7 (by grind[lim]) (by unfold lim at a8;omega);rw[Z]at J;have E:∀(j:Nat),j<m.toNat*sz->(madeCells z.cells (m.toNat*sz)).toList[j]?=z.cells[j % sz]?:=by
  intro j hj;have I:j % sz<z.cells.size:=by rw[a1];exact Ar6 _ (by omega)
  simp only[madeCells,Am9,Array.getElem?_map,Array.getElem?_range,hj,Af,Ez,a1];rw[Xb I,As0 z.cells (j % sz) I]
 obtain⟨h1,h2⟩:=hi.Tb (k:=k) (w':=w.alloc (.cells (madeCells z.cells (m.toNat*sz)) e)) (c:=.rows sz (List.replicate n.toNat U)) { base:=some w.heap.size,len:=n.toNat,cap:=m.toNat,sz:=sz } a4 (by
   intro b hb;cases hb;exact⟨λh=>by have:=hi.Bw _ h;omega,by simp,.inl (Bs _)⟩)
  (λb hb _=>RowKit.Below.heap_alloc w _ b hb) rfl rfl rfl (by simp) (λ_=>by
   refine⟨rfl,by simp,by grind,by grind,?_,?_,e,(madeCells z.cells (m.toNat*sz)).toList,by simp[-World.alloc_eq,World.alloc],by simp[size_madeCells],?_⟩
   .grind
   .grind
   .intro r j row d v hr hd hv;have a3:=(Az.1 hr).1;rw[List.length_replicate]at a3;have W:row=U:=(List.mem_replicate.1 (C6 hr)).2;subst W;have aa:=(Az.1 hd).1;have I:r*sz+j<m.toNat*sz:=by
     have:(r+1)*sz<=m.toNat*sz:=Hp _ (by omega);rw[Hw]at this;omega
    simp only[Ky]at hv;rw[E _ I,Ap7,Nat.mul_add_mod,Nat.mod_eq_of_lt (by omega)]at hv;have O:(z.cells.toList.map Kc)[j]?=some (Kc v):=by rw[Df];simp[hv]
    rw[V,Df,hd]at O;simp only[Ez,B5]at O;have:=A5a S (w.alloc (.cells (madeCells z.cells (m.toNat*sz)) e)) β v;rw[<-O]at this;exact this.Ij)
 refine I7 ?_;unfold Oper.wp;rw[show(execOp a.eval o).run P w=.ok (.value (.slice (some ⟨w.heap.size,0,none⟩) n.toNat m.toNat)) (w.alloc (.cells (madeCells z.cells (m.toNat*sz)) e)) by simp[execOp,ho,a6,a5,J]]
 refine⟨_,S,_,rfl,h1,h2,?_,λj hj=>Lu (by grind)⟩;have:=Am.acc (S:=S) (w:=w.alloc (.cells (madeCells z.cells (m.toNat*sz)) e)) (β:=Ed β k { base:=some w.heap.size,len:=n.toNat,cap:=m.toNat,sz:=sz }) k
 grind[Gw]
theorem G6h{T U e sz k:Nat}{x y:Operand}(ho:o.op=.call { callee:=.builtin .copy,args:=#[x,y],argTypes:=#[T,U] }){rs xs:List (List D)}(hT:Dt P T=some e)(hs:Be P e=some sz)
  (hx:ρ x=.acc k)(hb:(k,Aq.rows sz rs)∈bx)(hy:V7 bx sz (ρ y) xs)(a9:xs.length<=rs.length) :
  Br P o ρ bx (.d (.int .i64 xs.length)) ((k,.rows sz (xs++rs.drop xs.length))::Cd k bx) []:=by
 intro C S w β a hi ha;obtain⟨vs,E⟩:=hy.src (P:=P) hi ((ha y (mC ho)));have a0:=(ha x (mC ho));rw[hx]at a0;have V:a.eval x=I2 (β k):=by generalize a.eval x=v at a0;cases a0;rfl
 obtain⟨g1,g2,g3,g4,g5,g6,g7⟩:=hi.box k _ hb;have J:=E.cells xs.length w rfl (λ_ _=>rfl);have L:Nat.min xs.length (β k).len=xs.length:=by rw[<-g2];exact Nat.min_eq_left a9
 have a':(execOp a.eval o).run P w=((Builtin.copy_ #[T,U] o.type #[I2 (β k),a.eval y]).run P w).andThen λv w=>.ok (.value v) w:=by simp[execOp,ho,resolve,invoke,builtin,V]
 refine I7 ?_;unfold Oper.wp;rw[a'];cases I:(β k).base with
 |none =>
  rw[I]at g7;simp only at g7;have hr:rs=[]:=Zp (by omega);subst hr;have a5:xs=[]:=Zp (by omega);subst a5;have a6:vs=[]:=Zp (by rw[E.flat.len];simp);subst a6;have O:(Builtin.copy_ #[T,U] o.type #[I2 (β k),a.eval y]).run P w=.ok (goInt 0) w:=by simp only[Ca]at L J;have a1:=E.len;simp only[Ca]at a1;simp[Builtin.copy_,I2,I,A1x hT,Pb hs,a1,L,J]
  rw[O];exact⟨_,S,β,rfl,hi.sub λj c hj=>by grind[Ee],C4.refl S w,.int _ _,λ_ _=>rfl⟩
 |some b =>
  rw[I]at g7;obtain⟨ty,bs,hh,a4,a3⟩:=g7;subst g1;have hl:=E.flat.len;have W:(β k).off*(β k).sz+0+vs.length<=bs.length:=by have:((β k).off+xs.length)*(β k).sz<=((β k).off+(β k).cap)*(β k).sz:=Hp _ (by omega);simp only[Hw]at this a4;omega
  obtain⟨w',O,q1,q2,q3,q4,q5,q6⟩:=B2j (P:=P) vs bs b ((β k).off*(β k).sz) 0 ty w hh W E.one;have a7:(Builtin.copy_ #[T,U] o.type #[I2 (β k),a.eval y]).run P w=.ok (goInt xs.length) w':=by simp[Builtin.copy_,I2,I,A1x hT,Pb hs,E.len,L,J,O]
  rw[a7];have e0:C4 S w S w':=⟨λ_ h=>h,λb' Z=>q2 b' λhe=>(hi.Ba k _ hb b I).1 (he ▸ Z)⟩;obtain⟨p1,p2⟩:=hi.B3d (w':=w') (c:=.rows (β k).sz (xs++rs.drop xs.length)) hb I (λb' Z=>q2 b' Z) q3 q4 q5 (by omega) (by
   refine⟨rfl,by grind,g3,by grind,?_,?_,?_⟩
   .intro row hr;rcases Bz.1 hr with hr|hr
    .exact E.flat.row row hr
    grind
   .intro row hr;rcases Bz.1 hr with hr|hr
    .exact E.flat.one row hr
    grind
   .rw[I];refine⟨ty,Gy bs ((β k).off*(β k).sz+0) vs,q1,by rw[A5b];omega,?_⟩;intro r j row d v hr hd V;rw[A0t _ _ _ _ (by omega)]at V;by_cases a8:r<xs.length
    .rw[L4 a8]at hr;have hj:j<(β k).sz:=by rw[<-E.flat.row row (C6 hr)];exact(Az.1 hd).1
     have a2:r*(β k).sz+j<vs.length:=by have:(r+1)*(β k).sz<=xs.length*(β k).sz:=Hp _ (by omega);rw[Hw]at this;omega
     rw[A8 (by grind)]at V;rw[show((β k).off+r)*(β k).sz+j - ((β k).off*(β k).sz+0)=r*(β k).sz+j by grind]at V;exact(E.flat.rep r j row d v hr hd V).ext e0
    .rw[Kd (by omega),Wn]at hr;rw[show xs.length+(r - xs.length)=r by omega]at hr;have a2:vs.length<=r*(β k).sz:=by
      rw[hl];exact Hp _ (by omega)
     rw[A6 (by grind)]at V;exact(a3 r j row d v hr hd V).ext e0)
  exact⟨_,S,β,rfl,p1,p2,.int _ _,λ_ _=>rfl⟩
end Go.Abs
