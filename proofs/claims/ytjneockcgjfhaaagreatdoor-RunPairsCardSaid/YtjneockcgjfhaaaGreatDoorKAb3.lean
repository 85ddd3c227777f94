/- Contracts out of bodies, maps, closures, parts of slices. Own framework. -/
import Derived.DeepKeys3
import Derived.MapKept
import Derived.WideKeyRuns
import Derived.Laws.MakeOwn
import Derived.RangeFuncRecord
import Derived.Test.YtjneockcgjfhaaaGreatDoorKAb2
set_option linter.all false
namespace Go.Abs
open Go
variable {ro:Option Nat} {P:Program} {n:Nat} {Q:Exit->SL->Aa->Prop} {sl:SL} {bx:Aa}
def Lr(P:Program)(bx:Aa)(T:TypeId)(x:SV):Option SV :=match x with
 |.box k off=>match A8 bx k with
  |some (.cells cs)=>match D2 P T with
   |some false=>cs[off]?
   |some true=>match C4 P T with
    |some m=>if off+m<=cs.length/\(part cs off m).all SV.one=true then some (.agg (part cs off m))else none
    |none=>none
   |none=>none
  |_=>none
 |.Aj cells off=>match D2 P T with
  |some false=>(cells[off]?).map SV.d
  |some true=>match C4 P T with
   |some m=>if off+m<=cells.length then some (.agg ((A5p cells off m).map SV.d))else none
   |none=>none
  |none=>none
 |.d (.ptr cells)=>match D2 P T with
  |some false=>(cells[0]?).map SV.d
  |some true=>match C4 P T with
   |some m=>if 0+m<=cells.length then some (.agg ((A5p cells 0 m).map SV.d))else none
   |none=>none
  |none=>none
 |.Ee k i off=>match A8 bx k with
  |some (.rows sz rows)=>match rows[i]? with
   |some row=>match D2 P T with
    |some false=>(row[off]?).map SV.d
    |some true=>match C4 P T with
     |some m=>if off+m<=row.length/\row.length=sz then some (.agg ((A5p row off m).map SV.d))else none
     |none=>none
    |none=>none
   |none=>none
  |_=>none
 |.Fv cells off=>match D2 P T with
  |some false=>cells[off]?
  |_=>none
 |_=>none
variable {S:Nat->Prop} {w:World} {β:Names}
def G1c{k i off sz:Nat}{rows:List (List D)}{row:List D}{v:Value}(W:Dj S w β (β k) (.rows sz rows))(hr:rows[i]?=some row)(U:An S w β (.Ee k i off) v) :∃b base,v=.pointer (some ⟨b,base+off,none⟩)/\(∀d,d∈row->d.one=true)/\(∀j,j<row.length->∃v,w.cell? ⟨b,base+j,none⟩=some v)/\(∀(j:Nat) (d:D) (v:Value),row[j]?=some d->w.cell? ⟨b,base+j,none⟩=some v->C0 S w d v):=by
 cases U with
 |Ee _ _ _ b I =>
  obtain⟨Z,g2,g3,g4,g5,g6,O⟩:=W;subst Z;rw[I]at O;obtain⟨ty,vs,hh,L,J⟩:=O;have E:=Bm hr;have a0:=(Aw.1 hr).1;refine⟨b,((β k).off+i)*(β k).sz,rfl,g6 row E,?_,?_⟩
  .intro j hj;rw[g5 row E]at hj;have V:((β k).off+i+1)*(β k).sz<=((β k).off+(β k).cap)*(β k).sz:=Iv _ (by omega);rw[Io _ 1]at V;have:((β k).off+i)*(β k).sz+j<vs.length:=by omega
   exact⟨vs[((β k).off+i)*(β k).sz+j],by rw[cells_of_row hh];simp⟩
  grind[cells_of_row]
variable {C:Ctx}
def D0w{T:TypeId}{x c:SV}{v:Value}(hi:Inv C S w β bx)(O:An S w β x v)(h:Lr P bx T x=some c) :∃a u,v=.pointer (some a)/\(loadVar T a).run P w=.ok u w/\An S w β c u:=by
 have conv:∀{p:Addr} {u:Value},(Instr.loadAt T (.pointer (some p))).run P w=.ok u w->(loadVar T p).run P w=.ok u w:=by intro p u I;simpa [Instr.loadAt,Instr.sureAddr]using I
 have E:∀{cells:List D} {off:Nat} {b base:Nat},v=.pointer (some ⟨b,base+off,none⟩)->(∀d,d∈cells->d.one=true)->(∀j,j<cells.length->∃v,w.cell? ⟨b,base+j,none⟩=some v) ->(∀(j:Nat) (d:D) (v:Value),cells[j]?=some d->w.cell? ⟨b,base+j,none⟩=some v->C0 S w d v) ->(match D2 P T with
    |some false=>(cells[off]?).map SV.d
    |some true=>match C4 P T with
     |some m=>if off+m<=cells.length then some (.agg ((A5p cells off m).map SV.d))else none
     |none=>none
    |none=>none)=some c->∃a u,v=.pointer (some a)/\(loadVar T a).run P w=.ok u w/\An S w β c u:=by
  intro cells off b base O h1 W V h;cases hT:D2 P T with
  |none=>simp[hT]at h
  |some g =>
   cases g with
   |false =>simp only[hT,P1]at h;obtain⟨d,hd,rfl⟩:=h;obtain⟨u,I⟩:=W off (Aw.1 hd).1;exact⟨_,u,O,conv (B9f hT I),.d _ _ (V off d u hd I)⟩
   |true =>
    simp only[hT]at h;cases hs:C4 P T with
    |none=>simp[hs]at h
    |some m =>
     simp only[hs]at h;split at h
     .rename_i hl;simp only[B0]at h;subst h;obtain⟨vs,Z,a0⟩:=C2i (w:=w) (b:=b) (off:=base+off) (n:=m) (λj hj=>by rw[Xo];exact W (off+j) (by omega));refine⟨_,.agg ⟨vs⟩,O,conv (C1o hT hs Z a0),E3m (.agg _ vs (by simp[A5p,Z];omega) ?_ ?_)⟩
      .intro d hd;exact h1 d (Aj6 (Mt hd))
      .intro j d u hd I;simp only[A5p,Ak4,Vw]at hd;split at hd
       .exact V (off+j) d u hd (by rw[<-Xo];exact a0 j u I)
       .simp at hd
     .simp at h
 cases x with
 |box k off =>
  obtain⟨b,U,rfl⟩:=O.A8e;simp only[Lr]at h;cases J:A8 bx k with
  |none=>simp[J]at h
  |some bc =>
   cases bc with
   |cells cs =>
    simp only[J]at h;obtain⟨b',ty,vs,a1,hh,hr⟩:=hi.box k _ (Hs J);rw[U]at a1;cases a1;cases hT:D2 P T with
    |none=>simp[hT]at h
    |some g =>
     cases g with
     |false =>simp only[hT]at h;obtain⟨u,I,a2⟩:=hr.get h;exact⟨_,u,rfl,conv (B9f hT (by rw[cells_of_row hh];exact I)),a2⟩
     |true =>
      simp only[hT]at h;cases hs:C4 P T with
      |none=>simp[hs]at h
      |some m =>simp only[hs]at h;split at h;rename_i hl;simp only[B0]at h;subst h;have:=hr.1;refine⟨_,.agg ⟨(vs.drop off).take m⟩,rfl,conv (C1o hT hs (by simp;omega) ?_),An.B4v (hr.part off m) hl.2⟩;intro j u I;rw[cells_of_row hh];simp only[Ak4,Vw]at I;split at I;exact I;simp at I;simp at h
   |rows _ _=>simp[J]at h
   |map _=>simp[J]at h
   |iter _ _=>simp[J]at h
   |ghost _ _=>simp[J]at h
 |Aj cells off =>obtain⟨b,base,L⟩:=O.B9z;exact E L.v L.one L.there L.rep h
 |d y =>cases y <;> simp only[Lr,reduceCtorEq]at h;rename_i cells;obtain⟨b,base,L⟩:=O.E5t;exact E L.v L.one L.there L.rep h
 |Ee k i off =>
  simp only[Lr]at h;cases J:A8 bx k with
  |none=>simp[J]at h
  |some bc =>
   cases bc with
   |rows sz rows =>
    simp only[J]at h;cases hr:rows[i]? with
    |none=>simp[hr]at h
    |some row =>
     simp only[hr]at h;obtain⟨b,base,h0,h1,W,V⟩:=G1c (hi.box k _ (Hs J)) hr O;refine E h0 h1 W V ?_;cases hT:D2 P T with
     |none=>simp[hT]at h
     |some g =>
      cases g with
      |false=>simpa [hT]using h
      |true =>
       simp only[hT]at h |-;cases hs:C4 P T with
       |none=>simp[hs]at h
       |some m =>
        simp only[hs]at h |-;split at h
        rename_i hl;rw[A6 hl.1];exact h;simp at h
   |cells _=>simp[J]at h
   |map _=>simp[J]at h
   |iter _ _=>simp[J]at h
   |ghost _ _=>simp[J]at h
 |undef=>simp[Lr]at h
 |agg _=>simp[Lr]at h
 |tuple _=>simp[Lr]at h
 |acc _=>simp[Lr]at h
 |mp _=>simp[Lr]at h
 |Fa _=>simp[Lr]at h
 |Fv cells off =>
  simp only[Lr]at h;cases O with
  |Fv _ _ b J h1 W V =>
   cases hT:D2 P T with
   |none=>simp[hT]at h
   |some g =>
    cases g with
    |true=>simp[hT]at h
    |false =>simp only[hT]at h;obtain⟨u,I⟩:=W off (Aw.1 h).1;exact⟨_,u,rfl,conv (B9f hT I),V off c u h I⟩
 |Bk _ _=>simp[Lr]at h
def F8f{o:Oper}{ρ:Kf}{T:TypeId}{x:Operand}(E:o.op=.load T x){c:SV}(h:Lr P bx T (ρ x)=some c):C1 P o ρ bx c bx [] :=.E3 λ_ _ w β a O L=>by obtain⟨p,u,I,hr,J⟩:=D0w O (L x (mC E)) h;exact⟨u,by simp[execOp,E,I,Instr.loadAt,Instr.sureAddr,hr],J⟩
def B5e(P:Program)(bx:Aa)(sl:SL):ResultVar->Option SV
 |.tmp t=>some (Af sl t)
 |.cell t T=>Lr P bx T (Af sl t)
def Ui(P:Program)(bx:Aa)(sl:SL):List ResultVar->Option (List SV)
 |[]=>some []
 |r::rs=>match B5e P bx sl r with
  |some x=>match Ui P bx sl rs with
   |some l=>some (x::l)
   |none=>none
  |none=>none
def Xn:List SV->SV
 |[x]=>x
 |xs=>.tuple xs
variable {a:Act}
def E0g(hs:St C n S w β a sl bx)(g:ResultVar->Sem Value)(O:∀t,g (.tmp t)=pure (a.tmps.getD t undef))
  (L:∀x t,g (.cell x t)=do loadVar t (<-asAddr (a.tmps.getD x undef))):∀(rs:List ResultVar) (xs:List SV),Ui P bx sl rs=some xs->∃vs,(rs.mapM g).run P w=.ok vs w/\Bz S w β xs vs
 |[],xs,h=>by simp only[Ui,B0]at h;subst h;exact⟨[],rfl,.nil⟩
 |r::rs,xs,h=>by
  simp only[Ui]at h;cases E:B5e P bx sl r with
  |none=>grind
  |some x =>
   cases J:Ui P bx sl rs with
   |none=>grind
   |some l =>
    simp only[E,J,B0]at h;subst h;obtain⟨vs,Z,I⟩:=E0g hs g O L rs l J;cases r with
    |tmp t =>simp only[B5e,B0]at E;subst E;refine⟨_::vs,?_,.cons (hs.slot t) I⟩;simp_all
    |cell t T =>simp only[B5e]at E;obtain⟨p,u,V,hr,U⟩:=D0w hs.inv (hs.slot t) E;refine⟨u::vs,?_,.cons U I⟩;have W:asAddr (.pointer (some p))=pure p:=rfl;simp_all
def C1u{fn:Func}(hs:St C n S w β a sl bx){xs:List SV}(h:Ui P bx sl fn.results.toList=some xs) :∃v,(results fn a.tmps).run P w=.ok v w/\An S w β (Xn xs) v:=by
 have key:∀(g:ResultVar->Sem Value),(∀t,g (.tmp t)=pure (a.tmps.getD t undef))->(∀x t,g (.cell x t)=do loadVar t (<-asAddr (a.tmps.getD x undef))) ->∃v,(do let vs <-fn.results.mapM g;pure (if h:vs.size=1 then vs[0]else .tuple vs):Sem Value).run P w=.ok v w/\An S w β (Xn xs) v:=by
  intro g L O;obtain⟨vs,J,E⟩:=E0g hs g L O _ _ h;have U:(fn.results.mapM g).run P w=.ok ⟨vs⟩ w:=by rw[Array.mapM_eq_mapM_toList,Sem.run_map,J];rfl
  have I:=E.1;simp only[Ii,U,Hm,L8]
  match xs,vs,E,I with
  |[],[],E,_=>exact⟨.tuple ⟨[]⟩,rfl,.tuple [] [] rfl (by simp)⟩
  |[x],[v],E,_=>exact⟨v,rfl,E.2 0 x v rfl rfl⟩
  |x::y::xs,v::u::vs,E,_=>exact⟨.tuple ⟨v::u::vs⟩,by simp,.tuple _ _ E.1 E.2⟩
  |[],_::_,_,I=>grind
 exact key _ (λ_=>rfl) (λ_ _=>rfl)
def Vh:Nat->List SV->SL
 |_,[]=>[]
 |i,x::xs=>(i,x)::Vh (i+1) xs
def D0v:∀(xs:List SV)(i t:Nat),Af (Vh i xs) t=if i<=t then(xs[t - i]?).getD .undef else .undef
 |[],i,t=>by simp[Vh,Af]
 |x::xs,i,t=>by simp only[Vh,Af];split;grind;rename_i E;rw[D0v xs (i+1) t];grind
def E3s(P:Program)(fn:Func)(r:SV)(e:Exit)(sl:SL)(bx:Aa):Prop :=match e with
 |.normal| .ret=>∃xs,Ui P bx sl fn.results.toList=some xs/\coerce bx (Xn xs)=some r
 |_=>False
def St.start{pre:Aa}{args:List SV}{vs:List Value}{m:Nat}(L:Inv C C.S0 C.w0 β pre)(E:Bz C.S0 C.w0 β args vs)(O:args.length<=m) :St C m C.S0 C.w0 β { tmps:=(⟨vs⟩:Array Value)++Array.replicate (m - (⟨vs⟩:Array Value).size) undef,defers:=[] } (Vh 0 args) pre:=by
 have U:=E.1;refine⟨L,by grind,.nil,?_⟩;intro t;rw[D0v];simp only[Tf,Ac,Qw];cases ht:args[t]? with
 |none=>exact .undef _
 |some x =>
  obtain⟨v,I,V⟩:=E.get ht;have J:=(Aw.1 I).1;have:((⟨vs⟩:Array Value)++Array.replicate (m - (⟨vs⟩:Array Value).size) undef).getD t undef=v:=by rw[An8,Aq8 (by omega)];simp[I]
  grind
theorem A2k{D:Nat}{l E:Option (List Deferred)}(h:w.heap[D]?=some (.deferred l))(b off:Nat):(w.putObj D (.deferred E)).cell? ⟨b,off,none⟩=w.cell? ⟨b,off,none⟩:=by grind[World.putObj_heap_same,World.cell?,World.putObj_heap_other]
def C0.shut{D:Nat}{l l':Option (List Deferred)}(h:w.heap[D]?=some (.deferred l)){d:Go.Abs.D}{v:Value}(hr:C0 S w d v):C0 S (w.putObj D (.deferred l')) d v:=by
 induction hr with
 |int k n=>exact .int k n
 |bool b=>exact .bool b
 |str s hs=>exact .str s hs
 |nil=>exact .nil
 |emp a cap=>exact .emp a cap
 |Lw a cap h=>exact .Lw a cap h
 |slice rows b off cap sz U I L W Z h5 _ E =>refine .slice rows b off cap sz U I L W Z ?_ ?_;grind[A2k];grind[A2k]
 |agg cells vs I L _ E=>exact .agg cells vs I L E
 |ptr cells b base U L I _ E =>refine .ptr cells b base U L ?_ ?_;grind[A2k];grind[A2k]
 |Lb=>exact .Lb
 |map kvs r es J hr hh hs _ _ O V =>refine .map kvs r es J hr ?_ hs O V;grind[World.putObj_heap_other]
 |Ly=>exact .Ly
 |iface t d v _ E=>exact .iface t d v E
 |Kc=>exact .Kc
 |fn f caps vs I _ E=>exact .fn f caps vs I E
 |Lc=>exact .Lc
 |cl f caps vs I _ E=>exact .cl f caps vs I E
def An.shut{D:Nat}{l W:Option (List Deferred)}(h:w.heap[D]?=some (.deferred l)){x:SV}{v:Value}(hr:An S w β x v):An S (w.putObj D (.deferred W)) β x v:=by
 induction hr with
 |undef v=>exact .undef v
 |d x v U=>exact .d x v (U.shut h)
 |agg cells vs E L _ J=>exact .agg cells vs E L J
 |tuple cells vs E _ J=>exact .tuple cells vs E J
 |box k off b I=>exact .box k off b I
 |Aj cells off b base I E L V =>refine .Aj cells off b base I E ?_ ?_;grind[A2k];intro j d v hd O;rw[A2k h]at O;exact(V j d v hd O).shut h
 |acc k=>exact .acc k
 |Ee k i off b I=>exact .Ee k i off b I
 |mp k b I=>exact .mp k b I
 |Fa l=>exact .Fa l
 |Fv cells off b hs E L _ J =>refine .Fv cells off b hs E ?_ ?_;grind[A2k];grind[A2k]
 |Bk f cells vs E _ J=>exact .Bk f cells vs E J
def Dj.shut{D:Nat}{l l':Option (List Deferred)}(h:w.heap[D]?=some (.deferred l)){i:BI}{c:Aq}(a0:i.base≠some D)(V:Dj S w β i c):Dj S (w.putObj D (.deferred l')) β i c:=by
 have Z:∀b,i.base=some b->(w.putObj D (.deferred l')).heap[b]?=w.heap[b]?:=λb V=>World.putObj_heap_other (by grind);cases c with
 |cells cs =>obtain⟨b,ty,vs,J,U,L⟩:=V;exact⟨b,ty,vs,J,(Z b J).trans U,L.1,λj c v hc hv=>(L.2 j c v hc hv).shut h⟩
 |rows sz rs =>
  obtain⟨J,U,L,O,h5,h6,h7⟩:=V;refine⟨J,U,L,O,h5,h6,?_⟩;cases I:i.base with
  |none=>grind
  |some b =>rw[I]at h7;obtain⟨ty,vs,g1,g2,g3⟩:=h7;exact⟨ty,vs,(Z b I).trans g1,g2,λr j row d v hr hd hv=>(g3 r j row d v hr hd hv).shut h⟩
 |map kvs =>obtain⟨b,es,E,J,U,L,O⟩:=V;exact⟨b,es,E,J,(Z b J).trans U,L,λr kv x hr W=>⟨(O r kv x hr W).1.shut h,(O r kv x hr W).2.shut h⟩⟩
 |iter kvs seen =>obtain⟨b,m,es,E,sn,J,U,hS,hm,L,O,h5⟩:=V;exact⟨b,m,es,E,sn,J,(Z b J).trans U,hS,(World.putObj_heap_other (by grind)).trans hm,L,λr kv x hr W=>⟨(O r kv x hr W).1.shut h,(O r kv x hr W).2.shut h⟩,h5⟩
 |ghost Y st=>exact V
def St.leave{m:Nat}{sl:SL}{bx:Aa}{fn:Func}{R:Ending->World->Prop}(hs:St C m S w β a sl bx)
  (h:∀w',St C m S w' β { tmps:=a.tmps,defers:=[] } sl bx->∃v,(results fn a.tmps).run P w'=.ok v w'/\R (.returned v) w'):LeavesInM Fence.wide 0 P fn a.tmps R a.defers .returning w:=by
 obtain⟨E,V,⟨Ds,hd,U,hD⟩,I⟩:=hs;rw[hd];clear hd
 induction Ds generalizing w with
 |nil=>exact h w ⟨E,V,.nil,I⟩
 |cons D Ds ih =>
  obtain⟨q1,q2,O⟩:=hD D (by simp);refine⟨by simp,.inl ⟨D,w.putObj D (.deferred none),rfl,run_takeDeferred O,ih ?_ ?_ (Ao7.1 U).2 ?_⟩⟩
  .exact{
    Fh:=E.Fh,Ei:=E.Ei,C3:=λb J=>by simpa using E.C3 b J
    kept:=λb J hp=>(World.putObj_heap_other (by omega)).trans (E.kept b J hp)
    os:=E.os,tape:=E.tape,output:=E.output,size:=by simpa using E.size
    box:=λk c L=>(E.box k c L).shut O (λhe=>(E.Bh k c L D he).1 q1)
    Bh:=λk c L b J=>by simpa using E.Bh k c L b J
    inj:=E.inj
    Dv:=λb cs hv=>by
     obtain⟨Z,ty,fr,W⟩:=E.Dv b cs hv
     grind[World.putObj_heap_other]
    one:=E.one
    Fp:=λk Y st L=>by obtain⟨Z,W,h3,h4,B,h5,h6⟩:=E.Fp k Y st L;refine⟨Z,W,h3,h4,B,W.shut st B S w D _ _ h5 (by grind) (λJ=>(h6 D J).1 q1) O,λb J=>?_⟩;simpa using h6 b J
    fix:=E.fix }
  exact λt=>(I t).shut O;grind[World.putObj_heap_other]
variable {c:Code}
def C6c{f:FuncId}{fn:Func}{args:Array Value}{R:Ending->World->Prop}(I:P.funcs[f]?=some fn)(E:fn.body=some c)
  (h:c.wpIn (FW none) 0 P (bodyPostM Fence.wide 0 P fn R) { tmps:=args++Array.replicate (fn.ntmps - args.size) undef,defers:=[] } w):Calls P f args w R :=
 (callsIn_wide (n:=0)).1 (callsIn_of_wp_marks (F:=Fence.wide) I E trivial h)
def Ab.C0v{f:FuncId}{fn:Func}{args:List SV}{r:SV}(L:P.funcs[f]?=some fn)(E:fn.body=some c)(V:(fn.name == "runtime.NumGoroutine")=false)(Z:args.length<=fn.ntmps)
  (h:A0 none P fn.ntmps c (E3s P fn r) (Vh 0 args) []):Ab P f args r:=by
 refine⟨⟨fn,L,V,by grind⟩,?_⟩;intro C β vs hi J;refine C6c L E ?_;refine As4 (h C C.S0 C.w0 β _ (St.start hi J Z)) ?_;rintro e O w' ⟨sl',bx',S',β',q,hs⟩;have key:(∃xs,Ui P bx' sl' fn.results.toList=some xs/\coerce bx' (Xn xs)=some r)->LeavesInM Fence.wide 0 P fn O.tmps (λe w'=>∃v S' β',e=.returned v/\Inv C S' w' β' []/\An S' w' β' r v) O.defers .returning w':=by
  rintro⟨xs,U,h2⟩;refine hs.leave λw' hs=>?_;obtain⟨v,W,h4⟩:=C1u (P:=P) hs U;refine⟨v,W,v,λb=>S' b\/∃k c,(k,c)∈bx'/\(β' k).base=some b,β',rfl,?_,?_⟩
  .exact{
    Fh:=λb E=>.inl (hs.inv.Fh b E)
    Ei:=λb E=>by
     rcases E with E|⟨k,c,I,E⟩
     .exact hs.inv.Ei b E
     .exact .inr (hs.inv.Bh k c I b E).2.2
    C3:=λb E=>by
     rcases E with E|⟨k,c,I,E⟩
     .exact hs.inv.C3 b E
     .exact(hs.inv.Bh k c I b E).2.1
    kept:=hs.inv.kept
    os:=hs.inv.os
    tape:=hs.inv.tape
    output:=hs.inv.output
    size:=hs.inv.size
    box:=λk c I=>by grind
    Bh:=λk c I=>by grind
    inj:=λk c k' c' I=>by simp
    Dv:=λb cs J=>⟨.inl (hs.inv.Dv b cs J).1,(hs.inv.Dv b cs J).2⟩
    one:=λk Y st k' Y' st' I=>by simp
    Fp:=λk Y st I=>by grind
    fix:=hs.inv.fix }
  exact(A5z hs.inv ⟨λ_ h=>.inl h,λ_ _=>rfl⟩ (λk c I b E=>.inr ⟨k,c,I,E⟩) h2 h4).1
 cases e with
 |normal=>exact key q
 |ret=>exact key q
 |_=>exact q.elim
structure Qy where
 fb:Nat->SV
 fa:SV
 fm:SV
mutual
def SV.sub(k:Nat)(f:Qy):SV->SV
 |.box j off=>if j=k then f.fb off else .box j off
 |.acc j=>if j=k then f.fa else .acc j
 |.mp j=>if j=k then f.fm else .mp j
 |.Ee j i off=>.Ee j i off
 |.agg cs=>.agg (SV.Kj k f cs)
 |.tuple cs=>.tuple (SV.Kj k f cs)
 |.Bk g cs=>.Bk g (SV.Kj k f cs)
 |.undef=>.undef
 |.d x=>.d x
 |.Aj c off=>.Aj c off
 |.Fa l=>.Fa l
 |.Fv cs off=>.Fv (SV.Kj k f cs) off
def SV.Kj(k:Nat)(f:Qy):List SV->List SV
 |[]=>[]
 |c::cs=>c.sub k f::SV.Kj k f cs
end
def SV.A6e(k:Nat)(f:Qy):∀cs:List SV,SV.Kj k f cs=cs.map (SV.sub k f)
 |[]=>rfl
 |c::cs=>by simp[SV.Kj,SV.A6e k f cs]
structure A9w(S S':Nat->Prop)(w:World)(β:Names)(k:Nat)(f:Qy):Prop where
 fb:∀off v,An S w β (.box k off) v->An S' w β (f.fb off) v
 fa:∀v,An S w β (.acc k) v->An S' w β f.fa v
 fm:∀v,An S w β (.mp k) v->An S' w β f.fm v
 one:(∀off,(f.fb off).one=true)/\f.fa.one=true/\f.fm.one=true
theorem SV.sub_one{S S':Nat->Prop}{k:Nat}{f:Qy}(E:A9w S S' w β k f){x:SV}(h:x.one=true):(x.sub k f).one=true:=by
 cases x <;> simp only[SV.sub] <;> first
  |exact h
  |(split;exact E.one.1 _;rfl)
  |(split;exact E.one.2.1;rfl)
  |(split;exact E.one.2.2;rfl)
  |rfl
def An.sub{S S':Nat->Prop}{k:Nat}{f:Qy}(I:A9w S S' w β k f)(e:C9 S w S' w){x:SV}{v:Value}(h:An S w β x v):An S' w β (x.sub k f) v:=by
 induction h with
 |undef v=>exact .undef v
 |d x v h=>exact .d x v (h.ext e)
 |agg cells vs E L _ J =>simp only[SV.sub,SV.A6e];refine .agg _ vs (by grind) ?_ ?_;grind[SV.sub_one];grind
 |tuple cells vs E _ J =>simp only[SV.sub,SV.A6e];refine .tuple _ vs (by grind) ?_;grind
 |box j off b h =>
  simp only[SV.sub];split
  .subst_vars;exact I.fb off _ (.box _ off b h)
  .exact .box j off b h
 |Aj cells off b base E L O U=>exact An.ext (.Aj cells off b base E L O U) e (λ_ _=>rfl)
 |acc j =>
  simp only[SV.sub];split
  .subst_vars;exact I.fa _ (.acc _)
  .exact .acc j
 |Ee j i off b h=>exact .Ee j i off b h
 |Fa l=>exact .Fa l
 |Fv cells off b hs E L _ J =>simp only[SV.sub,SV.A6e];refine .Fv _ off b (e.sub b hs) ?_ (by grind) ?_;grind[SV.sub_one];grind
 |mp j b h =>
  simp only[SV.sub];split
  .subst_vars;exact I.fm _ (.mp _ b h)
  .exact .mp j b h
 |Bk f cells vs E _ J =>simp only[SV.sub,SV.A6e];refine .Bk f _ vs (by grind) ?_;grind
def M6(k:Nat)(f:Qy):SL->SL
 |[]=>[]
 |(t,x)::r=>(t,x.sub k f)::M6 k f r
def Aq.sub(k:Nat)(f:Qy):Aq->Aq
 |.cells cs=>.cells (SV.Kj k f cs)
 |c=>c
def Ld(k:Nat)(f:Qy):Aa->Aa
 |[]=>[]
 |(j,c)::r=>(j,c.sub k f)::Ld k f r
def C0y(k:Nat)(f:Qy):∀(sl:SL)(t:Nat),Af (M6 k f sl) t=(Af sl t).sub k f
 |[],t=>rfl
 |(u,x)::r,t=>by simp only[M6,Af];split;rfl;exact C0y k f r t
def Q4{k j:Nat}{f:Qy}{c:Aq} :∀{bx:Aa},(j,c)∈Ld k f bx->∃x,(j,x)∈bx/\c=x.sub k f
 |[],h=>by simp[Ld]at h
 |(i,x)::r,h=>by simp only[Ld,B5,Ew]at h;rcases h with⟨E,I⟩|h;grind;obtain⟨y,L,J⟩:=Q4 h;grind
def A0.A8x(k:Nat){bc:Aq}{f:Qy}(hk:(k,bc)∈bx)
  (hf:∀(S:Nat->Prop) (w:World) (β:Names),Dj S w β (β k) bc->(∀b,(β k).base=some b->S b)->A9w S S w β k f)
  (h:A0 ro P n c Q (M6 k f sl) (Ld k f (C5 k bx))):A0 ro P n c Q sl bx:=by
 intro C S w β a hs
 let S':Nat->Prop:=λb=>S b\/(β k).base=some b
 have e:C9 S w S' w:=⟨λ_ h=>.inl h,λ_ _=>rfl⟩;have E:=hs.inv;have a4:Dj S' w β (β k) bc:=(E.box k _ hk).ext e (λ_ _=>rfl) (λ_ _=>rfl);have a6:=hf S' w β a4 (λb hb=>.inr hb);have hr:A9w S' S' w β k f:=a6;have Z:∀{x:SV} {v:Value},An S w β x v->An S' w β (x.sub k f) v:=λhv=>(hv.ext e (λ_ _=>rfl)).sub hr (C9.refl _ _);refine h C S' w β a ⟨?_,hs.size,hs.defers.ext e,λt=>by rw[C0y];exact Z (hs.slot t)⟩;exact{
  Fh:=λb hb=>.inl (E.Fh b hb)
  Ei:=λb hb=>by
   rcases hb with hb|hb
   .exact E.Ei b hb
   .exact .inr (E.Bh k _ hk b hb).2.2
  C3:=λb hb=>by
   rcases hb with hb|hb
   .exact E.C3 b hb
   .exact(E.Bh k _ hk b hb).2.1
  kept:=E.kept
  os:=E.os
  tape:=E.tape
  output:=E.output
  size:=E.size
  box:=λj c U=>by
   obtain⟨x,I,rfl⟩:=Q4 U;obtain⟨a3,I⟩:=Ed.1 I;have:=E.box j x I;cases x with
   |cells cs =>obtain⟨b,ty,vs,h1,h2,h3⟩:=this;refine⟨b,ty,vs,h1,h2,?_⟩;rw[SV.A6e];refine h3.map (by simp) ?_;intro i x y v J W hv;simp only[Db,J,Ef,B0]at W;subst W;exact Z hv
   |rows sz rs=>exact Dj.ext (c:=.rows sz rs) this e (λ_ _=>rfl) (λ_ _=>rfl)
   |map kvs=>exact Dj.ext (c:=.map kvs) this e (λ_ _=>rfl) (λ_ _=>rfl)
   |iter kvs seen=>exact Dj.ext (c:=.iter kvs seen) this e (λ_ _=>rfl) (λ_ _=>rfl)
   |ghost Y st=>exact this
  Bh:=λj c U b hb=>by
   obtain⟨x,I,rfl⟩:=Q4 U;obtain⟨a3,I⟩:=Ed.1 I;obtain⟨h1,h2,h3⟩:=E.Bh j x I b hb;refine⟨λhs=>?_,h2,h3⟩;rcases hs with hs|hs
   .grind
   .exact a3 (E.inj j x k _ I hk b hb hs).1
  inj:=λj c j' c' U a2 b hb a7=>by
   obtain⟨x,I,rfl⟩:=Q4 U;obtain⟨x',J,rfl⟩:=Q4 a2;obtain⟨h1,h2⟩:=E.inj j x j' x' (Ed.1 I).2 (Ed.1 J).2 b hb a7
   grind
  Dv:=λb cs hv=>⟨.inl (E.Dv b cs hv).1,(E.Dv b cs hv).2⟩
  one:=λj Y st j' Y' st' U a2=>by
   obtain⟨x,I,O⟩:=Q4 U;obtain⟨x',J,a0⟩:=Q4 a2;have e1:x=.ghost Y st:=by cases x <;> simp only[Aq.sub,reduceCtorEq]at O;exact O.symm
   have e2:x'=.ghost Y' st':=by cases x' <;> simp only[Aq.sub,reduceCtorEq]at a0;exact a0.symm
   subst e1;subst e2;exact E.one j Y st j' Y' st' (Ed.1 I).2 (Ed.1 J).2
  Fp:=λj Y st U=>by
   obtain⟨x,I,O⟩:=Q4 U;have a5:x=.ghost Y st:=by cases x <;> simp only[Aq.sub,reduceCtorEq]at O;exact O.symm
   subst a5;obtain⟨h1,h2,h3,h4,B,h5,h6⟩:=E.Fp j Y st (Ed.1 I).2;have a8:=E.size;have hB:∀b,B b->¬S' b:=λb hb hs=>hs.elim (h6 b hb).1 ((h6 b hb).2.2.2 k _ hk);have a1:∀V c',(V,c')∈Ld k f (C5 k bx)->∃y,(V,y)∈bx:=λV c' L=>by obtain⟨y,W,_⟩:=Q4 L;exact⟨y,(Ed.1 W).2⟩
   refine⟨h1,h2,h3,λV c' L=>(a1 V c' L).elim λy W=>h4 V y W,B,h2.X3 st B S w _ w h5 ⟨λ_ h=>.inl h,λb hb=>hb.imp id λhb=>by grind,λb hb=>?_,hB,λ_ _=>rfl,rfl,rfl,rfl,Bq _⟩,λb hb=>⟨hB b hb,(h6 b hb).2.1,(h6 b hb).2.2.1,λV c' L=>(a1 V c' L).elim λy W=>(h6 b hb).2.2.2 V y W⟩⟩
   rcases hb with hb|hb
   .exact E.C3 b hb
   .exact(E.Bh k _ hk b hb).2.1
  fix:=E.fix }
def A0.Jh(k:Nat){sz:Nat}{rs:List (List D)}(J:A8 bx k=some (.rows sz rs))
  (h:A0 ro P n c Q (M6 k ⟨λoff=>.box k off,.d (.slice rs),.mp k⟩ sl) (Ld k ⟨λoff=>.box k off,.d (.slice rs),.mp k⟩ (C5 k bx))):A0 ro P n c Q sl bx :=
 A0.A8x k (Hs J) (λS w β I L=>⟨λoff v E=>E,λv E=>by cases E;exact .d _ _ (I.C0i L),λv E=>E,λ_=>rfl,rfl,rfl⟩) h
def A0.zz(k:Nat){cs:List SV}{ds:List D}(hk:A8 bx k=some (.cells cs))(hd:Vj cs=some ds)
  (h:A0 ro P n c Q (M6 k ⟨λoff=>.Aj ds off,.acc k,.mp k⟩ sl) (Ld k ⟨λoff=>.Aj ds off,.acc k,.mp k⟩ (C5 k bx))):A0 ro P n c Q sl bx:=by
 refine A0.A8x k (Hs hk) (λS w β U Z=>⟨λoff v E=>?_,λv E=>E,λv E=>E,λ_=>rfl,rfl,rfl⟩) h;obtain⟨b,ty,vs,J,O,L⟩:=U;obtain⟨q1,W,V⟩:=B6f cs ds vs hd L;have hl:=L.1;cases E with
 |box _ _ b' I =>
  rw[J]at I;cases I;have:=An.Aj (S:=S) (w:=w) (β:=β) ds off b 0 (Z b J) W (λj hj=>⟨vs[j]'(by omega),by rw[cells_of_row O,Qe];simp⟩)
   (λj d v hd E=>V j d v hd (by rw[cells_of_row O,Qe]at E;exact E))
  grind
def A0.F0k(k:Nat){cs:List SV}(hk:A8 bx k=some (.cells cs))(V:cs.all SV.one=true)
  (h:A0 ro P n c Q (M6 k ⟨λoff=>.Fv cs off,.acc k,.mp k⟩ sl) (Ld k ⟨λoff=>.Fv cs off,.acc k,.mp k⟩ (C5 k bx))):A0 ro P n c Q sl bx:=by
 refine A0.A8x k (Hs hk) (λS w β U Z=>⟨λoff v E=>?_,λv E=>E,λv E=>E,λ_=>rfl,rfl,rfl⟩) h;obtain⟨b,ty,vs,L,W,O⟩:=U;have hl:=O.1;cases E with
 |box _ _ b' I =>
  rw[L]at I;cases I;exact .Fv cs off b (Z b L) (λc J=>Dr.1 V c J) (λj hj=>⟨vs[j]'(by omega),by rw[cells_of_row W];simp⟩) (λj c v J E=>O.2 j c v J (by grind[cells_of_row]))
def A0.G4g(k:Nat){kvs:List (D × D)}(J:A8 bx k=some (.map kvs))
  (h:A0 ro P n c Q (M6 k ⟨λoff=>.box k off,.acc k,.d (.map kvs)⟩ sl) (Ld k ⟨λoff=>.box k off,.acc k,.d (.map kvs)⟩ (C5 k bx))):A0 ro P n c Q sl bx:=by
 refine A0.A8x k (Hs J) (λS w β W hS=>⟨λoff v I=>I,λv I=>I,λv I=>?_,λ_=>rfl,rfl,rfl⟩) h;obtain⟨b,es,E,U,h2,Z,V⟩:=W;cases I with
 |mp _ b' L =>rw[U]at L;cases L;exact .d _ _ (.map _ b es E (hS b U) h2 Z (λi kv e J O=>(V i kv e J O).1) (λi kv e J O=>(V i kv e J O).2))
def A0.pp(k sz t:Nat)(hd:Af sl t=.d .nil)(h:A0 ro P n c Q ((t,.acc k)::Wr k sl) ((k,.rows sz [])::G7 k (C5 k bx)))(I:k<=999999:=by decide):A0 ro P n c Q sl bx:=by
 intro C S w β a hs;obtain⟨J,O⟩:=hs.inv.Wg (k:=k) (w':=w) (c:=.rows sz []) { base:=none,sz:=sz } I (by simp) (λ_ _ _=>rfl) rfl rfl rfl (Bq _) (λ_=>B9d);refine h C S w _ a ⟨J,hs.size,hs.defers,?_⟩;intro u;simp only[Af];split
 .rename_i L;subst L;have E:=hs.slot t;rw[hd]at E;generalize a.tmps.getD t undef=v at E;cases E with
  |d _ _ E =>cases E;have:=An.acc (S:=S) (w:=w) (β:=Ej β k { base:=none,sz:=sz }) k;grind[Hp]
 rw[A8h];exact(hs.slot u).Se O
end Go.Abs
namespace Go.Abs
open Go
variable {P:Program} {o:Oper} {ρ:Kf} {bx:Aa}
def D.lit:D->Lit
 |.str s=>.string s
 |.int k n=>.int k n
 |.bool b=>.bool b
 |_=>.nil
def D.flatK:D->Bool
 |.str _| .int _ _| .bool _=>true
 |_=>false
def D.lits:D->List Lit
 |.agg cs=>cs.map D.lit
 |d=>[d.lit]
def D.kv:D->Value
 |.agg cs=>.agg ⟨cs.map λc=>c.lit.value⟩
 |d=>d.lit.value
def D.isKey:D->Bool
 |.agg cs=>cs.all D.flatK
 |d=>d.flatK
variable {S:Nat->Prop} {w:World}
def C0.G6p{d:D}{v:Value}(h:C0 S w d v)(E:d.flatK=true):v=d.lit.value:=by cases h <;> simp[D.flatK]at E <;> rfl
theorem C0.kv{d:D}{v:Value}(h:C0 S w d v)(I:d.isKey=true):v=d.kv:=by
 cases h with
 |agg cells vs O V L =>
  simp only[D.kv,Value.agg.injEq];apply Lk;simp only;apply Mm;intro j;rw[Db];cases E:cells[j]? with
  |none =>grind
  |some c =>have U:=(Aw.1 E).1;have J:vs[j]?=some (vs[j]'(by omega)):=Br (by omega);rw[J];have:=L j c _ E J;simp only[D.isKey,Dr]at I;rw[this.G6p (I c (Bm E))];rfl
 |_=>first|rfl| (simp[D.isKey,D.flatK]at I;done)|rfl
structure En(P:Program)(kt:TypeId)(d:D):Prop where
 isKey:d.isKey=true
 formed:d.kv.formed P kt=true
 lits:P.keyLits (P.types.size+1) kt d.kv.cells.toList=some d.lits
def Rw(P:Program)(E:TypeId):Bool:=P.keyTypeAt 100 E && match P.underlying E with
 |some .string|some (.struct _)|some (.array _ _)=>true
 |_=>false
def En.same{O:TypeId}{d E:D}(h:En P O d)(J:En P O E)(e:d.lits=E.lits):d.kv=E.kv:=by
 have f1:=h.formed;have f2:=J.formed;have m:∀a b:List D,a.map D.lit=b.map D.lit->(a.map λc=>c.lit.value)=b.map λc=>c.lit.value:=λa b I=>by have:=Gf (List.map Lit.value) I;grind[Function.comp_def]
 have U:=h.isKey;have L:=J.isKey;cases d with
 |agg cs =>
  cases E with
  |agg cs'=>grind[D.lits,D.kv]
  |str _|int _ _|bool _ =>grind[D.kv,D.lit,Lit.value,Value.formed]
  |_=>simp[D.isKey,D.flatK]at L
 |str _|int _ _|bool _ =>
  cases E with
  |agg cs' =>grind[D.kv,D.lit,Lit.value,Value.formed]
  |str _|int _ _|bool _=>simp only[D.lits,An7,T9]at e;simp only[D.kv];rw[e]
  |_=>simp[D.isKey,D.flatK]at L
 |_=>simp[D.isKey,D.flatK]at U
def G0j(l:Lit)(h:l≠.nil):Instr.sameBits 9999 l.value l.value=true:=by cases l <;> simp only[Lit.value,Instr.sameBits,ne_eq,Ar9,beq_self_eq_true,Bool.and_self]at* <;> grind[MapKept.bytes_beq]
def G4t{d:D}(h:d.isKey=true):Instr.sameBits 10000 d.kv d.kv=true:=by
 cases d with
 |agg cs =>
  simp only[D.kv,Instr.sameBits,beq_self_eq_true,Cr];simp only[D.isKey,Dr]at h;rw[Dr];intro p U;obtain⟨i,J⟩:=Wz.1 U;rw[Am3]at J;obtain⟨I,L⟩:=J;have V:p.1=p.2:=by rw[I]at L;exact An6 L
  obtain⟨c,O,E⟩:=Au.1 (Bm I);rw[<-V,<-E];refine G0j _ ?_;have:=h c O;cases c <;> simp[D.flatK]at this <;> simp[D.lit]
 |_=>first|rfl|grind[D.kv,D.lit,Lit.value,Instr.sameBits]|exact(Au4 _ _).2 rfl
instance litDec:DecidableEq Lit:=by intro a b;cases a <;> cases b <;> simp only[Lit.bool.injEq,Lit.int.injEq,Lit.float.injEq,Lit.string.injEq,reduceCtorEq] <;> infer_instance
def Ea(l:List Lit):List (D × D)->Nat->Option (Nat × D)
 |[],_=>none
 |kv::r,i=>if l=kv.1.lits then some (i,kv.2)else Ea l r (i+1)
def Xt(k v:D)(kvs:List (D × D)):List (D × D):=match Ea k.lits kvs 0 with
 |some (j,_)=>kvs.set j (k,v)
 |none=>kvs++[(k,v)]
def G8a{E:TypeId}(I:Rw P E=true)(w:World){a b:D}(L:En P E a)(J:En P E b) :∃r:Bool,(Op.equal E a.kv b.kv).run P w=.ok r w/\(r=true↔a.lits=b.lits):=by unfold Rw at I;simp only[Bi]at I;exact run_equalIn_deep 9900 100 E I.1 w _ _ a.kv b.kv a.lits b.lits L.formed J.formed L.lits J.lits
def E3j{E:TypeId}(I:Rw P E=true)(L:Bool)(w:World){a:D}(J:En P E a):(Instr.checkKey L 10000 E a.kv).run P w=.ok () w:=by unfold Rw at I;simp only[Bi]at I;exact run_checkKey_deep L 9900 100 E I.1 w _ a.kv a.lits J.formed J.lits
def Found(es:List MapEntry)(i:Nat):Option (Nat × D)->Option (Nat × Value)->List (D × D)->Prop
 |none,r,_=>r=none
 |some (j,d),r,kvs=>∃e k,i<=j/\es[j - i]?=some e/\kvs[j - i]?=some (k,d)/\r=some (j,e.val)
def E5e{L:TypeId}(W:Rw P L=true)(w:World){a:D}(V:En P L a):∀(es:List MapEntry)(kvs:List (D × D))(i:Nat),es.length=kvs.length ->(∀(j:Nat) (e:MapEntry) (kv:D × D),es[j]?=some e->kvs[j]?=some kv->e.key=kv.1.kv/\En P L kv.1) ->∃r,(Instr.findAsking L a.kv es i).run P w=.ok r w/\Found es i (Ea a.lits kvs i) r kvs
 |[],[],i,_,_=>⟨none,by rfl,rfl⟩
 |[],_::_,_,h,_=>by grind
 |_::_,[],_,h,_=>by grind
 |e::es,kv::kvs,i,h,E=>by
  obtain⟨O,h2⟩:=E 0 e kv rfl rfl;obtain⟨r,hr,I⟩:=G8a W w V h2;simp only[Ea];by_cases J:a.lits=kv.1.lits
  .rw[A6 J];have:r=true:=I.2 J;subst this;exact⟨some (i,e.val),by simp[Instr.findAsking,O,hr],e,kv.1,by omega,by simp,by simp,rfl⟩
  .rw[A3 J];have:r=false:=by cases r with|false=>rfl|true=>grind
   subst this;obtain⟨r,g1,U⟩:=E5e W w V es kvs (i+1) (by grind) (λj e kv J a0=>E (j+1) e kv (by grind) (by grind));refine⟨r,by simp[Instr.findAsking,O,hr,g1],?_⟩;generalize Ea a.lits kvs (i+1)=q at*;cases q with
   |none=>exact U
   |some jd =>
    obtain⟨j,d⟩:=jd;obtain⟨e',k',q1,q2,q3,Z⟩:=U;refine⟨e',k',by omega,?_,?_,Z⟩
    .grind
    grind
def D7d{J:TypeId}(hs:P.underlying J=some .string){a:D}(U:En P J a):∀(es:List MapEntry)(kvs:List (D × D))(i:Nat),es.length=kvs.length ->(∀(j:Nat) (e:MapEntry) (kv:D × D),es[j]?=some e->kvs[j]?=some kv->e.key=kv.1.kv/\En P J kv.1) ->∃r,Instr.findNow .string a.kv es i=some r/\Found es i (Ea a.lits kvs i) r kvs
 |[],[],i,_,_=>⟨none,by rfl,rfl⟩
 |[],_::_,_,h,_=>by grind
 |_::_,[],_,h,_=>by grind
 |e::es,kv::kvs,i,h,E=>by
  obtain⟨V,Z⟩:=E 0 e kv rfl rfl;have str:∀{d:D},En P J d->∃s,d=.str s:=λ{d} hd=>by
   have f:=hd.formed;have l:=hd.lits;have k:=hd.isKey;cases d with
   |str s=>simp
   |agg cs=>grind[D.kv,Value.formed]
   |int k n=>simp[D.kv,D.lit,Lit.value,Program.keyLits,hs,Value.cells]at l
   |bool b=>simp[D.kv,D.lit,Lit.value,Program.keyLits,hs,Value.cells]at l
   |_=>simp[D.isKey,D.flatK]at k
  obtain⟨s,rfl⟩:=str U;obtain⟨k,d⟩:=kv;obtain⟨t,rfl⟩:=str Z;simp only[Ea];have I:Instr.sameNow .string (D.str s).kv e.key=some (decide (s=t)):=by
   rw[V];simp only[D.kv,D.lit,Lit.value,Instr.sameNow,B0];rw[Am7];rw[Au4];simp only[ByteArray.mk.injEq,E4];constructor
   .simp
   .simp
  by_cases L:s=t
  .subst L;rw[A6 rfl];exact⟨some (i,e.val),by simp[Instr.findNow,I],e,_,by omega,by simp,by simp;rfl,rfl⟩
  .rw[A3 (by simpa [D.lits,D.lit]using L)];obtain⟨r,g1,O⟩:=D7d hs U es kvs (i+1) (by grind) (λj e kv L a0=>E (j+1) e kv (by grind) (by grind));refine⟨r,by grind[Instr.findNow],?_⟩;generalize Ea (D.str s).lits kvs (i+1)=q at*;cases q with
   |none=>exact O
   |some jd =>
    obtain⟨j,d⟩:=jd;obtain⟨e',k',q1,q2,q3,W⟩:=O;refine⟨e',k',by omega,?_,?_,W⟩
    .grind
    grind
def E2y{J:TypeId}(O:Rw P J=true)(w:World){a:D}(L:En P J a)(es:List MapEntry)(kvs:List (D × D))(U:es.length=kvs.length)
  (E:∀(j:Nat) (e:MapEntry) (kv:D × D),es[j]?=some e->kvs[j]?=some kv->e.key=kv.1.kv/\En P J kv.1) :
  ∃r,(Instr.findKey J a.kv es).run P w=.ok r w/\Found es 0 (Ea a.lits kvs 0) r kvs:=by
 by_cases hs:P.underlying J=some .string;obtain⟨r,V,W⟩:=D7d hs L es kvs 0 U E;grind[MapKept.run_findKey]
 .have Z:(match P.underlying J with|some (.array _ _)|some (.struct _)=>true|_=>false)=true:=by have I:=O;unfold Rw at I;simp only[Bi]at I;have:=I.2;grind
  obtain⟨r,V,W⟩:=E5e O w L es kvs 0 U E;grind[run_findKey_eq]
def Nv:SV->Option D
 |.d x=>some x
 |.agg cs=>(Vj cs).map .agg
 |_=>none
def Y8:D->SV
 |.agg cs=>.agg (cs.map .d)
 |d=>.d d
variable {β:Names}
def B7a{x:SV}{d:D}{v:Value}(h:An S w β x v)(hd:Nv x=some d):C0 S w d v:=by
 cases h with
 |d x v h=>grind[Nv]
 |agg cells vs J V L =>simp only[Nv,P1]at hd;obtain⟨ds,E,rfl⟩:=hd;obtain⟨U,O,I⟩:=B6f cells ds vs E ⟨J,L⟩;exact .agg ds vs (by omega) O I
 |_=>simp[Nv]at hd
def D6r{d:D}{v:Value}(h:C0 S w d v):An S w β (Y8 d) v:=by
 cases h with
 |agg cells vs O L J =>refine .agg _ vs (by grind) ?_ ?_;intro c E;obtain⟨d,hd,rfl⟩:=Au.1 E;exact L d hd;intro j c v E I;rw[Db,P1]at E;obtain⟨d,hd,rfl⟩:=E;exact .d _ _ (J j d v hd I)
 |int|bool|str|nil|emp|Lw|slice|ptr|Lb|map|Ly|iface|Kc|fn|Lc|cl=>exact .d _ _ (by constructor <;> omega)
def Z2(P:Program)(T:TypeId):Option SV:=match(P.info? T).bind (·.zero)with
 |some (.agg _)=>none
 |some z=>some (Kw z)
 |none=>none
def E3i{T:TypeId}{z:SV}(h:Z2 P T=some z)(w:World):∃v,(zeroValue T).run P w=.ok v w/\z=Kw v:=by
 unfold Z2 at h;cases I:P.info? T with
 |none=>grind
 |some i =>
  cases E:i.zero with
  |none=>grind
  |some v =>simp only[I,E,Ap5]at h;refine⟨v,by simp[zeroValue,typeInfo,I,E],?_⟩;grind
theorem D4j{T k:Nat}(E:k<=999999)(O:o.op=.makeMap T none):C1 P o ρ bx (.mp k) ((k,.map [])::G7 k (C5 k bx)) [k]:=by
 intro C S w β a J V;obtain⟨L,U⟩:=J.Wg (k:=k) (w':={ w with heap:=w.heap.push (.map #[] 0) }) (c:=.map []) { base:=some w.heap.size } E (by
   intro b I;cases I;exact⟨λh=>by have:=J.C3 _ h;omega,by simp,.inl (Bq _)⟩)
  (λb I _=>by grind) rfl rfl rfl (by simp) (λ_=>by refine⟨w.heap.size,#[],0,rfl,by simp,⟨rfl,by simp[A1o]⟩,?_⟩;simp)
 refine Jk ?_;unfold Oper.wp;have:(execOp a.eval o).run P w=.ok (.value (.map (some w.heap.size))) { w with heap:=w.heap.push (.map #[] 0) }:=by simp[execOp,O,Instr.makeMap,newObj];rfl
 rw[this];exact⟨_,S,_,rfl,L,U,.mp k _ (by rw[Hp]),λj W=>M3 (by grind)⟩
def B1j{L:TypeId}{kvs:List (D × D)}{es:Array MapEntry}(O:es.size=kvs.length)
  (h:∀(r:Nat) (kv:D × D) (e:MapEntry),kvs[r]?=some kv->es[r]?=some e->C0 S w kv.1 e.key)(E:∀kv,kv∈kvs->En P L kv.1) :
  ∀(j:Nat) (e:MapEntry) (kv:D × D),es.toList[j]?=some e->kvs[j]?=some kv->e.key=kv.1.kv/\En P L kv.1:=by intro j e kv U I;have J:=E kv (Bm I);exact⟨(h j kv e I (by grind)).kv J.isKey,J⟩
def C3n{C:Ctx}{k r:Nat}{x:Aq}{kvs:List (D × D)}(hi:Inv C S w β bx)(V:(k,x)∈bx)(I:(β k).base=some r)(a0:r<w.heap.size)
  (es:Array MapEntry)(E:Nat)(U:MSz es E kvs.length)(J:∀(j:Nat) (kv:D × D) (e:MapEntry),kvs[j]?=some kv->es[j]?=some e->C0 S w kv.1 e.key/\C0 S w kv.2 e.val) :
  Inv C S { w with heap:=w.heap.setIfInBounds r (.map es E) } β ((k,.map kvs)::C5 k bx)/\C9 S w S { w with heap:=w.heap.setIfInBounds r (.map es E) }:=by
 refine hi.B4w V I (λZ L=>by grind) rfl rfl rfl (by simp) ?_;have W:C9 S w S { w with heap:=w.heap.setIfInBounds r (.map es E) } :=⟨λ_ h=>h,λZ L=>by
   have:Z≠r:=λO=>(hi.Bh k _ V r I).1 (O ▸ L)
   grind⟩
 exact⟨r,es,E,I,by grind,U,λj kv e hk O=>⟨(J j kv e hk O).1.ext W,(J j kv e hk O).2.ext W⟩⟩
def E7a(l:List Lit):∀(kvs:List (D × D))(i j:Nat)(d:D),Ea l kvs i=some (j,d)->∃k,i<=j/\kvs[j - i]?=some (k,d)/\l=k.lits
 |[],_,_,_,h=>by simp[Ea]at h
 |kv::r,i,j,d,h=>by simp only[Ea]at h;split at h;grind;obtain⟨k,E,I,J⟩:=E7a l r (i+1) j d h;grind
def G5g{T kt et k:Nat}{m x y:Operand}(ho:o.op=.mapUpdate T m x y){kvs:List (D × D)}{kd vd:D}(hm:ρ m=.mp k)(hb:(k,Aq.map kvs)∈bx)
  (hT:P.underlying T=some (.map kt et))(a5:Rw P kt=true)(hx:Nv (ρ x)=some kd)(O:En P kt kd)(U:∀kv,kv∈kvs->En P kt kv.1)(hy:Nv (ρ y)=some vd) :
  C1 P o ρ bx (.tuple []) ((k,.map (Xt kd vd kvs))::C5 k bx) []:=by
 intro C S w β a hi ha;have V:=ha m (mC ho);rw[hm]at V;have a8:=B7a (ha x (mC ho)) hx;have a':=B7a (ha y (mC ho)) hy;have W:=a8.kv O.isKey;obtain⟨r,es,E,I,hh,a2,a3⟩:=hi.box k _ hb;have a6:=a2.1;generalize a4:a.eval m=mv at V;cases V with
 |mp _ b J =>
  rw[I]at J;cases J;obtain⟨q,hq,hf⟩:=E2y a5 w O es.toList kvs (by omega) (B1j a6 (λr kv e Z h2=>(a3 r kv e Z h2).1) U);have L:=E3j a5 false w O;have a7:r<w.heap.size:=(hi.Bh k _ hb r I).2.1;rw[<-W]at hq L;unfold Xt;cases a1:Ea kd.lits kvs 0 with
  |none =>
   rw[a1]at hf;simp only[Found]at hf;subst hf;obtain⟨Z,h2⟩:=C3n (kvs:=kvs++[(kd,vd)]) hi hb I a7 (es.push { key:=a.eval x,val:=a.eval y,born:=E }) (E+1) ⟨by grind,a2.2.push _ _⟩ (by grind);refine Jk ?_;unfold Oper.wp;rw[show(execOp a.eval o).run P w=.ok .skip { w with heap:=w.heap.setIfInBounds r (.map (es.push { key:=a.eval x,val:=a.eval y,born:=E }) (E+1)) } by simp[execOp,ho,a4,Instr.mapUpdate,T8 hT,Uv hh,L,hq,MapKept.run_setObj_map _ hh]];exact⟨undef,S,β,rfl,Z,h2,.tuple [] [] rfl (by simp),λ_ _=>rfl⟩
  |some jd =>
   obtain⟨j,d⟩:=jd;rw[a1]at hf;obtain⟨e,k',_,g1,g2,rfl⟩:=hf;simp only[Qw,Aj8]at g1 g2;have a9:e.key=a.eval x:=by obtain⟨p1,p2⟩:=B1j a6 (λr kv e Z h2=>(a3 r kv e Z h2).1) U j e (k',d) (by grind) g2;obtain⟨k2,_,q2,q3⟩:=E7a _ _ _ _ _ a1;simp only[Qw]at q2;rw[g2]at q2;simp only[B0,Ew,T9]at q2;subst q2;rw[p1,W];exact(O.same p2 q3).symm
   have a0:(Instr.keyThatStays (a.eval x) (a.eval x)).run P w=.ok (a.eval x) w:=by rw[W];simp[Instr.keyThatStays,G4t O.isKey]
   have hj:j<es.size:=(Ai6.1 g1).1;obtain⟨Z,h2⟩:=C3n (kvs:=kvs.set j (kd,vd)) hi hb I a7 (es.modify j λe=>{ e with key:=a.eval x,val:=a.eval y }) E ⟨by grind,a2.2.modify _ _ (λ_=>rfl)⟩ (by grind);refine Jk ?_;unfold Oper.wp;rw[show(execOp a.eval o).run P w=.ok .skip { w with heap:=w.heap.setIfInBounds r (.map (es.modify j λe=>{ e with key:=a.eval x,val:=a.eval y }) E) } by simp[execOp,ho,a4,Instr.mapUpdate,T8 hT,Uv hh,L,hq,g1,a9,a0,MapKept.run_setObj_map _ hh]];exact⟨undef,S,β,rfl,Z,h2,.tuple [] [] rfl (by simp),λ_ _=>rfl⟩
inductive IsMap(bx:Aa):SV->List (D × D)->Prop where
 |mp (k:Nat) (kvs:List (D × D)):(k,Aq.map kvs)∈bx->IsMap bx (.mp k) kvs
 |d (kvs:List (D × D)):IsMap bx (.d (.map kvs)) kvs
def IsMap.rep{C:Ctx}{x:SV}{kvs:List (D × D)}{v:Value}(h:IsMap bx x kvs)(hi:Inv C S w β bx)(V:An S w β x v) :∃r es E,v=.map (some r)/\w.heap[r]?=some (.map es E)/\es.size=kvs.length/\∀(j:Nat) (kv:D × D) (e:MapEntry),kvs[j]?=some kv->es[j]?=some e->C0 S w kv.1 e.key/\C0 S w kv.2 e.val:=by
 cases h with
 |mp k kvs hb =>
  obtain⟨r,es,E,J,U,L,O⟩:=hi.box k _ hb;cases V with
  |mp _ b I =>rw[J]at I;cases I;exact⟨r,es,E,rfl,U,L.1,O⟩
 |d kvs =>
  cases V with
  |d _ _ h =>
   cases h with
   |map _ r es E hS U L h1 h2=>exact⟨r,es,E,rfl,U,L.1,λj kv e W Z=>⟨h1 j kv e W Z,h2 j kv e W Z⟩⟩
def D5k{T Z et:Nat}{x:Operand}(I:o.op=.call { callee:=.builtin .len,args:=#[x],argTypes:=#[T] }){kvs:List (D × D)}(U:IsMap bx (ρ x) kvs)(hT:P.underlying T=some (.map Z et)) :C1 P o ρ bx (.d (.int .i64 kvs.length)) bx [] :=.E3 λ_ _ w β a W O=>by obtain⟨r,es,E,J,V,L,_⟩:=U.rep W (O x (mC I));exact⟨.int .i64 kvs.length,by simp[execOp,I,resolve,invoke,builtin,J,Builtin.len_,T8 hT,Uv V,L,goInt],.int _ _⟩
def M8(E:D)(kvs:List (D × D))(z:SV):SV:=match Ea E.lits kvs 0 with
 |some (_,d)=>Y8 d
 |none=>z
def P8(ok:Bool)(E:D)(kvs:List (D × D))(z:SV):SV:=match ok with
 |true=>.tuple [M8 E kvs z,.d (.bool (Ea E.lits kvs 0).isSome)]
 |false=>M8 E kvs z
def E7g{T kt et:Nat}{m x:Operand}{ok:Bool}(U:o.op=.lookup T m x ok){kvs:List (D × D)}{kd:D}{z:SV}(hm:IsMap bx (ρ m) kvs)
  (hT:P.underlying T=some (.map kt et))(a0:Rw P kt=true)(hx:Nv (ρ x)=some kd)(L:En P kt kd)(W:∀kv,kv∈kvs->En P kt kv.1)(hz:Z2 P et=some z) :
  C1 P o ρ bx (P8 ok kd kvs z) bx []:=by
 refine C1.E3 λC S w β a hi ha=>?_;have a4:=B7a (ha x (mC U)) hx;obtain⟨r,es,a6,I,hh,a7,V⟩:=hm.rep hi (ha m (mC U));have a5:=a4.kv L.isKey;obtain⟨q,Z,hf⟩:=E2y a0 w L es.toList kvs (by omega) (B1j a7 (λr kv e h1 h2=>(V r kv e h1 h2).1) W);have E:=E3j a0 es.isEmpty w L;rw[<-a5]at Z E;obtain⟨zv,a1,a3⟩:=E3i hz w;cases J:Ea kd.lits kvs 0 with
 |none =>
  rw[J]at hf;simp only[Found]at hf;subst hf;have O:An S w β z zv:=by rw[a3];exact B3e S w β zv
  cases ok with
  |true =>refine⟨.tuple #[zv,.bool false],by simp[execOp,U,I,Instr.lookup,T8 hT,Uv hh,E,Z,a1],?_⟩;simp only[P8,M8,J,Nb];exact .tuple _ _ rfl (Bz.cons O (Bz.cons (.d _ _ (.bool _)) .nil)).2
  |false =>refine⟨zv,by simp[execOp,U,I,Instr.lookup,T8 hT,Uv hh,E,Z,a1],?_⟩;grind[P8,M8]
 |some jd =>
  obtain⟨j,d⟩:=jd;rw[J]at hf;obtain⟨e,k',_,g1,g2,rfl⟩:=hf;simp only[Qw,Aj8]at g1 g2;have a2:An S w β (Y8 d) e.val:=D6r (V j (k',d) e g2 g1).2;cases ok with
  |true =>refine⟨.tuple #[e.val,.bool true],by simp[execOp,U,I,Instr.lookup,T8 hT,Uv hh,E,Z],?_⟩;simp only[P8,M8,J,Ak5];exact .tuple _ _ rfl (Bz.cons a2 (Bz.cons (.d _ _ (.bool _)) .nil)).2
  |false =>refine⟨e.val,by simp[execOp,U,I,Instr.lookup,T8 hT,Uv hh,E,Z],?_⟩;grind[P8,M8]
end Go.Abs
namespace Go.Abs
open Go
variable {P:Program} {o:Oper} {ρ:Kf} {bx:Aa}
def G6j{f:FuncId}{caps:Array Operand}(E:o.op=.makeFunc (.func f) #[] caps):C1 P o ρ bx (.Bk f (caps.toList.map ρ)) bx []:=by
 refine C1.E3 λC S w β a O I=>?_;refine⟨.func (.func f) #[] (caps.map a.eval),by simp[execOp,E,Instr.makeFunc],?_⟩;have:=Bz.Yn (ρ:=ρ) (S:=S) (w:=w) (β:=β) (a:=a) caps.toList λx L=>I x (mo E (by grind[Op.operands]));have J:caps.map a.eval=⟨caps.toList.map a.eval⟩:=by apply Lk;simp
 rw[J];exact .Bk f _ _ this.1 this.2
theorem F3c{T e sz k:Nat}{x y:Operand}(ho:o.op=.slice T x (some y) none none)(Z:k<=999999){rs:List (List D)}{ik:IntKind}{i:Int}(hx:ρ x=.acc k)(W:(k,Aq.rows sz rs)∈bx)
  (hy:ρ y=.d (.int ik i))(hT:Ec P T=some e)(hs:C4 P e=some sz)(h0:0<=i)(h1:i<=rs.length) :
  C1 P o ρ bx (.acc k) ((k,.rows sz (rs.drop i.toNat))::G7 k (C5 k bx)) [k]:=by
 intro C S w β a U ha;have E:=ha x (mC ho);rw[hx]at E;have hv:a.eval x=Iy (β k):=by generalize a.eval x=v at E;cases E;rfl
 have L:=ha y (mC ho);rw[hy]at L;have a1:a.eval y=.int ik i:=L.Ih;obtain⟨q1,q2,q3,q4,q5,q6,q7⟩:=U.box k _ W
 let V:BI:={ β k with off:=if(β k).cap=i.toNat then(β k).off else(β k).off+i.toNat,len:=(β k).len - i.toNat,cap:=(β k).cap - i.toNat }
 have a3:i.toNat<=(β k).len:=by omega
 obtain⟨h1,h2⟩:=U.Wg (k:=k) (w':=w) (c:=.rows sz (rs.drop i.toNat)) V Z (λb I=>⟨(U.Bh k _ W b I).1,(U.Bh k _ W b I).2.1,.inr ⟨_,W,I⟩⟩) (λ_ _ _=>rfl) rfl rfl rfl (Bq _) (λ_=>by
   refine⟨q1,by grind,by grind,by grind,λrow h=>q5 row (Aj6 h),λrow h=>q6 row (Aj6 h),?_⟩;show match(β k).base with|none=>_|some b=>_
   cases J:(β k).base with
   |none=>grind
   |some b =>rw[J]at q7;obtain⟨ty,vs,g1,g2,g3⟩:=q7;grind)
 refine Jk ?_;unfold Oper.wp;have O:(execOp a.eval o).run P w=.ok (.value (Iy V)) w:=by
  have a0:=A3w hT w;have a2:(β k).cap=i.toNat->(β k).len=i.toNat:=λh=>by omega
  simp only[execOp,ho,Instr.sliceAt,hv,a1,Iy,Ii,a0,Hm,Instr.slice,Instr.sliceBounds,Instr.sliceBound,L8,Ef,Ao6,asIntOf,Qn hs];rw[A6 ⟨h0,by omega⟩];simp only[L8,Hm,Result.ok.injEq,Next.value.injEq,Value.slice.injEq,T9,V];split;rfl
  .cases (β k).base with
   |none=>rfl
   |some b=>grind[Addr.add]
 rw[O];refine⟨_,S,_,rfl,h1,h2,?_,λj hj=>M3 (by grind)⟩;have:=An.acc (S:=S) (w:=w) (β:=Ej β k V) k;rw[Hp]at this;exact this
variable {β:Names}
def Inv.B9u{C:Ctx}{S S':Nat->Prop}{w w':World}{g:Nat}{Y:Ku}{st st':Option Nat}(L:Inv C S w β bx)(hb:(g,Aq.ghost Y st)∈bx){B B':Nat->Prop}
  (hB:∀b,B b->¬S b/\b<w.heap.size/\(C.pre b\/C.w0.heap.size<=b)/\∀Z c',(Z,c')∈bx->(β Z).base≠some b)
  (t:A0q B S w B' S' w')(hF:C.G.F st' B' S' w'):Inv C S' w' β ((g,.ghost Y st')::C5 g bx)/\C9 S w S' w':=by
 refine⟨?_,t.ext⟩;obtain⟨e1,e2,e3,e4,_⟩:=L.Fp g Y st hb;have a7:=L.size;have a5:=t.size;have a9:∀b,(β g).base≠some b:=λb h=>by have:(β g).base=none:=L.box g _ hb;grind
 have I:∀k c,(k,c)∈(g,Aq.ghost Y st')::C5 g bx->(k=g/\c=.ghost Y st')\/(k≠g/\(k,c)∈bx):=λk c J=>by grind[Ed]
 have a1:∀b,B b\/w.heap.size<=b->C.pre b\/C.w0.heap.size<=b:=λb E=>E.elim (λh=>(hB b h).2.2.1) λh=>.inr (by omega);have V:∀k c,(k,c)∈bx->∀b,(β k).base=some b->¬B b/\b<w.heap.size/\w'.heap[b]?=w.heap[b]?:=λk c J b E=>by have U:¬B b:=λh=>(hB b h).2.2.2 k c J E;have W:=(L.Bh k c J b E).2.1;exact⟨U,W,t.kept b W U⟩
 exact{
  Fh:=λb E=>t.ext.sub b (L.Fh b E)
  Ei:=λb E=>by
   rcases t.new b E with h|h
   .exact L.Ei b h
   grind
  C3:=t.lt
  kept:=λb E hp=>by
   rw[<-L.kept b E hp];refine t.kept b (by omega) λh=>?_
   grind
  os:=t.os.trans L.os
  tape:=t.tape.trans L.tape
  output:=t.output.trans L.output
  size:=by omega
  box:=λk c J=>by
   rcases I k c J with⟨rfl,rfl⟩|⟨_,J⟩
   .exact L.box _ _ hb
   .exact(L.box k c J).ext t.ext (λb E=>(V k c J b E).2.2) (λ_ _=>rfl)
  Bh:=λk c J b E=>by
   rcases I k c J with⟨rfl,rfl⟩|⟨_,J⟩
   .grind
   .obtain⟨p1,p2,p3⟩:=L.Bh k c J b E;refine⟨λhs=>?_,by omega,p3⟩;rcases t.new b hs with h|h|h
    .grind
    .grind
    .omega
  inj:=λk c Z c' J O b U W=>by
   rcases I k c J with⟨rfl,rfl⟩|⟨_,J⟩
   .grind
   .rcases I Z c' O with⟨rfl,rfl⟩|⟨_,O⟩
    .grind
    .exact L.inj k c Z c' J O b U W
  fix:=L.fix
  Dv:=λb cs hv=>by obtain⟨U,ty,fr,W⟩:=L.Dv b cs hv;exact⟨t.ext.sub b U,ty,fr,(t.ext.same b U).trans W⟩
  one:=λk1 Y1 s1 k2 Y2 s2 U W=>by
   rcases I k1 _ U with⟨rfl,a6⟩|⟨a2,U⟩
   .rcases I k2 _ W with⟨rfl,a8⟩|⟨a4,W⟩
    .grind
    .exact absurd (L.one _ _ _ _ _ _ W hb).1 a4
   .exact absurd (L.one _ _ _ _ _ _ U hb).1 a2
  Fp:=λk Y' a0 J=>by
   have hY:Y'=Y/\a0=st':=by
    rcases I k _ J with⟨_,he⟩|⟨a3,J⟩
    .grind
    .exact absurd (L.one k Y' a0 g Y st J hb).1 a3
   obtain⟨rfl,rfl⟩:=hY;refine⟨e1,e2,e3,λZ c' O b E=>?_,B',hF,λb E=>⟨(t.own b E).1,(t.own b E).2.1,a1 b (t.own b E).2.2,λZ c' O he=>?_⟩⟩
   .grind
   .rcases I Z c' O with⟨rfl,rfl⟩|⟨_,O⟩
    .grind
    .obtain⟨p1,p2,_⟩:=V Z c' O b he;rcases(t.own b E).2.2 with h|h
     .grind
     .omega }
def Aq.closed:Aq->Bool
 |.cells cs=>SV.Mw cs
 |.ghost _ _=>false
 |_=>true
def A5h(k j:Nat):SV->Option SV
 |.mp i=>if i=k then some (.mp j)else none
 |.box i off=>if i=k then some (.box j off)else none
 |.acc i=>if i=k then some (.acc j)else none
 |x=>coerce [] x
def A0x(k j:Nat):List SV->Option (List SV)
 |[]=>some []
 |c::cs=>match A5h k j c with
  |some x=>match A0x k j cs with
   |some l=>some (x::l)
   |none=>none
  |none=>none
variable {S:Nat->Prop} {w:World}
def D2f{C:Ctx}{k j:Nat}(V:Inv C S w β []):∀{cs l:List SV} {vs:List Value},A0x k j cs=some l->Bz S w β cs vs->Bz S w (Ej β j (β k)) l vs
 |[],l,vs,h,I=>by simp only[A0x,B0]at h;subst h;exact⟨I.1,by simp⟩
 |c::cs,l,vs,h,I=>by
  simp only[A0x]at h;cases E:A5h k j c with
  |none=>grind
  |some x =>
   cases U:A0x k j cs with
   |none=>grind
   |some m =>
    simp only[E,U,B0]at h;subst h;cases vs with
    |nil=>have:=I.1;grind
    |cons v vs =>
     have q:=D2f V U ⟨by have:=I.1;simpa using this,λi c v E W=>I.2 (i+1) c v (by grind) (by grind)⟩;have J:=I.2 0 c v rfl rfl;refine .cons ?_ q;unfold A5h at E;split at E
     .split at E;simp only[B0]at E;subst E;subst_vars;cases J with|mp _ b L=>exact .mp j b (by rw[Hp];exact L)
      grind
     .split at E;simp only[B0]at E;subst E;subst_vars;cases J with|box _ _ b L=>exact .box j _ b (by rw[Hp];exact L)
      grind
     split at E;rename_i O;simp only[B0]at E;subst E;rw[O]at J;cases J;have:=An.acc (S:=S) (w:=w) (β:=Ej β j (β k)) j;grind[Hp];grind;obtain⟨Z,p2⟩:=A5z V (C9.refl S w) (by simp) E J;exact Z.closed p2
def Dj.closed{β β':Names}{i:BI}{c:Aq}(h:Dj S w β i c)(O:c.closed=true):Dj S w β' i c:=by
 cases c with
 |rows sz rs=>exact h
 |cells cs =>obtain⟨b,ty,vs,L,U,I⟩:=h;refine⟨b,ty,vs,L,U,I.1,λj c v E J=>(I.2 j c v E J).closed (SV.B8u O j c E)⟩
 |map kvs=>exact h
 |iter kvs seen=>exact h
 |ghost Y st=>exact h
def H1d{f:FuncId}{fo:Operand}{args:Array Operand}{E2:Array TypeId}(ho:o.op=.call { callee:=.value fo,args:=args,argTypes:=E2 }){caps U:List SV}{r:SV}{k j:Nat}{c c':Aq}
  (hf:ρ fo=.Bk f caps)(hb:(k,c)∈bx)(hj:1000000<=j)(a7:c.closed=true)(a1:c'.closed=true)
  (a4:A0x k j (args.toList.map ρ++caps)=some U)(hc:Ch P f U [(j,c)] r [(j,c')])(hr:r.closed=true):C1 P o ρ bx r ((k,c')::C5 k bx) []:=by
 have af:c.real=true:=by cases c <;> first|rfl|simp[Aq.closed]at a7
 have ac:c'.real=true:=by cases c' <;> first|rfl|simp[Aq.closed]at a1
 intro C S w β a I ha;have a2:=(ha fo (mC ho));rw[hf]at a2;generalize a9:a.eval fo=v at a2;cases a2 with
 |Bk _ _ cs h1 h2 =>
  have a5:Bz S w β (args.toList.map ρ++caps) (args.toList.map a.eval++cs):=(Bz.Yn _ λx hx=>ha x (mo ho (by grind[Op.operands,Call.operands]))).append ⟨h1,h2⟩;have a6:Inv ⟨w,S,λ_=>False,λ_ _=>False,C.G⟩ S w β []:=I.begin I.C3 (λ_ h=>h);have g1:=D2f (j:=j) a6 a4 a5;have hp:=I.Bh k c hb;have a':Inv ⟨w,S,λi=>(β k).base=some i,λi x=>i=j/\x =β k,C.G⟩ S w (Ej β j (β k)) [(j,c)]:={
   Fh:=λ_ h=>h
   Ei:=λ_ h=>.inl h
   C3:=I.C3
   kept:=λ_ _ _=>rfl
   os:=rfl
   tape:=rfl
   output:=rfl
   size:=Bq _
   box:=λk' O hk'=>by simp only[B5,Ew,Fb,Fg]at hk';obtain⟨rfl,rfl⟩:=hk';rw[Hp];exact(I.box k _ hb).closed a7
   Bh:=λk' O hk' E hb'=>by
    simp only[B5,Ew,Fb,Fg]at hk'
    grind[Hp]
   inj:=λk1 c1 k2 c2 h1 h2 E Z a0=>by grind
   Dv:=I.Dv
   one:=λk' Y st ae Y' st' hk'=>by grind
   Fp:=λk' Y st hk'=>by
    simp only[B5,Ew,Fb,Fg]at hk'
    grind[Aq.real]
   fix:=λk' E h=>by grind[Hp] }
  have a3:=hc.2 ⟨w,S,λi=>(β k).base=some i,λi x=>i=j/\x =β k,C.G⟩ _ _ a' g1;refine Jk ?_;unfold Oper.wp;rw[A1n hc.1 ho a9,Am8];have V:args.map a.eval++(⟨cs⟩:Array Value)=⟨args.toList.map a.eval++cs⟩:=by apply Lk;simp
  rw[V];refine a3.mono ?_;rintro e w' ⟨v,S',β',rfl,W,hv⟩;have ab:β' j =β k:=(W.fix j _ ⟨rfl,rfl⟩).2;have ad:∀b,(β k).base=some b->¬S' b/\b<w'.heap.size:=λb hb'=>by have:=W.Bh j c' (by simp) b (by grind);grind
  have J:∀E,E<w.heap.size->(β k).base≠some E->w'.heap[E]?=w.heap[E]?:=λE h1 h2=>W.kept E h1 h2;have e1:C9 S w (λb=>S b\/(S' b/\w.heap.size<=b)) w':=⟨λ_ h=>.inl h,λE hb'=>J E (I.C3 E hb') λhe=>(hp E he).1 hb'⟩;have e2:C9 S' w' (λb=>S b\/(S' b/\w.heap.size<=b)) w':=⟨λE hb'=>by rcases W.Ei E hb' with h|h|h;grind;grind;grind,λ_ _=>rfl⟩;have aa:w.heap.size<=w'.heap.size:=W.size;refine⟨v,_,β,rfl,?_,e1,(hv.ext e2 (λ_ _=>rfl)).closed hr,λ_ _=>rfl⟩;refine I.step e1 (λE hb'=>hb'.imp id (·.2)) ?_ (λE hb' a8=>J E hb' λhe=>a8 k c hb he) W.os W.tape W.output aa ?_ ?_ (λ_ _=>rfl) ?_;intro E hb';rcases hb' with hb' |hb';have:=I.C3 E hb';omega;exact W.C3 E hb'.1;intro k' O hk';simp only[B5,Ew]at hk';rcases hk' with⟨rfl,rfl⟩|hk';refine⟨?_,λE hb'=>?_⟩;have:=(Dj.ext (W.box j _ (by simp)) e2 (λ_ _=>rfl) (λ_ _=>rfl)).closed (β':=β) a1;grind;grind;obtain⟨L,hk'⟩:=Ed.1 hk';refine⟨(I.box k' O hk').ext e1 (λE hb'=>?_) (λ_ _=>rfl),λE hb'=>?_⟩;exact J E (I.Bh k' O hk' E hb').2.1 λhe=>L (I.inj k' O k c hk' hb E hb' he).1;obtain⟨p1,p2,_⟩:=I.Bh k' O hk' E hb';grind;intro k1 c1 k2 c2 h1 h2 E Z a0;simp only[B5,Ew]at h1 h2;rcases h1 with⟨rfl,rfl⟩|h1;rcases h2 with⟨rfl,rfl⟩|h2;simp;obtain⟨L,h2⟩:=Ed.1 h2;exact absurd (I.inj k2 c2 _ c h2 hb E a0 Z).1 L;rcases h2 with⟨rfl,rfl⟩|h2;obtain⟨L,h1⟩:=Ed.1 h1;exact absurd (I.inj k1 c1 _ c h1 hb E Z a0).1 L;obtain⟨L,h1⟩:=Ed.1 h1;obtain⟨_,h2⟩:=Ed.1 h2;exact I.inj k1 c1 k2 c2 h1 h2 E Z a0;grind[Aq.real,Ed]
theorem F6x{f:FuncId}{fo:Operand}{args:Array Operand}{E2:Array TypeId}(ho:o.op=.call { callee:=.value fo,args:=args,argTypes:=E2 }){caps J:List SV}{r:SV}{g:Nat}{Y:Ku}{st st':Option Nat}
  (hf:ρ fo=.Bk f caps)(hb:(g,Aq.ghost Y st)∈bx)(Z:H6 [] (args.toList.map ρ++caps)=some J)(hc:Ch P f J [(1000000,.ghost Y st)] r [(1000000,.ghost Y st')])(hr:r.closed=true) :
  C1 P o ρ bx r ((g,.ghost Y st')::C5 g bx) []:=by
 intro C S w β a U ha;have V:=(ha fo (mC ho));rw[hf]at V;generalize a4:a.eval fo=v at V;cases V with
 |Bk _ _ cs h1 h2 =>
  have a1:Bz S w β (args.toList.map ρ++caps) (args.toList.map a.eval++cs):=(Bz.Yn _ λx hx=>ha x (mo ho (by grind[Op.operands,Call.operands]))).append ⟨h1,h2⟩;have a3:Inv ⟨w,S,λ_=>False,λ_ _=>False,C.G⟩ S w β []:=U.begin U.C3 (λ_ h=>h);obtain⟨g1,g2⟩:=W3 a3 (C9.refl S w) (by simp) Z a1;obtain⟨e1,e2,e3,e4,B,e5,e6⟩:=U.Fp g Y st hb;have a8:=U.size;have a5:Inv ⟨w,S,B,λ_ _=>False,C.G⟩ S w (Ej β 1000000 { base:=none }) [(1000000,.ghost Y st)]:={
   Fh:=λ_ h=>h
   Ei:=λ_ h=>.inl h
   C3:=U.C3
   kept:=λ_ _ _=>rfl
   os:=rfl
   tape:=rfl
   output:=rfl
   size:=Bq _
   box:=λk' a7 I=>by simp only[B5,Ew,Fb,Fg]at I;obtain⟨rfl,rfl⟩:=I;rfl
   Bh:=λk' a7 I b' E=>by
    simp only[B5,Ew,Fb,Fg]at I
    grind[Hp]
   inj:=λk1 c1 k2 c2 h1 h2 b' a9 aa=>by grind
   fix:=λ_ _ h=>h.elim
   Dv:=U.Dv
   one:=λk1 Y1 s1 k2 Y2 s2 h1 h2=>by grind
   Fp:=λk' Y' a0 I=>by
    simp only[B5,Ew,Aq.ghost.injEq,Fb,Fg]at I;obtain⟨rfl,rfl,rfl⟩:=I;have a':∀k' c',(k',c')∈[(1000000,Aq.ghost Y' a0)]->∀b,(Ej β 1000000 { base:=none } k').base≠some b:=λk' c' I b E=>by
     simp only[B5,Ew,Fb,Fg]at I
     grind[Hp]
    grind }
  have W:=hc.2 ⟨w,S,B,λ_ _=>False,C.G⟩ _ _ a5 ⟨g1.1,λj c v a2 hv=>(g1.2 j c v a2 hv).closed (SV.B8u g2 j c a2)⟩;refine Jk ?_;unfold Oper.wp;rw[A1n hc.1 ho a4,Am8];have L:args.map a.eval++(⟨cs⟩:Array Value)=⟨args.toList.map a.eval++cs⟩:=by apply Lk;simp
  rw[L];refine W.mono ?_;rintro e w' ⟨v,S',β',rfl,O,hv⟩;obtain⟨_,_,_,_,B',q5,q6⟩:=O.Fp 1000000 Y st' (by simp);have a6:w.heap.size<=w'.heap.size:=O.size;have hS:∀b,S' b->S b\/B b\/w.heap.size<=b:=λb E=>O.Ei b E;have t:A0q B S w B' S' w':=⟨⟨O.Fh,λb E=>O.kept b (U.C3 b E) λh=>(e6 b h).1 E⟩,hS,O.C3,λb E=>⟨(q6 b E).1,(q6 b E).2.1,(q6 b E).2.2.1⟩,λb E hn=>O.kept b E hn,O.os,O.tape,O.output,a6⟩;obtain⟨r1,r2⟩:=U.B9u hb e6 t q5;exact⟨v,S',β,rfl,r1,r2,hv.closed hr,λ_ _=>rfl⟩
theorem F7v{fo x:Operand}{E2:Array TypeId}(W:o.op=.call { callee:=.value fo,args:=#[x],argTypes:=E2 }){g l j:Nat}{Y:Ku}{y:SV}(hf:ρ fo=.Fa l)(Z:(g,Aq.ghost Y (some j))∈bx)
  (hx:coerce [] (ρ x)=some y)(hP:Y.P=P)(hl:Y.l=l)(hN:j<Y.N)(hy:Y.xs j=y):C1 P o ρ bx (.d (.bool (Y.go j))) ((g,.ghost Y (Y.next j))::C5 g bx) []:=by intro C S w β a J V;have I:=(V fo (mC W));rw[hf]at I;generalize a0:a.eval fo=v at I;cases I;have O:Inv ⟨w,S,λ_=>False,λ_ _=>False,C.G⟩ S w β []:=J.begin J.C3 (λ_ h=>h);obtain⟨g1,_⟩:=A5z O (C9.refl S w) (by simp) hx (V x (mC W));obtain⟨e1,e2,e3,e4,B,e5,U⟩:=J.Fp g Y (some j) Z;subst e1;subst hP;subst hl;subst hy;obtain⟨f,tmps,E,body,h1,h2⟩:=e2.round j B S w β _ hN e5 J.C3 (λb L=>⟨(U b L).1,(U b L).2.1⟩) g1;refine Or.inr ⟨C.G.Y.l,f,tmps,E,body,w,?_,h2.mono ?_⟩;grind[execOp,resolve,Deferred.ofValue,invoke];rintro e w' ⟨S',B',rfl,q5,t⟩;obtain⟨r1,r2⟩:=J.B9u Z U t q5;exact⟨.bool (C.G.Y.go j),S',β,rfl,r1,r2,.bool _,λ_ _=>rfl⟩
def Za(ρ:Kf):Option Operand->Option Nat
 |none=>some 0
 |some y=>match ρ y with
  |.d (.int _ i)=>if 0<=i then some i.toNat else none
  |_=>none
def hiN(ρ:Kf)(n:Nat):Option Operand->Option Nat
 |none=>some n
 |some y=>match ρ y with
  |.d (.int _ i)=>if 0<=i then some i.toNat else none
  |_=>none
def D2q{a:Act}{L W:Option Operand}{n cap l h:Nat}{t:Bool}(Z:∀x,x∈L.toList++W.toList->An S w β (ρ x) (a.eval x))(E:Za ρ L=some l)(J:hiN ρ n W=some h)(h1:l<=h)(h2:h<=n)(h3:n<=cap) :(Instr.sliceBounds t n cap (L.map a.eval) (W.map a.eval) none).run P w=.ok (l,h,cap) w:=by
 have key:∀(y:Operand) (m:Nat),An S w β (ρ y) (a.eval y)->(match ρ y with| .d (.int _ i)=>if 0<=i then some i.toNat else none|_=>none)=some m->∃k,a.eval y=.int k (m:Int):=by intro y m hv V;split at V;rename_i k i he;rw[he]at hv;split at V;rename_i h0;simp only[B0]at V;subst V;exact⟨k,by rw[hv.Ih,Int.toNat_of_nonneg h0]⟩;grind;grind
 have U:∀(k:IntKind) (m q:Nat) (I:BoundsCode),m<=q->(Instr.sliceBound (.int k (m:Int)) q I).run P w=.ok m w:=by intro k m q I hq;simp only[Instr.sliceBound,asIntOf,Ii,L8,Hm];rw[A6 ⟨by omega,by omega⟩];simp
 cases W with
 |none =>
  simp only[hiN,B0]at J;subst J;cases L with
  |none =>simp only[Za,B0]at E;subst E;rfl
  |some y =>obtain⟨k,hk⟩:=key y l (Z y (by simp)) (by simpa [Za]using E);simp[Instr.sliceBounds,hk,U k l n _ h1]
 |some z =>
  obtain⟨k',O⟩:=key z h (Z z (by simp)) (by simpa [hiN]using J);cases L with
  |none =>simp only[Za,B0]at E;subst E;simp[Instr.sliceBounds,O,U k' h cap _ (by omega)]
  |some y =>obtain⟨k,hk⟩:=key y l (Z y (by simp)) (by simpa [Za]using E);simp[Instr.sliceBounds,hk,O,U k l h _ h1,U k' h cap _ (by omega)]
def F5v{T e sz:Nat}{x:Operand}{lo hi:Option Operand}(ho:o.op=.slice T x lo hi none){rows:List (List D)}(hx:ρ x=.d (.slice rows))(hT:Ec P T=some e)(hs:C4 P e=some sz)
  (a2:∀row,row∈rows->row.length=sz){l h:Nat}(a5:Za ρ lo=some l)(a3:hiN ρ rows.length hi=some h)(h1:l<=h)(h2:h<=rows.length):C1 P o ρ bx (.d (.slice ((rows.take h).drop l))) bx []:=by
 refine .E3 λC S w β a a' ha=>?_;have O:=ha x (mC ho);rw[hx]at O;have I:∀cap,rows.length<=cap->(Instr.sliceBounds true rows.length cap (lo.map a.eval) (hi.map a.eval) none).run P w=.ok (l,h,cap) w:=λcap hc =>
  D2q (ρ:=ρ) (S:=S) (β:=β) (λy hy=>ha y (mo ho (by grind[Op.operands]))) a5 a3 h1 h2 hc
 have a6:=A3w hT w;have run:∀(p:Option Addr) (cap:Nat),rows.length<=cap->a.eval x=.slice p rows.length cap->(execOp a.eval o).run P w=.ok (.value (.slice (if cap=l then p else p.map (·.add (l*sz))) (h - l) (cap - l))) w:=by intro p cap hc hv;simp only[execOp,ho,Instr.sliceAt,hv,Ii,a6,Hm,Instr.slice,Ao6,I cap hc,Qn hs,L8]
 generalize hv:a.eval x=v at O;have hd:=O.Gq;have a1:((rows.take h).drop l).length=h - l:=by simp;omega
 cases hd with
 |Lw p cap hp =>
  have:=run p cap (by simp) (by omega);simp only[Az,Nat.le_zero]at h2;subst h2;have a9:l=0:=by omega
  subst a9;refine⟨_,this,.d _ _ ?_⟩;simp only[List.take_nil,List.drop_nil,Qw,Nat.zero_mul];have a7:(if cap=0 then p else p.map (·.add 0))=p:=by split;rfl;cases p <;> rfl
  rw[a7];exact .Lw p cap hp
 |slice _ b off cap V hb ac a4 hr a0 U aa =>
  have:=run (some ⟨b,off,none⟩) cap a4 hv;refine⟨_,this,.d _ _ ?_⟩;by_cases he:h=l
  .subst he;have:(rows.take h).drop h=[]:=Yj (by simp);rw[this,Aq1];have W:∃q,(if cap=h then(some ⟨b,off,none⟩:Option Addr)else(some ⟨b,off,none⟩:Option Addr).map (·.add (h*sz)))=some q:=by grind
   obtain⟨q,hq⟩:=W;rw[hq];exact .Lw (some q) _ (by simp)
  .have J:l<rows.length:=by omega
   have a8:V=sz:=by rw[<-hr rows[l] (Gi J),a2 rows[l] (Gi J)]
   subst a8;rw[A3 (by omega)];simp only[Ef,Yi];rw[<-a1];have ab:∀(i:Nat) (row:List D),((rows.take h).drop l)[i]?=some row->rows[l+i]?=some row:=by intro i row E;rw[Vw]at E;have J:=(Aw.1 E).1;rw[D0]at J;rw[Ao8 (by omega)]at E;exact E
   have L:∀row,row∈(rows.take h).drop l->row∈rows:=λrow Z=>Mt (Aj6 Z);refine .slice _ b (off+l*V) (cap - l) V hb (by omega) (by omega) (λrow Z=>hr row (L row Z)) (λrow Z=>a0 row (L row Z)) ?_ ?_;intro i j E hj;have:=U (l+i) j (by omega) hj;grind;grind
def F0f{T:Nat}{x:Operand}{V hi:Option Operand}(J:o.op=.slice T x V hi none){s:A2}(hx:ρ x=.d (.str s))(hT:P.underlying T=some .string)
  {l h:Nat}(L:Za ρ V=some l)(I:hiN ρ s.length hi=some h)(h1:l<=h)(h2:h<=s.length):C1 P o ρ bx (.d (.str ((s.take h).drop l))) bx []:=by
 refine .E3 λC S w β a Z W=>?_;have E:=W x (mC J);rw[hx]at E;obtain⟨hv,a0⟩:=E.Vb;have hb:=D2q (P:=P) (t:=false) (n:=s.length) (cap:=s.length) (w:=w) (a:=a) (ρ:=ρ) (S:=S) (β:=β) (λy hy=>W y (mo J (by grind[Op.operands]))) L I h1 h2 (Bq _);have hu:=T8 hT w;have O:(mkStr s).size=s.length:=B6o s;refine⟨.string (mkStr ((s.take h).drop l)),?_,.d _ _ (.str _ ?_)⟩
 .have U:(mkStr s).extract l h=mkStr ((s.take h).drop l):=by apply ByteArray.ext;rw[ByteArray.data_extract];apply Lk;simp[mkStr,List.drop_take,List.extract_eq_take_drop];try(congr 1;omega)
  simp only[execOp,J,Instr.sliceAt,hv,Ii,hu,Hm,Instr.slice,Ao6,Nb,I5,Fm,L8,O,hb,U]
 grind
def F7u{T e sz bytes k:Nat}{x y:Operand}(a8:k<=999999)(ho:o.op=.makeSlice T x y){kx ky:IntKind}{n m:Int}(hx:ρ x=.d (.int kx n))(hy:ρ y=.d (.int ky m))(W:A8s P T e sz bytes){L:List D}
  (hz:Cz P e=some (L.map SV.d))(aa:∀d,d∈L->d.one=true)(h0:0<=n)(a5:n<=m)(hm:m*(bytes:Int)<=(lim:Int))(ad:1<=sz):C1 P o ρ bx (.acc k) ((k,.rows sz (List.replicate n.toNat L))::G7 k (C5 k bx)) [k]:=by
 intro C S w β a hi ha;have V:=ha x (mC ho);rw[hx]at V;have a3:=ha y (mC ho);rw[hy]at a3;have a6:=V.Ih;have a':=a3.Ih;obtain⟨i,z,O,a4,Z⟩:∃i z,P.info? e=some i/\i.zero=some z/\z.cells.toList.map Kw=L.map SV.d:=by
  unfold Cz at hz;cases hq:P.info? e with
  |none=>grind
  |some i =>simp_all
 have a0:i.size=sz:=by have:=W.Np;unfold C4 at this;rw[O]at this;simpa using this
 have ac:i.bytes=bytes:=by have:=W.D1s;rw[O]at this;simpa using this
 have af:L.length=sz:=by have:=W.hzero;rw[hz]at this;simpa using this
 have a1:z.cells.size=sz:=by have:=Gf List.length Z;simp only[Bc,Ap1]at this;omega
 have hT:P.underlying T=some (.slice e):=by have:=W.hT;unfold Ec at this;split at this;grind;grind
 have ab:1<=bytes:=by have:=W.U5;omega
 have a7:m<=(lim:Int):=by have h1:m*1<=m*(bytes:Int):=Int.mul_le_mul_of_nonneg_left (by omega) (by omega);omega
 have J:=Go.run_make (P:=P) w T e i z hT O a4 kx ky n m h0 a5 (by grind[lim]) (by unfold lim at a7;omega);rw[a0]at J;have E:∀(j:Nat),j<m.toNat*sz->(madeCells z.cells (m.toNat*sz)).toList[j]?=z.cells[j % sz]?:=by
  intro j hj;have I:j % sz<z.cells.size:=by rw[a1];exact As0 _ (by omega)
  simp only[madeCells,Aj8,Array.getElem?_map,Array.getElem?_range,hj,Ac,Ef,a1];rw[Yr I,As5 z.cells (j % sz) I]
 obtain⟨h1,h2⟩:=hi.Wg (k:=k) (w':=w.alloc (.cells (madeCells z.cells (m.toNat*sz)) e)) (c:=.rows sz (List.replicate n.toNat L)) { base:=some w.heap.size,len:=n.toNat,cap:=m.toNat,sz:=sz } a8 (by
   intro b hb;cases hb;exact⟨λh=>by have:=hi.C3 _ h;omega,by simp,.inl (Bq _)⟩)
  (λb hb _=>RowKit.Below.heap_alloc w _ b hb) rfl rfl rfl (by simp) (λ_=>by
   refine⟨rfl,by simp,by grind,by grind,?_,?_,e,(madeCells z.cells (m.toNat*sz)).toList,by simp[-World.alloc_eq,World.alloc],by simp[size_madeCells],?_⟩
   .grind
   .grind
   .intro r j row d v hr hd hv;have a9:=(Aw.1 hr).1;rw[List.length_replicate]at a9;have a2:row=L:=(List.mem_replicate.1 (Bm hr)).2;subst a2;have ae:=(Aw.1 hd).1;have I:r*sz+j<m.toNat*sz:=by
     have:(r+1)*sz<=m.toNat*sz:=Iv _ (by omega);rw[Io]at this;omega
    simp only[Qe]at hv;rw[E _ I,Aq2,Nat.mul_add_mod,Nat.mod_eq_of_lt (by omega)]at hv;have U:(z.cells.toList.map Kw)[j]?=some (Kw v):=by rw[Db];simp[hv]
    rw[Z,Db,hd]at U;simp only[Ef,B0]at U;have:=B3e S (w.alloc (.cells (madeCells z.cells (m.toNat*sz)) e)) β v;rw[<-U]at this;exact this.Gq)
 refine Jk ?_;unfold Oper.wp;rw[show(execOp a.eval o).run P w=.ok (.value (.slice (some ⟨w.heap.size,0,none⟩) n.toNat m.toNat)) (w.alloc (.cells (madeCells z.cells (m.toNat*sz)) e)) by simp[execOp,ho,a6,a',J]];refine⟨_,S,_,rfl,h1,h2,?_,λj hj=>M3 (by grind)⟩;have:=An.acc (S:=S) (w:=w.alloc (.cells (madeCells z.cells (m.toNat*sz)) e)) (β:=Ej β k { base:=some w.heap.size,len:=n.toNat,cap:=m.toNat,sz:=sz }) k;grind[Hp]
theorem G8k{T U e sz k:Nat}{x y:Operand}(ho:o.op=.call { callee:=.builtin .copy,args:=#[x,y],argTypes:=#[T,U] }){rs xs:List (List D)}(hT:Ec P T=some e)(hs:C4 P e=some sz)
  (hx:ρ x=.acc k)(hb:(k,Aq.rows sz rs)∈bx)(hy:Wf bx sz (ρ y) xs)(a5:xs.length<=rs.length) :
  C1 P o ρ bx (.d (.int .i64 xs.length)) ((k,.rows sz (xs++rs.drop xs.length))::C5 k bx) []:=by
 intro C S w β a hi ha;obtain⟨vs,E⟩:=hy.src (P:=P) hi ((ha y (mC ho)));have W:=(ha x (mC ho));rw[hx]at W;have V:a.eval x=Iy (β k):=by generalize a.eval x=v at W;cases W;rfl
 obtain⟨g1,g2,g3,g4,g5,g6,g7⟩:=hi.box k _ hb;have J:=E.cells xs.length w rfl (λ_ _=>rfl);have L:Nat.min xs.length (β k).len=xs.length:=by rw[<-g2];exact Nat.min_eq_left a5
 have a7:(execOp a.eval o).run P w=((Builtin.copy_ #[T,U] o.type #[Iy (β k),a.eval y]).run P w).andThen λv w=>.ok (.value v) w:=by simp[execOp,ho,resolve,invoke,builtin,V]
 refine Jk ?_;unfold Oper.wp;rw[a7];cases I:(β k).base with
 |none =>
  rw[I]at g7;simp only at g7;have hr:rs=[]:=Yj (by omega);subst hr;have a':xs=[]:=Yj (by omega);subst a';have a6:vs=[]:=Yj (by rw[E.flat.len];simp);subst a6;have O:(Builtin.copy_ #[T,U] o.type #[Iy (β k),a.eval y]).run P w=.ok (goInt 0) w:=by simp only[Az]at L J;have a3:=E.len;simp only[Az]at a3;simp[Builtin.copy_,Iy,I,A3w hT,Qn hs,a3,L,J]
  rw[O];exact⟨_,S,β,rfl,hi.sub λj c hj=>by grind[Ed],C9.refl S w,.int _ _,λ_ _=>rfl⟩
 |some b =>
  rw[I]at g7;obtain⟨ty,bs,hh,a4,a2⟩:=g7;subst g1;have hl:=E.flat.len;have a0:(β k).off*(β k).sz+0+vs.length<=bs.length:=by have:((β k).off+xs.length)*(β k).sz<=((β k).off+(β k).cap)*(β k).sz:=Iv _ (by omega);simp only[Io]at this a4;omega
  obtain⟨w',O,q1,q2,q3,q4,q5,q6⟩:=B2c (P:=P) vs bs b ((β k).off*(β k).sz) 0 ty w hh a0 E.one;have a9:(Builtin.copy_ #[T,U] o.type #[Iy (β k),a.eval y]).run P w=.ok (goInt xs.length) w':=by simp[Builtin.copy_,Iy,I,A3w hT,Qn hs,E.len,L,J,O]
  rw[a9];have e0:C9 S w S w':=⟨λ_ h=>h,λb' Z=>q2 b' λhe=>(hi.Bh k _ hb b I).1 (he ▸ Z)⟩;obtain⟨p1,p2⟩:=hi.B4w (w':=w') (c:=.rows (β k).sz (xs++rs.drop xs.length)) hb I (λb' Z=>q2 b' Z) q3 q4 q5 (by omega) (by
   refine⟨rfl,by grind,g3,by grind,?_,?_,?_⟩;intro row hr;rcases C6.1 hr with hr|hr;exact E.flat.row row hr;grind;intro row hr;rcases C6.1 hr with hr|hr;exact E.flat.one row hr;grind
   .rw[I];refine⟨ty,H5 bs ((β k).off*(β k).sz+0) vs,q1,by rw[A6c];omega,?_⟩;intro r j row d v hr hd V;rw[A0e _ _ _ _ (by omega)]at V;by_cases a8:r<xs.length
    .rw[N0 a8]at hr;have hj:j<(β k).sz:=by rw[<-E.flat.row row (Bm hr)];exact(Aw.1 hd).1
     have a1:r*(β k).sz+j<vs.length:=by have:(r+1)*(β k).sz<=xs.length*(β k).sz:=Iv _ (by omega);rw[Io]at this;omega
     rw[A6 (by grind)]at V;rw[show((β k).off+r)*(β k).sz+j - ((β k).off*(β k).sz+0)=r*(β k).sz+j by grind]at V;exact(E.flat.rep r j row d v hr hd V).ext e0
    .rw[Ma (by omega),Vw]at hr;rw[show xs.length+(r - xs.length)=r by omega]at hr;have a1:vs.length<=r*(β k).sz:=by rw[hl];exact Iv _ (by omega)
     rw[A3 (by grind)]at V;exact(a2 r j row d v hr hd V).ext e0)
  exact⟨_,S,β,rfl,p1,p2,.int _ _,λ_ _=>rfl⟩
end Go.Abs
