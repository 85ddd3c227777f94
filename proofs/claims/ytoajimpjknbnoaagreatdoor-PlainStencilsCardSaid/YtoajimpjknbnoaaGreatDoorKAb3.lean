import Derived.DeepKeys3
import Derived.MapKept
import Derived.WideKeyRuns
import Derived.Laws.MakeOwn
import Derived.RangeFuncRecord
import Derived.Test.YtoajimpjknbnoaaGreatDoorKAb2
set_option linter.all false
namespace Go.iA
open Go
variable {ro:Option Nat} {P:Program} {n:Nat} {Q:Exit->SL->Ac->Prop} {sl:SL} {bx:Ac}
def M8(P:Program)(bx:Ac)(T:TypeId)(x:SV):Option SV :=match x with
 |.box k off=>match A9 bx k with
  |some (.cells cs)=>match D2 P T with
   |some false=>cs[off]?
   |some true=>match Bp P T with
    |some m=>if off+m<=cs.length/\(part cs off m).all SV.one=true then some (.agg (part cs off m))else none
    |none=>none
   |none=>none
  |_=>none
 |.A8 cells off=>match D2 P T with
  |some false=>(cells[off]?).map SV.d
  |some true=>match Bp P T with
   |some m=>if off+m<=cells.length then some (.agg ((VH cells off m).map SV.d))else none
   |none=>none
  |none=>none
 |.d (.ptr cells)=>match D2 P T with
  |some false=>(cells[0]?).map SV.d
  |some true=>match Bp P T with
   |some m=>if 0+m<=cells.length then some (.agg ((VH cells 0 m).map SV.d))else none
   |none=>none
  |none=>none
 |.Fa k i off=>match A9 bx k with
  |some (.rows sz rows)=>match rows[i]? with
   |some row=>match D2 P T with
    |some false=>(row[off]?).map SV.d
    |some true=>match Bp P T with
     |some m=>if off+m<=row.length/\row.length=sz then some (.agg ((VH row off m).map SV.d))else none
     |none=>none
    |none=>none
   |none=>none
  |_=>none
 |.Fy cells off=>match D2 P T with
  |some false=>cells[off]?
  |_=>none
 |_=>none
variable {S:Nat->Prop} {w:World} {β:Names}
def F7e{k i off sz:Nat}{rows:List (List D)}{row:List D}{v:Value}(hb:E4 S w β (β k) (.rows sz rows))(hr:rows[i]?=some row)(W:An S w β (.Fa k i off) v) :∃b base,v=.pointer (some ⟨b,base+off,none⟩)/\(∀d,d∈row->d.one=true)/\(∀j,j<row.length->∃v,w.cell? ⟨b,base+j,none⟩=some v)/\(∀(j:Nat) (d:D) (v:Value),row[j]?=some d->w.cell? ⟨b,base+j,none⟩=some v->C5 S w d v):=by
 cases W with
 |Fa _ _ _ b I =>
  obtain⟨Z,g2,g3,g4,g5,g6,O⟩:=hb;subst Z;rw[I]at O;obtain⟨ty,vs,U,L,J⟩:=O;have E:=Bs hr;have a0:=(Az.1 hr).1;refine⟨b,((β k).off+i)*(β k).sz,rfl,g6 row E,?_,?_⟩
  .intro j V;rw[g5 row E]at V;have h1:((β k).off+i+1)*(β k).sz<=((β k).off+(β k).cap)*(β k).sz:=Ih _ (by omega);rw[Ii _ 1]at h1;have:((β k).off+i)*(β k).sz+j<vs.length:=by omega
   exact⟨vs[((β k).off+i)*(β k).sz+j],by rw[cells_of_row U];simp⟩
  grind[cells_of_row]
variable {C:Ctx}
def dm{T:TypeId}{x c:SV}{v:Value}(hi:Inv C S w β bx)(L:An S w β x v)(h:M8 P bx T x=some c) :∃a u,v=.pointer (some a)/\(loadVar T a).run P w=.ok u w/\An S w β c u:=by
 have conv:∀{p:Addr} {u:Value},(Instr.loadAt T (.pointer (some p))).run P w=.ok u w->(loadVar T p).run P w=.ok u w:=by intro p u J;simpa [Instr.loadAt,Instr.sureAddr]using J
 have E:∀{cells:List D} {off:Nat} {b base:Nat},v=.pointer (some ⟨b,base+off,none⟩)->(∀d,d∈cells->d.one=true)->(∀j,j<cells.length->∃v,w.cell? ⟨b,base+j,none⟩=some v) ->(∀(j:Nat) (d:D) (v:Value),cells[j]?=some d->w.cell? ⟨b,base+j,none⟩=some v->C5 S w d v) ->(match D2 P T with
    |some false=>(cells[off]?).map SV.d
    |some true=>match Bp P T with
     |some m=>if off+m<=cells.length then some (.agg ((VH cells off m).map SV.d))else none
     |none=>none
    |none=>none)=some c->∃a u,v=.pointer (some a)/\(loadVar T a).run P w=.ok u w/\An S w β c u:=by
  intro cells off b base L h1 U V h;cases hT:D2 P T with
  |none=>simp[hT]at h
  |some g =>
   cases g with
   |false =>simp only[hT,Jn]at h;obtain⟨d,hd,rfl⟩:=h;obtain⟨u,J⟩:=U off (Az.1 hd).1;exact⟨_,u,L,conv (IS hT J),.d _ _ (V off d u hd J)⟩
   |true =>
    simp only[hT]at h;cases hs:Bp P T with
    |none=>simp[hs]at h
    |some m =>
     simp only[hs]at h;split at h
     .rename_i hl;simp only[B8]at h;subst h;obtain⟨vs,Z,a1⟩:=sT (w:=w) (b:=b) (off:=base+off) (n:=m) (λj hj=>by rw[Uf];exact U (off+j) (by omega));refine⟨_,.agg ⟨vs⟩,L,conv (aU hT hs Z a1),F3 (.agg _ vs (by simp[VH,Z];omega) ?_ ?_)⟩
      .intro d hd;exact h1 d (SC (Kv hd))
      .intro j d u hd J;simp only[VH,tE,Y0]at hd;split at hd
       .exact V (off+j) d u hd (by rw[<-Uf];exact a1 j u J)
       .simp at hd
     .simp at h
 cases x with
 |box k off =>
  obtain⟨b,O,rfl⟩:=L.eJ;simp only[M8]at h;cases I:A9 bx k with
  |none=>simp[I]at h
  |some bc =>
   cases bc with
   |cells cs =>
    simp only[I]at h;obtain⟨b',ty,vs,a0,hh,hr⟩:=hi.box k _ (Ho I);rw[O]at a0;cases a0;cases hT:D2 P T with
    |none=>simp[hT]at h
    |some g =>
     cases g with
     |false =>simp only[hT]at h;obtain⟨u,J,W⟩:=hr.get h;exact⟨_,u,rfl,conv (IS hT (by rw[cells_of_row hh];exact J)),W⟩
     |true =>
      simp only[hT]at h;cases hs:Bp P T with
      |none=>simp[hs]at h
      |some m =>simp only[hs]at h;split at h;rename_i hl;simp only[B8]at h;subst h;have:=hr.1;refine⟨_,.agg ⟨(vs.drop off).take m⟩,rfl,conv (aU hT hs (by simp;omega) ?_),YA (hr.part off m) hl.2⟩;intro j u J;rw[cells_of_row hh];simp only[tE,Y0]at J;split at J;exact J;simp at J;simp at h
   |rows _ _=>simp[I]at h
   |map _=>simp[I]at h
   |iter _ _=>simp[I]at h
   |ghost _ _=>simp[I]at h
 |A8 cells off =>obtain⟨b,base,hp⟩:=L.DL;exact E hp.v hp.one hp.there hp.rep h
 |d y =>cases y <;> simp only[M8,reduceCtorEq]at h;rename_i cells;obtain⟨b,base,hp⟩:=L.uk;exact E hp.v hp.one hp.there hp.rep h
 |Fa k i off =>
  simp only[M8]at h;cases I:A9 bx k with
  |none=>simp[I]at h
  |some bc =>
   cases bc with
   |rows sz rows =>
    simp only[I]at h;cases hr:rows[i]? with
    |none=>simp[hr]at h
    |some row =>
     simp only[hr]at h;obtain⟨b,base,h0,h1,U,V⟩:=F7e (hi.box k _ (Ho I)) hr L;refine E h0 h1 U V ?_;cases hT:D2 P T with
     |none=>simp[hT]at h
     |some g =>
      cases g with
      |false=>simpa [hT]using h
      |true =>
       simp only[hT]at h |-;cases hs:Bp P T with
       |none=>simp[hs]at h
       |some m =>
        simp only[hs]at h |-;split at h
        rename_i hl;rw[A7 hl.1];exact h;simp at h
   |cells _=>simp[I]at h
   |map _=>simp[I]at h
   |iter _ _=>simp[I]at h
   |ghost _ _=>simp[I]at h
 |undef=>simp[M8]at h
 |agg _=>simp[M8]at h
 |tuple _=>simp[M8]at h
 |acc _=>simp[M8]at h
 |mp _=>simp[M8]at h
 |Fg _=>simp[M8]at h
 |Fy cells off =>
  simp only[M8]at h;cases L with
  |Fy _ _ b I h1 U V =>
   cases hT:D2 P T with
   |none=>simp[hT]at h
   |some g =>
    cases g with
    |true=>simp[hT]at h
    |false =>simp only[hT]at h;obtain⟨u,J⟩:=U off (Az.1 h).1;exact⟨_,u,rfl,conv (IS hT J),V off c u h J⟩
 |Bi _ _=>simp[M8]at h
def G0x{o:Oper}{ρ:Iq}{T:TypeId}{x:Operand}(E:o.op=.load T x){c:SV}(h:M8 P bx T (ρ x)=some c):C1 P o ρ bx c bx [] :=.Ei λ_ _ w β a O L=>by obtain⟨p,u,J,hr,I⟩:=dm O (L x (mC E)) h;exact⟨u,by simp[execOp,E,J,Instr.loadAt,Instr.sureAddr,hr],I⟩
def MP(P:Program)(bx:Ac)(sl:SL):ResultVar->Option SV
 |.tmp t=>some (Ae sl t)
 |.cell t T=>M8 P bx T (Ae sl t)
def Vv(P:Program)(bx:Ac)(sl:SL):List ResultVar->Option (List SV)
 |[]=>some []
 |r::rs=>match MP P bx sl r with
  |some x=>match Vv P bx sl rs with
   |some l=>some (x::l)
   |none=>none
  |none=>none
def Xu:List SV->SV
 |[x]=>x
 |xs=>.tuple xs
variable {a:Act}
def xk(hs:St C n S w β a sl bx)(g:ResultVar->Sem Value)(O:∀t,g (.tmp t)=pure (a.tmps.getD t undef))
  (U:∀x t,g (.cell x t)=do loadVar t (<-asAddr (a.tmps.getD x undef))):∀(rs:List ResultVar) (xs:List SV),Vv P bx sl rs=some xs->∃vs,(rs.mapM g).run P w=.ok vs w/\C7 S w β xs vs
 |[],xs,h=>by simp only[Vv,B8]at h;subst h;exact⟨[],rfl,.nil⟩
 |r::rs,xs,h=>by
  simp only[Vv]at h;cases E:MP P bx sl r with
  |none=>grind
  |some x =>
   cases J:Vv P bx sl rs with
   |none=>grind
   |some l =>
    simp only[E,J,B8]at h;subst h;obtain⟨vs,V,I⟩:=xk hs g O U rs l J;cases r with
    |tmp t =>simp only[MP,B8]at E;subst E;refine⟨_::vs,?_,.cons (hs.slot t) I⟩;simp_all
    |cell t T =>simp only[MP]at E;obtain⟨p,u,W,hr,L⟩:=dm hs.inv (hs.slot t) E;refine⟨u::vs,?_,.cons L I⟩;have Z:asAddr (.pointer (some p))=pure p:=rfl;simp_all
def kS{fn:Func}(hs:St C n S w β a sl bx){xs:List SV}(h:Vv P bx sl fn.results.toList=some xs) :∃v,(results fn a.tmps).run P w=.ok v w/\An S w β (Xu xs) v:=by
 have key:∀(g:ResultVar->Sem Value),(∀t,g (.tmp t)=pure (a.tmps.getD t undef))->(∀x t,g (.cell x t)=do loadVar t (<-asAddr (a.tmps.getD x undef))) ->∃v,(do let vs <-fn.results.mapM g;pure (if h:vs.size=1 then vs[0]else .tuple vs):Sem Value).run P w=.ok v w/\An S w β (Xu xs) v:=by
  intro g J L;obtain⟨vs,O,E⟩:=xk hs g J L _ _ h;have U:(fn.results.mapM g).run P w=.ok ⟨vs⟩ w:=by rw[Array.mapM_eq_mapM_toList,Sem.run_map,O];rfl
  have I:=E.1;simp only[Ha,U,Hp,L3]
  match xs,vs,E,I with
  |[],[],E,_=>exact⟨.tuple ⟨[]⟩,rfl,.tuple [] [] rfl (by simp)⟩
  |[x],[v],E,_=>exact⟨v,rfl,E.2 0 x v rfl rfl⟩
  |x::y::xs,v::u::vs,E,_=>exact⟨.tuple ⟨v::u::vs⟩,by simp,.tuple _ _ E.1 E.2⟩
  |[],_::_,_,I=>grind
 exact key _ (λ_=>rfl) (λ_ _=>rfl)
def Ws:Nat->List SV->SL
 |_,[]=>[]
 |i,x::xs=>(i,x)::Ws (i+1) xs
def dc:∀(xs:List SV)(i t:Nat),Ae (Ws i xs) t=if i<=t then(xs[t - i]?).getD .undef else .undef
 |[],i,t=>by simp[Ws,Ae]
 |x::xs,i,t=>by simp only[Ws,Ae];split;grind;rename_i E;rw[dc xs (i+1) t];grind
def Wl(P:Program)(fn:Func)(r:SV)(e:Exit)(sl:SL)(bx:Ac):Prop :=match e with
 |.normal| .ret=>∃xs,Vv P bx sl fn.results.toList=some xs/\coerce bx (Xu xs)=some r
 |_=>False
def St.start{pre:Ac}{args:List SV}{vs:List Value}{m:Nat}(J:Inv C C.S0 C.w0 β pre)(E:C7 C.S0 C.w0 β args vs)(V:args.length<=m) :St C m C.S0 C.w0 β { tmps:=(⟨vs⟩:Array Value)++Array.replicate (m - (⟨vs⟩:Array Value).size) undef,defers:=[] } (Ws 0 args) pre:=by
 have O:=E.1;refine⟨J,by grind,.nil,?_⟩;intro t;rw[dc];simp only[Xa,Av,tJ];cases ht:args[t]? with
 |none=>exact .undef _
 |some x =>
  obtain⟨v,I,U⟩:=E.get ht;have L:=(Az.1 I).1;have:((⟨vs⟩:Array Value)++Array.replicate (m - (⟨vs⟩:Array Value).size) undef).getD t undef=v:=by rw[wR,IW (by omega)];simp[I]
  grind
theorem CF{D:Nat}{l E:Option (List Deferred)}(h:w.heap[D]?=some (.deferred l))(b off:Nat):(w.putObj D (.deferred E)).cell? ⟨b,off,none⟩=w.cell? ⟨b,off,none⟩:=by grind[World.putObj_heap_same,World.cell?,World.putObj_heap_other]
def C5.shut{D:Nat}{l Z:Option (List Deferred)}(h:w.heap[D]?=some (.deferred l)){d:Go.iA.D}{v:Value}(hr:C5 S w d v):C5 S (w.putObj D (.deferred Z)) d v:=by
 induction hr with
 |int k n=>exact .int k n
 |bool b=>exact .bool b
 |str s hs=>exact .str s hs
 |nil=>exact .nil
 |emp a cap=>exact .emp a cap
 |Nv a cap h=>exact .Nv a cap h
 |slice rows b off cap sz V I L h3 W h5 _ E =>refine .slice rows b off cap sz V I L h3 W ?_ ?_;grind[CF];grind[CF]
 |agg cells vs I L _ E=>exact .agg cells vs I L E
 |ptr cells b base V L I _ E =>refine .ptr cells b base V L ?_ ?_;grind[CF];grind[CF]
 |Mo=>exact .Mo
 |map kvs r es J hr hh hs _ _ O U =>refine .map kvs r es J hr ?_ hs O U;grind[World.putObj_heap_other]
 |N6=>exact .N6
 |iface t d v _ E=>exact .iface t d v E
 |Hd=>exact .Hd
 |fn f caps vs I _ E=>exact .fn f caps vs I E
 |G3=>exact .G3
 |cl f caps vs I _ E=>exact .cl f caps vs I E
def An.shut{D:Nat}{l U:Option (List Deferred)}(h:w.heap[D]?=some (.deferred l)){x:SV}{v:Value}(hr:An S w β x v):An S (w.putObj D (.deferred U)) β x v:=by
 induction hr with
 |undef v=>exact .undef v
 |d x v W=>exact .d x v (W.shut h)
 |agg cells vs E L _ J=>exact .agg cells vs E L J
 |tuple cells vs E _ J=>exact .tuple cells vs E J
 |box k off b I=>exact .box k off b I
 |A8 cells off b base I E L V =>refine .A8 cells off b base I E ?_ ?_;grind[CF];intro j d v hd O;rw[CF h]at O;exact(V j d v hd O).shut h
 |acc k=>exact .acc k
 |Fa k i off b I=>exact .Fa k i off b I
 |mp k b I=>exact .mp k b I
 |Fg l=>exact .Fg l
 |Fy cells off b hs E L _ J =>refine .Fy cells off b hs E ?_ ?_;grind[CF];grind[CF]
 |Bi f cells vs E _ J=>exact .Bi f cells vs E J
def E4.shut{D:Nat}{l l':Option (List Deferred)}(h:w.heap[D]?=some (.deferred l)){i:BI}{c:Ax}(a0:i.base≠some D)(V:E4 S w β i c):E4 S (w.putObj D (.deferred l')) β i c:=by
 have Z:∀b,i.base=some b->(w.putObj D (.deferred l')).heap[b]?=w.heap[b]?:=λb V=>World.putObj_heap_other (by grind);cases c with
 |cells cs =>obtain⟨b,ty,vs,J,O,L⟩:=V;exact⟨b,ty,vs,J,(Z b J).trans O,L.1,λj c v hc hv=>(L.2 j c v hc hv).shut h⟩
 |rows sz rs =>
  obtain⟨J,O,L,U,h5,h6,h7⟩:=V;refine⟨J,O,L,U,h5,h6,?_⟩;cases I:i.base with
  |none=>grind
  |some b =>rw[I]at h7;obtain⟨ty,vs,g1,g2,g3⟩:=h7;exact⟨ty,vs,(Z b I).trans g1,g2,λr j row d v hr hd hv=>(g3 r j row d v hr hd hv).shut h⟩
 |map kvs =>obtain⟨b,es,E,J,O,L,U⟩:=V;exact⟨b,es,E,J,(Z b J).trans O,L,λr kv x hr W=>⟨(U r kv x hr W).1.shut h,(U r kv x hr W).2.shut h⟩⟩
 |iter kvs seen =>obtain⟨b,m,es,E,sn,J,O,hS,hm,L,U,h5⟩:=V;exact⟨b,m,es,E,sn,J,(Z b J).trans O,hS,(World.putObj_heap_other (by grind)).trans hm,L,λr kv x hr W=>⟨(U r kv x hr W).1.shut h,(U r kv x hr W).2.shut h⟩,h5⟩
 |ghost Y st=>exact V
def St.leave{m:Nat}{sl:SL}{bx:Ac}{fn:Func}{R:Ending->World->Prop}(hs:St C m S w β a sl bx)
  (h:∀w',St C m S w' β { tmps:=a.tmps,defers:=[] } sl bx->∃v,(results fn a.tmps).run P w'=.ok v w'/\R (.returned v) w'):LeavesInM Fence.wide 0 P fn a.tmps R a.defers .returning w:=by
 obtain⟨E,V,⟨Ds,hd,W,hD⟩,I⟩:=hs;rw[hd];clear hd
 induction Ds generalizing w with
 |nil=>exact h w ⟨E,V,.nil,I⟩
 |cons D Ds ih =>
  obtain⟨Z,q2,O⟩:=hD D (by simp);refine⟨by simp,.inl ⟨D,w.putObj D (.deferred none),rfl,run_takeDeferred O,ih ?_ ?_ (Vm.1 W).2 ?_⟩⟩
  .exact{
    G7:=E.G7,F9:=E.F9,C9:=λb J=>by simpa using E.C9 b J
    kept:=λb J hp=>(World.putObj_heap_other (by omega)).trans (E.kept b J hp)
    os:=E.os,tape:=E.tape,output:=E.output,size:=by simpa using E.size
    box:=λk c L=>(E.box k c L).shut O (λhe=>(E.Bk k c L D he).1 Z)
    Bk:=λk c L b J=>by simpa using E.Bk k c L b J
    inj:=E.inj
    Ek:=λb cs hv=>by
     obtain⟨h1,ty,fr,U⟩:=E.Ek b cs hv
     grind[World.putObj_heap_other]
    one:=E.one
    Gf:=λk Y st L=>by obtain⟨h1,U,h3,h4,B,h5,h6⟩:=E.Gf k Y st L;refine⟨h1,U,h3,h4,B,U.shut st B S w D _ _ h5 (by grind) (λJ=>(h6 D J).1 Z) O,λb J=>?_⟩;simpa using h6 b J
    fix:=E.fix }
  exact λt=>(I t).shut O;grind[World.putObj_heap_other]
variable {c:Code}
def mW{f:FuncId}{fn:Func}{args:Array Value}{R:Ending->World->Prop}(E:P.funcs[f]?=some fn)(I:fn.body=some c)
  (h:c.wpIn (FW none) 0 P (bodyPostM Fence.wide 0 P fn R) { tmps:=args++Array.replicate (fn.ntmps - args.size) undef,defers:=[] } w):Calls P f args w R :=
 (callsIn_wide (n:=0)).1 (callsIn_of_wp_marks (F:=Fence.wide) E I trivial h)
def Ab.NP{f:FuncId}{fn:Func}{args:List SV}{r:SV}(L:P.funcs[f]?=some fn)(E:fn.body=some c)(hn:(fn.name == "runtime.NumGoroutine")=false)(hm:args.length<=fn.ntmps)
  (h:A0 none P fn.ntmps c (Wl P fn r) (Ws 0 args) []):Ab P f args r:=by
 refine⟨⟨fn,L,hn,by grind⟩,?_⟩;intro C β vs hi J;refine mW L E ?_;refine PC (h C C.S0 C.w0 β _ (St.start hi J hm)) ?_;rintro e O w' ⟨sl',bx',S',β',q,hs⟩;have key:(∃xs,Vv P bx' sl' fn.results.toList=some xs/\coerce bx' (Xu xs)=some r)->LeavesInM Fence.wide 0 P fn O.tmps (λe w'=>∃v S' β',e=.returned v/\Inv C S' w' β' []/\An S' w' β' r v) O.defers .returning w':=by
  rintro⟨xs,h1,V⟩;refine hs.leave λw' hs=>?_;obtain⟨v,Z,U⟩:=kS (P:=P) hs h1;refine⟨v,Z,v,λb=>S' b\/∃k c,(k,c)∈bx'/\(β' k).base=some b,β',rfl,?_,?_⟩
  .exact{
    G7:=λb E=>.inl (hs.inv.G7 b E)
    F9:=λb E=>by
     rcases E with E|⟨k,c,I,E⟩
     .exact hs.inv.F9 b E
     .exact .inr (hs.inv.Bk k c I b E).2.2
    C9:=λb E=>by
     rcases E with E|⟨k,c,I,E⟩
     .exact hs.inv.C9 b E
     .exact(hs.inv.Bk k c I b E).2.1
    kept:=hs.inv.kept
    os:=hs.inv.os
    tape:=hs.inv.tape
    output:=hs.inv.output
    size:=hs.inv.size
    box:=λk c I=>by grind
    Bk:=λk c I=>by grind
    inj:=λk c W c' I=>by simp
    Ek:=λb cs J=>⟨.inl (hs.inv.Ek b cs J).1,(hs.inv.Ek b cs J).2⟩
    one:=λk Y st W Y' st' I=>by simp
    Gf:=λk Y st I=>by grind
    fix:=hs.inv.fix }
  exact(aH hs.inv ⟨λ_ h=>.inl h,λ_ _=>rfl⟩ (λk c I b E=>.inr ⟨k,c,I,E⟩) V U).1
 cases e with
 |normal=>exact key q
 |ret=>exact key q
 |_=>exact q.elim
structure Qq where
 fb:Nat->SV
 fa:SV
 fm:SV
mutual
def SV.sub(k:Nat)(f:Qq):SV->SV
 |.box j off=>if j=k then f.fb off else .box j off
 |.acc j=>if j=k then f.fa else .acc j
 |.mp j=>if j=k then f.fm else .mp j
 |.Fa j i off=>.Fa j i off
 |.agg cs=>.agg (nA k f cs)
 |.tuple cs=>.tuple (nA k f cs)
 |.Bi g cs=>.Bi g (nA k f cs)
 |.undef=>.undef
 |.d x=>.d x
 |.A8 c off=>.A8 c off
 |.Fg l=>.Fg l
 |.Fy cs off=>.Fy (nA k f cs) off
def nA(k:Nat)(f:Qq):List SV->List SV
 |[]=>[]
 |c::cs=>c.sub k f::nA k f cs
end
def RA(k:Nat)(f:Qq):∀cs:List SV,nA k f cs=cs.map (SV.sub k f)
 |[]=>rfl
 |c::cs=>by simp[nA,RA k f cs]
structure VI(S S':Nat->Prop)(w:World)(β:Names)(k:Nat)(f:Qq):Prop where
 fb:∀off v,An S w β (.box k off) v->An S' w β (f.fb off) v
 fa:∀v,An S w β (.acc k) v->An S' w β f.fa v
 fm:∀v,An S w β (.mp k) v->An S' w β f.fm v
 one:(∀off,(f.fb off).one=true)/\f.fa.one=true/\f.fm.one=true
theorem SV.sub_one{S S':Nat->Prop}{k:Nat}{f:Qq}(E:VI S S' w β k f){x:SV}(h:x.one=true):(x.sub k f).one=true:=by
 cases x <;> simp only[SV.sub] <;> first
  |exact h
  |(split;exact E.one.1 _;rfl)
  |(split;exact E.one.2.1;rfl)
  |(split;exact E.one.2.2;rfl)
  |rfl
def An.sub{S S':Nat->Prop}{k:Nat}{f:Qq}(I:VI S S' w β k f)(e:Cg S w S' w){x:SV}{v:Value}(h:An S w β x v):An S' w β (x.sub k f) v:=by
 induction h with
 |undef v=>exact .undef v
 |d x v h=>exact .d x v (h.ext e)
 |agg cells vs E L _ J =>simp only[SV.sub,RA];refine .agg _ vs (by grind) ?_ ?_;grind[SV.sub_one];grind
 |tuple cells vs E _ J =>simp only[SV.sub,RA];refine .tuple _ vs (by grind) ?_;grind
 |box j off b h =>
  simp only[SV.sub];split
  .subst_vars;exact I.fb off _ (.box _ off b h)
  .exact .box j off b h
 |A8 cells off b base E L U O=>exact An.ext (.A8 cells off b base E L U O) e (λ_ _=>rfl)
 |acc j =>
  simp only[SV.sub];split
  .subst_vars;exact I.fa _ (.acc _)
  .exact .acc j
 |Fa j i off b h=>exact .Fa j i off b h
 |Fg l=>exact .Fg l
 |Fy cells off b hs E L _ J =>simp only[SV.sub,RA];refine .Fy _ off b (e.sub b hs) ?_ (by grind) ?_;grind[SV.sub_one];grind
 |mp j b h =>
  simp only[SV.sub];split
  .subst_vars;exact I.fm _ (.mp _ b h)
  .exact .mp j b h
 |Bi f cells vs E _ J =>simp only[SV.sub,RA];refine .Bi f _ vs (by grind) ?_;grind
def Ms(k:Nat)(f:Qq):SL->SL
 |[]=>[]
 |(t,x)::r=>(t,x.sub k f)::Ms k f r
def Ax.sub(k:Nat)(f:Qq):Ax->Ax
 |.cells cs=>.cells (nA k f cs)
 |c=>c
def Kz(k:Nat)(f:Qq):Ac->Ac
 |[]=>[]
 |(j,c)::r=>(j,c.sub k f)::Kz k f r
def PV(k:Nat)(f:Qq):∀(sl:SL)(t:Nat),Ae (Ms k f sl) t=(Ae sl t).sub k f
 |[],t=>rfl
 |(u,x)::r,t=>by simp only[Ms,Ae];split;rfl;exact PV k f r t
def Q7{k j:Nat}{f:Qq}{c:Ax} :∀{bx:Ac},(j,c)∈Kz k f bx->∃x,(j,x)∈bx/\c=x.sub k f
 |[],h=>by simp[Kz]at h
 |(i,x)::r,h=>by simp only[Kz,Ay,Gg]at h;rcases h with⟨J,I⟩|h;grind;obtain⟨y,E,L⟩:=Q7 h;grind
def A0.eH(k:Nat){bc:Ax}{f:Qq}(hk:(k,bc)∈bx)
  (hf:∀(S:Nat->Prop) (w:World) (β:Names),E4 S w β (β k) bc->(∀b,(β k).base=some b->S b)->VI S S w β k f)
  (h:A0 ro P n c Q (Ms k f sl) (Kz k f (Cu k bx))):A0 ro P n c Q sl bx:=by
 intro C S w β a hs
 let S':Nat->Prop:=λb=>S b\/(β k).base=some b
 have e:Cg S w S' w:=⟨λ_ h=>.inl h,λ_ _=>rfl⟩;have E:=hs.inv;have a2:E4 S' w β (β k) bc:=(E.box k _ hk).ext e (λ_ _=>rfl) (λ_ _=>rfl);have a4:=hf S' w β a2 (λb hb=>.inr hb);have hr:VI S' S' w β k f:=a4;have a0:∀{x:SV} {v:Value},An S w β x v->An S' w β (x.sub k f) v:=λhv=>(hv.ext e (λ_ _=>rfl)).sub hr (Cg.refl _ _);refine h C S' w β a ⟨?_,hs.size,hs.defers.ext e,λt=>by rw[PV];exact a0 (hs.slot t)⟩;exact{
  G7:=λb hb=>.inl (E.G7 b hb)
  F9:=λb hb=>by
   rcases hb with hb|hb
   .exact E.F9 b hb
   .exact .inr (E.Bk k _ hk b hb).2.2
  C9:=λb hb=>by
   rcases hb with hb|hb
   .exact E.C9 b hb
   .exact(E.Bk k _ hk b hb).2.1
  kept:=E.kept
  os:=E.os
  tape:=E.tape
  output:=E.output
  size:=E.size
  box:=λj c U=>by
   obtain⟨x,I,rfl⟩:=Q7 U;obtain⟨a3,I⟩:=Ev.1 I;have:=E.box j x I;cases x with
   |cells cs =>obtain⟨b,ty,vs,h1,h2,h3⟩:=this;refine⟨b,ty,vs,h1,h2,?_⟩;rw[RA];refine h3.map (by simp) ?_;intro i x y v L hy hv;simp only[Df,L,Em,B8]at hy;subst hy;exact a0 hv
   |rows sz rs=>exact E4.ext (c:=.rows sz rs) this e (λ_ _=>rfl) (λ_ _=>rfl)
   |map kvs=>exact E4.ext (c:=.map kvs) this e (λ_ _=>rfl) (λ_ _=>rfl)
   |iter kvs seen=>exact E4.ext (c:=.iter kvs seen) this e (λ_ _=>rfl) (λ_ _=>rfl)
   |ghost Y st=>exact this
  Bk:=λj c U b hb=>by
   obtain⟨x,I,rfl⟩:=Q7 U;obtain⟨a3,I⟩:=Ev.1 I;obtain⟨h1,h2,h3⟩:=E.Bk j x I b hb;refine⟨λhs=>?_,h2,h3⟩;rcases hs with hs|hs
   .grind
   .exact a3 (E.inj j x k _ I hk b hb hs).1
  inj:=λj c j' c' U a1 b hb a5=>by
   obtain⟨x,I,rfl⟩:=Q7 U;obtain⟨x',L,rfl⟩:=Q7 a1;obtain⟨h1,h2⟩:=E.inj j x j' x' (Ev.1 I).2 (Ev.1 L).2 b hb a5
   grind
  Ek:=λb cs hv=>⟨.inl (E.Ek b cs hv).1,(E.Ek b cs hv).2⟩
  one:=λj Y st j' Y' st' U a1=>by
   obtain⟨x,I,J⟩:=Q7 U;obtain⟨x',L,W⟩:=Q7 a1;have e1:x=.ghost Y st:=by cases x <;> simp only[Ax.sub,reduceCtorEq]at J;exact J.symm
   have e2:x'=.ghost Y' st':=by cases x' <;> simp only[Ax.sub,reduceCtorEq]at W;exact W.symm
   subst e1;subst e2;exact E.one j Y st j' Y' st' (Ev.1 I).2 (Ev.1 L).2
  Gf:=λj Y st U=>by
   obtain⟨x,I,J⟩:=Q7 U;have a6:x=.ghost Y st:=by cases x <;> simp only[Ax.sub,reduceCtorEq]at J;exact J.symm
   subst a6;obtain⟨h1,h2,h3,h4,B,h5,h6⟩:=E.Gf j Y st (Ev.1 I).2;have a7:=E.size;have hB:∀b,B b->¬S' b:=λb hb hs=>hs.elim (h6 b hb).1 ((h6 b hb).2.2.2 k _ hk);have Z:∀V c',(V,c')∈Kz k f (Cu k bx)->∃y,(V,y)∈bx:=λV c' O=>by obtain⟨y,hy,_⟩:=Q7 O;exact⟨y,(Ev.1 hy).2⟩
   refine⟨h1,h2,h3,λV c' O=>(Z V c' O).elim λy hy=>h4 V y hy,B,h2.Xi st B S w _ w h5 ⟨λ_ h=>.inl h,λb hb=>hb.imp id λhb=>by grind,λb hb=>?_,hB,λ_ _=>rfl,rfl,rfl,rfl,Bv _⟩,λb hb=>⟨hB b hb,(h6 b hb).2.1,(h6 b hb).2.2.1,λV c' O=>(Z V c' O).elim λy hy=>(h6 b hb).2.2.2 V y hy⟩⟩
   rcases hb with hb|hb
   .exact E.C9 b hb
   .exact(E.Bk k _ hk b hb).2.1
  fix:=E.fix }
def A0.Km(k:Nat){sz:Nat}{rs:List (List D)}(L:A9 bx k=some (.rows sz rs))
  (h:A0 ro P n c Q (Ms k ⟨λoff=>.box k off,.d (.slice rs),.mp k⟩ sl) (Kz k ⟨λoff=>.box k off,.d (.slice rs),.mp k⟩ (Cu k bx))):A0 ro P n c Q sl bx :=
 A0.eH k (Ho L) (λS w β J I=>⟨λoff v E=>E,λv E=>by cases E;exact .d _ _ (J.KN I),λv E=>E,λ_=>rfl,rfl,rfl⟩) h
def gA(k:Nat){cs:List SV}{ds:List D}(V:A9 bx k=some (.cells cs))(hd:Uu cs=some ds)
  (h:A0 ro P n c Q (Ms k ⟨λoff=>.A8 ds off,.acc k,.mp k⟩ sl) (Kz k ⟨λoff=>.A8 ds off,.acc k,.mp k⟩ (Cu k bx))):A0 ro P n c Q sl bx:=by
 refine A0.eH k (Ho V) (λS w β Z W=>⟨λoff v E=>?_,λv E=>E,λv E=>E,λ_=>rfl,rfl,rfl⟩) h;obtain⟨b,ty,vs,J,L,O⟩:=Z;obtain⟨q1,U,q3⟩:=gN cs ds vs hd O;have hl:=O.1;cases E with
 |box _ _ b' I =>
  rw[J]at I;cases I;have:=An.A8 (S:=S) (w:=w) (β:=β) ds off b 0 (W b J) U (λj hj=>⟨vs[j]'(by omega),by rw[cells_of_row L,Kf];simp⟩)
   (λj d v hd E=>q3 j d v hd (by rw[cells_of_row L,Kf]at E;exact E))
  grind
def SB(k:Nat){cs:List SV}(V:A9 bx k=some (.cells cs))(U:cs.all SV.one=true)
  (h:A0 ro P n c Q (Ms k ⟨λoff=>.Fy cs off,.acc k,.mp k⟩ sl) (Kz k ⟨λoff=>.Fy cs off,.acc k,.mp k⟩ (Cu k bx))):A0 ro P n c Q sl bx:=by
 refine A0.eH k (Ho V) (λS w β Z W=>⟨λoff v E=>?_,λv E=>E,λv E=>E,λ_=>rfl,rfl,rfl⟩) h;obtain⟨b,ty,vs,O,g2,L⟩:=Z;have hl:=L.1;cases E with
 |box _ _ b' I =>
  rw[O]at I;cases I;exact .Fy cs off b (W b O) (λc J=>Dz.1 U c J) (λj hj=>⟨vs[j]'(by omega),by rw[cells_of_row g2];simp⟩) (λj c v J E=>L.2 j c v J (by grind[cells_of_row]))
def vB(k:Nat){kvs:List (D × D)}(J:A9 bx k=some (.map kvs))
  (h:A0 ro P n c Q (Ms k ⟨λoff=>.box k off,.acc k,.d (.map kvs)⟩ sl) (Kz k ⟨λoff=>.box k off,.acc k,.d (.map kvs)⟩ (Cu k bx))):A0 ro P n c Q sl bx:=by
 refine A0.eH k (Ho J) (λS w β hb hS=>⟨λoff v I=>I,λv I=>I,λv I=>?_,λ_=>rfl,rfl,rfl⟩) h;obtain⟨b,es,E,U,W,Z,V⟩:=hb;cases I with
 |mp _ b' L =>rw[U]at L;cases L;exact .d _ _ (.map _ b es E (hS b U) W Z (λi kv e J O=>(V i kv e J O).1) (λi kv e J O=>(V i kv e J O).2))
def A0.pp(k sz t:Nat)(hd:Ae sl t=.d .nil)(h:A0 ro P n c Q ((t,.acc k)::Y9 k sl) ((k,.rows sz [])::Hx k (Cu k bx)))(I:k<=999999:=by decide):A0 ro P n c Q sl bx:=by
 intro C S w β a hs;obtain⟨O,J⟩:=hs.inv.Vj (k:=k) (w':=w) (c:=.rows sz []) { base:=none,sz:=sz } I (by simp) (λ_ _ _=>rfl) rfl rfl rfl (Bv _) (λ_=>nP);refine h C S w _ a ⟨O,hs.size,hs.defers,?_⟩;intro u;simp only[Ae];split
 .rename_i L;subst L;have E:=hs.slot t;rw[hd]at E;generalize a.tmps.getD t undef=v at E;cases E with
  |d _ _ E =>cases E;have:=An.acc (S:=S) (w:=w) (β:=F4 β k { base:=none,sz:=sz }) k;grind[Ht]
 rw[KJ];exact(hs.slot u).Tn J
end Go.iA
namespace Go.iA
open Go
variable {P:Program} {o:Oper} {ρ:Iq} {bx:Ac}
def D.lit:D->Lit
 |.str s=>.string s
 |.int k n=>.int k n
 |.bool b=>.bool b
 |_=>.nil
def D.flatK:D->Bool
 |.str _| .int _ _| .bool _=>true
 |_=>false
def D.lits:D->List Lit
 |.agg cs=>cs.map D.lit
 |d=>[d.lit]
def D.kv:D->Value
 |.agg cs=>.agg ⟨cs.map λc=>c.lit.value⟩
 |d=>d.lit.value
def D.isKey:D->Bool
 |.agg cs=>cs.all D.flatK
 |d=>d.flatK
variable {S:Nat->Prop} {w:World}
def C5.F6t{d:D}{v:Value}(h:C5 S w d v)(E:d.flatK=true):v=d.lit.value:=by cases h <;> simp[D.flatK]at E <;> rfl
theorem C5.kv{d:D}{v:Value}(h:C5 S w d v)(I:d.isKey=true):v=d.kv:=by
 cases h with
 |agg cells vs V O L =>
  simp only[D.kv,Value.agg.injEq];apply L5;simp only;apply Kx;intro j;rw[Df];cases E:cells[j]? with
  |none =>grind
  |some c =>have U:=(Az.1 E).1;have J:vs[j]?=some (vs[j]'(by omega)):=Bu (by omega);rw[J];have:=L j c _ E J;simp only[D.isKey,Dz]at I;rw[this.F6t (I c (Bs E))];rfl
 |_=>first|rfl| (simp[D.isKey,D.flatK]at I;done)|rfl
structure E1(P:Program)(kt:TypeId)(d:D):Prop where
 isKey:d.isKey=true
 formed:d.kv.formed P kt=true
 lits:P.keyLits (P.types.size+1) kt d.kv.cells.toList=some d.lits
def Ny(P:Program)(E:TypeId):Bool:=P.keyTypeAt 100 E && match P.underlying E with
 |some .string|some (.struct _)|some (.array _ _)=>true
 |_=>false
def E1.same{L:TypeId}{d E:D}(h:E1 P L d)(J:E1 P L E)(e:d.lits=E.lits):d.kv=E.kv:=by
 have f1:=h.formed;have f2:=J.formed;have m:∀a b:List D,a.map D.lit=b.map D.lit->(a.map λc=>c.lit.value)=b.map λc=>c.lit.value:=λa b I=>by have:=F8 (List.map Lit.value) I;grind[Function.comp_def]
 have U:=h.isKey;have O:=J.isKey;cases d with
 |agg cs =>
  cases E with
  |agg cs'=>grind[D.lits,D.kv]
  |str _|int _ _|bool _ =>grind[D.kv,D.lit,Lit.value,Value.formed]
  |_=>simp[D.isKey,D.flatK]at O
 |str _|int _ _|bool _ =>
  cases E with
  |agg cs' =>grind[D.kv,D.lit,Lit.value,Value.formed]
  |str _|int _ _|bool _=>simp only[D.lits,Ya,Va]at e;simp only[D.kv];rw[e]
  |_=>simp[D.isKey,D.flatK]at O
 |_=>simp[D.isKey,D.flatK]at U
def G3o(l:Lit)(h:l≠.nil):Instr.sameBits 9999 l.value l.value=true:=by cases l <;> simp only[Lit.value,Instr.sameBits,ne_eq,rR,beq_self_eq_true,Bool.and_self]at* <;> grind[MapKept.bytes_beq]
def H3a{d:D}(h:d.isKey=true):Instr.sameBits 10000 d.kv d.kv=true:=by
 cases d with
 |agg cs =>
  simp only[D.kv,Instr.sameBits,beq_self_eq_true,Ch];simp only[D.isKey,Dz]at h;rw[Dz];intro p hp;obtain⟨i,J⟩:=Re.1 hp;rw[xR]at J;obtain⟨L,I⟩:=J;have U:p.1=p.2:=by rw[L]at I;exact Tf I
  obtain⟨c,O,E⟩:=Ap.1 (Bs L);rw[<-U,<-E];refine G3o _ ?_;have:=h c O;cases c <;> simp[D.flatK]at this <;> simp[D.lit]
 |_=>first|rfl|grind[D.kv,D.lit,Lit.value,Instr.sameBits]|exact(wq _ _).2 rfl
instance litDec:DecidableEq Lit:=by intro a b;cases a <;> cases b <;> simp only[Lit.bool.injEq,Lit.int.injEq,Lit.float.injEq,Lit.string.injEq,reduceCtorEq] <;> infer_instance
def Fh(l:List Lit):List (D × D)->Nat->Option (Nat × D)
 |[],_=>none
 |kv::r,i=>if l=kv.1.lits then some (i,kv.2)else Fh l r (i+1)
def Ro(k v:D)(kvs:List (D × D)):List (D × D):=match Fh k.lits kvs 0 with
 |some (j,_)=>kvs.set j (k,v)
 |none=>kvs++[(k,v)]
def F4w{E:TypeId}(I:Ny P E=true)(w:World){a b:D}(J:E1 P E a)(L:E1 P E b) :∃r:Bool,(Op.equal E a.kv b.kv).run P w=.ok r w/\(r=true↔a.lits=b.lits):=by unfold Ny at I;simp only[Bh]at I;exact run_equalIn_deep 9900 100 E I.1 w _ _ a.kv b.kv a.lits b.lits J.formed L.formed J.lits L.lits
def jV{E:TypeId}(I:Ny P E=true)(L:Bool)(w:World){a:D}(J:E1 P E a):(Instr.checkKey L 10000 E a.kv).run P w=.ok () w:=by unfold Ny at I;simp only[Bh]at I;exact run_checkKey_deep L 9900 100 E I.1 w _ a.kv a.lits J.formed J.lits
def Found(es:List MapEntry)(i:Nat):Option (Nat × D)->Option (Nat × Value)->List (D × D)->Prop
 |none,r,_=>r=none
 |some (j,d),r,kvs=>∃e k,i<=j/\es[j - i]?=some e/\kvs[j - i]?=some (k,d)/\r=some (j,e.val)
def ya{L:TypeId}(V:Ny P L=true)(w:World){a:D}(U:E1 P L a):∀(es:List MapEntry)(kvs:List (D × D))(i:Nat),es.length=kvs.length ->(∀(j:Nat) (e:MapEntry) (kv:D × D),es[j]?=some e->kvs[j]?=some kv->e.key=kv.1.kv/\E1 P L kv.1) ->∃r,(Instr.findAsking L a.kv es i).run P w=.ok r w/\Found es i (Fh a.lits kvs i) r kvs
 |[],[],i,_,_=>⟨none,by rfl,rfl⟩
 |[],_::_,_,h,_=>by grind
 |_::_,[],_,h,_=>by grind
 |e::es,kv::kvs,i,h,E=>by
  obtain⟨O,h2⟩:=E 0 e kv rfl rfl;obtain⟨r,hr,I⟩:=F4w V w U h2;simp only[Fh];by_cases J:a.lits=kv.1.lits
  .rw[A7 J];have:r=true:=I.2 J;subst this;exact⟨some (i,e.val),by simp[Instr.findAsking,O,hr],e,kv.1,by omega,by simp,by simp,rfl⟩
  .rw[A5 J];have:r=false:=by cases r with|false=>rfl|true=>grind
   subst this;obtain⟨r,Z,W⟩:=ya V w U es kvs (i+1) (by grind) (λj e kv J a0=>E (j+1) e kv (by grind) (by grind));refine⟨r,by simp[Instr.findAsking,O,hr,Z],?_⟩;generalize Fh a.lits kvs (i+1)=q at*;cases q with
   |none=>exact W
   |some jd =>
    obtain⟨j,d⟩:=jd;obtain⟨e',k',q1,q2,q3,q4⟩:=W;refine⟨e',k',by omega,?_,?_,q4⟩
    .grind
    grind
def c8{J:TypeId}(hs:P.underlying J=some .string){a:D}(O:E1 P J a):∀(es:List MapEntry)(kvs:List (D × D))(i:Nat),es.length=kvs.length ->(∀(j:Nat) (e:MapEntry) (kv:D × D),es[j]?=some e->kvs[j]?=some kv->e.key=kv.1.kv/\E1 P J kv.1) ->∃r,Instr.findNow .string a.kv es i=some r/\Found es i (Fh a.lits kvs i) r kvs
 |[],[],i,_,_=>⟨none,by rfl,rfl⟩
 |[],_::_,_,h,_=>by grind
 |_::_,[],_,h,_=>by grind
 |e::es,kv::kvs,i,h,E=>by
  obtain⟨V,W⟩:=E 0 e kv rfl rfl;have str:∀{d:D},E1 P J d->∃s,d=.str s:=λ{d} hd=>by
   have f:=hd.formed;have l:=hd.lits;have k:=hd.isKey;cases d with
   |str s=>simp
   |agg cs=>grind[D.kv,Value.formed]
   |int k n=>simp[D.kv,D.lit,Lit.value,Program.keyLits,hs,Value.cells]at l
   |bool b=>simp[D.kv,D.lit,Lit.value,Program.keyLits,hs,Value.cells]at l
   |_=>simp[D.isKey,D.flatK]at k
  obtain⟨s,rfl⟩:=str O;obtain⟨k,d⟩:=kv;obtain⟨t,rfl⟩:=str W;simp only[Fh];have I:Instr.sameNow .string (D.str s).kv e.key=some (decide (s=t)):=by
   rw[V];simp only[D.kv,D.lit,Lit.value,Instr.sameNow,B8];rw[iC];rw[wq];simp only[ByteArray.mk.injEq,Di];constructor
   .simp
   .simp
  by_cases L:s=t
  .subst L;rw[A7 rfl];exact⟨some (i,e.val),by simp[Instr.findNow,I],e,_,by omega,by simp,by simp;rfl,rfl⟩
  .rw[A5 (by simpa [D.lits,D.lit]using L)];obtain⟨r,g1,U⟩:=c8 hs O es kvs (i+1) (by grind) (λj e kv L a0=>E (j+1) e kv (by grind) (by grind));refine⟨r,by grind[Instr.findNow],?_⟩;generalize Fh (D.str s).lits kvs (i+1)=q at*;cases q with
   |none=>exact U
   |some jd =>
    obtain⟨j,d⟩:=jd;obtain⟨e',Z,q1,q2,q3,q4⟩:=U;refine⟨e',Z,by omega,?_,?_,q4⟩
    .grind
    grind
def qV{J:TypeId}(U:Ny P J=true)(w:World){a:D}(O:E1 P J a)(es:List MapEntry)(kvs:List (D × D))(L:es.length=kvs.length)
  (E:∀(j:Nat) (e:MapEntry) (kv:D × D),es[j]?=some e->kvs[j]?=some kv->e.key=kv.1.kv/\E1 P J kv.1) :
  ∃r,(Instr.findKey J a.kv es).run P w=.ok r w/\Found es 0 (Fh a.lits kvs 0) r kvs:=by
 by_cases hs:P.underlying J=some .string;obtain⟨r,W,V⟩:=c8 hs O es kvs 0 L E;grind[MapKept.run_findKey]
 .have Z:(match P.underlying J with|some (.array _ _)|some (.struct _)=>true|_=>false)=true:=by have I:=U;unfold Ny at I;simp only[Bh]at I;have:=I.2;grind
  obtain⟨r,W,V⟩:=ya U w O es kvs 0 L E;grind[run_findKey_eq]
def Nu:SV->Option D
 |.d x=>some x
 |.agg cs=>(Uu cs).map .agg
 |_=>none
def ofD:D->SV
 |.agg cs=>.agg (cs.map .d)
 |d=>.d d
variable {β:Names}
def KP{x:SV}{d:D}{v:Value}(h:An S w β x v)(hd:Nu x=some d):C5 S w d v:=by
 cases h with
 |d x v h=>grind[Nu]
 |agg cells vs L V J =>simp only[Nu,Jn]at hd;obtain⟨ds,E,rfl⟩:=hd;obtain⟨U,I,O⟩:=gN cells ds vs E ⟨L,J⟩;exact .agg ds vs (by omega) I O
 |_=>simp[Nu]at hd
def H4g{d:D}{v:Value}(h:C5 S w d v):An S w β (ofD d) v:=by
 cases h with
 |agg cells vs O J L =>refine .agg _ vs (by grind) ?_ ?_;intro c E;obtain⟨d,hd,rfl⟩:=Ap.1 E;exact J d hd;intro j c v E I;rw[Df,Jn]at E;obtain⟨d,hd,rfl⟩:=E;exact .d _ _ (L j d v hd I)
 |int|bool|str|nil|emp|Nv|slice|ptr|Mo|map|N6|iface|Hd|fn|G3|cl=>exact .d _ _ (by constructor <;> omega)
def VG(P:Program)(T:TypeId):Option SV:=match(P.info? T).bind (·.zero)with
 |some (.agg _)=>none
 |some z=>some (M5 z)
 |none=>none
def H5o{T:TypeId}{z:SV}(h:VG P T=some z)(w:World):∃v,(zeroValue T).run P w=.ok v w/\z=M5 v:=by
 unfold VG at h;cases E:P.info? T with
 |none=>grind
 |some i =>
  cases I:i.zero with
  |none=>grind
  |some v =>simp only[E,I,zJ]at h;refine⟨v,by simp[zeroValue,typeInfo,E,I],?_⟩;grind
theorem wx{T k:Nat}(E:k<=999999)(O:o.op=.makeMap T none):C1 P o ρ bx (.mp k) ((k,.map [])::Hx k (Cu k bx)) [k]:=by
 intro C S w β a I W;obtain⟨U,L⟩:=I.Vj (k:=k) (w':={ w with heap:=w.heap.push (.map #[] 0) }) (c:=.map []) { base:=some w.heap.size } E (by
   intro b J;cases J;exact⟨λh=>by have:=I.C9 _ h;omega,by simp,.inl (Bv _)⟩)
  (λb J _=>by grind) rfl rfl rfl (by simp) (λ_=>by refine⟨w.heap.size,#[],0,rfl,by simp,⟨rfl,by simp[Y7]⟩,?_⟩;simp)
 refine Ja ?_;unfold Oper.wp;have:(execOp a.eval o).run P w=.ok (.value (.map (some w.heap.size))) { w with heap:=w.heap.push (.map #[] 0) }:=by simp[execOp,O,Instr.makeMap,newObj];rfl
 rw[this];exact⟨_,S,_,rfl,U,L,.mp k _ (by rw[Ht]),λj V=>Mz (by grind)⟩
def QO{L:TypeId}{kvs:List (D × D)}{es:Array MapEntry}(O:es.size=kvs.length)
  (h:∀(r:Nat) (kv:D × D) (e:MapEntry),kvs[r]?=some kv->es[r]?=some e->C5 S w kv.1 e.key)(E:∀kv,kv∈kvs->E1 P L kv.1) :
  ∀(j:Nat) (e:MapEntry) (kv:D × D),es.toList[j]?=some e->kvs[j]?=some kv->e.key=kv.1.kv/\E1 P L kv.1:=by intro j e kv U I;have J:=E kv (Bs I);exact⟨(h j kv e I (by grind)).kv J.isKey,J⟩
def yP{C:Ctx}{k r:Nat}{x:Ax}{kvs:List (D × D)}(W:Inv C S w β bx)(Z:(k,x)∈bx)(I:(β k).base=some r)(a0:r<w.heap.size)
  (es:Array MapEntry)(E:Nat)(U:yN es E kvs.length)(J:∀(j:Nat) (kv:D × D) (e:MapEntry),kvs[j]?=some kv->es[j]?=some e->C5 S w kv.1 e.key/\C5 S w kv.2 e.val) :
  Inv C S { w with heap:=w.heap.setIfInBounds r (.map es E) } β ((k,.map kvs)::Cu k bx)/\Cg S w S { w with heap:=w.heap.setIfInBounds r (.map es E) }:=by
 refine W.dM Z I (λb' L=>by grind) rfl rfl rfl (by simp) ?_;have e0:Cg S w S { w with heap:=w.heap.setIfInBounds r (.map es E) } :=⟨λ_ h=>h,λb' L=>by
   have:b'≠r:=λO=>(W.Bk k _ Z r I).1 (O ▸ L)
   grind⟩
 exact⟨r,es,E,I,by grind,U,λj kv e V O=>⟨(J j kv e V O).1.ext e0,(J j kv e V O).2.ext e0⟩⟩
def oa(l:List Lit):∀(kvs:List (D × D))(i j:Nat)(d:D),Fh l kvs i=some (j,d)->∃k,i<=j/\kvs[j - i]?=some (k,d)/\l=k.lits
 |[],_,_,_,h=>by simp[Fh]at h
 |kv::r,i,j,d,h=>by simp only[Fh]at h;split at h;grind;obtain⟨k,I,J,E⟩:=oa l r (i+1) j d h;grind
def H0x{T kt et k:Nat}{m x y:Operand}(ho:o.op=.mapUpdate T m x y){kvs:List (D × D)}{kd vd:D}(hm:ρ m=.mp k)(hb:(k,Ax.map kvs)∈bx)
  (hT:P.underlying T=some (.map kt et))(a3:Ny P kt=true)(hx:Nu (ρ x)=some kd)(O:E1 P kt kd)(U:∀kv,kv∈kvs->E1 P kt kv.1)(hy:Nu (ρ y)=some vd) :
  C1 P o ρ bx (.tuple []) ((k,.map (Ro kd vd kvs))::Cu k bx) []:=by
 intro C S w β a hi ha;have W:=ha m (mC ho);rw[hm]at W;have a8:=KP (ha x (mC ho)) hx;have a':=KP (ha y (mC ho)) hy;have a1:=a8.kv O.isKey;obtain⟨r,es,E,I,hh,a2,a6⟩:=hi.box k _ hb;have a5:=a2.1;generalize a7:a.eval m=mv at W;cases W with
 |mp _ b J =>
  rw[I]at J;cases J;obtain⟨q,hq,hf⟩:=qV a3 w O es.toList kvs (by omega) (QO a5 (λr kv e h1 V=>(a6 r kv e h1 V).1) U);have L:=jV a3 false w O;have a4:r<w.heap.size:=(hi.Bk k _ hb r I).2.1;rw[<-a1]at hq L;unfold Ro;cases a0:Fh kd.lits kvs 0 with
  |none =>
   rw[a0]at hf;simp only[Found]at hf;subst hf;obtain⟨h1,V⟩:=yP (kvs:=kvs++[(kd,vd)]) hi hb I a4 (es.push { key:=a.eval x,val:=a.eval y,born:=E }) (E+1) ⟨by grind,a2.2.push _ _⟩ (by grind);refine Ja ?_;unfold Oper.wp;rw[show(execOp a.eval o).run P w=.ok .skip { w with heap:=w.heap.setIfInBounds r (.map (es.push { key:=a.eval x,val:=a.eval y,born:=E }) (E+1)) } by simp[execOp,ho,a7,Instr.mapUpdate,fC hT,VC hh,L,hq,MapKept.run_setObj_map _ hh]];exact⟨undef,S,β,rfl,h1,V,.tuple [] [] rfl (by simp),λ_ _=>rfl⟩
  |some jd =>
   obtain⟨j,d⟩:=jd;rw[a0]at hf;obtain⟨e,k',_,g1,g2,rfl⟩:=hf;simp only[tJ,GJ]at g1 g2;have a9:e.key=a.eval x:=by obtain⟨p1,p2⟩:=QO a5 (λr kv e h1 V=>(a6 r kv e h1 V).1) U j e (k',d) (by grind) g2;obtain⟨k2,_,q2,q3⟩:=oa _ _ _ _ _ a0;simp only[tJ]at q2;rw[g2]at q2;simp only[B8,Gg,Va]at q2;subst q2;rw[p1,a1];exact(O.same p2 q3).symm
   have Z:(Instr.keyThatStays (a.eval x) (a.eval x)).run P w=.ok (a.eval x) w:=by rw[a1];simp[Instr.keyThatStays,H3a O.isKey]
   have hj:j<es.size:=(U6.1 g1).1;obtain⟨h1,V⟩:=yP (kvs:=kvs.set j (kd,vd)) hi hb I a4 (es.modify j λe=>{ e with key:=a.eval x,val:=a.eval y }) E ⟨by grind,a2.2.modify _ _ (λ_=>rfl)⟩ (by grind);refine Ja ?_;unfold Oper.wp;rw[show(execOp a.eval o).run P w=.ok .skip { w with heap:=w.heap.setIfInBounds r (.map (es.modify j λe=>{ e with key:=a.eval x,val:=a.eval y }) E) } by simp[execOp,ho,a7,Instr.mapUpdate,fC hT,VC hh,L,hq,g1,a9,Z,MapKept.run_setObj_map _ hh]];exact⟨undef,S,β,rfl,h1,V,.tuple [] [] rfl (by simp),λ_ _=>rfl⟩
inductive IsMap(bx:Ac):SV->List (D × D)->Prop where
 |mp (k:Nat) (kvs:List (D × D)):(k,Ax.map kvs)∈bx->IsMap bx (.mp k) kvs
 |d (kvs:List (D × D)):IsMap bx (.d (.map kvs)) kvs
def IsMap.rep{C:Ctx}{x:SV}{kvs:List (D × D)}{v:Value}(h:IsMap bx x kvs)(hi:Inv C S w β bx)(V:An S w β x v) :∃r es E,v=.map (some r)/\w.heap[r]?=some (.map es E)/\es.size=kvs.length/\∀(j:Nat) (kv:D × D) (e:MapEntry),kvs[j]?=some kv->es[j]?=some e->C5 S w kv.1 e.key/\C5 S w kv.2 e.val:=by
 cases h with
 |mp k kvs hb =>
  obtain⟨r,es,E,J,O,L,U⟩:=hi.box k _ hb;cases V with
  |mp _ b I =>rw[J]at I;cases I;exact⟨r,es,E,rfl,O,L.1,U⟩
 |d kvs =>
  cases V with
  |d _ _ h =>
   cases h with
   |map _ r es E hS O L h1 h2=>exact⟨r,es,E,rfl,O,L.1,λj kv e Z W=>⟨h1 j kv e Z W,h2 j kv e Z W⟩⟩
def se{T W et:Nat}{x:Operand}(I:o.op=.call { callee:=.builtin .len,args:=#[x],argTypes:=#[T] }){kvs:List (D × D)}(Z:IsMap bx (ρ x) kvs)(hT:P.underlying T=some (.map W et)) :C1 P o ρ bx (.d (.int .i64 kvs.length)) bx [] :=.Ei λ_ _ w β a V U=>by obtain⟨r,es,E,O,J,L,_⟩:=Z.rep V (U x (mC I));exact⟨.int .i64 kvs.length,by simp[execOp,I,resolve,invoke,builtin,O,Builtin.len_,fC hT,VC J,L,goInt],.int _ _⟩
def T2(E:D)(kvs:List (D × D))(z:SV):SV:=match Fh E.lits kvs 0 with
 |some (_,d)=>ofD d
 |none=>z
def UE(ok:Bool)(E:D)(kvs:List (D × D))(z:SV):SV:=match ok with
 |true=>.tuple [T2 E kvs z,.d (.bool (Fh E.lits kvs 0).isSome)]
 |false=>T2 E kvs z
def H0a{T kt et:Nat}{m x:Operand}{ok:Bool}(U:o.op=.lookup T m x ok){kvs:List (D × D)}{kd:D}{z:SV}(hm:IsMap bx (ρ m) kvs)
  (hT:P.underlying T=some (.map kt et))(V:Ny P kt=true)(hx:Nu (ρ x)=some kd)(O:E1 P kt kd)(a0:∀kv,kv∈kvs->E1 P kt kv.1)(hz:VG P et=some z) :
  C1 P o ρ bx (UE ok kd kvs z) bx []:=by
 refine C1.Ei λC S w β a hi ha=>?_;have a3:=KP (ha x (mC U)) hx;obtain⟨r,es,a5,J,hh,a4,a1⟩:=hm.rep hi (ha m (mC U));have a6:=a3.kv O.isKey;obtain⟨q,hq,hf⟩:=qV V w O es.toList kvs (by omega) (QO a4 (λr kv e h1 h2=>(a1 r kv e h1 h2).1) a0);have E:=jV V es.isEmpty w O;rw[<-a6]at hq E;obtain⟨zv,W,a2⟩:=H5o hz w;cases I:Fh kd.lits kvs 0 with
 |none =>
  rw[I]at hf;simp only[Found]at hf;subst hf;have L:An S w β z zv:=by rw[a2];exact zH S w β zv
  cases ok with
  |true =>refine⟨.tuple #[zv,.bool false],by simp[execOp,U,J,Instr.lookup,fC hT,VC hh,E,hq,W],?_⟩;simp only[UE,T2,I,Uj];exact .tuple _ _ rfl (C7.cons L (C7.cons (.d _ _ (.bool _)) .nil)).2
  |false =>refine⟨zv,by simp[execOp,U,J,Instr.lookup,fC hT,VC hh,E,hq,W],?_⟩;grind[UE,T2]
 |some jd =>
  obtain⟨j,d⟩:=jd;rw[I]at hf;obtain⟨e,k',_,g1,g2,rfl⟩:=hf;simp only[tJ,GJ]at g1 g2;have Z:An S w β (ofD d) e.val:=H4g (a1 j (k',d) e g2 g1).2;cases ok with
  |true =>refine⟨.tuple #[e.val,.bool true],by simp[execOp,U,J,Instr.lookup,fC hT,VC hh,E,hq],?_⟩;simp only[UE,T2,I,tR];exact .tuple _ _ rfl (C7.cons Z (C7.cons (.d _ _ (.bool _)) .nil)).2
  |false =>refine⟨e.val,by simp[execOp,U,J,Instr.lookup,fC hT,VC hh,E,hq],?_⟩;grind[UE,T2]
end Go.iA
namespace Go.iA
open Go
variable {P:Program} {o:Oper} {ρ:Iq} {bx:Ac}
def H5m{f:FuncId}{caps:Array Operand}(E:o.op=.makeFunc (.func f) #[] caps):C1 P o ρ bx (.Bi f (caps.toList.map ρ)) bx []:=by
 refine C1.Ei λC S w β a L I=>?_;refine⟨.func (.func f) #[] (caps.map a.eval),by simp[execOp,E,Instr.makeFunc],?_⟩;have:=MA (ρ:=ρ) (S:=S) (w:=w) (β:=β) (a:=a) caps.toList λx O=>I x (mo E (by grind[Op.operands]));have J:caps.map a.eval=⟨caps.toList.map a.eval⟩:=by apply L5;simp
 rw[J];exact .Bi f _ _ this.1 this.2
theorem H6t{T e sz k:Nat}{x y:Operand}(ho:o.op=.slice T x (some y) none none)(a0:k<=999999){rs:List (List D)}{ik:IntKind}{i:Int}(hx:ρ x=.acc k)(V:(k,Ax.rows sz rs)∈bx)
  (hy:ρ y=.d (.int ik i))(hT:E9 P T=some e)(hs:Bp P e=some sz)(h0:0<=i)(h1:i<=rs.length) :
  C1 P o ρ bx (.acc k) ((k,.rows sz (rs.drop i.toNat))::Hx k (Cu k bx)) [k]:=by
 intro C S w β a W ha;have E:=ha x (mC ho);rw[hx]at E;have hv:a.eval x=J7 (β k):=by generalize a.eval x=v at E;cases E;rfl
 have O:=ha y (mC ho);rw[hy]at O;have Z:a.eval y=.int ik i:=O.J6;obtain⟨q1,q2,q3,q4,q5,q6,q7⟩:=W.box k _ V
 let U:BI:={ β k with off:=if(β k).cap=i.toNat then(β k).off else(β k).off+i.toNat,len:=(β k).len - i.toNat,cap:=(β k).cap - i.toNat }
 have a3:i.toNat<=(β k).len:=by omega
 obtain⟨h1,h2⟩:=W.Vj (k:=k) (w':=w) (c:=.rows sz (rs.drop i.toNat)) U a0 (λb I=>⟨(W.Bk k _ V b I).1,(W.Bk k _ V b I).2.1,.inr ⟨_,V,I⟩⟩) (λ_ _ _=>rfl) rfl rfl rfl (Bv _) (λ_=>by
   refine⟨q1,by grind,by grind,by grind,λrow h=>q5 row (SC h),λrow h=>q6 row (SC h),?_⟩;show match(β k).base with|none=>_|some b=>_
   cases J:(β k).base with
   |none=>grind
   |some b =>rw[J]at q7;obtain⟨ty,vs,g1,g2,g3⟩:=q7;grind)
 refine Ja ?_;unfold Oper.wp;have L:(execOp a.eval o).run P w=.ok (.value (J7 U)) w:=by
  have a1:=YE hT w;have a2:(β k).cap=i.toNat->(β k).len=i.toNat:=λh=>by omega
  simp only[execOp,ho,Instr.sliceAt,hv,Z,J7,Ha,a1,Hp,Instr.slice,Instr.sliceBounds,Instr.sliceBound,L3,Em,xJ,asIntOf,Qh hs];rw[A7 ⟨h0,by omega⟩];simp only[L3,Hp,Result.ok.injEq,Next.value.injEq,Value.slice.injEq,Va,U];split;rfl
  .cases (β k).base with
   |none=>rfl
   |some b=>grind[Addr.add]
 rw[L];refine⟨_,S,_,rfl,h1,h2,?_,λj hj=>Mz (by grind)⟩;have:=An.acc (S:=S) (w:=w) (β:=F4 β k U) k;rw[Ht]at this;exact this
variable {β:Names}
def Inv.qQ{C:Ctx}{S S':Nat->Prop}{w w':World}{g:Nat}{Y:Hq}{st st':Option Nat}(L:Inv C S w β bx)(hb:(g,Ax.ghost Y st)∈bx){B B':Nat->Prop}
  (hB:∀b,B b->¬S b/\b<w.heap.size/\(C.pre b\/C.w0.heap.size<=b)/\∀Z c',(Z,c')∈bx->(β Z).base≠some b)
  (t:FD B S w B' S' w')(hF:C.G.F st' B' S' w'):Inv C S' w' β ((g,.ghost Y st')::Cu g bx)/\Cg S w S' w':=by
 refine⟨?_,t.ext⟩;obtain⟨e1,e2,e3,e4,_⟩:=L.Gf g Y st hb;have a6:=L.size;have a5:=t.size;have a8:∀b,(β g).base≠some b:=λb h=>by have:(β g).base=none:=L.box g _ hb;grind
 have I:∀k c,(k,c)∈(g,Ax.ghost Y st')::Cu g bx->(k=g/\c=.ghost Y st')\/(k≠g/\(k,c)∈bx):=λk c J=>by grind[Ev]
 have a1:∀b,B b\/w.heap.size<=b->C.pre b\/C.w0.heap.size<=b:=λb E=>E.elim (λh=>(hB b h).2.2.1) λh=>.inr (by omega);have V:∀k c,(k,c)∈bx->∀b,(β k).base=some b->¬B b/\b<w.heap.size/\w'.heap[b]?=w.heap[b]?:=λk c J b E=>by have U:¬B b:=λh=>(hB b h).2.2.2 k c J E;have W:=(L.Bk k c J b E).2.1;exact⟨U,W,t.kept b W U⟩
 exact{
  G7:=λb E=>t.ext.sub b (L.G7 b E)
  F9:=λb E=>by
   rcases t.new b E with h|h
   .exact L.F9 b h
   grind
  C9:=t.lt
  kept:=λb E hp=>by
   rw[<-L.kept b E hp];refine t.kept b (by omega) λh=>?_
   grind
  os:=t.os.trans L.os
  tape:=t.tape.trans L.tape
  output:=t.output.trans L.output
  size:=by omega
  box:=λk c J=>by
   rcases I k c J with⟨rfl,rfl⟩|⟨_,J⟩
   .exact L.box _ _ hb
   .exact(L.box k c J).ext t.ext (λb E=>(V k c J b E).2.2) (λ_ _=>rfl)
  Bk:=λk c J b E=>by
   rcases I k c J with⟨rfl,rfl⟩|⟨_,J⟩
   .grind
   .obtain⟨p1,p2,p3⟩:=L.Bk k c J b E;refine⟨λhs=>?_,by omega,p3⟩;rcases t.new b hs with h|h|h
    .grind
    .grind
    .omega
  inj:=λk c Z c' J O b U W=>by
   rcases I k c J with⟨rfl,rfl⟩|⟨_,J⟩
   .grind
   .rcases I Z c' O with⟨rfl,rfl⟩|⟨_,O⟩
    .grind
    .exact L.inj k c Z c' J O b U W
  fix:=L.fix
  Ek:=λb cs hv=>by obtain⟨U,ty,fr,W⟩:=L.Ek b cs hv;exact⟨t.ext.sub b U,ty,fr,(t.ext.same b U).trans W⟩
  one:=λk1 Y1 s1 k2 Y2 s2 U W=>by
   rcases I k1 _ U with⟨rfl,a9⟩|⟨a3,U⟩
   .rcases I k2 _ W with⟨rfl,a7⟩|⟨a4,W⟩
    .grind
    .exact absurd (L.one _ _ _ _ _ _ W hb).1 a4
   .exact absurd (L.one _ _ _ _ _ _ U hb).1 a3
  Gf:=λk Y' a0 J=>by
   have hY:Y'=Y/\a0=st':=by
    rcases I k _ J with⟨_,he⟩|⟨a2,J⟩
    .grind
    .exact absurd (L.one k Y' a0 g Y st J hb).1 a2
   obtain⟨rfl,rfl⟩:=hY;refine⟨e1,e2,e3,λZ c' O b E=>?_,B',hF,λb E=>⟨(t.own b E).1,(t.own b E).2.1,a1 b (t.own b E).2.2,λZ c' O he=>?_⟩⟩
   .grind
   .rcases I Z c' O with⟨rfl,rfl⟩|⟨_,O⟩
    .grind
    .obtain⟨p1,p2,_⟩:=V Z c' O b he;rcases(t.own b E).2.2 with h|h
     .grind
     .omega }
def Ax.closed:Ax->Bool
 |.cells cs=>SV.Ng cs
 |.ghost _ _=>false
 |_=>true
def oH(k j:Nat):SV->Option SV
 |.mp i=>if i=k then some (.mp j)else none
 |.box i off=>if i=k then some (.box j off)else none
 |.acc i=>if i=k then some (.acc j)else none
 |x=>coerce [] x
def BD(k j:Nat):List SV->Option (List SV)
 |[]=>some []
 |c::cs=>match oH k j c with
  |some x=>match BD k j cs with
   |some l=>some (x::l)
   |none=>none
  |none=>none
variable {S:Nat->Prop} {w:World}
def RY{C:Ctx}{k j:Nat}(V:Inv C S w β []):∀{cs l:List SV} {vs:List Value},BD k j cs=some l->C7 S w β cs vs->C7 S w (F4 β j (β k)) l vs
 |[],l,vs,h,I=>by simp only[BD,B8]at h;subst h;exact⟨I.1,by simp⟩
 |c::cs,l,vs,h,I=>by
  simp only[BD]at h;cases E:oH k j c with
  |none=>grind
  |some x =>
   cases U:BD k j cs with
   |none=>grind
   |some m =>
    simp only[E,U,B8]at h;subst h;cases vs with
    |nil=>have:=I.1;grind
    |cons v vs =>
     have q:=RY V U ⟨by have:=I.1;simpa using this,λi c v E Z=>I.2 (i+1) c v (by grind) (by grind)⟩;have J:=I.2 0 c v rfl rfl;refine .cons ?_ q;unfold oH at E;split at E
     .split at E;simp only[B8]at E;subst E;subst_vars;cases J with|mp _ b O=>exact .mp j b (by rw[Ht];exact O)
      grind
     .split at E;simp only[B8]at E;subst E;subst_vars;cases J with|box _ _ b O=>exact .box j _ b (by rw[Ht];exact O)
      grind
     split at E;rename_i L;simp only[B8]at E;subst E;rw[L]at J;cases J;have:=An.acc (S:=S) (w:=w) (β:=F4 β j (β k)) j;grind[Ht];grind;obtain⟨W,p2⟩:=aH V (Cg.refl S w) (by simp) E J;exact W.closed p2
def E4.closed{β β':Names}{i:BI}{c:Ax}(h:E4 S w β i c)(J:c.closed=true):E4 S w β' i c:=by
 cases c with
 |rows sz rs=>exact h
 |cells cs =>obtain⟨b,ty,vs,U,O,I⟩:=h;refine⟨b,ty,vs,U,O,I.1,λj c v E L=>(I.2 j c v E L).closed (mB J j c E)⟩
 |map kvs=>exact h
 |iter kvs seen=>exact h
 |ghost Y st=>exact h
def F9m{f:FuncId}{fo:Operand}{args:Array Operand}{Dr:Array TypeId}(ho:o.op=.call { callee:=.value fo,args:=args,argTypes:=Dr }){caps V:List SV}{r:SV}{k j:Nat}{c c':Ax}
  (hf:ρ fo=.Bi f caps)(hb:(k,c)∈bx)(hj:1000000<=j)(a5:c.closed=true)(a1:c'.closed=true)
  (a4:BD k j (args.toList.map ρ++caps)=some V)(hc:Ci P f V [(j,c)] r [(j,c')])(hr:r.closed=true):C1 P o ρ bx r ((k,c')::Cu k bx) []:=by
 have ae:c.real=true:=by cases c <;> first|rfl|simp[Ax.closed]at a5
 have ac:c'.real=true:=by cases c' <;> first|rfl|simp[Ax.closed]at a1
 intro C S w β a I ha;have a3:=(ha fo (mC ho));rw[hf]at a3;generalize a9:a.eval fo=v at a3;cases a3 with
 |Bi _ _ cs h1 h2 =>
  have a6:C7 S w β (args.toList.map ρ++caps) (args.toList.map a.eval++cs):=(MA _ λx hx=>ha x (mo ho (by grind[Op.operands,Call.operands]))).append ⟨h1,h2⟩;have a7:Inv ⟨w,S,λ_=>False,λ_ _=>False,C.G⟩ S w β []:=I.begin I.C9 (λ_ h=>h);have g1:=RY (j:=j) a7 a4 a6;have hp:=I.Bk k c hb;have aa:Inv ⟨w,S,λi=>(β k).base=some i,λi x=>i=j/\x =β k,C.G⟩ S w (F4 β j (β k)) [(j,c)]:={
   G7:=λ_ h=>h
   F9:=λ_ h=>.inl h
   C9:=I.C9
   kept:=λ_ _ _=>rfl
   os:=rfl
   tape:=rfl
   output:=rfl
   size:=Bv _
   box:=λk' L hk'=>by simp only[Ay,Gg,Eh,Eo]at hk';obtain⟨rfl,rfl⟩:=hk';rw[Ht];exact(I.box k _ hb).closed a5
   Bk:=λk' L hk' E hb'=>by
    simp only[Ay,Gg,Eh,Eo]at hk'
    grind[Ht]
   inj:=λk1 c1 k2 c2 h1 h2 E Z a0=>by grind
   Ek:=I.Ek
   one:=λk' Y st ad Y' st' hk'=>by grind
   Gf:=λk' Y st hk'=>by
    simp only[Ay,Gg,Eh,Eo]at hk'
    grind[Ax.real]
   fix:=λk' E h=>by grind[Ht] }
  have a2:=hc.2 ⟨w,S,λi=>(β k).base=some i,λi x=>i=j/\x =β k,C.G⟩ _ _ aa g1;refine Ja ?_;unfold Oper.wp;rw[tD hc.1 ho a9,gC];have U:args.map a.eval++(⟨cs⟩:Array Value)=⟨args.toList.map a.eval++cs⟩:=by apply L5;simp
  rw[U];refine a2.mono ?_;rintro e w' ⟨v,S',β',rfl,W,hv⟩;have ab:β' j =β k:=(W.fix j _ ⟨rfl,rfl⟩).2;have af:∀b,(β k).base=some b->¬S' b/\b<w'.heap.size:=λb hb'=>by have:=W.Bk j c' (by simp) b (by grind);grind
  have J:∀E,E<w.heap.size->(β k).base≠some E->w'.heap[E]?=w.heap[E]?:=λE h1 h2=>W.kept E h1 h2;have e1:Cg S w (λb=>S b\/(S' b/\w.heap.size<=b)) w':=⟨λ_ h=>.inl h,λE hb'=>J E (I.C9 E hb') λhe=>(hp E he).1 hb'⟩;have e2:Cg S' w' (λb=>S b\/(S' b/\w.heap.size<=b)) w':=⟨λE hb'=>by rcases W.F9 E hb' with h|h|h;grind;grind;grind,λ_ _=>rfl⟩;have a8:w.heap.size<=w'.heap.size:=W.size;refine⟨v,_,β,rfl,?_,e1,(hv.ext e2 (λ_ _=>rfl)).closed hr,λ_ _=>rfl⟩;refine I.step e1 (λE hb'=>hb'.imp id (·.2)) ?_ (λE hb' a'=>J E hb' λhe=>a' k c hb he) W.os W.tape W.output a8 ?_ ?_ (λ_ _=>rfl) ?_;intro E hb';rcases hb' with hb' |hb';have:=I.C9 E hb';omega;exact W.C9 E hb'.1;intro k' L hk';simp only[Ay,Gg]at hk';rcases hk' with⟨rfl,rfl⟩|hk';refine⟨?_,λE hb'=>?_⟩;have:=(E4.ext (W.box j _ (by simp)) e2 (λ_ _=>rfl) (λ_ _=>rfl)).closed (β':=β) a1;grind;grind;obtain⟨O,hk'⟩:=Ev.1 hk';refine⟨(I.box k' L hk').ext e1 (λE hb'=>?_) (λ_ _=>rfl),λE hb'=>?_⟩;exact J E (I.Bk k' L hk' E hb').2.1 λhe=>O (I.inj k' L k c hk' hb E hb' he).1;obtain⟨p1,p2,_⟩:=I.Bk k' L hk' E hb';grind;intro k1 c1 k2 c2 h1 h2 E Z a0;simp only[Ay,Gg]at h1 h2;rcases h1 with⟨rfl,rfl⟩|h1;rcases h2 with⟨rfl,rfl⟩|h2;simp;obtain⟨O,h2⟩:=Ev.1 h2;exact absurd (I.inj k2 c2 _ c h2 hb E a0 Z).1 O;rcases h2 with⟨rfl,rfl⟩|h2;obtain⟨O,h1⟩:=Ev.1 h1;exact absurd (I.inj k1 c1 _ c h1 hb E Z a0).1 O;obtain⟨O,h1⟩:=Ev.1 h1;obtain⟨_,h2⟩:=Ev.1 h2;exact I.inj k1 c1 k2 c2 h1 h2 E Z a0;grind[Ax.real,Ev]
theorem H3c{f:FuncId}{fo:Operand}{args:Array Operand}{Dr:Array TypeId}(ho:o.op=.call { callee:=.value fo,args:=args,argTypes:=Dr }){caps L:List SV}{r:SV}{g:Nat}{Y:Hq}{st st':Option Nat}
  (hf:ρ fo=.Bi f caps)(hb:(g,Ax.ghost Y st)∈bx)(Z:Gz [] (args.toList.map ρ++caps)=some L)(hc:Ci P f L [(1000000,.ghost Y st)] r [(1000000,.ghost Y st')])(hr:r.closed=true) :
  C1 P o ρ bx r ((g,.ghost Y st')::Cu g bx) []:=by
 intro C S w β a U ha;have W:=(ha fo (mC ho));rw[hf]at W;generalize a6:a.eval fo=v at W;cases W with
 |Bi _ _ cs h1 h2 =>
  have a1:C7 S w β (args.toList.map ρ++caps) (args.toList.map a.eval++cs):=(MA _ λx hx=>ha x (mo ho (by grind[Op.operands,Call.operands]))).append ⟨h1,h2⟩;have a2:Inv ⟨w,S,λ_=>False,λ_ _=>False,C.G⟩ S w β []:=U.begin U.C9 (λ_ h=>h);obtain⟨g1,g2⟩:=Vt a2 (Cg.refl S w) (by simp) Z a1;obtain⟨e1,e2,e3,e4,B,e5,e6⟩:=U.Gf g Y st hb;have a8:=U.size;have a7:Inv ⟨w,S,B,λ_ _=>False,C.G⟩ S w (F4 β 1000000 { base:=none }) [(1000000,.ghost Y st)]:={
   G7:=λ_ h=>h
   F9:=λ_ h=>.inl h
   C9:=U.C9
   kept:=λ_ _ _=>rfl
   os:=rfl
   tape:=rfl
   output:=rfl
   size:=Bv _
   box:=λk' a5 I=>by simp only[Ay,Gg,Eh,Eo]at I;obtain⟨rfl,rfl⟩:=I;rfl
   Bk:=λk' a5 I b' E=>by
    simp only[Ay,Gg,Eh,Eo]at I
    grind[Ht]
   inj:=λk1 c1 k2 c2 h1 h2 b' a9 a'=>by grind
   fix:=λ_ _ h=>h.elim
   Ek:=U.Ek
   one:=λk1 Y1 s1 k2 Y2 s2 h1 h2=>by grind
   Gf:=λk' Y' a0 I=>by
    simp only[Ay,Gg,Ax.ghost.injEq,Eh,Eo]at I;obtain⟨rfl,rfl,rfl⟩:=I;have aa:∀k' c',(k',c')∈[(1000000,Ax.ghost Y' a0)]->∀b,(F4 β 1000000 { base:=none } k').base≠some b:=λk' c' I b E=>by
     simp only[Ay,Gg,Eh,Eo]at I
     grind[Ht]
    grind }
  have V:=hc.2 ⟨w,S,B,λ_ _=>False,C.G⟩ _ _ a7 ⟨g1.1,λj c v a3 hv=>(g1.2 j c v a3 hv).closed (mB g2 j c a3)⟩;refine Ja ?_;unfold Oper.wp;rw[tD hc.1 ho a6,gC];have J:args.map a.eval++(⟨cs⟩:Array Value)=⟨args.toList.map a.eval++cs⟩:=by apply L5;simp
  rw[J];refine V.mono ?_;rintro e w' ⟨v,S',β',rfl,O,hv⟩;obtain⟨_,_,_,_,B',q5,q6⟩:=O.Gf 1000000 Y st' (by simp);have a4:w.heap.size<=w'.heap.size:=O.size;have hS:∀b,S' b->S b\/B b\/w.heap.size<=b:=λb E=>O.F9 b E;have t:FD B S w B' S' w':=⟨⟨O.G7,λb E=>O.kept b (U.C9 b E) λh=>(e6 b h).1 E⟩,hS,O.C9,λb E=>⟨(q6 b E).1,(q6 b E).2.1,(q6 b E).2.2.1⟩,λb E hn=>O.kept b E hn,O.os,O.tape,O.output,a4⟩;obtain⟨r1,r2⟩:=U.qQ hb e6 t q5;exact⟨v,S',β,rfl,r1,r2,hv.closed hr,λ_ _=>rfl⟩
theorem H3s{fo x:Operand}{Dr:Array TypeId}(W:o.op=.call { callee:=.value fo,args:=#[x],argTypes:=Dr }){g l j:Nat}{Y:Hq}{y:SV}(hf:ρ fo=.Fg l)(Z:(g,Ax.ghost Y (some j))∈bx)
  (hx:coerce [] (ρ x)=some y)(hP:Y.P=P)(hl:Y.l=l)(hN:j<Y.N)(hy:Y.xs j=y):C1 P o ρ bx (.d (.bool (Y.go j))) ((g,.ghost Y (Y.next j))::Cu g bx) []:=by intro C S w β a O V;have I:=(V fo (mC W));rw[hf]at I;generalize a0:a.eval fo=v at I;cases I;have J:Inv ⟨w,S,λ_=>False,λ_ _=>False,C.G⟩ S w β []:=O.begin O.C9 (λ_ h=>h);obtain⟨g1,_⟩:=aH J (Cg.refl S w) (by simp) hx (V x (mC W));obtain⟨e1,e2,e3,e4,B,e5,U⟩:=O.Gf g Y (some j) Z;subst e1;subst hP;subst hl;subst hy;obtain⟨f,tmps,E,body,h1,h2⟩:=e2.round j B S w β _ hN e5 O.C9 (λb L=>⟨(U b L).1,(U b L).2.1⟩) g1;refine Or.inr ⟨C.G.Y.l,f,tmps,E,body,w,?_,h2.mono ?_⟩;grind[execOp,resolve,Deferred.ofValue,invoke];rintro e w' ⟨S',B',rfl,q5,t⟩;obtain⟨r1,r2⟩:=O.qQ Z U t q5;exact⟨.bool (C.G.Y.go j),S',β,rfl,r1,r2,.bool _,λ_ _=>rfl⟩
def loN(ρ:Iq):Option Operand->Option Nat
 |none=>some 0
 |some y=>match ρ y with
  |.d (.int _ i)=>if 0<=i then some i.toNat else none
  |_=>none
def hiN(ρ:Iq)(n:Nat):Option Operand->Option Nat
 |none=>some n
 |some y=>match ρ y with
  |.d (.int _ i)=>if 0<=i then some i.toNat else none
  |_=>none
def ye{a:Act}{L U:Option Operand}{n cap l h:Nat}{t:Bool}(Z:∀x,x∈L.toList++U.toList->An S w β (ρ x) (a.eval x))(E:loN ρ L=some l)(J:hiN ρ n U=some h)(h1:l<=h)(h2:h<=n)(h3:n<=cap) :(Instr.sliceBounds t n cap (L.map a.eval) (U.map a.eval) none).run P w=.ok (l,h,cap) w:=by
 have key:∀(y:Operand) (m:Nat),An S w β (ρ y) (a.eval y)->(match ρ y with| .d (.int _ i)=>if 0<=i then some i.toNat else none|_=>none)=some m->∃k,a.eval y=.int k (m:Int):=by intro y m hv V;split at V;rename_i k i he;rw[he]at hv;split at V;rename_i h0;simp only[B8]at V;subst V;exact⟨k,by rw[hv.J6,Int.toNat_of_nonneg h0]⟩;grind;grind
 have W:∀(k:IntKind) (m q:Nat) (I:BoundsCode),m<=q->(Instr.sliceBound (.int k (m:Int)) q I).run P w=.ok m w:=by intro k m q I hq;simp only[Instr.sliceBound,asIntOf,Ha,L3,Hp];rw[A7 ⟨by omega,by omega⟩];simp
 cases U with
 |none =>
  simp only[hiN,B8]at J;subst J;cases L with
  |none =>simp only[loN,B8]at E;subst E;rfl
  |some y =>obtain⟨k,hk⟩:=key y l (Z y (by simp)) (by simpa [loN]using E);simp[Instr.sliceBounds,hk,W k l n _ h1]
 |some z =>
  obtain⟨k',O⟩:=key z h (Z z (by simp)) (by simpa [hiN]using J);cases L with
  |none =>simp only[loN,B8]at E;subst E;simp[Instr.sliceBounds,O,W k' h cap _ (by omega)]
  |some y =>obtain⟨k,hk⟩:=key y l (Z y (by simp)) (by simpa [loN]using E);simp[Instr.sliceBounds,hk,O,W k l h _ h1,W k' h cap _ (by omega)]
def G3p{T e sz:Nat}{x:Operand}{lo hi:Option Operand}(ho:o.op=.slice T x lo hi none){rows:List (List D)}(hx:ρ x=.d (.slice rows))(hT:E9 P T=some e)(hs:Bp P e=some sz)
  (a0:∀row,row∈rows->row.length=sz){l h:Nat}(a4:loN ρ lo=some l)(a2:hiN ρ rows.length hi=some h)(h1:l<=h)(h2:h<=rows.length):C1 P o ρ bx (.d (.slice ((rows.take h).drop l))) bx []:=by
 refine .Ei λC S w β a aa ha=>?_;have U:=ha x (mC ho);rw[hx]at U;have I:∀cap,rows.length<=cap->(Instr.sliceBounds true rows.length cap (lo.map a.eval) (hi.map a.eval) none).run P w=.ok (l,h,cap) w:=λcap hc =>
  ye (ρ:=ρ) (S:=S) (β:=β) (λy hy=>ha y (mo ho (by grind[Op.operands]))) a4 a2 h1 h2 hc
 have a5:=YE hT w;have run:∀(p:Option Addr) (cap:Nat),rows.length<=cap->a.eval x=.slice p rows.length cap->(execOp a.eval o).run P w=.ok (.value (.slice (if cap=l then p else p.map (·.add (l*sz))) (h - l) (cap - l))) w:=by intro p cap hc hv;simp only[execOp,ho,Instr.sliceAt,hv,Ha,a5,Hp,Instr.slice,xJ,I cap hc,Qh hs,L3]
 generalize hv:a.eval x=v at U;have hd:=U.Js;have Z:((rows.take h).drop l).length=h - l:=by simp;omega
 cases hd with
 |Nv p cap hp =>
  have:=run p cap (by simp) (by omega);simp only[Ck,Nat.le_zero]at h2;subst h2;have a6:l=0:=by omega
  subst a6;refine⟨_,this,.d _ _ ?_⟩;simp only[List.take_nil,List.drop_nil,tJ,Nat.zero_mul];have a8:(if cap=0 then p else p.map (·.add 0))=p:=by split;rfl;cases p <;> rfl
  rw[a8];exact .Nv p cap hp
 |slice _ b off cap O hb ab a7 hr a1 V a9 =>
  have:=run (some ⟨b,off,none⟩) cap a7 hv;refine⟨_,this,.d _ _ ?_⟩;by_cases he:h=l
  .subst he;have:(rows.take h).drop h=[]:=XC (by simp);rw[this,iR];have W:∃q,(if cap=h then(some ⟨b,off,none⟩:Option Addr)else(some ⟨b,off,none⟩:Option Addr).map (·.add (h*sz)))=some q:=by grind
   obtain⟨q,hq⟩:=W;rw[hq];exact .Nv (some q) _ (by simp)
  .have J:l<rows.length:=by omega
   have a3:O=sz:=by rw[<-hr rows[l] (Gc J),a0 rows[l] (Gc J)]
   subst a3;rw[A5 (by omega)];simp only[Em,Zf];rw[<-Z];have a':∀(i:Nat) (row:List D),((rows.take h).drop l)[i]?=some row->rows[l+i]?=some row:=by intro i row E;rw[Y0]at E;have J:=(Az.1 E).1;rw[Dh]at J;rw[uN (by omega)]at E;exact E
   have L:∀row,row∈(rows.take h).drop l->row∈rows:=λrow hm=>Kv (SC hm);refine .slice _ b (off+l*O) (cap - l) O hb (by omega) (by omega) (λrow hm=>hr row (L row hm)) (λrow hm=>a1 row (L row hm)) ?_ ?_;intro i j E hj;have:=V (l+i) j (by omega) hj;grind;grind
def F8d{T:Nat}{x:Operand}{V Z:Option Operand}(J:o.op=.slice T x V Z none){s:A3}(hx:ρ x=.d (.str s))(hT:P.underlying T=some .string)
  {l h:Nat}(L:loN ρ V=some l)(I:hiN ρ s.length Z=some h)(h1:l<=h)(h2:h<=s.length):C1 P o ρ bx (.d (.str ((s.take h).drop l))) bx []:=by
 refine .Ei λC S w β a W U=>?_;have E:=U x (mC J);rw[hx]at E;obtain⟨hv,a0⟩:=E.Vw;have hb:=ye (P:=P) (t:=false) (n:=s.length) (cap:=s.length) (w:=w) (a:=a) (ρ:=ρ) (S:=S) (β:=β) (λy hy=>U y (mo J (by grind[Op.operands]))) L I h1 h2 (Bv _);have hu:=fC hT w;have O:(mkStr s).size=s.length:=dT s;refine⟨.string (mkStr ((s.take h).drop l)),?_,.d _ _ (.str _ ?_)⟩
 .have hex:(mkStr s).extract l h=mkStr ((s.take h).drop l):=by apply ByteArray.ext;rw[ByteArray.data_extract];apply L5;simp[mkStr,List.drop_take,List.extract_eq_take_drop];try(congr 1;omega)
  simp only[execOp,J,Instr.sliceAt,hv,Ha,hu,Hp,Instr.slice,xJ,Uj,Iu,Gi,L3,O,hb,hex]
 grind
def H3b{T e sz bytes k:Nat}{x y:Operand}(a6:k<=999999)(ho:o.op=.makeSlice T x y){kx ky:IntKind}{n m:Int}(hx:ρ x=.d (.int kx n))(hy:ρ y=.d (.int ky m))(W:HI P T e sz bytes){L:List D}
  (hz:Co P e=some (L.map SV.d))(aa:∀d,d∈L->d.one=true)(h0:0<=n)(a9:n<=m)(hm:m*(bytes:Int)<=(lim:Int))(ac:1<=sz):C1 P o ρ bx (.acc k) ((k,.rows sz (List.replicate n.toNat L))::Hx k (Cu k bx)) [k]:=by
 intro C S w β a hi ha;have V:=ha x (mC ho);rw[hx]at V;have a1:=ha y (mC ho);rw[hy]at a1;have a':=V.J6;have a4:=a1.J6;obtain⟨i,z,O,a7,a0⟩:∃i z,P.info? e=some i/\i.zero=some z/\z.cells.toList.map M5=L.map SV.d:=by
  unfold Co at hz;cases hq:P.info? e with
  |none=>grind
  |some i =>simp_all
 have a2:i.size=sz:=by have:=W.Pr;unfold Bp at this;rw[O]at this;simpa using this
 have ab:i.bytes=bytes:=by have:=W.xI;rw[O]at this;simpa using this
 have af:L.length=sz:=by have:=W.hzero;rw[hz]at this;simpa using this
 have a3:z.cells.size=sz:=by have:=F8 List.length a0;simp only[B7,qN]at this;omega
 have hT:P.underlying T=some (.slice e):=by have:=W.hT;unfold E9 at this;split at this;grind;grind
 have ad:1<=bytes:=by have:=W.Tt;omega
 have a8:m<=(lim:Int):=by have h1:m*1<=m*(bytes:Int):=Int.mul_le_mul_of_nonneg_left (by omega) (by omega);omega
 have J:=Go.run_make (P:=P) w T e i z hT O a7 kx ky n m h0 a9 (by grind[lim]) (by unfold lim at a8;omega);rw[a2]at J;have I:∀(j:Nat),j<m.toNat*sz->(madeCells z.cells (m.toNat*sz)).toList[j]?=z.cells[j % sz]?:=by
  intro j hj;have E:j % sz<z.cells.size:=by rw[a3];exact oE _ (by omega)
  simp only[madeCells,GJ,Array.getElem?_map,Array.getElem?_range,hj,Av,Em,a3];rw[Zk E,sJ z.cells (j % sz) E]
 obtain⟨h1,h2⟩:=hi.Vj (k:=k) (w':=w.alloc (.cells (madeCells z.cells (m.toNat*sz)) e)) (c:=.rows sz (List.replicate n.toNat L)) { base:=some w.heap.size,len:=n.toNat,cap:=m.toNat,sz:=sz } a6 (by
   intro b hb;cases hb;exact⟨λh=>by have:=hi.C9 _ h;omega,by simp,.inl (Bv _)⟩)
  (λb hb _=>RowKit.Below.heap_alloc w _ b hb) rfl rfl rfl (by simp) (λ_=>by
   refine⟨rfl,by simp,by grind,by grind,?_,?_,e,(madeCells z.cells (m.toNat*sz)).toList,by simp[-World.alloc_eq,World.alloc],by simp[size_madeCells],?_⟩
   .grind
   .grind
   .intro r j row d v hr hd hv;have a5:=(Az.1 hr).1;rw[List.length_replicate]at a5;have Z:row=L:=(List.mem_replicate.1 (Bs hr)).2;subst Z;have ae:=(Az.1 hd).1;have E:r*sz+j<m.toNat*sz:=by
     have:(r+1)*sz<=m.toNat*sz:=Ih _ (by omega);rw[Ii]at this;omega
    simp only[Kf]at hv;rw[I _ E,qE,Nat.mul_add_mod,Nat.mod_eq_of_lt (by omega)]at hv;have U:(z.cells.toList.map M5)[j]?=some (M5 v):=by rw[Df];simp[hv]
    rw[a0,Df,hd]at U;simp only[Em,B8]at U;have:=zH S (w.alloc (.cells (madeCells z.cells (m.toNat*sz)) e)) β v;rw[<-U]at this;exact this.Js)
 refine Ja ?_;unfold Oper.wp;rw[show(execOp a.eval o).run P w=.ok (.value (.slice (some ⟨w.heap.size,0,none⟩) n.toNat m.toNat)) (w.alloc (.cells (madeCells z.cells (m.toNat*sz)) e)) by simp[execOp,ho,a',a4,J]];refine⟨_,S,_,rfl,h1,h2,?_,λj hj=>Mz (by grind)⟩;have:=An.acc (S:=S) (w:=w.alloc (.cells (madeCells z.cells (m.toNat*sz)) e)) (β:=F4 β k { base:=some w.heap.size,len:=n.toNat,cap:=m.toNat,sz:=sz }) k;grind[Ht]
theorem F7h{T U e sz k:Nat}{x y:Operand}(ho:o.op=.call { callee:=.builtin .copy,args:=#[x,y],argTypes:=#[T,U] }){rs xs:List (List D)}(hT:E9 P T=some e)(hs:Bp P e=some sz)
  (hx:ρ x=.acc k)(hb:(k,Ax.rows sz rs)∈bx)(hy:Xn bx sz (ρ y) xs)(a9:xs.length<=rs.length) :
  C1 P o ρ bx (.d (.int .i64 xs.length)) ((k,.rows sz (xs++rs.drop xs.length))::Cu k bx) []:=by
 intro C S w β a hi ha;obtain⟨vs,E⟩:=hy.src (P:=P) hi ((ha y (mC ho)));have W:=(ha x (mC ho));rw[hx]at W;have V:a.eval x=J7 (β k):=by generalize a.eval x=v at W;cases W;rfl
 obtain⟨g1,g2,g3,g4,g5,g6,g7⟩:=hi.box k _ hb;have J:=E.cells xs.length w rfl (λ_ _=>rfl);have O:Nat.min xs.length (β k).len=xs.length:=by rw[<-g2];exact Nat.min_eq_left a9
 have a7:(execOp a.eval o).run P w=((Builtin.copy_ #[T,U] o.type #[J7 (β k),a.eval y]).run P w).andThen λv w=>.ok (.value v) w:=by simp[execOp,ho,resolve,invoke,builtin,V]
 refine Ja ?_;unfold Oper.wp;rw[a7];cases I:(β k).base with
 |none =>
  rw[I]at g7;simp only at g7;have hr:rs=[]:=XC (by omega);subst hr;have a6:xs=[]:=XC (by omega);subst a6;have a8:vs=[]:=XC (by rw[E.flat.len];simp);subst a8;have L:(Builtin.copy_ #[T,U] o.type #[J7 (β k),a.eval y]).run P w=.ok (goInt 0) w:=by simp only[Ck]at O J;have a3:=E.len;simp only[Ck]at a3;simp[Builtin.copy_,J7,I,YE hT,Qh hs,a3,O,J]
  rw[L];exact⟨_,S,β,rfl,hi.sub λj c hj=>by grind[Ev],Cg.refl S w,.int _ _,λ_ _=>rfl⟩
 |some b =>
  rw[I]at g7;obtain⟨ty,bs,hh,a2,a1⟩:=g7;subst g1;have hl:=E.flat.len;have Z:(β k).off*(β k).sz+0+vs.length<=bs.length:=by have:((β k).off+xs.length)*(β k).sz<=((β k).off+(β k).cap)*(β k).sz:=Ih _ (by omega);simp only[Ii]at this a2;omega
  obtain⟨w',L,q1,q2,q3,q4,q5,q6⟩:=ZL (P:=P) vs bs b ((β k).off*(β k).sz) 0 ty w hh Z E.one;have a':(Builtin.copy_ #[T,U] o.type #[J7 (β k),a.eval y]).run P w=.ok (goInt xs.length) w':=by simp[Builtin.copy_,J7,I,YE hT,Qh hs,E.len,O,J,L]
  rw[a'];have e0:Cg S w S w':=⟨λ_ h=>h,λb' a0=>q2 b' λhe=>(hi.Bk k _ hb b I).1 (he ▸ a0)⟩;obtain⟨p1,p2⟩:=hi.dM (w':=w') (c:=.rows (β k).sz (xs++rs.drop xs.length)) hb I (λb' a0=>q2 b' a0) q3 q4 q5 (by omega) (by
   refine⟨rfl,by grind,g3,by grind,?_,?_,?_⟩;intro row hr;rcases Bj.1 hr with hr|hr;exact E.flat.row row hr;grind;intro row hr;rcases Bj.1 hr with hr|hr;exact E.flat.one row hr;grind
   .rw[I];refine⟨ty,Hr bs ((β k).off*(β k).sz+0) vs,q1,by rw[PG];omega,?_⟩;intro r j row d v hr hd V;rw[YC _ _ _ _ (by omega)]at V;by_cases a5:r<xs.length
    .rw[Mm a5]at hr;have hj:j<(β k).sz:=by rw[<-E.flat.row row (Bs hr)];exact(Az.1 hd).1
     have a4:r*(β k).sz+j<vs.length:=by have:(r+1)*(β k).sz<=xs.length*(β k).sz:=Ih _ (by omega);rw[Ii]at this;omega
     rw[A7 (by grind)]at V;rw[show((β k).off+r)*(β k).sz+j - ((β k).off*(β k).sz+0)=r*(β k).sz+j by grind]at V;exact(E.flat.rep r j row d v hr hd V).ext e0
    .rw[Lq (by omega),Y0]at hr;rw[show xs.length+(r - xs.length)=r by omega]at hr;have a4:vs.length<=r*(β k).sz:=by rw[hl];exact Ih _ (by omega)
     rw[A5 (by grind)]at V;exact(a1 r j row d v hr hd V).ext e0)
  exact⟨_,S,β,rfl,p1,p2,.int _ _,λ_ _=>rfl⟩
end Go.iA
