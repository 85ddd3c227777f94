/- Contracts out of bodies, maps, closures, parts of slices. Own framework. -/
import Derived.DeepKeys3
import Derived.MapKept
import Derived.WideKeyRuns
import Derived.Laws.MakeOwn
import Derived.RangeFuncRecord
import Derived.Test.YtcmlfpcaeflleaaGreatDoorGAb2
set_option linter.all false
namespace Go.Abs
open Go
variable {ro:Option Nat} {P:Program} {n:Nat} {Q:Exit->SL->Aa->Prop} {sl:SL} {bx:Aa}
def Lu(P:Program)(bx:Aa)(T:TypeId)(x:SV):Option SV :=
 match x with
 |.box k off=>match A7 bx k with
  |some (.cells cs)=>match Cu P T with
   |some false=>cs[off]?
   |some true=>match Bm P T with
    |some m=>if off+m<=cs.length/\(part cs off m).all SV.one=true then some (.agg (part cs off m))else none
    |none=>none
   |none=>none
  |_=>none
 |.Ah cells off=>match Cu P T with
  |some false=>(cells[off]?).map SV.d
  |some true=>match Bm P T with
   |some m=>if off+m<=cells.length then some (.agg ((A5v cells off m).map SV.d))else none
   |none=>none
  |none=>none
 |.d (.ptr cells)=>match Cu P T with
  |some false=>(cells[0]?).map SV.d
  |some true=>match Bm P T with
   |some m=>if 0+m<=cells.length then some (.agg ((A5v cells 0 m).map SV.d))else none
   |none=>none
  |none=>none
 |.Em k i off=>match A7 bx k with
  |some (.rows sz rows)=>match rows[i]? with
   |some row=>match Cu P T with
    |some false=>(row[off]?).map SV.d
    |some true=>match Bm P T with
     |some m=>if off+m<=row.length/\row.length=sz then some (.agg ((A5v row off m).map SV.d))else none
     |none=>none
    |none=>none
   |none=>none
  |_=>none
 |.Fs cells off=>match Cu P T with
  |some false=>cells[off]?
  |_=>none
 |_=>none
variable {S:Nat->Prop} {w:World} {β:Names}
def G4y{k i off sz:Nat}{rows:List (List D)}{row:List D}{v:Value}(V:Df S w β (β k) (.rows sz rows))(hr:rows[i]?=some row)(hv:Ak S w β (.Em k i off) v) :
  ∃b base,v=.pointer (some ⟨b,base+off,none⟩)/\(∀d,d∈row->d.one=true)/\(∀j,j<row.length->∃v,w.cell? ⟨b,base+j,none⟩=some v)/\(∀(j:Nat) (d:D) (v:Value),row[j]?=some d->w.cell? ⟨b,base+j,none⟩=some v->C0 S w d v):=by
 cases hv with
 |Em _ _ _ b I =>
  obtain⟨g1,g2,g3,g4,g5,g6,L⟩:=V;subst g1;rw[I]at L;obtain⟨ty,vs,Z,M,J⟩:=L;have E:=Br hr;have W:=(B5.1 hr).1;refine⟨b,((β k).off+i)*(β k).sz,rfl,g6 row E,?_,?_⟩
  .intro j O;rw[g5 row E]at O;have U:((β k).off+i+1)*(β k).sz<=((β k).off+(β k).cap)*(β k).sz:=I9 _ (by omega);rw[Gy _ 1]at U;have:((β k).off+i)*(β k).sz+j<vs.length:=by omega
   exact⟨vs[((β k).off+i)*(β k).sz+j],by rw[cells_of_row Z];simp⟩
  grind [cells_of_row]
def D2w{C:Ctx}{T:TypeId}{x c:SV}{v:Value}(hi:Inv C S w β bx)(M:Ak S w β x v)(h:Lu P bx T x=some c) :
  ∃a u,v=.pointer (some a)/\(loadVar T a).run P w=.ok u w/\Ak S w β c u:=by
 have conv:∀{p:Addr} {u:Value},(Instr.loadAt T (.pointer (some p))).run P w=.ok u w->(loadVar T p).run P w=.ok u w:=by intro p u I;simpa [Instr.loadAt,Instr.sureAddr]using I
 have E:∀{cells:List D} {off:Nat} {b base:Nat},v=.pointer (some ⟨b,base+off,none⟩)->(∀d,d∈cells->d.one=true)->(∀j,j<cells.length->∃v,w.cell? ⟨b,base+j,none⟩=some v) ->
   (∀(j:Nat) (d:D) (v:Value),cells[j]?=some d->w.cell? ⟨b,base+j,none⟩=some v->C0 S w d v) ->
   (match Cu P T with
    |some false=>(cells[off]?).map SV.d
    |some true=>match Bm P T with
     |some m=>if off+m<=cells.length then some (.agg ((A5v cells off m).map SV.d))else none
     |none=>none
    |none=>none)=some c->∃a u,v=.pointer (some a)/\(loadVar T a).run P w=.ok u w/\Ak S w β c u:=by
  intro cells off b base M h1 V U h;cases hT:Cu P T with
  |none=>simp[hT]at h
  |some g =>
   cases g with
   |false =>simp only[hT,N9]at h;obtain⟨d,L,rfl⟩:=h;obtain⟨u,I⟩:=V off (B5.1 L).1;exact⟨_,u,M,conv (C9o hT I),.d _ _ (U off d u L I)⟩
   |true =>
    simp only[hT]at h;cases hs:Bm P T with
    |none=>simp[hs]at h
    |some m =>
     simp only[hs]at h;split at h
     .rename_i hl;simp only[B4]at h;subst h;obtain⟨vs,W,Z⟩:=C3m (w:=w) (b:=b) (off:=base+off) (n:=m) (λj hj=>by rw[Wr];exact V (off+j) (by omega));refine⟨_,.agg ⟨vs⟩,M,conv (C5z hT hs W Z),E7p (.agg _ vs (by simp[A5v,W];omega) ?_ ?_)⟩
      .intro d L;exact h1 d (X3 (Hh L))
      .intro j d u L I;simp only[A5v,An1,Th]at L;split at L
       .exact U (off+j) d u L (by rw[<-Wr];exact Z j u I)
       .simp at L
     .simp at h
 cases x with
 |box k off =>
  obtain⟨b,O,rfl⟩:=M.A5i;simp only[Lu]at h;cases J:A7 bx k with
  |none=>simp[J]at h
  |some bc =>
   cases bc with
   |cells cs =>
    simp only[J]at h;obtain⟨b',ty,vs,a1,hh,hr⟩:=hi.box k _ (F8 J);rw[O]at a1;cases a1;cases hT:Cu P T with
    |none=>simp[hT]at h
    |some g =>
     cases g with
     |false =>simp only[hT]at h;obtain⟨u,I,a0⟩:=hr.get h;exact⟨_,u,rfl,conv (C9o hT (by rw[cells_of_row hh];exact I)),a0⟩
     |true =>
      simp only[hT]at h;cases hs:Bm P T with
      |none=>simp[hs]at h
      |some m =>
       simp only[hs]at h;split at h
       .rename_i hl;simp only[B4]at h;subst h;have:=hr.1;refine⟨_,.agg ⟨(vs.drop off).take m⟩,rfl,conv (C5z hT hs (by simp;omega) ?_),Ak.A4f (hr.part off m) hl.2⟩;intro j u I;rw[cells_of_row hh];simp only[An1,Th]at I;split at I
        .exact I
        .simp at I
       .simp at h
   |rows _ _=>simp[J]at h
   |map _=>simp[J]at h
   |iter _ _=>simp[J]at h
   |ghost _ _=>simp[J]at h
 |Ah cells off =>obtain⟨b,base,hp⟩:=M.C1p;exact E hp.v hp.one hp.there hp.rep h
 |d y =>cases y <;> simp only[Lu,reduceCtorEq]at h;rename_i cells;obtain⟨b,base,hp⟩:=M.E4h;exact E hp.v hp.one hp.there hp.rep h
 |Em k i off =>
  simp only[Lu]at h;cases J:A7 bx k with
  |none=>simp[J]at h
  |some bc =>
   cases bc with
   |rows sz rows =>
    simp only[J]at h;cases hr:rows[i]? with
    |none=>simp[hr]at h
    |some row =>
     simp only[hr]at h;obtain⟨b,base,h0,h1,V,U⟩:=G4y (hi.box k _ (F8 J)) hr M;refine E h0 h1 V U ?_;cases hT:Cu P T with
     |none=>simp[hT]at h
     |some g =>
      cases g with
      |false=>simpa [hT]using h
      |true =>
       simp only[hT]at h |-;cases hs:Bm P T with
       |none=>simp[hs]at h
       |some m =>
        simp only[hs]at h |-;split at h
        .rename_i hl;rw[A9 hl.1];exact h
        .simp at h
   |cells _=>simp[J]at h
   |map _=>simp[J]at h
   |iter _ _=>simp[J]at h
   |ghost _ _=>simp[J]at h
 |undef=>simp[Lu]at h
 |agg _=>simp[Lu]at h
 |tuple _=>simp[Lu]at h
 |acc _=>simp[Lu]at h
 |mp _=>simp[Lu]at h
 |Ek _=>simp[Lu]at h
 |Fs cells off =>
  simp only[Lu]at h;cases M with
  |Fs _ _ b J h1 V U =>
   cases hT:Cu P T with
   |none=>simp[hT]at h
   |some g =>
    cases g with
    |true=>simp[hT]at h
    |false =>simp only[hT]at h;obtain⟨u,I⟩:=V off (B5.1 h).1;exact⟨_,u,rfl,conv (C9o hT I),U off c u h I⟩
 |B0 _ _=>simp[Lu]at h
def G7z{o:Oper}{ρ:Hb}{T:TypeId}{x:Operand}(E:o.op=.load T x){c:SV}(h:Lu P bx T (ρ x)=some c):Bp P o ρ bx c bx [] :=
 .Eb λ_ _ w β a J I=>by obtain⟨p,u,M,hr,L⟩:=D2w J (I x (mC E)) h;exact⟨u,by simp[execOp,E,M,Instr.loadAt,Instr.sureAddr,hr],L⟩
def B8k(P:Program)(bx:Aa)(sl:SL):ResultVar->Option SV
 |.tmp t=>some (Ag sl t)
 |.cell t T=>Lu P bx T (Ag sl t)
def T8(P:Program)(bx:Aa)(sl:SL):List ResultVar->Option (List SV)
 |[]=>some []
 |r::rs=>match B8k P bx sl r with
  |some x=>match T8 P bx sl rs with
   |some l=>some (x::l)
   |none=>none
  |none=>none
def T9:List SV->SV
 |[x]=>x
 |xs=>.tuple xs
variable {a:Act}
def D7y{C:Ctx}(hs:St C n S w β a sl bx)(g:ResultVar->Sem Value)(M:∀t,g (.tmp t)=pure (a.tmps.getD t undef))
  (L:∀x t,g (.cell x t)=do loadVar t (<-asAddr (a.tmps.getD x undef))):∀(rs:List ResultVar) (xs:List SV),T8 P bx sl rs=some xs->∃vs,(rs.mapM g).run P w=.ok vs w/\Bv S w β xs vs
 |[],xs,h=>by simp only[T8,B4]at h;subst h;exact⟨[],rfl,.nil⟩
 |r::rs,xs,h=>by
  simp only[T8]at h;cases E:B8k P bx sl r with
  |none=>grind
  |some x =>
   cases J:T8 P bx sl rs with
   |none=>grind
   |some l =>
    simp only[E,J,B4]at h;subst h;obtain⟨vs,U,I⟩:=D7y hs g M L rs l J;cases r with
    |tmp t =>simp only[B8k,B4]at E;subst E;refine⟨_::vs,?_,.cons (hs.slot t) I⟩;simp_all
    |cell t T =>simp only[B8k]at E;obtain⟨p,u,W,hr,O⟩:=D2w hs.inv (hs.slot t) E;refine⟨u::vs,?_,.cons O I⟩;have V:asAddr (.pointer (some p))=pure p:=rfl;simp_all
def B9t{C:Ctx}{fn:Func}(hs:St C n S w β a sl bx){xs:List SV}(h:T8 P bx sl fn.results.toList=some xs) :
  ∃v,(results fn a.tmps).run P w=.ok v w/\Ak S w β (T9 xs) v:=by
 have key:∀(g:ResultVar->Sem Value),(∀t,g (.tmp t)=pure (a.tmps.getD t undef))->(∀x t,g (.cell x t)=do loadVar t (<-asAddr (a.tmps.getD x undef))) ->
   ∃v,(do let vs <-fn.results.mapM g;pure (if h:vs.size=1 then vs[0]else .tuple vs):Sem Value).run P w=.ok v w/\Ak S w β (T9 xs) v:=by
  intro g O J;obtain⟨vs,L,E⟩:=D7y hs g O J _ _ h;have M:(fn.results.mapM g).run P w=.ok ⟨vs⟩ w:=by rw[Array.mapM_eq_mapM_toList,Sem.run_map,L];rfl
  have I:=E.1;simp only[H5,M,Gz,Kx]
  match xs,vs,E,I with
  |[],[],E,_=>exact⟨.tuple ⟨[]⟩,rfl,.tuple [] [] rfl (by simp)⟩
  |[x],[v],E,_=>exact⟨v,rfl,E.2 0 x v rfl rfl⟩
  |x::y::xs,v::u::vs,E,_=>exact⟨.tuple ⟨v::u::vs⟩,by simp,.tuple _ _ E.1 E.2⟩
  |[],_::_,_,I=>grind
 exact key _ (λ_=>rfl) (λ_ _=>rfl)
def Ua:Nat->List SV->SL
 |_,[]=>[]
 |i,x::xs=>(i,x)::Ua (i+1) xs
def E4y:∀(xs:List SV)(i t:Nat),Ag (Ua i xs) t=if i<=t then(xs[t - i]?).getD .undef else .undef
 |[],i,t=>by simp[Ua,Ag]
 |x::xs,i,t=>by
  simp only[Ua,Ag];split
  .grind
  .rename_i E;rw[E4y xs (i+1) t]
   grind
def E6x(P:Program)(fn:Func)(r:SV)(e:Exit)(sl:SL)(bx:Aa):Prop :=
 match e with
 |.normal| .ret=>∃xs,T8 P bx sl fn.results.toList=some xs/\coerce bx (T9 xs)=some r
 |_=>False
def St.start{C:Ctx}{pre:Aa}{args:List SV}{vs:List Value}{m:Nat}(J:Inv C C.S0 C.w0 β pre)(I:Bv C.S0 C.w0 β args vs)(M:args.length<=m) :
  St C m C.S0 C.w0 β { tmps:=(⟨vs⟩:Array Value)++Array.replicate (m - (⟨vs⟩:Array Value).size) undef,defers:=[] } (Ua 0 args) pre:=by
 have U:=I.1;refine⟨J,by grind,.nil,?_⟩;intro t;rw[E4y];simp only[As4,Ae,As6];cases ht:args[t]? with
 |none=>exact .undef _
 |some x =>
  obtain⟨v,E,O⟩:=I.get ht;have L:=(B5.1 E).1;have:((⟨vs⟩:Array Value)++Array.replicate (m - (⟨vs⟩:Array Value).size) undef).getD t undef=v:=by rw[Ao9,Ak5 (by omega)];simp[E]
  grind
theorem A2h{D:Nat}{l E:Option (List Deferred)}(h:w.heap[D]?=some (.deferred l))(b off:Nat):(w.putObj D (.deferred E)).cell? ⟨b,off,none⟩=w.cell? ⟨b,off,none⟩:=by grind [World.putObj_heap_same,World.cell?,World.putObj_heap_other]
def C0.shut{D:Nat}{l V:Option (List Deferred)}(h:w.heap[D]?=some (.deferred l)){d:Go.Abs.D}{v:Value}(hr:C0 S w d v):C0 S (w.putObj D (.deferred V)) d v:=by
 induction hr with
 |int k n=>exact .int k n
 |bool b=>exact .bool b
 |str s hs=>exact .str s hs
 |nil=>exact .nil
 |emp a cap=>exact .emp a cap
 |Jz a cap h=>exact .Jz a cap h
 |slice rows b off cap sz M I L Z W h5 _ E =>
  refine .slice rows b off cap sz M I L Z W ?_ ?_
  .grind [A2h]
  grind [A2h]
 |agg cells vs I L _ E=>exact .agg cells vs I L E
 |ptr cells b base M L I _ E =>
  refine .ptr cells b base M L ?_ ?_
  .grind [A2h]
  grind [A2h]
 |Kt=>exact .Kt
 |map kvs r es J hr hh hs _ _ O U =>
  refine .map kvs r es J hr ?_ hs O U
  grind [World.putObj_heap_other]
 |Jt=>exact .Jt
 |iface t d v _ E=>exact .iface t d v E
 |Jw=>exact .Jw
 |fn f caps vs I _ E=>exact .fn f caps vs I E
 |Hu=>exact .Hu
 |cl f caps vs I _ E=>exact .cl f caps vs I E
def Ak.shut{D:Nat}{l O:Option (List Deferred)}(h:w.heap[D]?=some (.deferred l)){x:SV}{v:Value}(hr:Ak S w β x v):Ak S (w.putObj D (.deferred O)) β x v:=by
 induction hr with
 |undef v=>exact .undef v
 |d x v W=>exact .d x v (W.shut h)
 |agg cells vs E L _ J=>exact .agg cells vs E L J
 |tuple cells vs E _ J=>exact .tuple cells vs E J
 |box k off b I=>exact .box k off b I
 |Ah cells off b base I E L V =>
  refine .Ah cells off b base I E ?_ ?_
  .grind [A2h]
  .intro j d v U M;rw[A2h h]at M;exact(V j d v U M).shut h
 |acc k=>exact .acc k
 |Em k i off b I=>exact .Em k i off b I
 |mp k b I=>exact .mp k b I
 |Ek l=>exact .Ek l
 |Fs cells off b hs E L _ J =>
  refine .Fs cells off b hs E ?_ ?_
  .grind [A2h]
  grind [A2h]
 |B0 f cells vs E _ J=>exact .B0 f cells vs E J
def Df.shut{D:Nat}{l l':Option (List Deferred)}(h:w.heap[D]?=some (.deferred l)){i:BI}{c:Ap}(a0:i.base≠some D)(U:Df S w β i c):Df S (w.putObj D (.deferred l')) β i c:=by
 have W:∀b,i.base=some b->(w.putObj D (.deferred l')).heap[b]?=w.heap[b]?:=λb U=>World.putObj_heap_other (by grind);cases c with
 |cells cs =>obtain⟨b,ty,vs,J,O,L⟩:=U;exact⟨b,ty,vs,J,(W b J).trans O,L.1,λj c v hc hv=>(L.2 j c v hc hv).shut h⟩
 |rows sz rs =>
  obtain⟨J,O,L,M,Z,h6,h7⟩:=U;refine⟨J,O,L,M,Z,h6,?_⟩;cases I:i.base with
  |none=>grind
  |some b =>rw[I]at h7;obtain⟨ty,vs,g1,g2,g3⟩:=h7;exact⟨ty,vs,(W b I).trans g1,g2,λr j row d v hr hd hv=>(g3 r j row d v hr hd hv).shut h⟩
 |map kvs =>obtain⟨b,es,E,J,O,L,M⟩:=U;exact⟨b,es,E,J,(W b J).trans O,L,λr kv x hr V=>⟨(M r kv x hr V).1.shut h,(M r kv x hr V).2.shut h⟩⟩
 |iter kvs seen =>obtain⟨b,m,es,E,sn,J,O,hS,hm,L,M,Z⟩:=U;exact⟨b,m,es,E,sn,J,(W b J).trans O,hS,(World.putObj_heap_other (by grind)).trans hm,L,λr kv x hr V=>⟨(M r kv x hr V).1.shut h,(M r kv x hr V).2.shut h⟩,Z⟩
 |ghost Y st=>exact U
def St.leave{C:Ctx}{m:Nat}{sl:SL}{bx:Aa}{fn:Func}{R:Ending->World->Prop}(hs:St C m S w β a sl bx)
  (h:∀w',St C m S w' β { tmps:=a.tmps,defers:=[] } sl bx->∃v,(results fn a.tmps).run P w'=.ok v w'/\R (.returned v) w'):LeavesInM Fence.wide 0 P fn a.tmps R a.defers .returning w:=by
 obtain⟨E,O,⟨Ds,W,U,hD⟩,I⟩:=hs;rw[W];clear W
 induction Ds generalizing w with
 |nil=>exact h w ⟨E,O,.nil,I⟩
 |cons D Ds ih =>
  obtain⟨Z,q2,M⟩:=hD D (by simp);refine⟨by simp,.inl ⟨D,w.putObj D (.deferred none),rfl,run_takeDeferred M,ih ?_ ?_ (Ui.1 U).2 ?_⟩⟩
  .exact{
    Fg:=E.Fg,Ee:=E.Ee,Bf:=λb J=>by simpa using E.Bf b J
    kept:=λb J hp=>(World.putObj_heap_other (by omega)).trans (E.kept b J hp)
    os:=E.os,tape:=E.tape,output:=E.output,size:=by simpa using E.size
    box:=λk c L=>(E.box k c L).shut M (λhe=>(E.B7 k c L D he).1 Z)
    B7:=λk c L b J=>by simpa using E.B7 k c L b J
    inj:=E.inj
    Dh:=λb cs hv=>by
     obtain⟨h1,ty,fr,V⟩:=E.Dh b cs hv
     grind [World.putObj_heap_other]
    one:=E.one
    Fm:=λk Y st L=>by obtain⟨h1,V,h3,h4,B,h5,h6⟩:=E.Fm k Y st L;refine⟨h1,V,h3,h4,B,V.shut st B S w D _ _ h5 (by grind) (λJ=>(h6 D J).1 Z) M,λb J=>?_⟩;simpa using h6 b J
    fix:=E.fix }
  .exact λt=>(I t).shut M
  grind [World.putObj_heap_other]
def C2z{f:FuncId}{fn:Func}{c:Code}{args:Array Value}{R:Ending->World->Prop}(E:P.funcs[f]?=some fn)(I:fn.body=some c)
  (h:c.wpIn (FW none) 0 P (bodyPostM Fence.wide 0 P fn R) { tmps:=args++Array.replicate (fn.ntmps - args.size) undef,defers:=[] } w):Calls P f args w R :=
 (callsIn_wide (n:=0)).1 (callsIn_of_wp_marks (F:=Fence.wide) E I trivial h)
def Ac.L5{f:FuncId}{fn:Func}{c:Code}{args:List SV}{r:SV}(L:P.funcs[f]?=some fn)(E:fn.body=some c)(O:(fn.name == "runtime.NumGoroutine")=false)(W:args.length<=fn.ntmps)
  (h:A0 none P fn.ntmps c (E6x P fn r) (Ua 0 args) []):Ac P f args r:=by
 refine⟨⟨fn,L,O,by grind⟩,?_⟩;intro C β vs hi J;refine C2z L E ?_;refine Xw (h C C.S0 C.w0 β _ (St.start hi J W)) ?_;rintro e M w' ⟨sl',bx',S',β',q,hs⟩;have key:(∃xs,T8 P bx' sl' fn.results.toList=some xs/\coerce bx' (T9 xs)=some r)->LeavesInM Fence.wide 0 P fn M.tmps (λe w'=>∃v S' β',e=.returned v/\Inv C S' w' β' []/\Ak S' w' β' r v) M.defers .returning w':=by
  rintro⟨xs,V,h2⟩;refine hs.leave λw' hs=>?_;obtain⟨v,Z,U⟩:=B9t (P:=P) hs V;refine⟨v,Z,v,λb=>S' b\/∃k c,(k,c)∈bx'/\(β' k).base=some b,β',rfl,?_,?_⟩
  .exact{
    Fg:=λb E=>.inl (hs.inv.Fg b E)
    Ee:=λb E=>by
     rcases E with E|⟨k,c,I,E⟩
     .exact hs.inv.Ee b E
     .exact .inr (hs.inv.B7 k c I b E).2.2
    Bf:=λb E=>by
     rcases E with E|⟨k,c,I,E⟩
     .exact hs.inv.Bf b E
     .exact(hs.inv.B7 k c I b E).2.1
    kept:=hs.inv.kept
    os:=hs.inv.os
    tape:=hs.inv.tape
    output:=hs.inv.output
    size:=hs.inv.size
    box:=λk c I=>by grind
    B7:=λk c I=>by grind
    inj:=λk c k' c' I=>by simp
    Dh:=λb cs J=>⟨.inl (hs.inv.Dh b cs J).1,(hs.inv.Dh b cs J).2⟩
    one:=λk Y st k' Y' st' I=>by simp
    Fm:=λk Y st I=>by grind
    fix:=hs.inv.fix }
  .exact(Xm hs.inv ⟨λ_ h=>.inl h,λ_ _=>rfl⟩ (λk c I b E=>.inr ⟨k,c,I,E⟩) h2 U).1
 cases e with
 |normal=>exact key q
 |ret=>exact key q
 |_=>exact q.elim
structure Qw where
 fb:Nat->SV
 fa:SV
 fm:SV
mutual
def SV.sub(k:Nat)(f:Qw):SV->SV
 |.box j off=>if j=k then f.fb off else .box j off
 |.acc j=>if j=k then f.fa else .acc j
 |.mp j=>if j=k then f.fm else .mp j
 |.Em j i off=>.Em j i off
 |.agg cs=>.agg (SV.La k f cs)
 |.tuple cs=>.tuple (SV.La k f cs)
 |.B0 g cs=>.B0 g (SV.La k f cs)
 |.undef=>.undef
 |.d x=>.d x
 |.Ah c off=>.Ah c off
 |.Ek l=>.Ek l
 |.Fs cs off=>.Fs (SV.La k f cs) off
def SV.La(k:Nat)(f:Qw):List SV->List SV
 |[]=>[]
 |c::cs=>c.sub k f::SV.La k f cs
end
def SV.A5p(k:Nat)(f:Qw):∀cs:List SV,SV.La k f cs=cs.map (SV.sub k f)
 |[]=>rfl
 |c::cs=>by simp[SV.La,SV.A5p k f cs]
structure A9f(S S':Nat->Prop)(w:World)(β:Names)(k:Nat)(f:Qw):Prop where
 fb:∀off v,Ak S w β (.box k off) v->Ak S' w β (f.fb off) v
 fa:∀v,Ak S w β (.acc k) v->Ak S' w β f.fa v
 fm:∀v,Ak S w β (.mp k) v->Ak S' w β f.fm v
 one:(∀off,(f.fb off).one=true)/\f.fa.one=true/\f.fm.one=true
theorem SV.sub_one{S S':Nat->Prop}{k:Nat}{f:Qw}(E:A9f S S' w β k f){x:SV}(h:x.one=true):(x.sub k f).one=true:=by
 cases x <;> simp only[SV.sub] <;> first
  |exact h
  |(split;exact E.one.1 _;rfl)
  |(split;exact E.one.2.1;rfl)
  |(split;exact E.one.2.2;rfl)
  |rfl
def Ak.sub{S S':Nat->Prop}{k:Nat}{f:Qw}(I:A9f S S' w β k f)(e:Bk S w S' w){x:SV}{v:Value}(h:Ak S w β x v):Ak S' w β (x.sub k f) v:=by
 induction h with
 |undef v=>exact .undef v
 |d x v h=>exact .d x v (h.ext e)
 |agg cells vs E J _ L =>
  simp only[SV.sub,SV.A5p];refine .agg _ vs (by grind) ?_ ?_
  .grind [SV.sub_one]
  grind
 |tuple cells vs E _ L =>
  simp only[SV.sub,SV.A5p];refine .tuple _ vs (by grind) ?_
  grind
 |box j off b h =>
  simp only[SV.sub];split
  .subst_vars;exact I.fb off _ (.box _ off b h)
  .exact .box j off b h
 |Ah cells off b base E J O M=>exact Ak.ext (.Ah cells off b base E J O M) e (λ_ _=>rfl)
 |acc j =>
  simp only[SV.sub];split
  .subst_vars;exact I.fa _ (.acc _)
  .exact .acc j
 |Em j i off b h=>exact .Em j i off b h
 |Ek l=>exact .Ek l
 |Fs cells off b hs E J _ L =>
  simp only[SV.sub,SV.A5p];refine .Fs _ off b (e.sub b hs) ?_ (by grind) ?_
  .grind [SV.sub_one]
  grind
 |mp j b h =>
  simp only[SV.sub];split
  .subst_vars;exact I.fm _ (.mp _ b h)
  .exact .mp j b h
 |B0 f cells vs E _ L =>
  simp only[SV.sub,SV.A5p];refine .B0 f _ vs (by grind) ?_
  grind
def Mk(k:Nat)(f:Qw):SL->SL
 |[]=>[]
 |(t,x)::r=>(t,x.sub k f)::Mk k f r
def Ap.sub(k:Nat)(f:Qw):Ap->Ap
 |.cells cs=>.cells (SV.La k f cs)
 |c=>c
def Lk(k:Nat)(f:Qw):Aa->Aa
 |[]=>[]
 |(j,c)::r=>(j,c.sub k f)::Lk k f r
def C5o(k:Nat)(f:Qw):∀(sl:SL)(t:Nat),Ag (Mk k f sl) t=(Ag sl t).sub k f
 |[],t=>rfl
 |(u,x)::r,t=>by
  simp only[Mk,Ag];split
  .rfl
  .exact C5o k f r t
def Pv{k j:Nat}{f:Qw}{c:Ap} :∀{bx:Aa},(j,c)∈Lk k f bx->∃x,(j,x)∈bx/\c=x.sub k f
 |[],h=>by simp[Lk]at h
 |(i,x)::r,h=>by
  simp only[Lk,Aw,Eo]at h;rcases h with⟨J,I⟩|h
  .grind
  .obtain⟨y,E,L⟩:=Pv h;grind
def A0.B0e{c:Code}(k:Nat){bc:Ap}{f:Qw}(hk:(k,bc)∈bx)
  (hf:∀(S:Nat->Prop) (w:World) (β:Names),Df S w β (β k) bc->(∀b,(β k).base=some b->S b)->A9f S S w β k f)
  (h:A0 ro P n c Q (Mk k f sl) (Lk k f (Ca k bx))):A0 ro P n c Q sl bx:=by
 intro C S w β a hs
 let S':Nat->Prop:=λb=>S b\/(β k).base=some b
 have e:Bk S w S' w:=⟨λ_ h=>.inl h,λ_ _=>rfl⟩;have E:=hs.inv;have a2:Df S' w β (β k) bc:=(E.box k _ hk).ext e (λ_ _=>rfl) (λ_ _=>rfl);have a5:=hf S' w β a2 (λb hb=>.inr hb);have hr:A9f S' S' w β k f:=a5;have Z:∀{x:SV} {v:Value},Ak S w β x v->Ak S' w β (x.sub k f) v:=λhv=>(hv.ext e (λ_ _=>rfl)).sub hr (Bk.refl _ _);refine h C S' w β a ⟨?_,hs.size,hs.defers.ext e,λt=>by rw[C5o];exact Z (hs.slot t)⟩;exact{
  Fg:=λb hb=>.inl (E.Fg b hb)
  Ee:=λb hb=>by
   rcases hb with hb|hb
   .exact E.Ee b hb
   .exact .inr (E.B7 k _ hk b hb).2.2
  Bf:=λb hb=>by
   rcases hb with hb|hb
   .exact E.Bf b hb
   .exact(E.B7 k _ hk b hb).2.1
  kept:=E.kept
  os:=E.os
  tape:=E.tape
  output:=E.output
  size:=E.size
  box:=λj c U=>by
   obtain⟨x,I,rfl⟩:=Pv U;obtain⟨a3,I⟩:=E3.1 I;have:=E.box j x I;cases x with
   |cells cs =>obtain⟨b,ty,vs,h1,h2,h3⟩:=this;refine⟨b,ty,vs,h1,h2,?_⟩;rw[SV.A5p];refine h3.map (by simp) ?_;intro i x y v L V hv;simp only[Db,L,Eu,B4]at V;subst V;exact Z hv
   |rows sz rs=>exact Df.ext (c:=.rows sz rs) this e (λ_ _=>rfl) (λ_ _=>rfl)
   |map kvs=>exact Df.ext (c:=.map kvs) this e (λ_ _=>rfl) (λ_ _=>rfl)
   |iter kvs seen=>exact Df.ext (c:=.iter kvs seen) this e (λ_ _=>rfl) (λ_ _=>rfl)
   |ghost Y st=>exact this
  B7:=λj c U b hb=>by
   obtain⟨x,I,rfl⟩:=Pv U;obtain⟨a3,I⟩:=E3.1 I;obtain⟨h1,h2,h3⟩:=E.B7 j x I b hb;refine⟨λhs=>?_,h2,h3⟩;rcases hs with hs|hs
   .grind
   .exact a3 (E.inj j x k _ I hk b hb hs).1
  inj:=λj c j' c' U a1 b hb a6=>by
   obtain⟨x,I,rfl⟩:=Pv U;obtain⟨x',L,rfl⟩:=Pv a1;obtain⟨h1,h2⟩:=E.inj j x j' x' (E3.1 I).2 (E3.1 L).2 b hb a6
   grind
  Dh:=λb cs hv=>⟨.inl (E.Dh b cs hv).1,(E.Dh b cs hv).2⟩
  one:=λj Y st j' Y' st' U a1=>by
   obtain⟨x,I,M⟩:=Pv U;obtain⟨x',L,a0⟩:=Pv a1;have e1:x=.ghost Y st:=by cases x <;> simp only[Ap.sub,reduceCtorEq]at M;exact M.symm
   have e2:x'=.ghost Y' st':=by cases x' <;> simp only[Ap.sub,reduceCtorEq]at a0;exact a0.symm
   subst e1;subst e2;exact E.one j Y st j' Y' st' (E3.1 I).2 (E3.1 L).2
  Fm:=λj Y st U=>by
   obtain⟨x,I,M⟩:=Pv U;have a4:x=.ghost Y st:=by cases x <;> simp only[Ap.sub,reduceCtorEq]at M;exact M.symm
   subst a4;obtain⟨h1,h2,h3,h4,B,h5,h6⟩:=E.Fm j Y st (E3.1 I).2;have a7:=E.size;have hB:∀b,B b->¬S' b:=λb hb hs=>hs.elim (h6 b hb).1 ((h6 b hb).2.2.2 k _ hk);have W:∀O c',(O,c')∈Lk k f (Ca k bx)->∃y,(O,y)∈bx:=λO c' J=>by obtain⟨y,V,_⟩:=Pv J;exact⟨y,(E3.1 V).2⟩
   refine⟨h1,h2,h3,λO c' J=>(W O c' J).elim λy V=>h4 O y V,B,h2.S9 st B S w _ w h5 ⟨λ_ h=>.inl h,λb hb=>hb.imp id λhb=>by grind,λb hb=>?_,hB,λ_ _=>rfl,rfl,rfl,rfl,Bi _⟩,
    λb hb=>⟨hB b hb,(h6 b hb).2.1,(h6 b hb).2.2.1,λO c' J=>(W O c' J).elim λy V=>(h6 b hb).2.2.2 O y V⟩⟩
   rcases hb with hb|hb
   .exact E.Bf b hb
   .exact(E.B7 k _ hk b hb).2.1
  fix:=E.fix }
def A0.Jq{c:Code}(k:Nat){sz:Nat}{rs:List (List D)}(L:A7 bx k=some (.rows sz rs))
  (h:A0 ro P n c Q (Mk k ⟨λoff=>.box k off,.d (.slice rs),.mp k⟩ sl) (Lk k ⟨λoff=>.box k off,.d (.slice rs),.mp k⟩ (Ca k bx))):A0 ro P n c Q sl bx :=
 A0.B0e k (F8 L) (λS w β J I=>⟨λoff v E=>E,λv E=>by cases E;exact .d _ _ (J.B2y I),λv E=>E,λ_=>rfl,rfl,rfl⟩) h
def A0.zz{c:Code}(k:Nat){cs:List SV}{ds:List D}(W:A7 bx k=some (.cells cs))(J:U6 cs=some ds)
  (h:A0 ro P n c Q (Mk k ⟨λoff=>.Ah ds off,.acc k,.mp k⟩ sl) (Lk k ⟨λoff=>.Ah ds off,.acc k,.mp k⟩ (Ca k bx))):A0 ro P n c Q sl bx:=by
 refine A0.B0e k (F8 W) (λS w β V hS=>⟨λoff v E=>?_,λv E=>E,λv E=>E,λ_=>rfl,rfl,rfl⟩) h;obtain⟨b,ty,vs,L,O,M⟩:=V;obtain⟨q1,U,Z⟩:=B7x cs ds vs J M;have hl:=M.1;cases E with
 |box _ _ b' I =>
  rw[L]at I;cases I;have:=Ak.Ah (S:=S) (w:=w) (β:=β) ds off b 0 (hS b L) U (λj hj=>⟨vs[j]'(by omega),by rw[cells_of_row O,Nd];simp⟩)
   (λj d v J E=>Z j d v J (by rw[cells_of_row O,Nd]at E;exact E))
  grind
def A0.F3w{c:Code}(k:Nat){cs:List SV}(W:A7 bx k=some (.cells cs))(U:cs.all SV.one=true)
  (h:A0 ro P n c Q (Mk k ⟨λoff=>.Fs cs off,.acc k,.mp k⟩ sl) (Lk k ⟨λoff=>.Fs cs off,.acc k,.mp k⟩ (Ca k bx))):A0 ro P n c Q sl bx:=by
 refine A0.B0e k (F8 W) (λS w β V Z=>⟨λoff v E=>?_,λv E=>E,λv E=>E,λ_=>rfl,rfl,rfl⟩) h;obtain⟨b,ty,vs,L,O,M⟩:=V;have hl:=M.1;cases E with
 |box _ _ b' I =>
  rw[L]at I;cases I;exact .Fs cs off b (Z b L) (λc J=>Dr.1 U c J) (λj hj=>⟨vs[j]'(by omega),by rw[cells_of_row O];simp⟩)
   (λj c v J E=>M.2 j c v J (by grind [cells_of_row]))
def A0.C8f{c:Code}(k:Nat){kvs:List (D × D)}(J:A7 bx k=some (.map kvs))
  (h:A0 ro P n c Q (Mk k ⟨λoff=>.box k off,.acc k,.d (.map kvs)⟩ sl) (Lk k ⟨λoff=>.box k off,.acc k,.d (.map kvs)⟩ (Ca k bx))):A0 ro P n c Q sl bx:=by
 refine A0.B0e k (F8 J) (λS w β V hS=>⟨λoff v L=>L,λv L=>L,λv L=>?_,λ_=>rfl,rfl,rfl⟩) h;obtain⟨b,es,E,U,Z,W,O⟩:=V;cases L with
 |mp _ b' I =>rw[U]at I;cases I;exact .d _ _ (.map _ b es E (hS b U) Z W (λi kv e J M=>(O i kv e J M).1) (λi kv e J M=>(O i kv e J M).2))
def A0.pp{c:Code}(k sz t:Nat)(L:Ag sl t=.d .nil)(h:A0 ro P n c Q ((t,.acc k)::Wq k sl) ((k,.rows sz [])::Gw k (Ca k bx)))(I:k<=999999:=by decide):A0 ro P n c Q sl bx:=by
 intro C S w β a hs;obtain⟨J,M⟩:=hs.inv.W1 (k:=k) (w':=w) (c:=.rows sz []) { base:=none,sz:=sz } I (by simp) (λ_ _ _=>rfl) rfl rfl rfl (Bi _) (λ_=>C1k);refine h C S w _ a ⟨J,hs.size,hs.defers,?_⟩;intro u;simp only[Ag];split
 .rename_i O;subst O;have E:=hs.slot t;rw[L]at E;generalize a.tmps.getD t undef=v at E;cases E with
  |d _ _ E =>
   cases E;have:=Ak.acc (S:=S) (w:=w) (β:=Eg β k { base:=none,sz:=sz }) k
   grind [H2]
 .rw[A9r];exact(hs.slot u).Sz M
end Go.Abs
namespace Go.Abs
open Go
variable {P:Program} {o:Oper} {ρ:Hb} {bx:Aa}
def D.lit:D->Lit
 |.str s=>.string s
 |.int k n=>.int k n
 |.bool b=>.bool b
 |_=>.nil
def D.flatK:D->Bool
 |.str _| .int _ _| .bool _=>true
 |_=>false
def D.lits:D->List Lit
 |.agg cs=>cs.map D.lit
 |d=>[d.lit]
def D.kv:D->Value
 |.agg cs=>.agg ⟨cs.map λc=>c.lit.value⟩
 |d=>d.lit.value
def D.isKey:D->Bool
 |.agg cs=>cs.all D.flatK
 |d=>d.flatK
variable {S:Nat->Prop} {w:World}
def C0.F1s{d:D}{v:Value}(h:C0 S w d v)(E:d.flatK=true):v=d.lit.value:=by cases h <;> simp[D.flatK]at E <;> rfl
theorem C0.kv{d:D}{v:Value}(h:C0 S w d v)(E:d.isKey=true):v=d.kv:=by
 cases h with
 |agg cells vs O U L =>
  simp only[D.kv,Value.agg.injEq];apply J6;simp only;apply M3;intro j;rw[Db];cases I:cells[j]? with
  |none =>grind
  |some c =>have M:=(B5.1 I).1;have J:vs[j]?=some (vs[j]'(by omega)):=B8 (by omega);rw[J];have:=L j c _ I J;simp only[D.isKey,Dr]at E;rw[this.F1s (E c (Br I))];rfl
 |_=>first|rfl| (simp[D.isKey,D.flatK]at E;done)|rfl
structure Et(P:Program)(kt:TypeId)(d:D):Prop where
 isKey:d.isKey=true
 formed:d.kv.formed P kt=true
 lits:P.keyLits (P.types.size+1) kt d.kv.cells.toList=some d.lits
def P6(P:Program)(E:TypeId):Bool:=P.keyTypeAt 100 E && match P.underlying E with
 |some .string|some (.struct _)|some (.array _ _)=>true
 |_=>false
def Et.same{M:TypeId}{d E:D}(h:Et P M d)(L:Et P M E)(e:d.lits=E.lits):d.kv=E.kv:=by
 have f1:=h.formed;have f2:=L.formed;have m:∀a b:List D,a.map D.lit=b.map D.lit->(a.map λc=>c.lit.value)=b.map λc=>c.lit.value:=λa b I=>by
  have:=Gk (List.map Lit.value) I
  grind [Function.comp_def]
 have O:=h.isKey;have J:=L.isKey;cases d with
 |agg cs =>
  cases E with
  |agg cs'=>grind [D.lits,D.kv]
  |str _|int _ _|bool _ =>grind [D.kv,D.lit,Lit.value,Value.formed]
  |_=>simp[D.isKey,D.flatK]at J
 |str _|int _ _|bool _ =>
  cases E with
  |agg cs' =>grind [D.kv,D.lit,Lit.value,Value.formed]
  |str _|int _ _|bool _=>simp only[D.lits,Sj,Sh]at e;simp only[D.kv];rw[e]
  |_=>simp[D.isKey,D.flatK]at J
 |_=>simp[D.isKey,D.flatK]at O
def H0a(l:Lit)(h:l≠.nil):Instr.sameBits 9999 l.value l.value=true:=by cases l <;> simp only[Lit.value,Instr.sameBits,ne_eq,Au3,beq_self_eq_true,Bool.and_self]at* <;> grind [MapKept.bytes_beq]
def F0x{d:D}(h:d.isKey=true):Instr.sameBits 10000 d.kv d.kv=true:=by
 cases d with
 |agg cs =>
  simp only[D.kv,Instr.sameBits,beq_self_eq_true,Cr];simp only[D.isKey,Dr]at h;rw[Dr];intro p hp;obtain⟨i,L⟩:=N4.1 hp;rw[Am5]at L;obtain⟨I,J⟩:=L;have M:p.1=p.2:=by rw[I]at J;exact Pb J
  obtain⟨c,O,E⟩:=B1.1 (Br I);rw[<-M,<-E];refine H0a _ ?_;have:=h c O;cases c <;> simp[D.flatK]at this <;> simp[D.lit]
 |_=>first|rfl|grind [D.kv,D.lit,Lit.value,Instr.sameBits]|exact(Au4 _ _).2 rfl
instance litDec:DecidableEq Lit:=by intro a b;cases a <;> cases b <;> simp only[Lit.bool.injEq,Lit.int.injEq,Lit.float.injEq,Lit.string.injEq,reduceCtorEq] <;> infer_instance
def G1(l:List Lit):List (D × D)->Nat->Option (Nat × D)
 |[],_=>none
 |kv::r,i=>if l=kv.1.lits then some (i,kv.2)else G1 l r (i+1)
def Rj(k v:D)(kvs:List (D × D)):List (D × D):=match G1 k.lits kvs 0 with
 |some (j,_)=>kvs.set j (k,v)
 |none=>kvs++[(k,v)]
def G3v{E:TypeId}(I:P6 P E=true)(w:World){a b:D}(J:Et P E a)(L:Et P E b) :
  ∃r:Bool,(Op.equal E a.kv b.kv).run P w=.ok r w/\(r=true↔a.lits=b.lits):=by
 unfold P6 at I;simp only[Bc]at I;exact run_equalIn_deep 9900 100 E I.1 w _ _ a.kv b.kv a.lits b.lits J.formed L.formed J.lits L.lits
def E7c{E:TypeId}(I:P6 P E=true)(em:Bool)(w:World){a:D}(J:Et P E a):(Instr.checkKey em 10000 E a.kv).run P w=.ok () w:=by unfold P6 at I;simp only[Bc]at I;exact run_checkKey_deep em 9900 100 E I.1 w _ a.kv a.lits J.formed J.lits
def Found(es:List MapEntry)(i:Nat):Option (Nat × D)->Option (Nat × Value)->List (D × D)->Prop
 |none,r,_=>r=none
 |some (j,d),r,kvs=>∃e k,i<=j/\es[j - i]?=some e/\kvs[j - i]?=some (k,d)/\r=some (j,e.val)
def D1k{L:TypeId}(V:P6 P L=true)(w:World){a:D}(O:Et P L a):∀(es:List MapEntry)(kvs:List (D × D))(i:Nat),es.length=kvs.length ->
  (∀(j:Nat) (e:MapEntry) (kv:D × D),es[j]?=some e->kvs[j]?=some kv->e.key=kv.1.kv/\Et P L kv.1) ->
  ∃r,(Instr.findAsking L a.kv es i).run P w=.ok r w/\Found es i (G1 a.lits kvs i) r kvs
 |[],[],i,_,_=>⟨none,by rfl,rfl⟩
 |[],_::_,_,h,_=>by grind
 |_::_,[],_,h,_=>by grind
 |e::es,kv::kvs,i,h,E=>by
  obtain⟨U,h2⟩:=E 0 e kv rfl rfl;obtain⟨r,hr,I⟩:=G3v V w O h2;simp only[G1];by_cases J:a.lits=kv.1.lits
  .rw[A9 J];have:r=true:=I.2 J;subst this;exact⟨some (i,e.val),by simp[Instr.findAsking,U,hr],e,kv.1,by omega,by simp,by simp,rfl⟩
  .rw[A6 J];have:r=false:=by cases r with|false=>rfl|true=>grind
   subst this;obtain⟨r,g1,M⟩:=D1k V w O es kvs (i+1) (by grind) (λj e kv J W=>E (j+1) e kv (by grind) (by grind));refine⟨r,by simp[Instr.findAsking,U,hr,g1],?_⟩;generalize G1 a.lits kvs (i+1)=q at*;cases q with
   |none=>exact M
   |some jd =>
    obtain⟨j,d⟩:=jd;obtain⟨e',k',q1,q2,q3,Z⟩:=M;refine⟨e',k',by omega,?_,?_,Z⟩
    .grind
    grind
def D2b{J:TypeId}(hs:P.underlying J=some .string){a:D}(U:Et P J a):∀(es:List MapEntry)(kvs:List (D × D))(i:Nat),es.length=kvs.length ->
  (∀(j:Nat) (e:MapEntry) (kv:D × D),es[j]?=some e->kvs[j]?=some kv->e.key=kv.1.kv/\Et P J kv.1) ->
  ∃r,Instr.findNow .string a.kv es i=some r/\Found es i (G1 a.lits kvs i) r kvs
 |[],[],i,_,_=>⟨none,by rfl,rfl⟩
 |[],_::_,_,h,_=>by grind
 |_::_,[],_,h,_=>by grind
 |e::es,kv::kvs,i,h,E=>by
  obtain⟨W,h2⟩:=E 0 e kv rfl rfl;have str:∀{d:D},Et P J d->∃s,d=.str s:=λ{d} L=>by
   have f:=L.formed;have l:=L.lits;have k:=L.isKey;cases d with
   |str s=>simp
   |agg cs=>grind [D.kv,Value.formed]
   |int k n=>simp[D.kv,D.lit,Lit.value,Program.keyLits,hs,Value.cells]at l
   |bool b=>simp[D.kv,D.lit,Lit.value,Program.keyLits,hs,Value.cells]at l
   |_=>simp[D.isKey,D.flatK]at k
  obtain⟨s,rfl⟩:=str U;obtain⟨k,d⟩:=kv;obtain⟨t,rfl⟩:=str h2;simp only[G1];have I:Instr.sameNow .string (D.str s).kv e.key=some (decide (s=t)):=by
   rw[W];simp only[D.kv,D.lit,Lit.value,Instr.sameNow,B4];rw[At6];rw[Au4];simp only[ByteArray.mk.injEq,Da];constructor
   .simp
   .simp
  by_cases M:s=t
  .subst M;rw[A9 rfl];exact⟨some (i,e.val),by simp[Instr.findNow,I],e,_,by omega,by simp,by simp;rfl,rfl⟩
  .rw[A6 (by simpa [D.lits,D.lit]using M)];obtain⟨r,g1,O⟩:=D2b hs U es kvs (i+1) (by grind) (λj e kv M V=>E (j+1) e kv (by grind) (by grind));refine⟨r,by grind [Instr.findNow],?_⟩;generalize G1 (D.str s).lits kvs (i+1)=q at*;cases q with
   |none=>exact O
   |some jd =>
    obtain⟨j,d⟩:=jd;obtain⟨e',k',q1,q2,q3,Z⟩:=O;refine⟨e',k',by omega,?_,?_,Z⟩
    .grind
    grind
def E2j{J:TypeId}(M:P6 P J=true)(w:World){a:D}(L:Et P J a)(es:List MapEntry)(kvs:List (D × D))(O:es.length=kvs.length)
  (E:∀(j:Nat) (e:MapEntry) (kv:D × D),es[j]?=some e->kvs[j]?=some kv->e.key=kv.1.kv/\Et P J kv.1) :
  ∃r,(Instr.findKey J a.kv es).run P w=.ok r w/\Found es 0 (G1 a.lits kvs 0) r kvs:=by
 by_cases hs:P.underlying J=some .string
 .obtain⟨r,U,V⟩:=D2b hs L es kvs 0 O E
  grind [MapKept.run_findKey]
 .have W:(match P.underlying J with|some (.array _ _)|some (.struct _)=>true|_=>false)=true:=by
   have I:=M;unfold P6 at I;simp only[Bc]at I;have:=I.2
   grind
  obtain⟨r,U,V⟩:=D1k M w L es kvs 0 O E
  grind [run_findKey_eq]
def Q7:SV->Option D
 |.d x=>some x
 |.agg cs=>(U6 cs).map .agg
 |_=>none
def Iq:D->SV
 |.agg cs=>.agg (cs.map .d)
 |d=>.d d
variable {β:Names}
def C7z{x:SV}{d:D}{v:Value}(h:Ak S w β x v)(E:Q7 x=some d):C0 S w d v:=by
 cases h with
 |d x v h=>grind [Q7]
 |agg cells vs L V M =>simp only[Q7,N9]at E;obtain⟨ds,I,rfl⟩:=E;obtain⟨U,J,O⟩:=B7x cells ds vs I ⟨L,M⟩;exact .agg ds vs (by omega) J O
 |_=>simp[Q7]at E
def B6h{d:D}{v:Value}(h:C0 S w d v):Ak S w β (Iq d) v:=by
 cases h with
 |agg cells vs O L J =>
  refine .agg _ vs (by grind) ?_ ?_
  .intro c E;obtain⟨d,I,rfl⟩:=B1.1 E;exact L d I
  .intro j c v E M;rw[Db,N9]at E;obtain⟨d,I,rfl⟩:=E;exact .d _ _ (J j d v I M)
 |int|bool|str|nil|emp|Jz|slice|ptr|Kt|map|Jt|iface|Jw|fn|Hu|cl=>exact .d _ _ (by constructor <;> omega)
def A7j(P:Program)(T:TypeId):Option SV:=match(P.info? T).bind (·.zero)with
 |some (.agg _)=>none
 |some z=>some (L2 z)
 |none=>none
def F2u{T:TypeId}{z:SV}(h:A7j P T=some z)(w:World):∃v,(zeroValue T).run P w=.ok v w/\z=L2 v:=by
 unfold A7j at h;cases E:P.info? T with
 |none=>grind
 |some i =>
  cases hz:i.zero with
  |none=>grind
  |some v =>
   simp only[E,hz,Ar6]at h;refine⟨v,by simp[zeroValue,typeInfo,E,hz],?_⟩
   grind
theorem F9a{T k:Nat}(E:k<=999999)(O:o.op=.makeMap T none):Bp P o ρ bx (.mp k) ((k,.map [])::Gw k (Ca k bx)) [k]:=by
 intro C S w β a J V;obtain⟨L,M⟩:=J.W1 (k:=k) (w':={ w with heap:=w.heap.push (.map #[] 0) }) (c:=.map []) { base:=some w.heap.size } E (by
   intro b I;cases I;exact⟨λh=>by have:=J.Bf _ h;omega,by simp,.inl (Bi _)⟩)
  (λb I _=>by grind) rfl rfl rfl (by simp) (λ_=>by refine⟨w.heap.size,#[],0,rfl,by simp,⟨rfl,by simp[A4o]⟩,?_⟩;simp)
 refine H6 ?_;unfold Oper.wp;have:(execOp a.eval o).run P w=.ok (.value (.map (some w.heap.size))) { w with heap:=w.heap.push (.map #[] 0) }:=by simp[execOp,O,Instr.makeMap,newObj];rfl
 rw[this];exact⟨_,S,_,rfl,L,M,.mp k _ (by rw[H2]),λj U=>Lo (by grind)⟩
def C9q{L:TypeId}{kvs:List (D × D)}{es:Array MapEntry}(M:es.size=kvs.length)
  (h:∀(r:Nat) (kv:D × D) (e:MapEntry),kvs[r]?=some kv->es[r]?=some e->C0 S w kv.1 e.key)(I:∀kv,kv∈kvs->Et P L kv.1) :
  ∀(j:Nat) (e:MapEntry) (kv:D × D),es.toList[j]?=some e->kvs[j]?=some kv->e.key=kv.1.kv/\Et P L kv.1:=by
 intro j e kv O E;have J:=I kv (Br E);exact⟨(h j kv e E (by grind)).kv J.isKey,J⟩
def D3t{C:Ctx}{k r:Nat}{x:Ap}{kvs:List (D × D)}(W:Inv C S w β bx)(U:(k,x)∈bx)(I:(β k).base=some r)(a0:r<w.heap.size)
  (es:Array MapEntry)(E:Nat)(O:MSz es E kvs.length)(L:∀(j:Nat) (kv:D × D) (e:MapEntry),kvs[j]?=some kv->es[j]?=some e->C0 S w kv.1 e.key/\C0 S w kv.2 e.val) :
  Inv C S { w with heap:=w.heap.setIfInBounds r (.map es E) } β ((k,.map kvs)::Ca k bx)/\Bk S w S { w with heap:=w.heap.setIfInBounds r (.map es E) }:=by
 refine W.A5b U I (λb' J=>by grind) rfl rfl rfl (by simp) ?_;have Z:Bk S w S { w with heap:=w.heap.setIfInBounds r (.map es E) } :=
  ⟨λ_ h=>h,λb' J=>by
   have:b'≠r:=λM=>(W.B7 k _ U r I).1 (M ▸ J)
   grind⟩
 exact⟨r,es,E,I,by grind,O,λj kv e V M=>⟨(L j kv e V M).1.ext Z,(L j kv e V M).2.ext Z⟩⟩
def E6d(l:List Lit):∀(kvs:List (D × D))(i j:Nat)(d:D),G1 l kvs i=some (j,d)->∃k,i<=j/\kvs[j - i]?=some (k,d)/\l=k.lits
 |[],_,_,_,h=>by simp[G1]at h
 |kv::r,i,j,d,h=>by
  simp only[G1]at h;split at h
  .grind
  .obtain⟨k,I,E,J⟩:=E6d l r (i+1) j d h
   grind
def G1w{T kt et k:Nat}{m x y:Operand}(ho:o.op=.mapUpdate T m x y){kvs:List (D × D)}{kd vd:D}(hm:ρ m=.mp k)(hb:(k,Ap.map kvs)∈bx)
  (hT:P.underlying T=some (.map kt et))(a2:P6 P kt=true)(hx:Q7 (ρ x)=some kd)(M:Et P kt kd)(O:∀kv,kv∈kvs->Et P kt kv.1)(hy:Q7 (ρ y)=some vd) :
  Bp P o ρ bx (.tuple []) ((k,.map (Rj kd vd kvs))::Ca k bx) []:=by
 intro C S w β a hi ha;have W:=ha m (mC ho);rw[hm]at W;have a8:=C7z (ha x (mC ho)) hx;have a9:=C7z (ha y (mC ho)) hy;have a0:=a8.kv M.isKey;obtain⟨r,es,E,I,hh,Z,a4⟩:=hi.box k _ hb;have a3:=Z.1;generalize a5:a.eval m=mv at W;cases W with
 |mp _ b J =>
  rw[I]at J;cases J;obtain⟨q,hq,hf⟩:=E2j a2 w M es.toList kvs (by omega) (C9q a3 (λr kv e U h2=>(a4 r kv e U h2).1) O);have L:=E7c a2 false w M;have a6:r<w.heap.size:=(hi.B7 k _ hb r I).2.1;rw[<-a0]at hq L;unfold Rj;cases a1:G1 kd.lits kvs 0 with
  |none =>
   rw[a1]at hf;simp only[Found]at hf;subst hf;obtain⟨U,h2⟩:=D3t (kvs:=kvs++[(kd,vd)]) hi hb I a6 (es.push { key:=a.eval x,val:=a.eval y,born:=E }) (E+1) ⟨by grind,Z.2.push _ _⟩ (by grind)
   refine H6 ?_;unfold Oper.wp;rw[show(execOp a.eval o).run P w=.ok .skip { w with heap:=w.heap.setIfInBounds r (.map (es.push { key:=a.eval x,val:=a.eval y,born:=E }) (E+1)) } by simp[execOp,ho,a5,Instr.mapUpdate,Xt hT,Ak8 hh,L,hq,MapKept.run_setObj_map _ hh]]
   exact⟨undef,S,β,rfl,U,h2,.tuple [] [] rfl (by simp),λ_ _=>rfl⟩
  |some jd =>
   obtain⟨j,d⟩:=jd;rw[a1]at hf;obtain⟨e,k',_,g1,g2,rfl⟩:=hf;simp only[As6,Vg]at g1 g2;have a7:e.key=a.eval x:=by obtain⟨p1,p2⟩:=C9q a3 (λr kv e U h2=>(a4 r kv e U h2).1) O j e (k',d) (by grind) g2;obtain⟨k2,_,q2,q3⟩:=E6d _ _ _ _ _ a1;simp only[As6]at q2;rw[g2]at q2;simp only[B4,Eo,Sh]at q2;subst q2;rw[p1,a0];exact(M.same p2 q3).symm
   have V:(Instr.keyThatStays (a.eval x) (a.eval x)).run P w=.ok (a.eval x) w:=by rw[a0];simp[Instr.keyThatStays,F0x M.isKey]
   have hj:j<es.size:=(Vd.1 g1).1;obtain⟨U,h2⟩:=D3t (kvs:=kvs.set j (kd,vd)) hi hb I a6 (es.modify j λe=>{ e with key:=a.eval x,val:=a.eval y }) E ⟨by grind,Z.2.modify _ _ (λ_=>rfl)⟩ (by grind)
   refine H6 ?_;unfold Oper.wp;rw[show(execOp a.eval o).run P w=.ok .skip { w with heap:=w.heap.setIfInBounds r (.map (es.modify j λe=>{ e with key:=a.eval x,val:=a.eval y }) E) } by simp[execOp,ho,a5,Instr.mapUpdate,Xt hT,Ak8 hh,L,hq,g1,a7,V,MapKept.run_setObj_map _ hh]]
   exact⟨undef,S,β,rfl,U,h2,.tuple [] [] rfl (by simp),λ_ _=>rfl⟩
inductive IsMap(bx:Aa):SV->List (D × D)->Prop where
 |mp (k:Nat) (kvs:List (D × D)):(k,Ap.map kvs)∈bx->IsMap bx (.mp k) kvs
 |d (kvs:List (D × D)):IsMap bx (.d (.map kvs)) kvs
def IsMap.rep{C:Ctx}{x:SV}{kvs:List (D × D)}{v:Value}(h:IsMap bx x kvs)(hi:Inv C S w β bx)(W:Ak S w β x v) :
  ∃r es E,v=.map (some r)/\w.heap[r]?=some (.map es E)/\es.size=kvs.length/\∀(j:Nat) (kv:D × D) (e:MapEntry),kvs[j]?=some kv->es[j]?=some e->C0 S w kv.1 e.key/\C0 S w kv.2 e.val:=by
 cases h with
 |mp k kvs hb =>
  obtain⟨r,es,E,L,O,J,M⟩:=hi.box k _ hb;cases W with
  |mp _ b I =>rw[L]at I;cases I;exact⟨r,es,E,rfl,O,J.1,M⟩
 |d kvs =>
  cases W with
  |d _ _ h =>
   cases h with
   |map _ r es E hS O J Z h2=>exact⟨r,es,E,rfl,O,J.1,λj kv e U V=>⟨Z j kv e U V,h2 j kv e U V⟩⟩
def D7d{T V et:Nat}{x:Operand}(I:o.op=.call { callee:=.builtin .len,args:=#[x],argTypes:=#[T] }){kvs:List (D × D)}(L:IsMap bx (ρ x) kvs)(hT:P.underlying T=some (.map V et)) :
  Bp P o ρ bx (.d (.int .i64 kvs.length)) bx [] :=
 .Eb λ_ _ w β a O J=>by obtain⟨r,es,E,U,M,hz,_⟩:=L.rep O (J x (mC I));exact⟨.int .i64 kvs.length,by simp[execOp,I,resolve,invoke,builtin,U,Builtin.len_,Xt hT,Ak8 M,hz,goInt],.int _ _⟩
def Qg(E:D)(kvs:List (D × D))(z:SV):SV:=match G1 E.lits kvs 0 with
 |some (_,d)=>Iq d
 |none=>z
def A5k(ok:Bool)(E:D)(kvs:List (D × D))(z:SV):SV:=match ok with
 |true=>.tuple [Qg E kvs z,.d (.bool (G1 E.lits kvs 0).isSome)]
 |false=>Qg E kvs z
def G9x{T kt et:Nat}{m x:Operand}{ok:Bool}(O:o.op=.lookup T m x ok){kvs:List (D × D)}{kd:D}{z:SV}(hm:IsMap bx (ρ m) kvs)
  (hT:P.underlying T=some (.map kt et))(W:P6 P kt=true)(hx:Q7 (ρ x)=some kd)(M:Et P kt kd)(Z:∀kv,kv∈kvs->Et P kt kv.1)(hz:A7j P et=some z) :
  Bp P o ρ bx (A5k ok kd kvs z) bx []:=by
 refine Bp.Eb λC S w β a hi ha=>?_;have a5:=C7z (ha x (mC O)) hx;obtain⟨r,es,a6,I,hh,a2,a1⟩:=hm.rep hi (ha m (mC O));have a4:=a5.kv M.isKey;obtain⟨q,U,hf⟩:=E2j W w M es.toList kvs (by omega) (C9q a2 (λr kv e h1 h2=>(a1 r kv e h1 h2).1) Z);have E:=E7c W es.isEmpty w M;rw[<-a4]at U E;obtain⟨zv,a0,a3⟩:=F2u hz w;cases J:G1 kd.lits kvs 0 with
 |none =>
  rw[J]at hf;simp only[Found]at hf;subst hf;have L:Ak S w β z zv:=by rw[a3];exact A7g S w β zv
  cases ok with
  |true =>refine⟨.tuple #[zv,.bool false],by simp[execOp,O,I,Instr.lookup,Xt hT,Ak8 hh,E,U,a0],?_⟩;simp only[A5k,Qg,J,Ky];exact .tuple _ _ rfl (Bv.cons L (Bv.cons (.d _ _ (.bool _)) .nil)).2
  |false =>
   refine⟨zv,by simp[execOp,O,I,Instr.lookup,Xt hT,Ak8 hh,E,U,a0],?_⟩
   grind [A5k,Qg]
 |some jd =>
  obtain⟨j,d⟩:=jd;rw[J]at hf;obtain⟨e,k',_,g1,g2,rfl⟩:=hf;simp only[As6,Vg]at g1 g2;have V:Ak S w β (Iq d) e.val:=B6h (a1 j (k',d) e g2 g1).2;cases ok with
  |true =>refine⟨.tuple #[e.val,.bool true],by simp[execOp,O,I,Instr.lookup,Xt hT,Ak8 hh,E,U],?_⟩;simp only[A5k,Qg,J,An2];exact .tuple _ _ rfl (Bv.cons V (Bv.cons (.d _ _ (.bool _)) .nil)).2
  |false =>
   refine⟨e.val,by simp[execOp,O,I,Instr.lookup,Xt hT,Ak8 hh,E,U],?_⟩
   grind [A5k,Qg]
end Go.Abs
namespace Go.Abs
open Go
variable {P:Program} {o:Oper} {ρ:Hb} {bx:Aa}
def F7d{f:FuncId}{caps:Array Operand}(E:o.op=.makeFunc (.func f) #[] caps):Bp P o ρ bx (.B0 f (caps.toList.map ρ)) bx []:=by
 refine Bp.Eb λC S w β a L I=>?_;refine⟨.func (.func f) #[] (caps.map a.eval),by simp[execOp,E,Instr.makeFunc],?_⟩;have:=Bv.U1 (ρ:=ρ) (S:=S) (w:=w) (β:=β) (a:=a) caps.toList λx M=>I x (mo E (by grind [Op.operands]));have J:caps.map a.eval=⟨caps.toList.map a.eval⟩:=by apply J6;simp
 rw[J];exact .B0 f _ _ this.1 this.2
theorem G0u{T e sz k:Nat}{x y:Operand}(Z:o.op=.slice T x (some y) none none)(a0:k<=999999){rs:List (List D)}{ik:IntKind}{i:Int}(hx:ρ x=.acc k)(O:(k,Ap.rows sz rs)∈bx)
  (hy:ρ y=.d (.int ik i))(hT:E4 P T=some e)(hs:Bm P e=some sz)(h0:0<=i)(h1:i<=rs.length) :
  Bp P o ρ bx (.acc k) ((k,.rows sz (rs.drop i.toNat))::Gw k (Ca k bx)) [k]:=by
 intro C S w β a U ha;have I:=ha x (mC Z);rw[hx]at I;have hv:a.eval x=Ij (β k):=by generalize a.eval x=v at I;cases I;rfl
 have M:=ha y (mC Z);rw[hy]at M;have a1:a.eval y=.int ik i:=M.J4;obtain⟨q1,q2,q3,q4,q5,q6,q7⟩:=U.box k _ O
 let V:BI:={ β k with off:=if(β k).cap=i.toNat then(β k).off else(β k).off+i.toNat,len:=(β k).len - i.toNat,cap:=(β k).cap - i.toNat }
 have a3:i.toNat<=(β k).len:=by omega
 obtain⟨h1,h2⟩:=U.W1 (k:=k) (w':=w) (c:=.rows sz (rs.drop i.toNat)) V a0
  (λb E=>⟨(U.B7 k _ O b E).1,(U.B7 k _ O b E).2.1,.inr ⟨_,O,E⟩⟩) (λ_ _ _=>rfl) rfl rfl rfl (Bi _) (λ_=>by
   refine⟨q1,by grind,by grind,by grind,λrow h=>q5 row (X3 h),λrow h=>q6 row (X3 h),?_⟩;show match(β k).base with|none=>_|some b=>_
   cases J:(β k).base with
   |none=>grind
   |some b =>
    rw[J]at q7;obtain⟨ty,vs,g1,g2,g3⟩:=q7
    grind)
 refine H6 ?_;unfold Oper.wp;have L:(execOp a.eval o).run P w=.ok (.value (Ij V)) w:=by
  have W:=A3p hT w;have a2:(β k).cap=i.toNat->(β k).len=i.toNat:=λh=>by omega
  simp only[execOp,Z,Instr.sliceAt,hv,a1,Ij,H5,W,Gz,Instr.slice,Instr.sliceBounds,Instr.sliceBound,Kx,Eu,Ap8,asIntOf,Q6 hs];rw[A9 ⟨h0,by omega⟩];simp only[Kx,Gz,Result.ok.injEq,Next.value.injEq,Value.slice.injEq,Sh,V];split
  .rfl
  .cases (β k).base with
   |none=>rfl
   |some b=>grind [Addr.add]
 rw[L];refine⟨_,S,_,rfl,h1,h2,?_,λj hj=>Lo (by grind)⟩;have:=Ak.acc (S:=S) (w:=w) (β:=Eg β k V) k;rw[H2]at this;exact this
variable {β:Names}
def Inv.B1y{C:Ctx}{S S':Nat->Prop}{w w':World}{g:Nat}{Y:Iw}{st st':Option Nat}(L:Inv C S w β bx)(hb:(g,Ap.ghost Y st)∈bx){B B':Nat->Prop}
  (hB:∀b,B b->¬S b/\b<w.heap.size/\(C.pre b\/C.w0.heap.size<=b)/\∀W c',(W,c')∈bx->(β W).base≠some b)
  (t:Zv B S w B' S' w')(hF:C.G.F st' B' S' w'):Inv C S' w' β ((g,.ghost Y st')::Ca g bx)/\Bk S w S' w':=by
 refine⟨?_,t.ext⟩;obtain⟨e1,e2,e3,e4,_⟩:=L.Fm g Y st hb;have a6:=L.size;have a4:=t.size;have a7:∀b,(β g).base≠some b:=λb h=>by have:(β g).base=none:=L.box g _ hb;grind
 have I:∀k c,(k,c)∈(g,Ap.ghost Y st')::Ca g bx->(k=g/\c=.ghost Y st')\/(k≠g/\(k,c)∈bx):=λk c J=>by grind [E3]
 have a0:∀b,B b\/w.heap.size<=b->C.pre b\/C.w0.heap.size<=b:=λb E=>E.elim (λh=>(hB b h).2.2.1) λh=>.inr (by omega);have U:∀k c,(k,c)∈bx->∀b,(β k).base=some b->¬B b/\b<w.heap.size/\w'.heap[b]?=w.heap[b]?:=λk c J b E=>by have O:¬B b:=λh=>(hB b h).2.2.2 k c J E;have V:=(L.B7 k c J b E).2.1;exact⟨O,V,t.kept b V O⟩
 exact{
  Fg:=λb E=>t.ext.sub b (L.Fg b E)
  Ee:=λb E=>by
   rcases t.new b E with h|h
   .exact L.Ee b h
   grind
  Bf:=t.lt
  kept:=λb E hp=>by
   rw[<-L.kept b E hp];refine t.kept b (by omega) λh=>?_
   grind
  os:=t.os.trans L.os
  tape:=t.tape.trans L.tape
  output:=t.output.trans L.output
  size:=by omega
  box:=λk c J=>by
   rcases I k c J with⟨rfl,rfl⟩|⟨_,J⟩
   .exact L.box _ _ hb
   .exact(L.box k c J).ext t.ext (λb E=>(U k c J b E).2.2) (λ_ _=>rfl)
  B7:=λk c J b E=>by
   rcases I k c J with⟨rfl,rfl⟩|⟨_,J⟩
   .grind
   .obtain⟨p1,p2,p3⟩:=L.B7 k c J b E;refine⟨λhs=>?_,by omega,p3⟩;rcases t.new b hs with h|h|h
    .grind
    .grind
    .omega
  inj:=λk c W c' J M b O V=>by
   rcases I k c J with⟨rfl,rfl⟩|⟨_,J⟩
   .grind
   .rcases I W c' M with⟨rfl,rfl⟩|⟨_,M⟩
    .grind
    .exact L.inj k c W c' J M b O V
  fix:=L.fix
  Dh:=λb cs hv=>by obtain⟨O,ty,fr,V⟩:=L.Dh b cs hv;exact⟨t.ext.sub b O,ty,fr,(t.ext.same b O).trans V⟩
  one:=λk1 Y1 s1 k2 Y2 s2 O V=>by
   rcases I k1 _ O with⟨rfl,a5⟩|⟨a1,O⟩
   .rcases I k2 _ V with⟨rfl,a8⟩|⟨a2,V⟩
    .grind
    .exact absurd (L.one _ _ _ _ _ _ V hb).1 a2
   .exact absurd (L.one _ _ _ _ _ _ O hb).1 a1
  Fm:=λk Y' Z J=>by
   have hY:Y'=Y/\Z=st':=by
    rcases I k _ J with⟨_,he⟩|⟨a3,J⟩
    .grind
    .exact absurd (L.one k Y' Z g Y st J hb).1 a3
   obtain⟨rfl,rfl⟩:=hY;refine⟨e1,e2,e3,λW c' M b E=>?_,B',hF,λb E=>⟨(t.own b E).1,(t.own b E).2.1,a0 b (t.own b E).2.2,λW c' M he=>?_⟩⟩
   .grind
   .rcases I W c' M with⟨rfl,rfl⟩|⟨_,M⟩
    .grind
    .obtain⟨p1,p2,_⟩:=U W c' M b he;rcases(t.own b E).2.2 with h|h
     .grind
     .omega }
def Ap.closed:Ap->Bool
 |.cells cs=>SV.Mc cs
 |.ghost _ _=>false
 |_=>true
def A8g(k j:Nat):SV->Option SV
 |.mp i=>if i=k then some (.mp j)else none
 |.box i off=>if i=k then some (.box j off)else none
 |.acc i=>if i=k then some (.acc j)else none
 |x=>coerce [] x
def A0a(k j:Nat):List SV->Option (List SV)
 |[]=>some []
 |c::cs=>match A8g k j c with
  |some x=>match A0a k j cs with
   |some l=>some (x::l)
   |none=>none
  |none=>none
variable {S:Nat->Prop} {w:World}
def D8x{C:Ctx}{k j:Nat}(O:Inv C S w β []):∀{cs l:List SV} {vs:List Value},A0a k j cs=some l->Bv S w β cs vs->Bv S w (Eg β j (β k)) l vs
 |[],l,vs,h,I=>by simp only[A0a,B4]at h;subst h;exact⟨I.1,by simp⟩
 |c::cs,l,vs,h,I=>by
  simp only[A0a]at h;cases E:A8g k j c with
  |none=>grind
  |some x =>
   cases U:A0a k j cs with
   |none=>grind
   |some m =>
    simp only[E,U,B4]at h;subst h;cases vs with
    |nil=>have:=I.1;grind
    |cons v vs =>
     have q:=D8x O U ⟨by have:=I.1;simpa using this,λi c v E W=>I.2 (i+1) c v (by grind) (by grind)⟩;have J:=I.2 0 c v rfl rfl;refine .cons ?_ q;unfold A8g at E;split at E
     .split at E
      .simp only[B4]at E;subst E;subst_vars;cases J with|mp _ b L=>exact .mp j b (by rw[H2];exact L)
      grind
     .split at E
      .simp only[B4]at E;subst E;subst_vars;cases J with|box _ _ b L=>exact .box j _ b (by rw[H2];exact L)
      grind
     .split at E
      .rename_i M;simp only[B4]at E;subst E;rw[M]at J;cases J;have:=Ak.acc (S:=S) (w:=w) (β:=Eg β j (β k)) j
       grind [H2]
      grind
     .obtain⟨V,Z⟩:=Xm O (Bk.refl S w) (by simp) E J;exact V.closed Z
def Df.closed{β β':Names}{i:BI}{c:Ap}(h:Df S w β i c)(M:c.closed=true):Df S w β' i c:=by
 cases c with
 |rows sz rs=>exact h
 |cells cs =>obtain⟨b,ty,vs,J,L,I⟩:=h;refine⟨b,ty,vs,J,L,I.1,λj c v E O=>(I.2 j c v E O).closed (SV.B9p M j c E)⟩
 |map kvs=>exact h
 |iter kvs seen=>exact h
 |ghost Y st=>exact h
def F6u{f:FuncId}{fo:Operand}{args:Array Operand}{Cq:Array TypeId}(ho:o.op=.call { callee:=.value fo,args:=args,argTypes:=Cq }){caps O:List SV}{r:SV}{k j:Nat}{c c':Ap}
  (hf:ρ fo=.B0 f caps)(hb:(k,c)∈bx)(hj:1000000<=j)(a5:c.closed=true)(a0:c'.closed=true)
  (a3:A0a k j (args.toList.map ρ++caps)=some O)(hc:Bj P f O [(j,c)] r [(j,c')])(hr:r.closed=true):Bp P o ρ bx r ((k,c')::Ca k bx) []:=by
 have ac:c.real=true:=by cases c <;> first|rfl|simp[Ap.closed]at a5
 have aa:c'.real=true:=by cases c' <;> first|rfl|simp[Ap.closed]at a0
 intro C S w β a I ha;have a1:=(ha fo (mC ho));rw[hf]at a1;generalize a':a.eval fo=v at a1;cases a1 with
 |B0 _ _ cs h1 h2 =>
  have a6:Bv S w β (args.toList.map ρ++caps) (args.toList.map a.eval++cs):=(Bv.U1 _ λx hx=>ha x (mo ho (by grind [Op.operands,Call.operands]))).append ⟨h1,h2⟩;have a4:Inv ⟨w,S,λ_=>False,λ_ _=>False,C.G⟩ S w β []:=I.begin I.Bf (λ_ h=>h);have g1:=D8x (j:=j) a4 a3 a6;have hp:=I.B7 k c hb;have a7:Inv ⟨w,S,λi=>(β k).base=some i,λi x=>i=j/\x =β k,C.G⟩ S w (Eg β j (β k)) [(j,c)]:={
   Fg:=λ_ h=>h
   Ee:=λ_ h=>.inl h
   Bf:=I.Bf
   kept:=λ_ _ _=>rfl
   os:=rfl
   tape:=rfl
   output:=rfl
   size:=Bi _
   box:=λk' M hk'=>by simp only[Aw,Eo,Ej,Eh]at hk';obtain⟨rfl,rfl⟩:=hk';rw[H2];exact(I.box k _ hb).closed a5
   B7:=λk' M hk' E hb'=>by
    simp only[Aw,Eo,Ej,Eh]at hk'
    grind [H2]
   inj:=λk1 c1 k2 c2 h1 h2 E W Z=>by grind
   Dh:=I.Dh
   one:=λk' Y st ad Y' st' hk'=>by grind
   Fm:=λk' Y st hk'=>by
    simp only[Aw,Eo,Ej,Eh]at hk'
    grind [Ap.real]
   fix:=λk' E h=>by grind [H2] }
  have a2:=hc.2 ⟨w,S,λi=>(β k).base=some i,λi x=>i=j/\x =β k,C.G⟩ _ _ a7 g1;refine H6 ?_;unfold Oper.wp;rw[Sp hc.1 ho a',R6];have U:args.map a.eval++(⟨cs⟩:Array Value)=⟨args.toList.map a.eval++cs⟩:=by apply J6;simp
  rw[U];refine a2.mono ?_;rintro e w' ⟨v,S',β',rfl,V,hv⟩;have ab:β' j =β k:=(V.fix j _ ⟨rfl,rfl⟩).2;have ae:∀b,(β k).base=some b->¬S' b/\b<w'.heap.size:=λb hb'=>by have:=V.B7 j c' (by simp) b (by grind);grind
  have J:∀E,E<w.heap.size->(β k).base≠some E->w'.heap[E]?=w.heap[E]?:=λE h1 h2=>V.kept E h1 h2;have e1:Bk S w (λb=>S b\/(S' b/\w.heap.size<=b)) w':=⟨λ_ h=>.inl h,λE hb'=>J E (I.Bf E hb') λhe=>(hp E he).1 hb'⟩;have e2:Bk S' w' (λb=>S b\/(S' b/\w.heap.size<=b)) w':=⟨λE hb'=>by
   rcases V.Ee E hb' with h|h|h
   .grind
   .grind
   grind,λ_ _=>rfl⟩
  have a9:w.heap.size<=w'.heap.size:=V.size;refine⟨v,_,β,rfl,?_,e1,(hv.ext e2 (λ_ _=>rfl)).closed hr,λ_ _=>rfl⟩;refine I.step e1 (λE hb'=>hb'.imp id (·.2)) ?_ (λE hb' a8=>J E hb' λhe=>a8 k c hb he) V.os V.tape V.output a9 ?_ ?_ (λ_ _=>rfl) ?_
  .intro E hb';rcases hb' with hb' |hb'
   .have:=I.Bf E hb';omega
   .exact V.Bf E hb'.1
  .intro k' M hk';simp only[Aw,Eo]at hk';rcases hk' with⟨rfl,rfl⟩|hk'
   .refine⟨?_,λE hb'=>?_⟩
    .have:=(Df.ext (V.box j _ (by simp)) e2 (λ_ _=>rfl) (λ_ _=>rfl)).closed (β':=β) a0
     grind
    grind
   .obtain⟨L,hk'⟩:=E3.1 hk';refine⟨(I.box k' M hk').ext e1 (λE hb'=>?_) (λ_ _=>rfl),λE hb'=>?_⟩
    .exact J E (I.B7 k' M hk' E hb').2.1 λhe=>L (I.inj k' M k c hk' hb E hb' he).1
    .obtain⟨p1,p2,_⟩:=I.B7 k' M hk' E hb'
     grind
  .intro k1 c1 k2 c2 h1 h2 E W Z;simp only[Aw,Eo]at h1 h2;rcases h1 with⟨rfl,rfl⟩|h1
   .rcases h2 with⟨rfl,rfl⟩|h2
    .simp
    .obtain⟨L,h2⟩:=E3.1 h2;exact absurd (I.inj k2 c2 _ c h2 hb E Z W).1 L
   .rcases h2 with⟨rfl,rfl⟩|h2
    .obtain⟨L,h1⟩:=E3.1 h1;exact absurd (I.inj k1 c1 _ c h1 hb E W Z).1 L
    .obtain⟨L,h1⟩:=E3.1 h1;obtain⟨_,h2⟩:=E3.1 h2;exact I.inj k1 c1 k2 c2 h1 h2 E W Z
  grind [Ap.real,E3]
theorem F8z{f:FuncId}{fo:Operand}{args:Array Operand}{Cq:Array TypeId}(ho:o.op=.call { callee:=.value fo,args:=args,argTypes:=Cq }){caps J:List SV}{r:SV}{g:Nat}{Y:Iw}{st st':Option Nat}
  (hf:ρ fo=.B0 f caps)(hb:(g,Ap.ghost Y st)∈bx)(W:G8 [] (args.toList.map ρ++caps)=some J)(hc:Bj P f J [(1000000,.ghost Y st)] r [(1000000,.ghost Y st')])(hr:r.closed=true) :
  Bp P o ρ bx r ((g,.ghost Y st')::Ca g bx) []:=by
 intro C S w β a O ha;have U:=(ha fo (mC ho));rw[hf]at U;generalize a6:a.eval fo=v at U;cases U with
 |B0 _ _ cs h1 h2 =>
  have a2:Bv S w β (args.toList.map ρ++caps) (args.toList.map a.eval++cs):=(Bv.U1 _ λx hx=>ha x (mo ho (by grind [Op.operands,Call.operands]))).append ⟨h1,h2⟩;have a0:Inv ⟨w,S,λ_=>False,λ_ _=>False,C.G⟩ S w β []:=O.begin O.Bf (λ_ h=>h);obtain⟨g1,g2⟩:=W7 a0 (Bk.refl S w) (by simp) W a2;obtain⟨e1,e2,e3,e4,B,e5,e6⟩:=O.Fm g Y st hb;have a8:=O.size;have a4:Inv ⟨w,S,B,λ_ _=>False,C.G⟩ S w (Eg β 1000000 { base:=none }) [(1000000,.ghost Y st)]:={
   Fg:=λ_ h=>h
   Ee:=λ_ h=>.inl h
   Bf:=O.Bf
   kept:=λ_ _ _=>rfl
   os:=rfl
   tape:=rfl
   output:=rfl
   size:=Bi _
   box:=λZ a7 I=>by simp only[Aw,Eo,Ej,Eh]at I;obtain⟨rfl,rfl⟩:=I;rfl
   B7:=λZ a7 I b' E=>by
    simp only[Aw,Eo,Ej,Eh]at I
    grind [H2]
   inj:=λk1 c1 k2 c2 h1 h2 b' a' aa=>by grind
   fix:=λ_ _ h=>h.elim
   Dh:=O.Dh
   one:=λk1 Y1 s1 k2 Y2 s2 h1 h2=>by grind
   Fm:=λZ Y' a1 I=>by
    simp only[Aw,Eo,Ap.ghost.injEq,Ej,Eh]at I;obtain⟨rfl,rfl,rfl⟩:=I;have a9:∀Z c',(Z,c')∈[(1000000,Ap.ghost Y' a1)]->∀b,(Eg β 1000000 { base:=none } Z).base≠some b:=λZ c' I b E=>by
     simp only[Aw,Eo,Ej,Eh]at I
     grind [H2]
    grind }
  have V:=hc.2 ⟨w,S,B,λ_ _=>False,C.G⟩ _ _ a4 ⟨g1.1,λj c v a3 hv=>(g1.2 j c v a3 hv).closed (SV.B9p g2 j c a3)⟩;refine H6 ?_;unfold Oper.wp;rw[Sp hc.1 ho a6,R6];have L:args.map a.eval++(⟨cs⟩:Array Value)=⟨args.toList.map a.eval++cs⟩:=by apply J6;simp
  rw[L];refine V.mono ?_;rintro e w' ⟨v,S',β',rfl,M,hv⟩;obtain⟨_,_,_,_,B',q5,q6⟩:=M.Fm 1000000 Y st' (by simp);have a5:w.heap.size<=w'.heap.size:=M.size;have hS:∀b,S' b->S b\/B b\/w.heap.size<=b:=λb E=>M.Ee b E;have t:Zv B S w B' S' w':=⟨⟨M.Fg,λb E=>M.kept b (O.Bf b E) λh=>(e6 b h).1 E⟩,hS,M.Bf,λb E=>⟨(q6 b E).1,(q6 b E).2.1,(q6 b E).2.2.1⟩,λb E hn=>M.kept b E hn,M.os,M.tape,M.output,a5⟩;obtain⟨r1,r2⟩:=O.B1y hb e6 t q5;exact⟨v,S',β,rfl,r1,r2,hv.closed hr,λ_ _=>rfl⟩
theorem F4f{fo x:Operand}{Cq:Array TypeId}(U:o.op=.call { callee:=.value fo,args:=#[x],argTypes:=Cq }){g l j:Nat}{Y:Iw}{y:SV}(hf:ρ fo=.Ek l)(W:(g,Ap.ghost Y (some j))∈bx)
  (hx:coerce [] (ρ x)=some y)(hP:Y.P=P)(hl:Y.l=l)(hN:j<Y.N)(hy:Y.xs j=y):Bp P o ρ bx (.d (.bool (Y.go j))) ((g,.ghost Y (Y.next j))::Ca g bx) []:=by
 intro C S w β a L V;have I:=(V fo (mC U));rw[hf]at I;generalize a0:a.eval fo=v at I;cases I;have J:Inv ⟨w,S,λ_=>False,λ_ _=>False,C.G⟩ S w β []:=L.begin L.Bf (λ_ h=>h);obtain⟨g1,_⟩:=Xm J (Bk.refl S w) (by simp) hx (V x (mC U));obtain⟨e1,e2,e3,e4,B,e5,O⟩:=L.Fm g Y (some j) W;subst e1;subst hP;subst hl;subst hy;obtain⟨f,tmps,E,body,h1,h2⟩:=e2.round j B S w β _ hN e5 L.Bf (λb M=>⟨(O b M).1,(O b M).2.1⟩) g1;refine Or.inr ⟨C.G.Y.l,f,tmps,E,body,w,?_,h2.mono ?_⟩
 .grind [execOp,resolve,Deferred.ofValue,invoke]
 .rintro e w' ⟨S',B',rfl,q5,t⟩;obtain⟨r1,Z⟩:=L.B1y W O t q5;exact⟨.bool (C.G.Y.go j),S',β,rfl,r1,Z,.bool _,λ_ _=>rfl⟩
def loN(ρ:Hb):Option Operand->Option Nat
 |none=>some 0
 |some y=>match ρ y with
  |.d (.int _ i)=>if 0<=i then some i.toNat else none
  |_=>none
def hiN(ρ:Hb)(n:Nat):Option Operand->Option Nat
 |none=>some n
 |some y=>match ρ y with
  |.d (.int _ i)=>if 0<=i then some i.toNat else none
  |_=>none
def D3v{a:Act}{L U:Option Operand}{n cap l h:Nat}{t:Bool}(W:∀x,x∈L.toList++U.toList->Ak S w β (ρ x) (a.eval x))(E:loN ρ L=some l)(J:hiN ρ n U=some h)(h1:l<=h)(h2:h<=n)(h3:n<=cap) :
  (Instr.sliceBounds t n cap (L.map a.eval) (U.map a.eval) none).run P w=.ok (l,h,cap) w:=by
 have key:∀(y:Operand) (m:Nat),Ak S w β (ρ y) (a.eval y)->(match ρ y with| .d (.int _ i)=>if 0<=i then some i.toNat else none|_=>none)=some m->∃k,a.eval y=.int k (m:Int):=by
  intro y m hv O;split at O
  .rename_i k i he;rw[he]at hv;split at O
   .rename_i h0;simp only[B4]at O;subst O;exact⟨k,by rw[hv.J4,Int.toNat_of_nonneg h0]⟩
   grind
  .grind
 have V:∀(k:IntKind) (m q:Nat) (I:BoundsCode),m<=q->(Instr.sliceBound (.int k (m:Int)) q I).run P w=.ok m w:=by intro k m q I hq;simp only[Instr.sliceBound,asIntOf,H5,Kx,Gz];rw[A9 ⟨by omega,by omega⟩];simp
 cases U with
 |none =>
  simp only[hiN,B4]at J;subst J;cases L with
  |none =>simp only[loN,B4]at E;subst E;rfl
  |some y =>obtain⟨k,Z⟩:=key y l (W y (by simp)) (by simpa [loN]using E);simp[Instr.sliceBounds,Z,V k l n _ h1]
 |some z =>
  obtain⟨k',M⟩:=key z h (W z (by simp)) (by simpa [hiN]using J);cases L with
  |none =>simp only[loN,B4]at E;subst E;simp[Instr.sliceBounds,M,V k' h cap _ (by omega)]
  |some y =>obtain⟨k,Z⟩:=key y l (W y (by simp)) (by simpa [loN]using E);simp[Instr.sliceBounds,Z,M,V k l h _ h1,V k' h cap _ (by omega)]
def F7a{T e sz:Nat}{x:Operand}{lo hi:Option Operand}(ho:o.op=.slice T x lo hi none){rows:List (List D)}(hx:ρ x=.d (.slice rows))(hT:E4 P T=some e)(hs:Bm P e=some sz)
  (a1:∀row,row∈rows->row.length=sz){l h:Nat}(a7:loN ρ lo=some l)(a8:hiN ρ rows.length hi=some h)(h1:l<=h)(h2:h<=rows.length):Bp P o ρ bx (.d (.slice ((rows.take h).drop l))) bx []:=by
 refine .Eb λC S w β a a9 ha=>?_;have V:=ha x (mC ho);rw[hx]at V;have I:∀cap,rows.length<=cap->(Instr.sliceBounds true rows.length cap (lo.map a.eval) (hi.map a.eval) none).run P w=.ok (l,h,cap) w:=λcap hc =>
  D3v (ρ:=ρ) (S:=S) (β:=β) (λy hy=>ha y (mo ho (by grind [Op.operands]))) a7 a8 h1 h2 hc
 have a4:=A3p hT w;have run:∀(p:Option Addr) (cap:Nat),rows.length<=cap->a.eval x=.slice p rows.length cap->(execOp a.eval o).run P w=.ok (.value (.slice (if cap=l then p else p.map (·.add (l*sz))) (h - l) (cap - l))) w:=by intro p cap hc hv;simp only[execOp,ho,Instr.sliceAt,hv,H5,a4,Gz,Instr.slice,Ap8,I cap hc,Q6 hs,Kx]
 generalize hv:a.eval x=v at V;have hd:=V.J0;have Z:((rows.take h).drop l).length=h - l:=by simp;omega
 cases hd with
 |Jz p cap hp =>
  have:=run p cap (by simp) (by omega);simp only[Dy,Nat.le_zero]at h2;subst h2;have a6:l=0:=by omega
  subst a6;refine⟨_,this,.d _ _ ?_⟩;simp only[List.take_nil,List.drop_nil,As6,Nat.zero_mul];have a3:(if cap=0 then p else p.map (·.add 0))=p:=by
   split
   .rfl
   .cases p <;> rfl
  rw[a3];exact .Jz p cap hp
 |slice _ b off cap O hb ab a2 hr a0 M aa =>
  have:=run (some ⟨b,off,none⟩) cap a2 hv;refine⟨_,this,.d _ _ ?_⟩;by_cases he:h=l
  .subst he;have:(rows.take h).drop h=[]:=Pa (by simp);rw[this,Nat.sub_self];have U:∃q,(if cap=h then(some ⟨b,off,none⟩:Option Addr)else(some ⟨b,off,none⟩:Option Addr).map (·.add (h*sz)))=some q:=by grind
   obtain⟨q,hq⟩:=U;rw[hq];exact .Jz (some q) _ (by simp)
  .have J:l<rows.length:=by omega
   have a5:O=sz:=by rw[<-hr rows[l] (Fa J),a1 rows[l] (Fa J)]
   subst a5;rw[A6 (by omega)];simp only[Eu,Yv];rw[<-Z];have a':∀(i:Nat) (row:List D),((rows.take h).drop l)[i]?=some row->rows[l+i]?=some row:=by intro i row E;rw[Th]at E;have J:=(B5.1 E).1;rw[Dx]at J;rw[Am7 (by omega)]at E;exact E
   have L:∀row,row∈(rows.take h).drop l->row∈rows:=λrow W=>Hh (X3 W);refine .slice _ b (off+l*O) (cap - l) O hb (by omega) (by omega) (λrow W=>hr row (L row W)) (λrow W=>a0 row (L row W)) ?_ ?_
   .intro i j E hj;have:=M (l+i) j (by omega) hj
    grind
   grind
def F2j{T:Nat}{x:Operand}{Z W:Option Operand}(M:o.op=.slice T x Z W none){s:A3}(hx:ρ x=.d (.str s))(hT:P.underlying T=some .string)
  {l h:Nat}(J:loN ρ Z=some l)(L:hiN ρ s.length W=some h)(h1:l<=h)(h2:h<=s.length):Bp P o ρ bx (.d (.str ((s.take h).drop l))) bx []:=by
 refine .Eb λC S w β a U V=>?_;have E:=V x (mC M);rw[hx]at E;obtain⟨hv,a0⟩:=E.Vw;have hb:=D3v (P:=P) (t:=false) (n:=s.length) (cap:=s.length) (w:=w) (a:=a) (ρ:=ρ) (S:=S) (β:=β) (λy hy=>V y (mo M (by grind [Op.operands]))) J L h1 h2 (Bi _)
 have hu:=Xt hT w;have O:(mkStr s).size=s.length:=C9s s;refine⟨.string (mkStr ((s.take h).drop l)),?_,.d _ _ (.str _ ?_)⟩
 .have I:(mkStr s).extract l h=mkStr ((s.take h).drop l):=by
   apply ByteArray.ext;rw[ByteArray.data_extract];apply J6;simp[mkStr,List.drop_take,List.extract_eq_take_drop]
   try(congr 1;omega)
  simp only[execOp,M,Instr.sliceAt,hv,H5,hu,Gz,Instr.slice,Ap8,Ky,I6,Fy,Kx,O,hb,I]
 grind
def F2k{T e sz bytes k:Nat}{x y:Operand}(a4:k<=999999)(ho:o.op=.makeSlice T x y){kx ky:IntKind}{n m:Int}(hx:ρ x=.d (.int kx n))(hy:ρ y=.d (.int ky m))(V:B1u P T e sz bytes){L:List D}
  (hz:Cf P e=some (L.map SV.d))(a':∀d,d∈L->d.one=true)(h0:0<=n)(a7:n<=m)(hm:m*(bytes:Int)<=(lim:Int))(ab:1<=sz):Bp P o ρ bx (.acc k) ((k,.rows sz (List.replicate n.toNat L))::Gw k (Ca k bx)) [k]:=by
 intro C S w β a hi ha;have a2:=ha x (mC ho);rw[hx]at a2;have a0:=ha y (mC ho);rw[hy]at a0;have a5:=a2.J4;have a6:=a0.J4;obtain⟨i,z,O,a3,a1⟩:∃i z,P.info? e=some i/\i.zero=some z/\z.cells.toList.map L2=L.map SV.d:=by
  unfold Cf at hz;cases hq:P.info? e with
  |none=>grind
  |some i =>simp_all
 have U:i.size=sz:=by have:=V.Pf;unfold Bm at this;rw[O]at this;simpa using this
 have ad:i.bytes=bytes:=by have:=V.E1y;rw[O]at this;simpa using this
 have ae:L.length=sz:=by have:=V.hzero;rw[hz]at this;simpa using this
 have W:z.cells.size=sz:=by have:=Gk List.length a1;simp only[Bn,Us]at this;omega
 have hT:P.underlying T=some (.slice e):=by
  have:=V.hT;unfold E4 at this;split at this
  .grind
  .grind
 have aa:1<=bytes:=by have:=V.Pj;omega
 have a9:m<=(lim:Int):=by have h1:m*1<=m*(bytes:Int):=Int.mul_le_mul_of_nonneg_left (by omega) (by omega);omega
 have J:=Go.run_make (P:=P) w T e i z hT O a3 kx ky n m h0 a7 (by grind [lim]) (by unfold lim at a9;omega);rw[U]at J;have E:∀(j:Nat),j<m.toNat*sz->(madeCells z.cells (m.toNat*sz)).toList[j]?=z.cells[j % sz]?:=by
  intro j hj;have I:j % sz<z.cells.size:=by rw[W];exact Zk _ (by omega)
  simp only[madeCells,Vg,Array.getElem?_map,Array.getElem?_range,hj,Ae,Eu,W];rw[Nt I,Ik z.cells (j % sz) I]
 obtain⟨h1,h2⟩:=hi.W1 (k:=k) (w':=w.alloc (.cells (madeCells z.cells (m.toNat*sz)) e)) (c:=.rows sz (List.replicate n.toNat L)) { base:=some w.heap.size,len:=n.toNat,cap:=m.toNat,sz:=sz } a4 (by
   intro b hb;cases hb;exact⟨λh=>by have:=hi.Bf _ h;omega,by simp,.inl (Bi _)⟩)
  (λb hb _=>RowKit.Below.heap_alloc w _ b hb) rfl rfl rfl (by simp) (λ_=>by
   refine⟨rfl,by simp,by grind,by grind,?_,?_,e,(madeCells z.cells (m.toNat*sz)).toList,by simp[-World.alloc_eq,World.alloc],by simp[size_madeCells],?_⟩
   .grind
   .grind
   .intro r j row d v hr hd hv;have a8:=(B5.1 hr).1;rw[List.length_replicate]at a8;have Z:row=L:=(List.mem_replicate.1 (Br hr)).2;subst Z;have ac:=(B5.1 hd).1;have I:r*sz+j<m.toNat*sz:=by
     have:(r+1)*sz<=m.toNat*sz:=I9 _ (by omega);rw[Gy]at this;omega
    simp only[Nd]at hv;rw[E _ I,Uu,Nat.mul_add_mod,Nat.mod_eq_of_lt (by omega)]at hv;have M:(z.cells.toList.map L2)[j]?=some (L2 v):=by rw[Db];simp[hv]
    rw[a1,Db,hd]at M;simp only[Eu,B4]at M;have:=A7g S (w.alloc (.cells (madeCells z.cells (m.toNat*sz)) e)) β v;rw[<-M]at this;exact this.J0)
 refine H6 ?_;unfold Oper.wp;rw[show(execOp a.eval o).run P w=.ok (.value (.slice (some ⟨w.heap.size,0,none⟩) n.toNat m.toNat)) (w.alloc (.cells (madeCells z.cells (m.toNat*sz)) e)) by simp[execOp,ho,a5,a6,J]]
 refine⟨_,S,_,rfl,h1,h2,?_,λj hj=>Lo (by grind)⟩;have:=Ak.acc (S:=S) (w:=w.alloc (.cells (madeCells z.cells (m.toNat*sz)) e)) (β:=Eg β k { base:=some w.heap.size,len:=n.toNat,cap:=m.toNat,sz:=sz }) k
 grind [H2]
theorem G6n{T U e sz k:Nat}{x y:Operand}(ho:o.op=.call { callee:=.builtin .copy,args:=#[x,y],argTypes:=#[T,U] }){rs xs:List (List D)}(hT:E4 P T=some e)(hs:Bm P e=some sz)
  (hx:ρ x=.acc k)(hb:(k,Ap.rows sz rs)∈bx)(hy:Xc bx sz (ρ y) xs)(a5:xs.length<=rs.length) :
  Bp P o ρ bx (.d (.int .i64 xs.length)) ((k,.rows sz (xs++rs.drop xs.length))::Ca k bx) []:=by
 intro C S w β a hi ha;obtain⟨vs,E⟩:=hy.src (P:=P) hi ((ha y (mC ho)));have Z:=(ha x (mC ho));rw[hx]at Z;have O:a.eval x=Ij (β k):=by generalize a.eval x=v at Z;cases Z;rfl
 obtain⟨g1,g2,g3,g4,g5,g6,g7⟩:=hi.box k _ hb;have J:=E.cells xs.length w rfl (λ_ _=>rfl);have M:Nat.min xs.length (β k).len=xs.length:=by rw[<-g2];exact Nat.min_eq_left a5
 have a6:(execOp a.eval o).run P w=((Builtin.copy_ #[T,U] o.type #[Ij (β k),a.eval y]).run P w).andThen λv w=>.ok (.value v) w:=by simp[execOp,ho,resolve,invoke,builtin,O]
 refine H6 ?_;unfold Oper.wp;rw[a6];cases I:(β k).base with
 |none =>
  rw[I]at g7;simp only at g7;have hr:rs=[]:=Pa (by omega);subst hr;have a7:xs=[]:=Pa (by omega);subst a7;have a4:vs=[]:=Pa (by rw[E.flat.len];simp);subst a4;have L:(Builtin.copy_ #[T,U] o.type #[Ij (β k),a.eval y]).run P w=.ok (goInt 0) w:=by simp only[Dy]at M J;have a2:=E.len;simp only[Dy]at a2;simp[Builtin.copy_,Ij,I,A3p hT,Q6 hs,a2,M,J]
  rw[L];exact⟨_,S,β,rfl,hi.sub λj c hj=>by grind [E3],Bk.refl S w,.int _ _,λ_ _=>rfl⟩
 |some b =>
  rw[I]at g7;obtain⟨ty,bs,hh,a3,a1⟩:=g7;subst g1;have hl:=E.flat.len;have V:(β k).off*(β k).sz+0+vs.length<=bs.length:=by have:((β k).off+xs.length)*(β k).sz<=((β k).off+(β k).cap)*(β k).sz:=I9 _ (by omega);simp only[Gy]at this a3;omega
  obtain⟨w',L,q1,q2,q3,q4,q5,q6⟩:=B2b (P:=P) vs bs b ((β k).off*(β k).sz) 0 ty w hh V E.one;have a8:(Builtin.copy_ #[T,U] o.type #[Ij (β k),a.eval y]).run P w=.ok (goInt xs.length) w':=by simp[Builtin.copy_,Ij,I,A3p hT,Q6 hs,E.len,M,J,L]
  rw[a8];have e0:Bk S w S w':=⟨λ_ h=>h,λb' W=>q2 b' λhe=>(hi.B7 k _ hb b I).1 (he ▸ W)⟩;obtain⟨p1,p2⟩:=hi.A5b (w':=w') (c:=.rows (β k).sz (xs++rs.drop xs.length)) hb I (λb' W=>q2 b' W) q3 q4 q5 (by omega) (by
   refine⟨rfl,by grind,g3,by grind,?_,?_,?_⟩
   .intro row hr;rcases D2.1 hr with hr|hr
    .exact E.flat.row row hr
    grind
   .intro row hr;rcases D2.1 hr with hr|hr
    .exact E.flat.one row hr
    grind
   .rw[I];refine⟨ty,Hc bs ((β k).off*(β k).sz+0) vs,q1,by rw[A7s];omega,?_⟩;intro r j row d v hr hd O;rw[A2d _ _ _ _ (by omega)]at O;by_cases a9:r<xs.length
    .rw[Ls a9]at hr;have hj:j<(β k).sz:=by rw[<-E.flat.row row (Br hr)];exact(B5.1 hd).1
     have a0:r*(β k).sz+j<vs.length:=by have:(r+1)*(β k).sz<=xs.length*(β k).sz:=I9 _ (by omega);rw[Gy]at this;omega
     rw[A9 (by grind)]at O;rw[show((β k).off+r)*(β k).sz+j - ((β k).off*(β k).sz+0)=r*(β k).sz+j by grind]at O;exact(E.flat.rep r j row d v hr hd O).ext e0
    .rw[M5 (by omega),Th]at hr;rw[show xs.length+(r - xs.length)=r by omega]at hr;have a0:vs.length<=r*(β k).sz:=by
      rw[hl];exact I9 _ (by omega)
     rw[A6 (by grind)]at O;exact(a1 r j row d v hr hd O).ext e0)
  exact⟨_,S,β,rfl,p1,p2,.int _ _,λ_ _=>rfl⟩
end Go.Abs
