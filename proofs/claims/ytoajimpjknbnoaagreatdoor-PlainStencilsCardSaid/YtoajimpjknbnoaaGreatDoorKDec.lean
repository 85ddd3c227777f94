import Derived.ProofKit
import Derived.Deep.Slices
import Derived.Test.YtoajimpjknbnoaaGreatDoorKEnc
import Derived.Test.YtoajimpjknbnoaaGreatDoorKTypes
set_option linter.all false
set_option maxHeartbeats 1000000
set_option maxRecDepth 100000
namespace Go.iA
open Go
variable {P:Program} {Ts:List TypeId}
def wD(P:Program):List Field->Nat->Nat->Bool
 |[],o,m=>o ==m
 |f::fs,o,m=>f.offset ==o && wD P fs (o+P.cellsOf f.type) m
def okT(P:Program)(Ts:List TypeId)(T:TypeId):Bool:=match P.underlying T with
 |some .bool=>true
 |some (.int _)=>true
 |some .string=>true
 |some (.slice e)=>Ts.contains e && Nat.ble 1 (P.bytesOf e) && Nat.ble 1 (P.cellsOf e)
 |some (.struct fs)=>fs.toList.all (λf=>Ts.contains f.type) && wD P fs.toList 0 (P.cellsOf T)
 |_=>false
def AV(P:Program)(Ts:List TypeId):Bool:=Ts.all (okT P Ts)
mutual
def G2(P:Program):Nat->TypeId->List D->Prop
 |0,_,_=>False
 |n+1,T,ds=>match P.underlying T with
  |some .bool=>∃b,ds=[.bool b]
  |some (.int k)=>∃z,ds=[.int k z]
  |some .string=>∃s,ds=[.str s]
  |some (.slice e)=>∃rows,ds=[.slice rows]/\∀row,row∈rows->G2 P n e row
  |some (.struct fs)=>Ud P n fs.toList ds
  |_=>False
def Ud(P:Program):Nat->List Field->List D->Prop
 |_,[],ds=>ds=[]
 |n,f::fs,ds=>∃a b,ds=a++b/\G2 P n f.type a/\a.length=P.cellsOf f.type/\Ud P n fs b
end
structure Reads(w:World)(ds:List D)(cs:List Value):Prop where
 len:ds.length=cs.length
 one:∀d,d∈ds->d.one=true
 rep:∀(j:Nat) (d:D) (v:Value),ds[j]?=some d->cs[j]?=some v->C5 (all w) w d v
theorem Reads.nil{w:World}:Reads w [] []:=⟨rfl,by simp,by simp⟩
def Reads.single{w:World}{d:D}{v:Value}(h:C5 (all w) w d v)(E:d.one=true):Reads w [d] [v]:=by refine⟨rfl,by grind,?_⟩;grind
def Reads.append{w:World}{a b:List D}{x y:List Value}(h:Reads w a x)(k:Reads w b y):Reads w (a++b) (x++y):=by refine⟨by simp[h.len,k.len],?_,?_⟩;intro d hd;rcases Bj.1 hd with hd|hd;exact h.one d hd;exact k.one d hd;intro j d v E I;by_cases J:j<a.length;rw[Mm J]at E;rw[Mm (by have:=h.len;omega)]at I;exact h.rep j d v E I;rw[Lq (by omega)]at E;rw[Lq (by have:=h.len;omega)]at I;exact k.rep (j - a.length) d v E (by rw[h.len];exact I)
variable {H:Type} {enc:TypeId × Value->H} {w:World}
def gZ{T:TypeId}:∀(fs:List Field)(o m:Nat),wD P fs o m=true->o<=m
 |[],o,m,h=>by simp[wD]at h;omega
 |f::fs,o,m,h=>by simp only[wD,Bh,W8]at h;have:=gZ (T:=T) fs _ m h.2;omega
def EZ{n:Nat}(W:∀(T:TypeId)(cs:List Value)(x:DataW H × List MemPlace),T∈Ts->DataW.trod enc P w 0 (λ_=>true) true n T cs=some x->(∀k,k∈x.1.weights P T->k<=reachBytes) -> ∃ds,G2 P n T ds/\Reads w ds cs) :∀(fs:List Field) (o m:Nat) (xs:List (DataW H × List MemPlace)) (cs:List Value),wD P fs o m=true->(∀f,f∈fs->f.type∈Ts)->cs.length=m->xs.length=fs.length -> (∀(i:Nat) (f:Field),fs[i]?=some f->DataW.trod enc P w 0 (λ_=>true) true n f.type ((cs.drop f.offset).take (P.cellsOf f.type))=xs[i]?) -> (∀k,k∈DataW.weightsEach P (fs.map (·.type)) (xs.map (·.1))->k<=reachBytes) ->∃ds,Ud P n fs ds/\Reads w ds (cs.drop o)
 |[],o,m,xs,cs,ht,_,Z,_,_,_=>by simp[wD]at ht;refine⟨[],by simp[Ud],?_⟩;rw[Jk (by omega)];exact .nil
 |f::fs,o,m,xs,cs,ht,hT,Z,hx,hr,I=>by
  simp only[wD,Bh,W8]at ht;obtain⟨ho,ht⟩:=ht;cases xs with
  |nil=>grind
  |cons x xs =>
   have U:=hr 0 f rfl;simp at U;rw[ho]at U;simp only[Cj,DataW.weightsEach]at I;obtain⟨a,L,E⟩:=W f.type _ x (hT f (by simp)) U (λk J=>I k (Bj.2 (.inl J)));obtain⟨b,V,O⟩:=EZ W fs (o+P.cellsOf f.type) m xs cs ht (λg hg=>hT g (by grind)) Z (by grind) (λi g hg=>by have:=hr (i+1) g (by grind);grind) (λk J=>I k (Bj.2 (.inr J)))
   have a0:=gZ (P:=P) (T:=0) fs _ m ht;refine⟨a++b,?_,?_⟩
   .rw[Ud];refine⟨a,b,rfl,L,?_,V⟩;rw[E.len];grind
   .have:=E.append O
    grind[List.drop_drop,List.take_append_drop]
def xj{e:TypeId}:∀(l:List (DataW H))(d:DataW H),d∈l->∀k,k∈d.weights P e->k∈DataW.weightsAll P e l
 |[],_,h,_,_=>by grind
 |x::l,d,h,k,E=>by simp only[DataW.weightsAll,Bj];rcases Ay.1 h with rfl|h;grind;exact .inr (xj l d h k E)
def F7f{T e:TypeId}(h:okT P Ts T=true)(E:P.underlying T=some (.slice e)):e∈Ts/\1<=P.bytesOf e/\1<=P.cellsOf e:=by unfold okT at h;simp_all
def H4e{T:TypeId}{fs:Array Field}(h:okT P Ts T=true)(E:P.underlying T=some (.struct fs)):(∀f,f∈fs.toList->f.type∈Ts)/\wD P fs.toList 0 (P.cellsOf T)=true:=by unfold okT at h;grind
def xd(hT:AV P Ts=true):∀(n:Nat)(T:TypeId)(cs:List Value)(x:DataW H × List MemPlace),T∈Ts->DataW.trod enc P w 0 (λ_=>true) true n T cs=some x->(∀k,k∈x.1.weights P T->k<=reachBytes) ->∃ds,G2 P n T ds/\Reads w ds cs
 |0,T,cs,x,_,h,_=>by simp[DataW.trod]at h
 |n+1,T,cs,x,hm,h,hw=>by
  have a0:=Dz.1 hT T hm;have ih:=xd hT n;cases hu:P.underlying T with
  |none=>grind[okT]
  |some a1 =>
   cases a1 with
   |bool =>obtain⟨b,rfl,rfl⟩:=DataW.trod_bool hu h;exact⟨[.bool b],by grind[G2],.single (.bool b) rfl⟩
   |int k =>obtain⟨z,rfl,rfl,_⟩:=DataW.trod_int hu h;exact⟨[.int k z],by grind[G2],.single (.int k z) rfl⟩
   |string =>obtain⟨s,rfl,rfl,hs⟩:=DataW.trod_string hu h;have:=hw s.data.toList.length (by simp[DataW.weights]);refine⟨[.str s.data.toList],by grind[G2],.single ?_ rfl⟩;exact C5.str s.data.toList (Cy this (by decide))
   |slice e =>
    obtain⟨he,a6,ab⟩:=F7f a0 hu;rcases DataW.trod_slice hu h with⟨rfl,rfl⟩|⟨a,len,cap,I,rest,n',hn,rfl,rfl,_,aa,a8,a',a4,_,_⟩
    .exact⟨[.slice []],by grind[G2],.single (.Nv none 0 (λ_=>rfl)) rfl⟩
    .obtain rfl:n'=n:=by omega
     simp only[DataW.weights,hu,Ay,Bj]at hw;have a7:len<=lim:=by
      have Z:=hw _ (.inl rfl);simp at Z;have h2:(I.length+rest.length)*1<=(I.length+rest.length)*P.bytesOf e:=IG _ a6;have h3:reachBytes<=lim:=by decide
      omega
     have key:∀i,i<len->∃ds cs',G2 P n' e ds/\Reads w ds cs'/\w.cells? 0 (a.add (i*P.cellsOf e)) (P.cellsOf e)=some cs':=by intro i V;have Z:=a4 i V;have h2:I[i]?=some I[i]:=Bu (by omega);rw[h2]at Z;obtain⟨cs',hc,ht⟩:=Option.bind_eq_some_iff.1 Z;obtain⟨ds,g1,W⟩:=ih e cs' _ he ht (λk hk=>hw k (.inr (.inl (xj _ _ (Ap.2 ⟨I[i],Gc _,rfl⟩) k hk))));exact⟨ds,cs',g1,W,hc⟩
     cases len with
     |zero=>exact⟨[.slice []],by grind[G2],.single (.Nv (some a) cap (by simp)) rfl⟩
     |succ len =>
      have U:a.spot=none:=by obtain⟨ds,cs',_,_,hc⟩:=key 0 (by omega);obtain⟨_,hl,E⟩:=lN hc;have h0:=E 0 (by omega);have Z:cs'[0]?=some cs'[0]:=Bu (by omega);rw[Z]at h0;have:=World.cell?_spot h0;simpa [Addr.add]using this
      obtain⟨b,off,spot⟩:=a;simp only at U;subst U;have L:∀i j,((⟨b,off,none⟩:Addr).add (i*P.cellsOf e)).add j=⟨b,off+(i*P.cellsOf e+j),none⟩:=by intro i j;rw[Zf,Zf,Uf]
      have a5:∃rows:List (List D),rows.length=len+1/\∀i row,rows[i]?=some row->∃cs',G2 P n' e row/\Reads w row cs'/\w.cells? 0 ((⟨b,off,none⟩:Addr).add (i*P.cellsOf e)) (P.cellsOf e)=some cs':=by
       have gen:∀m,m<=len+1->∃rows:List (List D),rows.length=m/\∀i row,rows[i]?=some row->∃cs',G2 P n' e row/\Reads w row cs'/\w.cells? 0 ((⟨b,off,none⟩:Addr).add (i*P.cellsOf e)) (P.cellsOf e)=some cs':=by
        intro m
        induction m with
        |zero=>simp
        |succ m a3 =>
         intro ac;obtain⟨rows,Z,h2⟩:=a3 (by omega);obtain⟨ds,cs',g1,W,g3⟩:=key m (by omega);refine⟨rows++[ds],by grind,?_⟩
         grind
       exact gen (len+1) (Bv _)
      obtain⟨rows,a2,J⟩:=a5;have hb:b<w.heap.size:=by obtain⟨ds,cs',_,_,hc⟩:=key 0 (by omega);obtain⟨_,hl,E⟩:=lN hc;have h0:=E 0 (by omega);rw[Bu (by omega)]at h0;rw[L]at h0;refine Classical.byContradiction λhc=>?_;have:w.heap[b]?=none:=Array.getElem?_eq_none (by omega);simp[World.cell?,this]at h0
      refine⟨[.slice rows],by grind[G2,List.mem_iff_getElem?],.single ?_ rfl⟩;have O:∀(i:Nat) (row:List D),rows[i]?=some row->row.length=P.cellsOf e:=by intro i row V;obtain⟨cs',_,W,g3⟩:=J i row V;rw[W.len,(lN g3).2.1]
      rw[<-a2];refine .slice rows b off cap (P.cellsOf e) hb (by omega) (by omega) ?_ ?_ ?_ ?_
      .grind[List.mem_iff_getElem?]
      .intro row hr d hd;obtain⟨i,V⟩:=Re.1 hr;obtain⟨cs',_,W,_⟩:=J i row V;exact W.one d hd
      .intro i j V hj;obtain⟨cs',_,_,g3⟩:=J i rows[i] (Bu V);obtain⟨_,hl,E⟩:=lN g3
       grind
      .intro i j row d v V hd hv;obtain⟨cs',_,W,g3⟩:=J i row V;obtain⟨_,hl,E⟩:=lN g3;have hj:j<P.cellsOf e:=by rw[<-O i row V];exact(Az.1 hd).1
       have:=E j hj;rw[L]at this;exact W.rep j d v hd (by grind)
   |struct fs =>
    obtain⟨Z,h2⟩:=H4e a0 hu;obtain⟨xs,n',hn,rfl,hl,a9,hr⟩:=DataW.trod_struct hu h;obtain rfl:n'=n:=by omega
    obtain⟨ds,g1,W⟩:=EZ (Ts:=Ts) (λT cs x hm h hw=>ih T cs x hm h hw) fs.toList 0 (P.cellsOf T) xs cs h2 Z hl (by omega) (λi f hf=>hr i f (by grind)) (by grind[DataW.weights])
    grind[G2]
   |_=>grind[okT]
def H1z{T:TypeId}{fs:Array Field}(hT:AV P Ts=true)(V:T∈Ts)(L:P.underlying T=some (.struct fs)){W:World}{base:Nat}{v:Value}{d:DataW H}{ps:List MemPlace}(I:Value.okWide P W .any base T v)
  (h:DataW.Trod enc P W 0 (λ_=>true) true T v d ps)(J:∀k,k∈d.weights P T->k<=reachBytes)(β:Names):∃n ds,G2 P n T ds/\An (all W) W β (.agg (ds.map .d)) v:=by obtain⟨cs,rfl,_⟩:=WideShapes.okWide_struct L I;obtain⟨n,O⟩:=h;obtain⟨ds,U,E⟩:=xd hT n T _ _ V O J;refine⟨n,ds,U,F3 ?_⟩;have:=C5.agg (S:=all W) (w:=W) ds cs.toList E.len.symm E.one E.rep;omega
def Gh.none(P:Program)(sy ra:TypeId × Value):Gh:=⟨⟨P,0,0,0,λ_=>.undef,λ_=>false,λ_ _ _=>False⟩,λ_ _ _ _=>False,sy,ra⟩
def Ab.calls{f:FuncId}{args:List SV}{r:SV}(h:Ab P f args r){W:World}{β:Names}{vs:List Value}(V:C7 (all W) W β args vs){sy ra:TypeId × Value}(ht:∀b cs,qJ sy ra b cs->∃ty U,W.heap[b]?=some (.cells cs ty U)) :Calls P f ⟨vs⟩ W λe L=>∃v S' β',e=.returned v/\An S' L β' r v/\RowKit.Below W.heap.size W L:=by
 have O:Inv ⟨W,all W,λ_=>False,λ_ _=>False,Gh.none P sy ra⟩ (all W) W β []:={
  G7:=λ_ E=>E,F9:=λ_ E=>.inl E,C9:=λ_ E=>E,kept:=λ_ _ _=>rfl,os:=rfl,tape:=rfl,output:=rfl,size:=Bv _,
  box:=λk c I=>by grind,Bk:=λk c I=>by grind,inj:=λk c Z c' I=>by simp,fix:=λ_ _ h=>h.elim
  Ek:=λb cs E=>by
   obtain⟨ty,U,h⟩:=ht b cs E
   grind
  one:=λk Y st Z Y' st' I=>by simp
  Gf:=λk Y st I=>by grind }
 refine(h.2 ⟨W,all W,λ_=>False,λ_ _=>False,Gh.none P sy ra⟩ β vs O V).mono ?_;rintro e L ⟨v,S',β',rfl,J,hr⟩;exact⟨v,S',β',rfl,hr,⟨J.os,J.tape,J.output,J.size,λk I=>J.kept k I id⟩⟩
end Go.iA
namespace Go.iA
open Go Go.Proofs Tryz
variable {P:Program}
def ZE{T:TypeId}(E:P.underlying T=some .string):∀{n:Nat} {ds:List D},G2 P n T ds->∃s:A3,ds=[.str s]
 |0,_,h=>by simp[G2]at h
 |n+1,_,h=>by rw[G2,E]at h;exact h
def cG{T:TypeId}{k:IntKind}(E:P.underlying T=some (.int k)):∀{n:Nat} {ds:List D},G2 P n T ds->∃z,ds=[.int k z]
 |0,_,h=>by simp[G2]at h
 |n+1,_,h=>by rw[G2,E]at h;exact h
def bF{T e:TypeId}(E:P.underlying T=some (.slice e)):∀{n:Nat} {ds:List D},G2 P n T ds->∃m rows,n=m+1/\ds=[.slice rows]/\∀row,row∈rows->G2 P m e row
 |0,_,h=>by simp[G2]at h
 |n+1,_,h=>by grind[G2]
def UH{T:TypeId}{fs:Array Field}(E:P.underlying T=some (.struct fs)):∀{n:Nat} {ds:List D},G2 P n T ds->∃m,n=m+1/\Ud P m fs.toList ds
 |0,_,h=>by simp[G2]at h
 |n+1,_,h=>by grind[G2]
def bD{α:Type}{C:α->List D}{Q:List D->Prop}(h:∀row,Q row->∃x,row=C x):∀(rows:List (List D)),(∀row,row∈rows->Q row)->∃l:List α,rows=l.map C
 |[],_=>⟨[],rfl⟩
 |row::rows,hr=>by obtain⟨x,I⟩:=h row (hr row (by simp));obtain⟨l,J⟩:=bD h rows λr E=>hr r (by grind);exact⟨x::l,by grind⟩
def MM:∀(n:Nat) {ds:List D},G2 Tryz.prog n 25 ds->∃t:Ty,ds=Bf t:=by
 intro n
 induction n using Nat.strongRecOn with
 |ind n J =>
 intro ds h;obtain⟨m,rfl,I⟩:=UH underlying25 h;simp only[Ud]at I;obtain⟨a,_,rfl,U,_,b,_,rfl,L,_,c,_,rfl,O,_,rfl⟩:=I;obtain⟨s,rfl⟩:=ZE underlying9 U;obtain⟨k,rows,rfl,rfl,hr⟩:=bF underlying23 L;obtain⟨z,rfl⟩:=cG underlying3 O;obtain⟨l,rfl⟩:=bD (C:=Bf) (λrow E=>J k (by omega) E) rows hr;exact⟨.mk s l z,by simp[Bf,Ty.name,Ty.args,Ty.pos,Cq]⟩
variable {n:Nat} {ds:List D}
def G1v(h:G2 Tryz.prog n 23 ds):∃l:List Ty,ds=[.slice (Au l)]:=by obtain⟨k,rows,rfl,rfl,hr⟩:=bF underlying23 h;obtain⟨l,rfl⟩:=bD (C:=Bf) (λrow E=>MM k E) rows hr;exact⟨l,by rw[Cq]⟩
def Ov(h:G2 Tryz.prog n 49 ds):∃l:List A3,ds=[.slice (Bq l)]:=by obtain⟨k,rows,rfl,rfl,hr⟩:=bF underlying49 h;obtain⟨l,rfl⟩:=bD (C:=λs:A3=>[.str s]) (λrow E=>ZE underlying9 E) rows hr;exact⟨l,rfl⟩
def jq:∀(n:Nat) {ds:List D},G2 Tryz.prog n 28 ds->∃e:Ex,ds=Ce e:=by
 intro n
 induction n using Nat.strongRecOn with
 |ind n J =>
 intro ds h;obtain⟨m,rfl,I⟩:=UH underlying28 h;simp only[Ud]at I;obtain⟨a,_,rfl,Z,_,b,_,rfl,V,_,c,_,rfl,W,_,d,_,rfl,U,_,e,_,rfl,L,_,f,_,rfl,O,_,rfl⟩:=I;obtain⟨z,rfl⟩:=cG underlying3 Z;obtain⟨s,rfl⟩:=ZE underlying9 V;obtain⟨t,rfl⟩:=MM m W;obtain⟨l,rfl⟩:=G1v U;obtain⟨k,rows,rfl,rfl,hr⟩:=bF underlying26 L;obtain⟨q,rfl⟩:=cG underlying3 O;obtain⟨ks,rfl⟩:=bD (C:=Ce) (λrow E=>J k (by omega) E) rows hr;exact⟨.mk z s t l ks q,by simp[Ce,Bf,Ex.kind,Ex.name,Ex.type,Ex.targs,Ex.kids,Ex.pos,P8]⟩
def G2n(h:G2 Tryz.prog n 55 ds):∃e:Aj,ds=Iz e:=by obtain⟨m,rfl,E⟩:=UH underlying55 h;simp only[Ud]at E;obtain⟨a,_,rfl,L,_,b,_,rfl,J,_,c,_,rfl,I,_,rfl⟩:=E;obtain⟨s,rfl⟩:=ZE underlying9 L;obtain⟨t,rfl⟩:=MM m J;obtain⟨z,rfl⟩:=cG underlying3 I;exact⟨⟨s,t,z⟩,rfl⟩
def ox(h:G2 Tryz.prog n 105 ds):∃e:Param,ds=G9 e:=by obtain⟨m,rfl,E⟩:=UH underlying105 h;simp only[Ud]at E;obtain⟨a,_,rfl,L,_,b,_,rfl,J,_,c,_,rfl,I,_,rfl⟩:=E;obtain⟨s,rfl⟩:=ZE underlying9 L;obtain⟨t,rfl⟩:=MM m J;obtain⟨z,rfl⟩:=cG underlying3 I;exact⟨⟨s,t,z⟩,rfl⟩
def lf(h:G2 Tryz.prog n 46 ds):∃l:List Aj,ds=[.slice (Ai l)]:=by obtain⟨k,rows,rfl,rfl,hr⟩:=bF underlying46 h;obtain⟨l,rfl⟩:=bD (C:=Iz) (λrow E=>G2n E) rows hr;exact⟨l,rfl⟩
def Ll(h:G2 Tryz.prog n 47 ds):∃l:List Param,ds=[.slice (Aw l)]:=by obtain⟨k,rows,rfl,rfl,hr⟩:=bF underlying47 h;obtain⟨l,rfl⟩:=bD (C:=G9) (λrow E=>ox E) rows hr;exact⟨l,rfl⟩
def oj(h:G2 Tryz.prog n 51 ds):∃e:A4,ds=Dp e:=by obtain⟨m,rfl,E⟩:=UH underlying51 h;simp only[Ud]at E;obtain⟨a,_,rfl,U,_,b,_,rfl,L,_,c,_,rfl,O,_,d,_,rfl,J,_,e,_,rfl,I,_,rfl⟩:=E;obtain⟨s,rfl⟩:=ZE underlying9 U;obtain⟨fs,rfl⟩:=lf L;obtain⟨ps,rfl⟩:=Ll O;obtain⟨t,rfl⟩:=MM m J;obtain⟨z,rfl⟩:=cG underlying3 I;exact⟨⟨s,fs,ps,t,z⟩,rfl⟩
def zx(h:G2 Tryz.prog n 48 ds):∃l:List A4,ds=[.slice (B4 l)]:=by obtain⟨k,rows,rfl,rfl,hr⟩:=bF underlying48 h;obtain⟨l,rfl⟩:=bD (C:=Dp) (λrow E=>oj E) rows hr;exact⟨l,rfl⟩
def F9u(h:G2 Tryz.prog n 53 ds):∃e:Decl,ds=Am e:=by obtain⟨m,rfl,I⟩:=UH underlying53 h;simp only[Ud]at I;obtain⟨a,_,rfl,h1,_,b,_,rfl,V,_,c,_,rfl,W,_,d,_,rfl,U,_,e,_,rfl,L,_,f,_,rfl,O,_,g,_,rfl,h7,_,i,_,rfl,Z,_,j,_,rfl,J,_,k,_,rfl,E,_,rfl⟩:=I;obtain⟨z,rfl⟩:=cG underlying3 h1;obtain⟨s,rfl⟩:=ZE underlying9 V;obtain⟨fs,rfl⟩:=lf W;obtain⟨ps,rfl⟩:=Ll U;obtain⟨ss,rfl⟩:=zx L;obtain⟨r,rfl⟩:=ZE underlying9 O;obtain⟨vs,rfl⟩:=Ov h7;obtain⟨sg,rfl⟩:=oj Z;obtain⟨bd,rfl⟩:=jq m J;obtain⟨q,rfl⟩:=cG underlying3 E;exact⟨⟨z,s,fs,ps,ss,r,vs,sg,bd,q⟩,by simp[Am,Dp,Ce]⟩
def G2z(h:G2 Tryz.prog n 22 ds):∃l:List Decl,ds=[.slice (Bx l)]:=by obtain⟨k,rows,rfl,rfl,hr⟩:=bF underlying22 h;obtain⟨l,rfl⟩:=bD (C:=Am) (λrow E=>F9u E) rows hr;exact⟨l,rfl⟩
def G9y(h:G2 Tryz.prog n 30 ds):∃p:Prog,ds=Ah p:=by obtain⟨m,rfl,E⟩:=UH underlying30 h;simp only[Ud]at E;obtain⟨a,_,rfl,J,_,b,_,rfl,I,_,rfl⟩:=E;obtain⟨l,rfl⟩:=G2z J;obtain⟨e,rfl⟩:=jq m I;exact⟨⟨l,e⟩,by simp[Ah,Ce]⟩
def FX:List TypeId:=[3,4,9,49,25,23,28,26,55,46,105,47,51,48,53,22,30]
def G7v:AV Tryz.prog FX=true:=by kernel_rfl
variable {H:Type} {enc:TypeId × Value->H}
def F5k{W:World}{base:Nat}{v:Value}{d:DataW H}{ps:List MemPlace}(E:Value.okWide Tryz.prog W .any base 30 v)
  (h:DataW.Trod enc Tryz.prog W 0 (λ_=>true) true 30 v d ps)(L:∀k,k∈d.weights Tryz.prog 30->k<=reachBytes)(β:Names):∃p:Prog,An (all W) W β (Cs p) v:=by obtain⟨n,ds,I,J⟩:=H1z G7v (by simp[FX]) underlying30 E h L β;obtain⟨p,rfl⟩:=G9y I;exact⟨p,J⟩
end Go.iA
