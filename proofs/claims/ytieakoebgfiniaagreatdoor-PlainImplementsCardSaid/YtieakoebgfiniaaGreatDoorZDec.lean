/- Arguments as the form reads them are data: from DataW.trod to RepC. Own framework, part Read. -/
import Derived.ProofKit
import Derived.Deep.Slices
import Derived.Test.YtieakoebgfiniaaGreatDoorZEnc
import Derived.Test.YtieakoebgfiniaaGreatDoorZTypes
set_option linter.all false
set_option maxHeartbeats 1000000
set_option maxRecDepth 100000
namespace Go.Abs
open Go
variable {P:Program} {Ts:List TypeId}
def Zd(P:Program):List Field->Nat->Nat->Bool
 |[],o,m=>o ==m
 |f::fs,o,m=>f.offset ==o && Zd P fs (o+P.cellsOf f.type) m
def okT(P:Program)(Ts:List TypeId)(T:TypeId):Bool:=match P.underlying T with
 |some .bool=>true
 |some (.int _)=>true
 |some .string=>true
 |some (.slice e)=>Ts.contains e && Nat.ble 1 (P.bytesOf e) && Nat.ble 1 (P.cellsOf e)
 |some (.struct fs)=>fs.toList.all (λf=>Ts.contains f.type) && Zd P fs.toList 0 (P.cellsOf T)
 |_=>false
def C6c(P:Program)(Ts:List TypeId):Bool:=Ts.all (okT P Ts)
mutual
def Fc(P:Program):Nat->TypeId->List D->Prop
 |0,_,_=>False
 |n+1,T,ds=>match P.underlying T with
  |some .bool=>∃b,ds=[.bool b]
  |some (.int k)=>∃z,ds=[.int k z]
  |some .string=>∃s,ds=[.str s]
  |some (.slice e)=>∃rows,ds=[.slice rows]/\∀row,row∈rows->Fc P n e row
  |some (.struct fs)=>Te P n fs.toList ds
  |_=>False
def Te(P:Program):Nat->List Field->List D->Prop
 |_,[],ds=>ds=[]
 |n,f::fs,ds=>∃a b,ds=a++b/\Fc P n f.type a/\a.length=P.cellsOf f.type/\Te P n fs b
end
structure Reads(w:World)(ds:List D)(cs:List Value):Prop where
 len:ds.length=cs.length
 one:∀d,d∈ds->d.one=true
 rep:∀(j:Nat) (d:D) (v:Value),ds[j]?=some d->cs[j]?=some v->Bu (all w) w d v
theorem Reads.nil{w:World}:Reads w [] []:=⟨rfl,by simp,by simp⟩
def Reads.single{w:World}{d:D}{v:Value}(h:Bu (all w) w d v)(E:d.one=true):Reads w [d] [v]:=by
 refine⟨rfl,by grind,?_⟩
 grind
def Reads.append{w:World}{a b:List D}{x y:List Value}(h:Reads w a x)(k:Reads w b y):Reads w (a++b) (x++y):=by
 refine⟨by simp[h.len,k.len],?_,?_⟩
 .intro d hd;rcases Bz.1 hd with hd|hd
  .exact h.one d hd
  .exact k.one d hd
 .intro j d v I E;by_cases J:j<a.length
  .rw[L4 J]at I;rw[L4 (by have:=h.len;omega)]at E;exact h.rep j d v I E
  .rw[Kd (by omega)]at I;rw[Kd (by have:=h.len;omega)]at E;exact k.rep (j - a.length) d v I (by rw[h.len];exact E)
variable {H:Type} {enc:TypeId × Value->H} {w:World}
def E2k{T:TypeId}:∀(fs:List Field)(o m:Nat),Zd P fs o m=true->o<=m
 |[],o,m,h=>by simp[Zd]at h;omega
 |f::fs,o,m,h=>by simp only[Zd,Bb,Vk]at h;have:=E2k (T:=T) fs _ m h.2;omega
def E1q{n:Nat}(W:∀(T:TypeId)(cs:List Value)(x:DataW H × List MemPlace),T∈Ts->DataW.trod enc P w 0 (λ_=>true) true n T cs=some x->(∀k,k∈x.1.weights P T->k<=reachBytes) ->
   ∃ds,Fc P n T ds/\Reads w ds cs) :
  ∀(fs:List Field) (o m:Nat) (xs:List (DataW H × List MemPlace)) (cs:List Value),Zd P fs o m=true->(∀f,f∈fs->f.type∈Ts)->cs.length=m->xs.length=fs.length ->
   (∀(i:Nat) (f:Field),fs[i]?=some f->DataW.trod enc P w 0 (λ_=>true) true n f.type ((cs.drop f.offset).take (P.cellsOf f.type))=xs[i]?) ->
   (∀k,k∈DataW.weightsEach P (fs.map (·.type)) (xs.map (·.1))->k<=reachBytes) ->
   ∃ds,Te P n fs ds/\Reads w ds (cs.drop o)
 |[],o,m,xs,cs,ht,_,Z,_,_,_=>by simp[Zd]at ht;refine⟨[],by simp[Te],?_⟩;rw[Ib (by omega)];exact .nil
 |f::fs,o,m,xs,cs,ht,hT,Z,hx,hr,V=>by
  simp only[Zd,Bb,Vk]at ht;obtain⟨ho,ht⟩:=ht;cases xs with
  |nil=>grind
  |cons x xs =>
   have U:=hr 0 f rfl;simp at U;rw[ho]at U;simp only[Ck,DataW.weightsEach]at V;obtain⟨a,O,E⟩:=W f.type _ x (hT f (by simp)) U (λk I=>V k (Bz.2 (.inl I)));obtain⟨b,L,J⟩:=E1q W fs (o+P.cellsOf f.type) m xs cs ht (λg hg=>hT g (by grind)) Z (by grind) (λi g hg=>by have:=hr (i+1) g (by grind);grind) (λk I=>V k (Bz.2 (.inr I)))
   have a0:=E2k (P:=P) (T:=0) fs _ m ht;refine⟨a++b,?_,?_⟩
   .rw[Te];refine⟨a,b,rfl,O,?_,L⟩;rw[E.len];grind
   .have:=E.append J
    grind[List.drop_drop,List.take_append_drop]
def E7y{e:TypeId}:∀(l:List (DataW H))(d:DataW H),d∈l->∀k,k∈d.weights P e->k∈DataW.weightsAll P e l
 |[],_,h,_,_=>by grind
 |x::l,d,h,k,E=>by
  simp only[DataW.weightsAll,Bz];rcases B1.1 h with rfl|h
  .grind
  .exact .inr (E7y l d h k E)
def H3o{T e:TypeId}(h:okT P Ts T=true)(E:P.underlying T=some (.slice e)):e∈Ts/\1<=P.bytesOf e/\1<=P.cellsOf e:=by unfold okT at h;simp_all
def G8o{T:TypeId}{fs:Array Field}(h:okT P Ts T=true)(E:P.underlying T=some (.struct fs)):(∀f,f∈fs.toList->f.type∈Ts)/\Zd P fs.toList 0 (P.cellsOf T)=true:=by
 unfold okT at h
 grind
def D0g(hT:C6c P Ts=true):∀(n:Nat)(T:TypeId)(cs:List Value)(x:DataW H × List MemPlace),T∈Ts->DataW.trod enc P w 0 (λ_=>true) true n T cs=some x->(∀k,k∈x.1.weights P T->k<=reachBytes) ->
  ∃ds,Fc P n T ds/\Reads w ds cs
 |0,T,cs,x,_,h,_=>by simp[DataW.trod]at h
 |n+1,T,cs,x,hm,h,hw=>by
  have a0:=Dm.1 hT T hm;have ih:=D0g hT n;cases hu:P.underlying T with
  |none=>grind[okT]
  |some a1 =>
   cases a1 with
   |bool =>obtain⟨b,rfl,rfl⟩:=DataW.trod_bool hu h;exact⟨[.bool b],by grind[Fc],.single (.bool b) rfl⟩
   |int k =>obtain⟨z,rfl,rfl,_⟩:=DataW.trod_int hu h;exact⟨[.int k z],by grind[Fc],.single (.int k z) rfl⟩
   |string =>obtain⟨s,rfl,rfl,hs⟩:=DataW.trod_string hu h;have:=hw s.data.toList.length (by simp[DataW.weights]);refine⟨[.str s.data.toList],by grind[Fc],.single ?_ rfl⟩;exact Bu.str s.data.toList (Cp this (by decide))
   |slice e =>
    obtain⟨he,a5,a9⟩:=H3o a0 hu;rcases DataW.trod_slice hu h with⟨rfl,rfl⟩|⟨a,len,cap,I,rest,n',hn,rfl,rfl,_,ab,ac,aa,a6,_,_⟩
    .exact⟨[.slice []],by grind[Fc],.single (.Mk none 0 (λ_=>rfl)) rfl⟩
    .obtain rfl:n'=n:=by omega
     simp only[DataW.weights,hu,B1,Bz]at hw;have a7:len<=lim:=by
      have Z:=hw _ (.inl rfl);simp at Z;have h2:(I.length+rest.length)*1<=(I.length+rest.length)*P.bytesOf e:=Ak9 _ a5;have h3:reachBytes<=lim:=by decide
      omega
     have key:∀i,i<len->∃ds cs',Fc P n' e ds/\Reads w ds cs'/\w.cells? 0 (a.add (i*P.cellsOf e)) (P.cellsOf e)=some cs':=by intro i V;have Z:=a6 i V;have h2:I[i]?=some I[i]:=Bi (by omega);rw[h2]at Z;obtain⟨cs',hc,ht⟩:=Option.bind_eq_some_iff.1 Z;obtain⟨ds,g1,W⟩:=ih e cs' _ he ht (λk hk=>hw k (.inr (.inl (E7y _ _ (Au.2 ⟨I[i],Fq _,rfl⟩) k hk))));exact⟨ds,cs',g1,W,hc⟩
     cases len with
     |zero=>exact⟨[.slice []],by grind[Fc],.single (.Mk (some a) cap (by simp)) rfl⟩
     |succ len =>
      have O:a.spot=none:=by obtain⟨ds,cs',_,_,hc⟩:=key 0 (by omega);obtain⟨_,hl,E⟩:=Aq0 hc;have h0:=E 0 (by omega);have Z:cs'[0]?=some cs'[0]:=Bi (by omega);rw[Z]at h0;have:=World.cell?_spot h0;simpa [Addr.add]using this
      obtain⟨b,off,spot⟩:=a;simp only at O;subst O;have L:∀i j,((⟨b,off,none⟩:Addr).add (i*P.cellsOf e)).add j=⟨b,off+(i*P.cellsOf e+j),none⟩:=by intro i j;rw[Wt,Wt,Si]
      have a2:∃rows:List (List D),rows.length=len+1/\∀i row,rows[i]?=some row->∃cs',Fc P n' e row/\Reads w row cs'/\w.cells? 0 ((⟨b,off,none⟩:Addr).add (i*P.cellsOf e)) (P.cellsOf e)=some cs':=by
       have gen:∀m,m<=len+1->∃rows:List (List D),rows.length=m/\∀i row,rows[i]?=some row->∃cs',Fc P n' e row/\Reads w row cs'/\w.cells? 0 ((⟨b,off,none⟩:Addr).add (i*P.cellsOf e)) (P.cellsOf e)=some cs':=by
        intro m
        induction m with
        |zero=>simp
        |succ m a4 =>
         intro a';obtain⟨rows,Z,h2⟩:=a4 (by omega);obtain⟨ds,cs',g1,W,g3⟩:=key m (by omega);refine⟨rows++[ds],by grind,?_⟩
         grind
       exact gen (len+1) (Bs _)
      obtain⟨rows,a3,J⟩:=a2;have hb:b<w.heap.size:=by obtain⟨ds,cs',_,_,hc⟩:=key 0 (by omega);obtain⟨_,hl,E⟩:=Aq0 hc;have h0:=E 0 (by omega);rw[Bi (by omega)]at h0;rw[L]at h0;refine Classical.byContradiction λhc=>?_;have:w.heap[b]?=none:=Array.getElem?_eq_none (by omega);simp[World.cell?,this]at h0
      refine⟨[.slice rows],by grind[Fc,List.mem_iff_getElem?],.single ?_ rfl⟩;have U:∀(i:Nat) (row:List D),rows[i]?=some row->row.length=P.cellsOf e:=by intro i row V;obtain⟨cs',_,W,g3⟩:=J i row V;rw[W.len,(Aq0 g3).2.1]
      rw[<-a3];refine .slice rows b off cap (P.cellsOf e) hb (by omega) (by omega) ?_ ?_ ?_ ?_
      .grind[List.mem_iff_getElem?]
      .intro row hr d hd;obtain⟨i,V⟩:=Sy.1 hr;obtain⟨cs',_,W,_⟩:=J i row V;exact W.one d hd
      .intro i j V hj;obtain⟨cs',_,_,g3⟩:=J i rows[i] (Bi V);obtain⟨_,hl,E⟩:=Aq0 g3
       grind
      .intro i j row d v V hd hv;obtain⟨cs',_,W,g3⟩:=J i row V;obtain⟨_,hl,E⟩:=Aq0 g3;have hj:j<P.cellsOf e:=by rw[<-U i row V];exact(Az.1 hd).1
       have:=E j hj;rw[L]at this;exact W.rep j d v hd (by grind)
   |struct fs =>
    obtain⟨Z,h2⟩:=G8o a0 hu;obtain⟨xs,n',hn,rfl,hl,a8,hr⟩:=DataW.trod_struct hu h;obtain rfl:n'=n:=by omega
    obtain⟨ds,g1,W⟩:=E1q (Ts:=Ts) (λT cs x hm h hw=>ih T cs x hm h hw) fs.toList 0 (P.cellsOf T) xs cs h2 Z hl (by omega) (λi f hf=>hr i f (by grind)) (by grind[DataW.weights])
    grind[Fc]
   |_=>grind[okT]
def F0f{T:TypeId}{fs:Array Field}(hT:C6c P Ts=true)(L:T∈Ts)(J:P.underlying T=some (.struct fs)){W:World}{base:Nat}{v:Value}{d:DataW H}{ps:List MemPlace}(E:Value.okWide P W .any base T v)
  (h:DataW.Trod enc P W 0 (λ_=>true) true T v d ps)(V:∀k,k∈d.weights P T->k<=reachBytes)(β:Names):∃n ds,Fc P n T ds/\Am (all W) W β (.agg (ds.map .d)) v:=by
 obtain⟨cs,rfl,_⟩:=WideShapes.okWide_struct J E;obtain⟨n,U⟩:=h;obtain⟨ds,O,I⟩:=D0g hT n T _ _ L U V;refine⟨n,ds,O,D8p ?_⟩;have:=Bu.agg (S:=all W) (w:=W) ds cs.toList I.len.symm I.one I.rep;omega
def D3u{T:TypeId}{k:IntKind}(I:P.underlying T=some (.int k)){W:World}{base:Nat}{v:Value}{d:DataW H}{ps:List MemPlace}(E:Value.okWide P W .any base T v)
  (h:DataW.Trod enc P W 0 (λ_=>true) true T v d ps)(β:Names):∃z:Int,Am (all W) W β (.d (.int k z)) v/\(Lit.int k z).wf=true:=by
 obtain⟨s,rfl⟩:=WideShapes.okWide_int I E;obtain⟨n,O⟩:=h;obtain⟨z,J,_,L⟩:=DataW.trod_int I O;have:s=z:=by simpa [Value.cells]using J
 subst this;exact⟨s,.d _ _ (.int k s),L⟩
def Gh.none(P:Program)(sy ra:TypeId × Value):Gh:=⟨⟨P,0,0,0,λ_=>.undef,λ_=>false,λ_ _ _=>False⟩,λ_ _ _ _=>False,sy,ra⟩
def Aa.calls{f:FuncId}{args:List SV}{r:SV}(h:Aa P f args r){W:World}{β:Names}{vs:List Value}(Z:Bv (all W) W β args vs){sy ra:TypeId × Value}(ht:∀b cs,A9q sy ra b cs->∃ty U,W.heap[b]?=some (.cells cs ty U)) :
  Calls P f ⟨vs⟩ W λe O=>∃v S' β',e=.returned v/\Am S' O β' r v/\RowKit.Below W.heap.size W O:=by
 have L:Inv ⟨W,all W,λ_=>False,λ_ _=>False,Gh.none P sy ra⟩ (all W) W β []:={
  Fe:=λ_ E=>E,Ej:=λ_ E=>.inl E,Bw:=λ_ E=>E,kept:=λ_ _ _=>rfl,os:=rfl,tape:=rfl,output:=rfl,size:=Bs _,
  box:=λk c I=>by grind,Ba:=λk c I=>by grind,inj:=λk c V c' I=>by simp,fix:=λ_ _ h=>h.elim
  E2:=λb cs E=>by
   obtain⟨ty,U,h⟩:=ht b cs E
   grind
  one:=λk Y st V Y' st' I=>by simp
  Fo:=λk Y st I=>by grind }
 refine(h.2 ⟨W,all W,λ_=>False,λ_ _=>False,Gh.none P sy ra⟩ β vs L Z).mono ?_;rintro e O ⟨v,S',β',rfl,J,hr⟩;exact⟨v,S',β',rfl,hr,⟨J.os,J.tape,J.output,J.size,λk I=>J.kept k I id⟩⟩
end Go.Abs
/- Data of the program's types are types, expressions, declarations, programs -/
namespace Go.Abs
open Go Go.Proofs Tryz
variable {P:Program}
def A3i{T:TypeId}(E:P.underlying T=some .string):∀{n:Nat} {ds:List D},Fc P n T ds->∃s:A2,ds=[.str s]
 |0,_,h=>by simp[Fc]at h
 |n+1,_,h=>by rw[Fc,E]at h;exact h
def A3e{T:TypeId}{k:IntKind}(E:P.underlying T=some (.int k)):∀{n:Nat} {ds:List D},Fc P n T ds->∃z,ds=[.int k z]
 |0,_,h=>by simp[Fc]at h
 |n+1,_,h=>by rw[Fc,E]at h;exact h
def A3n{T e:TypeId}(E:P.underlying T=some (.slice e)):∀{n:Nat} {ds:List D},Fc P n T ds->∃m rows,n=m+1/\ds=[.slice rows]/\∀row,row∈rows->Fc P m e row
 |0,_,h=>by simp[Fc]at h
 |n+1,_,h=>by grind[Fc]
def A6h{T:TypeId}{fs:Array Field}(E:P.underlying T=some (.struct fs)):∀{n:Nat} {ds:List D},Fc P n T ds->∃m,n=m+1/\Te P m fs.toList ds
 |0,_,h=>by simp[Fc]at h
 |n+1,_,h=>by grind[Fc]
def A0j{α:Type}{C:α->List D}{Q:List D->Prop}(h:∀row,Q row->∃x,row=C x):∀(rows:List (List D)),(∀row,row∈rows->Q row)->∃l:List α,rows=l.map C
 |[],_=>⟨[],rfl⟩
 |row::rows,hr=>by obtain⟨x,I⟩:=h row (hr row (by simp));obtain⟨l,J⟩:=A0j h rows λr E=>hr r (by grind);exact⟨x::l,by grind⟩
def B1n:∀(n:Nat) {ds:List D},Fc Tryz.prog n 25 ds->∃t:Ty,ds=Bo t:=by
 intro n
 induction n using Nat.strongRecOn with
 |ind n L =>
 intro ds h;obtain⟨m,rfl,I⟩:=A6h underlying25 h;simp only[Te]at I;obtain⟨a,_,rfl,J,_,b,_,rfl,O,_,c,_,rfl,U,_,rfl⟩:=I;obtain⟨s,rfl⟩:=A3i underlying9 J;obtain⟨k,rows,rfl,rfl,hr⟩:=A3n underlying23 O;obtain⟨z,rfl⟩:=A3e underlying3 U;obtain⟨l,rfl⟩:=A0j (C:=Bo) (λrow E=>L k (by omega) E) rows hr;exact⟨.mk s l z,by simp[Bo,Ty.name,Ty.args,Ty.pos,Dj]⟩
variable {n:Nat} {ds:List D}
def F8f(h:Fc Tryz.prog n 23 ds):∃l:List Ty,ds=[.slice (Ax l)]:=by obtain⟨k,rows,rfl,rfl,hr⟩:=A3n underlying23 h;obtain⟨l,rfl⟩:=A0j (C:=Bo) (λrow E=>B1n k E) rows hr;exact⟨l,by rw[Dj]⟩
def F3g(h:Fc Tryz.prog n 53 ds):∃l:List A2,ds=[.slice (Bq l)]:=by obtain⟨k,rows,rfl,rfl,hr⟩:=A3n underlying53 h;obtain⟨l,rfl⟩:=A0j (C:=λs:A2=>[.str s]) (λrow E=>A3i underlying9 E) rows hr;exact⟨l,rfl⟩
def D1h:∀(n:Nat) {ds:List D},Fc Tryz.prog n 28 ds->∃e:Ex,ds=Cg e:=by
 intro n
 induction n using Nat.strongRecOn with
 |ind n U =>
 intro ds h;obtain⟨m,rfl,I⟩:=A6h underlying28 h;simp only[Te]at I;obtain⟨a,_,rfl,O,_,b,_,rfl,V,_,c,_,rfl,W,_,d,_,rfl,J,_,e,_,rfl,L,_,f,_,rfl,Z,_,rfl⟩:=I;obtain⟨z,rfl⟩:=A3e underlying3 O;obtain⟨s,rfl⟩:=A3i underlying9 V;obtain⟨t,rfl⟩:=B1n m W;obtain⟨l,rfl⟩:=F8f J;obtain⟨k,rows,rfl,rfl,hr⟩:=A3n underlying26 L;obtain⟨q,rfl⟩:=A3e underlying3 Z;obtain⟨ks,rfl⟩:=A0j (C:=Cg) (λrow E=>U k (by omega) E) rows hr;exact⟨.mk z s t l ks q,by simp[Cg,Bo,Ex.kind,Ex.name,Ex.type,Ex.targs,Ex.kids,Ex.pos,Pt]⟩
def G2x(h:Fc Tryz.prog n 59 ds):∃e:Ah,ds=Jm e:=by obtain⟨m,rfl,E⟩:=A6h underlying59 h;simp only[Te]at E;obtain⟨a,_,rfl,L,_,b,_,rfl,I,_,c,_,rfl,J,_,rfl⟩:=E;obtain⟨s,rfl⟩:=A3i underlying9 L;obtain⟨t,rfl⟩:=B1n m I;obtain⟨z,rfl⟩:=A3e underlying3 J;exact⟨⟨s,t,z⟩,rfl⟩
def F2u(h:Fc Tryz.prog n 116 ds):∃e:Param,ds=G9 e:=by obtain⟨m,rfl,E⟩:=A6h underlying116 h;simp only[Te]at E;obtain⟨a,_,rfl,L,_,b,_,rfl,I,_,c,_,rfl,J,_,rfl⟩:=E;obtain⟨s,rfl⟩:=A3i underlying9 L;obtain⟨t,rfl⟩:=B1n m I;obtain⟨z,rfl⟩:=A3e underlying3 J;exact⟨⟨s,t,z⟩,rfl⟩
def D5f(h:Fc Tryz.prog n 50 ds):∃l:List Ah,ds=[.slice (Ag l)]:=by obtain⟨k,rows,rfl,rfl,hr⟩:=A3n underlying50 h;obtain⟨l,rfl⟩:=A0j (C:=Jm) (λrow E=>G2x E) rows hr;exact⟨l,rfl⟩
def E0s(h:Fc Tryz.prog n 51 ds):∃l:List Param,ds=[.slice (Av l)]:=by obtain⟨k,rows,rfl,rfl,hr⟩:=A3n underlying51 h;obtain⟨l,rfl⟩:=A0j (C:=G9) (λrow E=>F2u E) rows hr;exact⟨l,rfl⟩
def D8s(h:Fc Tryz.prog n 55 ds):∃e:A3,ds=Dd e:=by obtain⟨m,rfl,E⟩:=A6h underlying55 h;simp only[Te]at E;obtain⟨a,_,rfl,L,_,b,_,rfl,O,_,c,_,rfl,U,_,d,_,rfl,I,_,e,_,rfl,J,_,rfl⟩:=E;obtain⟨s,rfl⟩:=A3i underlying9 L;obtain⟨fs,rfl⟩:=D5f O;obtain⟨ps,rfl⟩:=E0s U;obtain⟨t,rfl⟩:=B1n m I;obtain⟨z,rfl⟩:=A3e underlying3 J;exact⟨⟨s,fs,ps,t,z⟩,rfl⟩
def G5x(h:Fc Tryz.prog n 52 ds):∃l:List A3,ds=[.slice (B0 l)]:=by obtain⟨k,rows,rfl,rfl,hr⟩:=A3n underlying52 h;obtain⟨l,rfl⟩:=A0j (C:=Dd) (λrow E=>D8s E) rows hr;exact⟨l,rfl⟩
def H1d(h:Fc Tryz.prog n 57 ds):∃e:Decl,ds=Ar e:=by obtain⟨m,rfl,I⟩:=A6h underlying57 h;simp only[Te]at I;obtain⟨a,_,rfl,U,_,b,_,rfl,V,_,c,_,rfl,W,_,d,_,rfl,J,_,e,_,rfl,O,_,f,_,rfl,h6,_,g,_,rfl,L,_,i,_,rfl,h8,_,j,_,rfl,h9,_,k,_,rfl,E,_,rfl⟩:=I;obtain⟨z,rfl⟩:=A3e underlying3 U;obtain⟨s,rfl⟩:=A3i underlying9 V;obtain⟨fs,rfl⟩:=D5f W;obtain⟨ps,rfl⟩:=E0s J;obtain⟨ss,rfl⟩:=G5x O;obtain⟨r,rfl⟩:=A3i underlying9 h6;obtain⟨vs,rfl⟩:=F3g L;obtain⟨Z,rfl⟩:=D8s h8;obtain⟨bd,rfl⟩:=D1h m h9;obtain⟨q,rfl⟩:=A3e underlying3 E;exact⟨⟨z,s,fs,ps,ss,r,vs,Z,bd,q⟩,by simp[Ar,Dd,Cg]⟩
def F9e(h:Fc Tryz.prog n 22 ds):∃l:List Decl,ds=[.slice (C1 l)]:=by obtain⟨k,rows,rfl,rfl,hr⟩:=A3n underlying22 h;obtain⟨l,rfl⟩:=A0j (C:=Ar) (λrow E=>H1d E) rows hr;exact⟨l,rfl⟩
def F3d(h:Fc Tryz.prog n 30 ds):∃p:Prog,ds=Aj p:=by obtain⟨m,rfl,E⟩:=A6h underlying30 h;simp only[Te]at E;obtain⟨a,_,rfl,J,_,b,_,rfl,I,_,rfl⟩:=E;obtain⟨l,rfl⟩:=F9e J;obtain⟨e,rfl⟩:=D1h m I;exact⟨⟨l,e⟩,by simp[Aj,Cg]⟩
def E5f:List TypeId:=[3,4,9,53,25,23,28,26,59,50,116,51,55,52,57,22,30]
def F7u:C6c Tryz.prog E5f=true:=by kernel_rfl
variable {H:Type} {enc:TypeId × Value->H}
def G0k{W:World}{base:Nat}{v:Value}{d:DataW H}{ps:List MemPlace}(E:Value.okWide Tryz.prog W .any base 30 v)
  (h:DataW.Trod enc Tryz.prog W 0 (λ_=>true) true 30 v d ps)(I:∀k,k∈d.weights Tryz.prog 30->k<=reachBytes)(β:Names):∃p:Prog,Am (all W) W β (Ct p) v:=by
 obtain⟨n,ds,L,J⟩:=F0f F7u (by simp[E5f]) underlying30 E h I β;obtain⟨p,rfl⟩:=F3d L;exact⟨p,J⟩
end Go.Abs
