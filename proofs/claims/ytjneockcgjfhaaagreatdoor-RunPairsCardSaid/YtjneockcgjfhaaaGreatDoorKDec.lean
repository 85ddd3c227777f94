/- Arguments as the form reads them are data: from DataW.trod to RepC. Own framework, part Read. -/
import Derived.ProofKit
import Derived.Deep.Slices
import Derived.Test.YtjneockcgjfhaaaGreatDoorKEnc
import Derived.Test.YtjneockcgjfhaaaGreatDoorKTypes
set_option linter.all false
set_option maxHeartbeats 1000000
set_option maxRecDepth 100000
namespace Go.Abs
open Go
variable {P:Program} {Ts:List TypeId}
def Zt(P:Program):List Field->Nat->Nat->Bool
 |[],o,m=>o ==m
 |f::fs,o,m=>f.offset ==o && Zt P fs (o+P.cellsOf f.type) m
def okT(P:Program)(Ts:List TypeId)(T:TypeId):Bool:=match P.underlying T with
 |some .bool=>true
 |some (.int _)=>true
 |some .string=>true
 |some (.slice e)=>Ts.contains e && Nat.ble 1 (P.bytesOf e) && Nat.ble 1 (P.cellsOf e)
 |some (.struct fs)=>fs.toList.all (λf=>Ts.contains f.type) && Zt P fs.toList 0 (P.cellsOf T)
 |_=>false
def C1d(P:Program)(Ts:List TypeId):Bool:=Ts.all (okT P Ts)
mutual
def Fe(P:Program):Nat->TypeId->List D->Prop
 |0,_,_=>False
 |n+1,T,ds=>match P.underlying T with
  |some .bool=>∃b,ds=[.bool b]
  |some (.int k)=>∃z,ds=[.int k z]
  |some .string=>∃s,ds=[.str s]
  |some (.slice e)=>∃rows,ds=[.slice rows]/\∀row,row∈rows->Fe P n e row
  |some (.struct fs)=>Tc P n fs.toList ds
  |_=>False
def Tc(P:Program):Nat->List Field->List D->Prop
 |_,[],ds=>ds=[]
 |n,f::fs,ds=>∃a b,ds=a++b/\Fe P n f.type a/\a.length=P.cellsOf f.type/\Tc P n fs b
end
structure Reads(w:World)(ds:List D)(cs:List Value):Prop where
 len:ds.length=cs.length
 one:∀d,d∈ds->d.one=true
 rep:∀(j:Nat) (d:D) (v:Value),ds[j]?=some d->cs[j]?=some v->C0 (all w) w d v
theorem Reads.nil{w:World}:Reads w [] []:=⟨rfl,by simp,by simp⟩
def Reads.single{w:World}{d:D}{v:Value}(h:C0 (all w) w d v)(E:d.one=true):Reads w [d] [v]:=by refine⟨rfl,by grind,?_⟩;grind
def Reads.append{w:World}{a b:List D}{x y:List Value}(h:Reads w a x)(k:Reads w b y):Reads w (a++b) (x++y):=by refine⟨by simp[h.len,k.len],?_,?_⟩;intro d hd;rcases C6.1 hd with hd|hd;exact h.one d hd;exact k.one d hd;intro j d v E I;by_cases J:j<a.length;rw[N0 J]at E;rw[N0 (by have:=h.len;omega)]at I;exact h.rep j d v E I;rw[Ma (by omega)]at E;rw[Ma (by have:=h.len;omega)]at I;exact k.rep (j - a.length) d v E (by rw[h.len];exact I)
variable {H:Type} {enc:TypeId × Value->H} {w:World}
def E6h{T:TypeId}:∀(fs:List Field)(o m:Nat),Zt P fs o m=true->o<=m
 |[],o,m,h=>by simp[Zt]at h;omega
 |f::fs,o,m,h=>by simp only[Zt,Bi,Wy]at h;have:=E6h (T:=T) fs _ m h.2;omega
def E7f{n:Nat}(W:∀(T:TypeId)(cs:List Value)(x:DataW H × List MemPlace),T∈Ts->DataW.trod enc P w 0 (λ_=>true) true n T cs=some x->(∀k,k∈x.1.weights P T->k<=reachBytes) -> ∃ds,Fe P n T ds/\Reads w ds cs) :∀(fs:List Field) (o m:Nat) (xs:List (DataW H × List MemPlace)) (cs:List Value),Zt P fs o m=true->(∀f,f∈fs->f.type∈Ts)->cs.length=m->xs.length=fs.length -> (∀(i:Nat) (f:Field),fs[i]?=some f->DataW.trod enc P w 0 (λ_=>true) true n f.type ((cs.drop f.offset).take (P.cellsOf f.type))=xs[i]?) -> (∀k,k∈DataW.weightsEach P (fs.map (·.type)) (xs.map (·.1))->k<=reachBytes) ->∃ds,Tc P n fs ds/\Reads w ds (cs.drop o)
 |[],o,m,xs,cs,ht,_,Z,_,_,_=>by simp[Zt]at ht;refine⟨[],by simp[Tc],?_⟩;rw[Jf (by omega)];exact .nil
 |f::fs,o,m,xs,cs,ht,hT,Z,hx,hr,U=>by
  simp only[Zt,Bi,Wy]at ht;obtain⟨ho,ht⟩:=ht;cases xs with
  |nil=>grind
  |cons x xs =>
   have L:=hr 0 f rfl;simp at L;rw[ho]at L;simp only[Cp,DataW.weightsEach]at U;obtain⟨a,V,E⟩:=W f.type _ x (hT f (by simp)) L (λk O=>U k (C6.2 (.inl O)));obtain⟨b,I,J⟩:=E7f W fs (o+P.cellsOf f.type) m xs cs ht (λg hg=>hT g (by grind)) Z (by grind) (λi g hg=>by have:=hr (i+1) g (by grind);grind) (λk O=>U k (C6.2 (.inr O)))
   have a0:=E6h (P:=P) (T:=0) fs _ m ht;refine⟨a++b,?_,?_⟩
   .rw[Tc];refine⟨a,b,rfl,V,?_,I⟩;rw[E.len];grind
   .have:=E.append J
    grind[List.drop_drop,List.take_append_drop]
def D3z{e:TypeId}:∀(l:List (DataW H))(d:DataW H),d∈l->∀k,k∈d.weights P e->k∈DataW.weightsAll P e l
 |[],_,h,_,_=>by grind
 |x::l,d,h,k,E=>by simp only[DataW.weightsAll,C6];rcases B5.1 h with rfl|h;grind;exact .inr (D3z l d h k E)
def G5n{T e:TypeId}(h:okT P Ts T=true)(E:P.underlying T=some (.slice e)):e∈Ts/\1<=P.bytesOf e/\1<=P.cellsOf e:=by unfold okT at h;simp_all
def H1h{T:TypeId}{fs:Array Field}(h:okT P Ts T=true)(E:P.underlying T=some (.struct fs)):(∀f,f∈fs.toList->f.type∈Ts)/\Zt P fs.toList 0 (P.cellsOf T)=true:=by unfold okT at h;grind
def D9a(hT:C1d P Ts=true):∀(n:Nat)(T:TypeId)(cs:List Value)(x:DataW H × List MemPlace),T∈Ts->DataW.trod enc P w 0 (λ_=>true) true n T cs=some x->(∀k,k∈x.1.weights P T->k<=reachBytes) ->∃ds,Fe P n T ds/\Reads w ds cs
 |0,T,cs,x,_,h,_=>by simp[DataW.trod]at h
 |n+1,T,cs,x,hm,h,hw=>by
  have a1:=Dr.1 hT T hm;have ih:=D9a hT n;cases hu:P.underlying T with
  |none=>grind[okT]
  |some a0 =>
   cases a0 with
   |bool =>obtain⟨b,rfl,rfl⟩:=DataW.trod_bool hu h;exact⟨[.bool b],by grind[Fe],.single (.bool b) rfl⟩
   |int k =>obtain⟨z,rfl,rfl,_⟩:=DataW.trod_int hu h;exact⟨[.int k z],by grind[Fe],.single (.int k z) rfl⟩
   |string =>obtain⟨s,rfl,rfl,hs⟩:=DataW.trod_string hu h;have:=hw s.data.toList.length (by simp[DataW.weights]);refine⟨[.str s.data.toList],by grind[Fe],.single ?_ rfl⟩;exact C0.str s.data.toList (Dd this (by decide))
   |slice e =>
    obtain⟨he,a6,aa⟩:=G5n a1 hu;rcases DataW.trod_slice hu h with⟨rfl,rfl⟩|⟨a,len,cap,I,rest,n',hn,rfl,rfl,_,a',a8,ab,a2,_,_⟩
    .exact⟨[.slice []],by grind[Fe],.single (.Lw none 0 (λ_=>rfl)) rfl⟩
    .obtain rfl:n'=n:=by omega
     simp only[DataW.weights,hu,B5,C6]at hw;have a7:len<=lim:=by
      have W:=hw _ (.inl rfl);simp at W;have h2:(I.length+rest.length)*1<=(I.length+rest.length)*P.bytesOf e:=Ak9 _ a6;have h3:reachBytes<=lim:=by decide
      omega
     have key:∀i,i<len->∃ds cs',Fe P n' e ds/\Reads w ds cs'/\w.cells? 0 (a.add (i*P.cellsOf e)) (P.cellsOf e)=some cs':=by intro i V;have W:=a2 i V;have h2:I[i]?=some I[i]:=Br (by omega);rw[h2]at W;obtain⟨cs',hc,ht⟩:=Option.bind_eq_some_iff.1 W;obtain⟨ds,g1,Z⟩:=ih e cs' _ he ht (λk hk=>hw k (.inr (.inl (D3z _ _ (Au.2 ⟨I[i],Gi _,rfl⟩) k hk))));exact⟨ds,cs',g1,Z,hc⟩
     cases len with
     |zero=>exact⟨[.slice []],by grind[Fe],.single (.Lw (some a) cap (by simp)) rfl⟩
     |succ len =>
      have L:a.spot=none:=by obtain⟨ds,cs',_,_,hc⟩:=key 0 (by omega);obtain⟨_,hl,E⟩:=Aq5 hc;have h0:=E 0 (by omega);have W:cs'[0]?=some cs'[0]:=Br (by omega);rw[W]at h0;have:=World.cell?_spot h0;simpa [Addr.add]using this
      obtain⟨b,off,spot⟩:=a;simp only at L;subst L;have O:∀i j,((⟨b,off,none⟩:Addr).add (i*P.cellsOf e)).add j=⟨b,off+(i*P.cellsOf e+j),none⟩:=by intro i j;rw[Yi,Yi,Xo]
      have a5:∃rows:List (List D),rows.length=len+1/\∀i row,rows[i]?=some row->∃cs',Fe P n' e row/\Reads w row cs'/\w.cells? 0 ((⟨b,off,none⟩:Addr).add (i*P.cellsOf e)) (P.cellsOf e)=some cs':=by
       have gen:∀m,m<=len+1->∃rows:List (List D),rows.length=m/\∀i row,rows[i]?=some row->∃cs',Fe P n' e row/\Reads w row cs'/\w.cells? 0 ((⟨b,off,none⟩:Addr).add (i*P.cellsOf e)) (P.cellsOf e)=some cs':=by
        intro m
        induction m with
        |zero=>simp
        |succ m a3 =>
         intro a9;obtain⟨rows,W,h2⟩:=a3 (by omega);obtain⟨ds,cs',g1,Z,g3⟩:=key m (by omega);refine⟨rows++[ds],by grind,?_⟩
         grind
       exact gen (len+1) (Bq _)
      obtain⟨rows,a4,J⟩:=a5;have hb:b<w.heap.size:=by obtain⟨ds,cs',_,_,hc⟩:=key 0 (by omega);obtain⟨_,hl,E⟩:=Aq5 hc;have h0:=E 0 (by omega);rw[Br (by omega)]at h0;rw[O]at h0;refine Classical.byContradiction λhc=>?_;have:w.heap[b]?=none:=Array.getElem?_eq_none (by omega);simp[World.cell?,this]at h0
      refine⟨[.slice rows],by grind[Fe,List.mem_iff_getElem?],.single ?_ rfl⟩;have U:∀(i:Nat) (row:List D),rows[i]?=some row->row.length=P.cellsOf e:=by intro i row V;obtain⟨cs',_,Z,g3⟩:=J i row V;rw[Z.len,(Aq5 g3).2.1]
      rw[<-a4];refine .slice rows b off cap (P.cellsOf e) hb (by omega) (by omega) ?_ ?_ ?_ ?_
      .grind[List.mem_iff_getElem?]
      .intro row hr d hd;obtain⟨i,V⟩:=Wz.1 hr;obtain⟨cs',_,Z,_⟩:=J i row V;exact Z.one d hd
      .intro i j V hj;obtain⟨cs',_,_,g3⟩:=J i rows[i] (Br V);obtain⟨_,hl,E⟩:=Aq5 g3
       grind
      .intro i j row d v V hd hv;obtain⟨cs',_,Z,g3⟩:=J i row V;obtain⟨_,hl,E⟩:=Aq5 g3;have hj:j<P.cellsOf e:=by rw[<-U i row V];exact(Aw.1 hd).1
       have:=E j hj;rw[O]at this;exact Z.rep j d v hd (by grind)
   |struct fs =>
    obtain⟨W,h2⟩:=H1h a1 hu;obtain⟨xs,n',hn,rfl,hl,ac,hr⟩:=DataW.trod_struct hu h;obtain rfl:n'=n:=by omega
    obtain⟨ds,g1,Z⟩:=E7f (Ts:=Ts) (λT cs x hm h hw=>ih T cs x hm h hw) fs.toList 0 (P.cellsOf T) xs cs h2 W hl (by omega) (λi f hf=>hr i f (by grind)) (by grind[DataW.weights])
    grind[Fe]
   |_=>grind[okT]
def G6c{T:TypeId}{fs:Array Field}(hT:C1d P Ts=true)(L:T∈Ts)(V:P.underlying T=some (.struct fs)){W:World}{base:Nat}{v:Value}{d:DataW H}{ps:List MemPlace}(E:Value.okWide P W .any base T v)
  (h:DataW.Trod enc P W 0 (λ_=>true) true T v d ps)(O:∀k,k∈d.weights P T->k<=reachBytes)(β:Names):∃n ds,Fe P n T ds/\An (all W) W β (.agg (ds.map .d)) v:=by obtain⟨cs,rfl,_⟩:=WideShapes.okWide_struct V E;obtain⟨n,U⟩:=h;obtain⟨ds,J,I⟩:=D9a hT n T _ _ L U O;refine⟨n,ds,J,E3m ?_⟩;have:=C0.agg (S:=all W) (w:=W) ds cs.toList I.len.symm I.one I.rep;omega
def F6m{T:TypeId}{k:IntKind}(I:P.underlying T=some (.int k)){W:World}{base:Nat}{v:Value}{d:DataW H}{ps:List MemPlace}(E:Value.okWide P W .any base T v)
  (h:DataW.Trod enc P W 0 (λ_=>true) true T v d ps)(β:Names):∃z:Int,An (all W) W β (.d (.int k z)) v/\(Lit.int k z).wf=true:=by
 obtain⟨s,rfl⟩:=WideShapes.okWide_int I E;obtain⟨n,L⟩:=h;obtain⟨z,J,_,O⟩:=DataW.trod_int I L;have:s=z:=by simpa [Value.cells]using J
 subst this;exact⟨s,.d _ _ (.int k s),O⟩
def Gh.none(P:Program)(sy ra:TypeId × Value):Gh:=⟨⟨P,0,0,0,λ_=>.undef,λ_=>false,λ_ _ _=>False⟩,λ_ _ _ _=>False,sy,ra⟩
def Ab.calls{f:FuncId}{args:List SV}{r:SV}(h:Ab P f args r){W:World}{β:Names}{vs:List Value}(V:Bz (all W) W β args vs){sy ra:TypeId × Value}(ht:∀b cs,A2s sy ra b cs->∃ty U,W.heap[b]?=some (.cells cs ty U)) :Calls P f ⟨vs⟩ W λe O=>∃v S' β',e=.returned v/\An S' O β' r v/\RowKit.Below W.heap.size W O:=by
 have L:Inv ⟨W,all W,λ_=>False,λ_ _=>False,Gh.none P sy ra⟩ (all W) W β []:={
  Fh:=λ_ E=>E,Ei:=λ_ E=>.inl E,C3:=λ_ E=>E,kept:=λ_ _ _=>rfl,os:=rfl,tape:=rfl,output:=rfl,size:=Bq _,
  box:=λk c I=>by grind,Bh:=λk c I=>by grind,inj:=λk c Z c' I=>by simp,fix:=λ_ _ h=>h.elim
  Dv:=λb cs E=>by
   obtain⟨ty,U,h⟩:=ht b cs E
   grind
  one:=λk Y st Z Y' st' I=>by simp
  Fp:=λk Y st I=>by grind }
 refine(h.2 ⟨W,all W,λ_=>False,λ_ _=>False,Gh.none P sy ra⟩ β vs L V).mono ?_;rintro e O ⟨v,S',β',rfl,J,hr⟩;exact⟨v,S',β',rfl,hr,⟨J.os,J.tape,J.output,J.size,λk I=>J.kept k I id⟩⟩
end Go.Abs
/- Data of the program's types are types, expressions, declarations, programs -/
namespace Go.Abs
open Go Go.Proofs Tryz
variable {P:Program}
def A1c{T:TypeId}(E:P.underlying T=some .string):∀{n:Nat} {ds:List D},Fe P n T ds->∃s:A2,ds=[.str s]
 |0,_,h=>by simp[Fe]at h
 |n+1,_,h=>by rw[Fe,E]at h;exact h
def A1m{T:TypeId}{k:IntKind}(E:P.underlying T=some (.int k)):∀{n:Nat} {ds:List D},Fe P n T ds->∃z,ds=[.int k z]
 |0,_,h=>by simp[Fe]at h
 |n+1,_,h=>by rw[Fe,E]at h;exact h
def A2q{T e:TypeId}(E:P.underlying T=some (.slice e)):∀{n:Nat} {ds:List D},Fe P n T ds->∃m rows,n=m+1/\ds=[.slice rows]/\∀row,row∈rows->Fe P m e row
 |0,_,h=>by simp[Fe]at h
 |n+1,_,h=>by grind[Fe]
def A6a{T:TypeId}{fs:Array Field}(E:P.underlying T=some (.struct fs)):∀{n:Nat} {ds:List D},Fe P n T ds->∃m,n=m+1/\Tc P m fs.toList ds
 |0,_,h=>by simp[Fe]at h
 |n+1,_,h=>by grind[Fe]
def Z9{α:Type}{C:α->List D}{Q:List D->Prop}(h:∀row,Q row->∃x,row=C x):∀(rows:List (List D)),(∀row,row∈rows->Q row)->∃l:List α,rows=l.map C
 |[],_=>⟨[],rfl⟩
 |row::rows,hr=>by obtain⟨x,I⟩:=h row (hr row (by simp));obtain⟨l,J⟩:=Z9 h rows λr E=>hr r (by grind);exact⟨x::l,by grind⟩
def B4m:∀(n:Nat) {ds:List D},Fe Tryz.prog n 25 ds->∃t:Ty,ds=Bs t:=by
 intro n
 induction n using Nat.strongRecOn with
 |ind n O =>
 intro ds h;obtain⟨m,rfl,I⟩:=A6a underlying25 h;simp only[Tc]at I;obtain⟨a,_,rfl,J,_,b,_,rfl,U,_,c,_,rfl,L,_,rfl⟩:=I;obtain⟨s,rfl⟩:=A1c underlying9 J;obtain⟨k,rows,rfl,rfl,hr⟩:=A2q underlying23 U;obtain⟨z,rfl⟩:=A1m underlying3 L;obtain⟨l,rfl⟩:=Z9 (C:=Bs) (λrow E=>O k (by omega) E) rows hr;exact⟨.mk s l z,by simp[Bs,Ty.name,Ty.args,Ty.pos,H3]⟩
variable {n:Nat} {ds:List D}
def F3s(h:Fe Tryz.prog n 23 ds):∃l:List Ty,ds=[.slice (Ag l)]:=by obtain⟨k,rows,rfl,rfl,hr⟩:=A2q underlying23 h;obtain⟨l,rfl⟩:=Z9 (C:=Bs) (λrow E=>B4m k E) rows hr;exact⟨l,by rw[H3]⟩
def F2h(h:Fe Tryz.prog n 49 ds):∃l:List A2,ds=[.slice (Ba l)]:=by obtain⟨k,rows,rfl,rfl,hr⟩:=A2q underlying49 h;obtain⟨l,rfl⟩:=Z9 (C:=λs:A2=>[.str s]) (λrow E=>A1c underlying9 E) rows hr;exact⟨l,rfl⟩
def D6n:∀(n:Nat) {ds:List D},Fe Tryz.prog n 28 ds->∃e:Ex,ds=Bp e:=by
 intro n
 induction n using Nat.strongRecOn with
 |ind n V =>
 intro ds h;obtain⟨m,rfl,I⟩:=A6a underlying28 h;simp only[Tc]at I;obtain⟨a,_,rfl,J,_,b,_,rfl,Z,_,c,_,rfl,O,_,d,_,rfl,W,_,e,_,rfl,U,_,f,_,rfl,L,_,rfl⟩:=I;obtain⟨z,rfl⟩:=A1m underlying3 J;obtain⟨s,rfl⟩:=A1c underlying9 Z;obtain⟨t,rfl⟩:=B4m m O;obtain⟨l,rfl⟩:=F3s W;obtain⟨k,rows,rfl,rfl,hr⟩:=A2q underlying26 U;obtain⟨q,rfl⟩:=A1m underlying3 L;obtain⟨ks,rfl⟩:=Z9 (C:=Bp) (λrow E=>V k (by omega) E) rows hr;exact⟨.mk z s t l ks q,by simp[Bp,Bs,Ex.kind,Ex.name,Ex.type,Ex.targs,Ex.kids,Ex.pos,I0]⟩
def F2u(h:Fe Tryz.prog n 156 ds):∃e:Ak,ds=Gs e:=by obtain⟨m,rfl,E⟩:=A6a underlying156 h;simp only[Tc]at E;obtain⟨a,_,rfl,I,_,b,_,rfl,J,_,c,_,rfl,L,_,rfl⟩:=E;obtain⟨s,rfl⟩:=A1c underlying9 I;obtain⟨t,rfl⟩:=B4m m J;obtain⟨z,rfl⟩:=A1m underlying3 L;exact⟨⟨s,t,z⟩,rfl⟩
def F9h(h:Fe Tryz.prog n 98 ds):∃e:Param,ds=E9 e:=by obtain⟨m,rfl,E⟩:=A6a underlying98 h;simp only[Tc]at E;obtain⟨a,_,rfl,I,_,b,_,rfl,J,_,c,_,rfl,L,_,rfl⟩:=E;obtain⟨s,rfl⟩:=A1c underlying9 I;obtain⟨t,rfl⟩:=B4m m J;obtain⟨z,rfl⟩:=A1m underlying3 L;exact⟨⟨s,t,z⟩,rfl⟩
def D0k(h:Fe Tryz.prog n 46 ds):∃l:List Ak,ds=[.slice (Ax l)]:=by obtain⟨k,rows,rfl,rfl,hr⟩:=A2q underlying46 h;obtain⟨l,rfl⟩:=Z9 (C:=Gs) (λrow E=>F2u E) rows hr;exact⟨l,rfl⟩
def D7i(h:Fe Tryz.prog n 47 ds):∃l:List Param,ds=[.slice (Ay l)]:=by obtain⟨k,rows,rfl,rfl,hr⟩:=A2q underlying47 h;obtain⟨l,rfl⟩:=Z9 (C:=E9) (λrow E=>F9h E) rows hr;exact⟨l,rfl⟩
def D8p(h:Fe Tryz.prog n 51 ds):∃e:A4,ds=Dm e:=by obtain⟨m,rfl,E⟩:=A6a underlying51 h;simp only[Tc]at E;obtain⟨a,_,rfl,I,_,b,_,rfl,U,_,c,_,rfl,J,_,d,_,rfl,O,_,e,_,rfl,L,_,rfl⟩:=E;obtain⟨s,rfl⟩:=A1c underlying9 I;obtain⟨fs,rfl⟩:=D0k U;obtain⟨ps,rfl⟩:=D7i J;obtain⟨t,rfl⟩:=B4m m O;obtain⟨z,rfl⟩:=A1m underlying3 L;exact⟨⟨s,fs,ps,t,z⟩,rfl⟩
def G4w(h:Fe Tryz.prog n 48 ds):∃l:List A4,ds=[.slice (B9 l)]:=by obtain⟨k,rows,rfl,rfl,hr⟩:=A2q underlying48 h;obtain⟨l,rfl⟩:=Z9 (C:=Dm) (λrow E=>D8p E) rows hr;exact⟨l,rfl⟩
def F0r(h:Fe Tryz.prog n 53 ds):∃e:Decl,ds=B3 e:=by obtain⟨m,rfl,I⟩:=A6a underlying53 h;simp only[Tc]at I;obtain⟨a,_,rfl,J,_,b,_,rfl,h2,_,c,_,rfl,V,_,d,_,rfl,h4,_,e,_,rfl,W,_,f,_,rfl,L,_,g,_,rfl,Z,_,i,_,rfl,O,_,j,_,rfl,h9,_,k,_,rfl,E,_,rfl⟩:=I;obtain⟨z,rfl⟩:=A1m underlying3 J;obtain⟨s,rfl⟩:=A1c underlying9 h2;obtain⟨fs,rfl⟩:=D0k V;obtain⟨ps,rfl⟩:=D7i h4;obtain⟨ss,rfl⟩:=G4w W;obtain⟨r,rfl⟩:=A1c underlying9 L;obtain⟨vs,rfl⟩:=F2h Z;obtain⟨U,rfl⟩:=D8p O;obtain⟨bd,rfl⟩:=D6n m h9;obtain⟨q,rfl⟩:=A1m underlying3 E;exact⟨⟨z,s,fs,ps,ss,r,vs,U,bd,q⟩,by simp[B3,Dm,Bp]⟩
def E8c(h:Fe Tryz.prog n 22 ds):∃l:List Decl,ds=[.slice (Di l)]:=by obtain⟨k,rows,rfl,rfl,hr⟩:=A2q underlying22 h;obtain⟨l,rfl⟩:=Z9 (C:=B3) (λrow E=>F0r E) rows hr;exact⟨l,rfl⟩
def F5e(h:Fe Tryz.prog n 30 ds):∃p:Prog,ds=Ai p:=by obtain⟨m,rfl,E⟩:=A6a underlying30 h;simp only[Tc]at E;obtain⟨a,_,rfl,I,_,b,_,rfl,J,_,rfl⟩:=E;obtain⟨l,rfl⟩:=E8c I;obtain⟨e,rfl⟩:=D6n m J;exact⟨⟨l,e⟩,by simp[Ai,Bp]⟩
def E4a:List TypeId:=[3,4,9,49,25,23,28,26,156,46,98,47,51,48,53,22,30]
def F5y:C1d Tryz.prog E4a=true:=by kernel_rfl
variable {H:Type} {enc:TypeId × Value->H}
def E7s{W:World}{base:Nat}{v:Value}{d:DataW H}{ps:List MemPlace}(E:Value.okWide Tryz.prog W .any base 30 v)
  (h:DataW.Trod enc Tryz.prog W 0 (λ_=>true) true 30 v d ps)(L:∀k,k∈d.weights Tryz.prog 30->k<=reachBytes)(β:Names):∃p:Prog,An (all W) W β (Cq p) v:=by obtain⟨n,ds,I,J⟩:=G6c F5y (by simp[E4a]) underlying30 E h L β;obtain⟨p,rfl⟩:=F5e I;exact⟨p,J⟩
end Go.Abs
