/- Arguments as the form reads them are data: from DataW.trod to RepC. Own framework, part Read. -/
import Derived.ProofKit
import Derived.Deep.Slices
import Derived.Test.YtcmlfpcaeflleaaGreatDoorGEnc
import Derived.Test.YtcmlfpcaeflleaaGreatDoorGTypes
set_option linter.all false
set_option maxHeartbeats 1000000
set_option maxRecDepth 100000
namespace Go.Abs
open Go
variable {P:Program} {Ts:List TypeId}
def A1j(P:Program):List Field->Nat->Nat->Bool
 |[],o,m=>o ==m
 |f::fs,o,m=>f.offset ==o && A1j P fs (o+P.cellsOf f.type) m
def okT(P:Program)(Ts:List TypeId)(T:TypeId):Bool:=match P.underlying T with
 |some .bool=>true
 |some (.int _)=>true
 |some .string=>true
 |some (.slice e)=>Ts.contains e && Nat.ble 1 (P.bytesOf e) && Nat.ble 1 (P.cellsOf e)
 |some (.struct fs)=>fs.toList.all (λf=>Ts.contains f.type) && A1j P fs.toList 0 (P.cellsOf T)
 |_=>false
def C6z(P:Program)(Ts:List TypeId):Bool:=Ts.all (okT P Ts)
mutual
def Fq(P:Program):Nat->TypeId->List D->Prop
 |0,_,_=>False
 |n+1,T,ds=>match P.underlying T with
  |some .bool=>∃b,ds=[.bool b]
  |some (.int k)=>∃z,ds=[.int k z]
  |some .string=>∃s,ds=[.str s]
  |some (.slice e)=>∃rows,ds=[.slice rows]/\∀row,row∈rows->Fq P n e row
  |some (.struct fs)=>Ti P n fs.toList ds
  |_=>False
def Ti(P:Program):Nat->List Field->List D->Prop
 |_,[],ds=>ds=[]
 |n,f::fs,ds=>∃a b,ds=a++b/\Fq P n f.type a/\a.length=P.cellsOf f.type/\Ti P n fs b
end
structure Reads(w:World)(ds:List D)(cs:List Value):Prop where
 len:ds.length=cs.length
 one:∀d,d∈ds->d.one=true
 rep:∀(j:Nat) (d:D) (v:Value),ds[j]?=some d->cs[j]?=some v->C0 (all w) w d v
theorem Reads.nil{w:World}:Reads w [] []:=⟨rfl,by simp,by simp⟩
def Reads.single{w:World}{d:D}{v:Value}(h:C0 (all w) w d v)(J:d.one=true):Reads w [d] [v]:=by
 refine⟨rfl,by simpa using J,?_⟩;intro j M L E I;cases j with
 |zero=>simp at E I;subst E I;exact h
 |succ j=>simp at E
def Reads.append{w:World}{a b:List D}{x y:List Value}(h:Reads w a x)(k:Reads w b y):Reads w (a++b) (x++y):=by
 refine⟨by simp[h.len,k.len],?_,?_⟩
 .intro d hd;rcases D2.1 hd with hd|hd
  .exact h.one d hd
  .exact k.one d hd
 .intro j d v I E;by_cases J:j<a.length
  .rw[Ls J]at I;rw[Ls (by have:=h.len;omega)]at E;exact h.rep j d v I E
  .rw[M5 (by omega)]at I;rw[M5 (by have:=h.len;omega)]at E;exact k.rep (j - a.length) d v I (by rw[h.len];exact E)
variable {H:Type} {enc:TypeId × Value->H} {w:World}
def E3s{T:TypeId}:∀(fs:List Field)(o m:Nat),A1j P fs o m=true->o<=m
 |[],o,m,h=>by simp[A1j]at h;omega
 |f::fs,o,m,h=>by simp only[A1j,Bc,Tu]at h;have:=E3s (T:=T) fs _ m h.2;omega
def E6m{n:Nat}(Z:∀(T:TypeId)(cs:List Value)(x:DataW H × List MemPlace),T∈Ts->DataW.trod enc P w 0 (λ_=>true) true n T cs=some x->(∀k,k∈x.1.weights P T->k<=reachBytes) ->
   ∃ds,Fq P n T ds/\Reads w ds cs) :
  ∀(fs:List Field) (o m:Nat) (xs:List (DataW H × List MemPlace)) (cs:List Value),A1j P fs o m=true->(∀f,f∈fs->f.type∈Ts)->cs.length=m->xs.length=fs.length ->
   (∀(i:Nat) (f:Field),fs[i]?=some f->DataW.trod enc P w 0 (λ_=>true) true n f.type ((cs.drop f.offset).take (P.cellsOf f.type))=xs[i]?) ->
   (∀k,k∈DataW.weightsEach P (fs.map (·.type)) (xs.map (·.1))->k<=reachBytes) ->
   ∃ds,Ti P n fs ds/\Reads w ds (cs.drop o)
 |[],o,m,xs,cs,ht,_,W,_,_,_=>by simp[A1j]at ht;refine⟨[],by simp[Ti],?_⟩;rw[Jf (by omega)];exact .nil
 |f::fs,o,m,xs,cs,ht,hT,W,hx,hr,U=>by
  simp only[A1j,Bc,Tu]at ht;obtain⟨ho,ht⟩:=ht;cases xs with
  |nil=>simp at hx
  |cons x xs =>
   have I:=hr 0 f rfl;simp only[Qt]at I;rw[ho]at I;simp only[Ck,DataW.weightsEach]at U;obtain⟨a,L,E⟩:=Z f.type _ x (hT f (by simp)) I (λk J=>U k (D2.2 (.inl J)));obtain⟨b,V,M⟩:=E6m Z fs (o+P.cellsOf f.type) m xs cs ht (λg O=>hT g (by simp[O])) W (by simpa using hx) (λi g O=>by have:=hr (i+1) g (by simpa using O);simpa using this) (λk J=>U k (D2.2 (.inr J)))
   have a0:=E3s (P:=P) (T:=0) fs _ m ht;refine⟨a++b,?_,?_⟩
   .rw[Ti];refine⟨a,b,rfl,L,?_,V⟩;rw[E.len];simp;omega
   .have:=E.append M;rw[show cs.drop (o+P.cellsOf f.type)=(cs.drop o).drop (P.cellsOf f.type) by rw[List.drop_drop],Ak4]at this;exact this
def E4v{e:TypeId}:∀(l:List (DataW H))(d:DataW H),d∈l->∀k,k∈d.weights P e->k∈DataW.weightsAll P e l
 |[],_,h,_,_=>by simp at h
 |x::l,d,h,k,E=>by
  simp only[DataW.weightsAll,D2];rcases Aw.1 h with rfl|h
  .exact .inl E
  .exact .inr (E4v l d h k E)
def G4o{T e:TypeId}(h:okT P Ts T=true)(E:P.underlying T=some (.slice e)):e∈Ts/\1<=P.bytesOf e/\1<=P.cellsOf e:=by unfold okT at h;rw[E]at h;simp only[Bc,Am2,Nat.ble_eq]at h;exact⟨h.1.1,h.1.2,h.2⟩
def E7x{T:TypeId}{fs:Array Field}(h:okT P Ts T=true)(E:P.underlying T=some (.struct fs)):(∀f,f∈fs.toList->f.type∈Ts)/\A1j P fs.toList 0 (P.cellsOf T)=true:=by unfold okT at h;rw[E]at h;simp only[Bc,Dr,Am2]at h;exact h
def D8s(hT:C6z P Ts=true):∀(n:Nat)(T:TypeId)(cs:List Value)(x:DataW H × List MemPlace),T∈Ts->DataW.trod enc P w 0 (λ_=>true) true n T cs=some x->(∀k,k∈x.1.weights P T->k<=reachBytes) ->
  ∃ds,Fq P n T ds/\Reads w ds cs
 |0,T,cs,x,_,h,_=>by simp[DataW.trod]at h
 |n+1,T,cs,x,hm,h,hw=>by
  have O:=Dr.1 hT T hm;have ih:=D8s hT n;cases M:P.underlying T with
  |none=>unfold okT at O;rw[M]at O;simp at O
  |some a1 =>
   cases a1 with
   |bool =>obtain⟨b,rfl,rfl⟩:=DataW.trod_bool M h;exact⟨[.bool b],by rw[Fq,M];exact⟨b,rfl⟩,.single (.bool b) rfl⟩
   |int k =>obtain⟨z,rfl,rfl,_⟩:=DataW.trod_int M h;exact⟨[.int k z],by rw[Fq,M];exact⟨z,rfl⟩,.single (.int k z) rfl⟩
   |string =>obtain⟨s,rfl,rfl,hs⟩:=DataW.trod_string M h;have:=hw s.data.toList.length (by simp[DataW.weights]);refine⟨[.str s.data.toList],by rw[Fq,M];exact⟨_,rfl⟩,.single ?_ rfl⟩;exact C0.str s.data.toList (D3 this (by decide))
   |slice e =>
    obtain⟨he,a4,a9⟩:=G4o O M;rcases DataW.trod_slice M h with⟨rfl,rfl⟩|⟨a,len,cap,I,rest,n',hn,rfl,rfl,_,a',ac,aa,a5,_,_⟩
    .exact⟨[.slice []],by rw[Fq,M];exact⟨[],rfl,by simp⟩,.single (.Jz none 0 (λ_=>rfl)) rfl⟩
    .obtain rfl:n'=n:=by omega
     simp only[DataW.weights,M,Aw,D2]at hw;have a8:len<=lim:=by
      have Z:=hw _ (.inl rfl);simp only[Bn]at Z;have h2:(I.length+rest.length)*1<=(I.length+rest.length)*P.bytesOf e:=An6 _ a4;have h3:reachBytes<=lim:=by decide
      omega
     have key:∀i,i<len->∃ds cs',Fq P n' e ds/\Reads w ds cs'/\w.cells? 0 (a.add (i*P.cellsOf e)) (P.cellsOf e)=some cs':=by intro i L;have Z:=a5 i L;have h2:I[i]?=some I[i]:=B8 (by omega);rw[h2]at Z;obtain⟨cs',hc,ht⟩:=Option.bind_eq_some_iff.1 Z;obtain⟨ds,g1,W⟩:=ih e cs' _ he ht (λk hk=>hw k (.inr (.inl (E4v _ _ (B1.2 ⟨I[i],Fa _,rfl⟩) k hk))));exact⟨ds,cs',g1,W,hc⟩
     cases len with
     |zero=>exact⟨[.slice []],by rw[Fq,M];exact⟨[],rfl,by simp⟩,.single (.Jz (some a) cap (by simp)) rfl⟩
     |succ len =>
      have a0:a.spot=none:=by obtain⟨ds,cs',_,_,hc⟩:=key 0 (by omega);obtain⟨_,hl,E⟩:=Ar2 hc;have h0:=E 0 (by omega);have Z:cs'[0]?=some cs'[0]:=B8 (by omega);rw[Z]at h0;have:=World.cell?_spot h0;simpa [Addr.add]using this
      obtain⟨b,off,spot⟩:=a;simp only at a0;subst a0;have V:∀i j,((⟨b,off,none⟩:Addr).add (i*P.cellsOf e)).add j=⟨b,off+(i*P.cellsOf e+j),none⟩:=by intro i j;rw[Yv,Yv,Wr]
      have a3:∃rows:List (List D),rows.length=len+1/\∀i row,rows[i]?=some row->∃cs',Fq P n' e row/\Reads w row cs'/\w.cells? 0 ((⟨b,off,none⟩:Addr).add (i*P.cellsOf e)) (P.cellsOf e)=some cs':=by
       have gen:∀m,m<=len+1->∃rows:List (List D),rows.length=m/\∀i row,rows[i]?=some row->∃cs',Fq P n' e row/\Reads w row cs'/\w.cells? 0 ((⟨b,off,none⟩:Addr).add (i*P.cellsOf e)) (P.cellsOf e)=some cs':=by
        intro m
        induction m with
        |zero=>intro _;exact⟨[],rfl,by simp⟩
        |succ m a2 =>
         intro ab;obtain⟨rows,Z,h2⟩:=a2 (by omega);obtain⟨ds,cs',g1,W,g3⟩:=key m (by omega);refine⟨rows++[ds],by simp[Z],?_⟩;intro i row L;by_cases ad:i<m
         .rw[Ls (by omega)]at L;exact h2 i row L
         .rw[M5 (by omega),Z]at L;have:i=m:=by
           have:=(B5.1 L).1;simp at this;omega
          subst this;simp only[Nat.sub_self,Qt,B4]at L;subst L;exact⟨cs',g1,W,g3⟩
       exact gen (len+1) (Bi _)
      obtain⟨rows,a7,J⟩:=a3;have hb:b<w.heap.size:=by obtain⟨ds,cs',_,_,hc⟩:=key 0 (by omega);obtain⟨_,hl,E⟩:=Ar2 hc;have h0:=E 0 (by omega);rw[B8 (by omega)]at h0;rw[V]at h0;refine Classical.byContradiction λhc=>?_;have:w.heap[b]?=none:=Array.getElem?_eq_none (by omega);simp[World.cell?,this]at h0
      refine⟨[.slice rows],by rw[Fq,M];refine⟨rows,rfl,λrow hr=>?_⟩;obtain⟨i,L⟩:=N4.1 hr;exact(J i row L).choose_spec.1,.single ?_ rfl⟩;have U:∀(i:Nat) (row:List D),rows[i]?=some row->row.length=P.cellsOf e:=by intro i row L;obtain⟨cs',_,W,g3⟩:=J i row L;rw[W.len,(Ar2 g3).2.1]
      rw[<-a7];refine .slice rows b off cap (P.cellsOf e) hb (by omega) (by omega) ?_ ?_ ?_ ?_
      .intro row hr;obtain⟨i,L⟩:=N4.1 hr;exact U i row L
      .intro row hr d hd;obtain⟨i,L⟩:=N4.1 hr;obtain⟨cs',_,W,_⟩:=J i row L;exact W.one d hd
      .intro i j L hj;obtain⟨cs',_,_,g3⟩:=J i rows[i] (B8 L);obtain⟨_,hl,E⟩:=Ar2 g3;have:=E j hj;rw[V]at this;exact⟨_,this.trans (B8 (by omega))⟩
      .intro i j row d v L hd hv;obtain⟨cs',_,W,g3⟩:=J i row L;obtain⟨_,hl,E⟩:=Ar2 g3;have hj:j<P.cellsOf e:=by rw[<-U i row L];exact(B5.1 hd).1
       have:=E j hj;rw[V]at this;exact W.rep j d v hd (by rw[<-this];exact hv)
   |struct fs =>
    obtain⟨Z,h2⟩:=E7x O M;obtain⟨xs,n',hn,rfl,hl,a6,hr⟩:=DataW.trod_struct M h;obtain rfl:n'=n:=by omega
    obtain⟨ds,g1,W⟩:=E6m (Ts:=Ts) (λT cs x hm h hw=>ih T cs x hm h hw) fs.toList 0 (P.cellsOf T) xs cs h2 Z hl (by simpa using a6) (λi f hf=>hr i f (by simpa using hf)) (by intro k hk;refine hw k ?_;simp only[DataW.weights,M];exact hk)
    exact⟨ds,by rw[Fq,M];exact g1,by simpa using W⟩
   |_=>unfold okT at O;rw[M]at O;simp at O
def E3r{T:TypeId}{fs:Array Field}(hT:C6z P Ts=true)(M:T∈Ts)(O:P.underlying T=some (.struct fs)){W:World}{base:Nat}{v:Value}{d:DataW H}{ps:List MemPlace}(I:Value.okWide P W .any base T v)
  (h:DataW.Trod enc P W 0 (λ_=>true) true T v d ps)(U:∀k,k∈d.weights P T->k<=reachBytes)(β:Names):∃n ds,Fq P n T ds/\Ak (all W) W β (.agg (ds.map .d)) v:=by
 obtain⟨cs,rfl,_⟩:=WideShapes.okWide_struct O I;obtain⟨n,J⟩:=h;obtain⟨ds,L,E⟩:=D8s hT n T _ _ M J U;refine⟨n,ds,L,E7p ?_⟩;have:=C0.agg (S:=all W) (w:=W) ds cs.toList E.len.symm E.one E.rep;simpa using this
def Gh.none(P:Program)(sy ra:TypeId × Value):Gh:=⟨⟨P,0,0,0,λ_=>.undef,λ_=>false,λ_ _ _=>False⟩,λ_ _ _ _=>False,sy,ra⟩
def Ac.calls{f:FuncId}{args:List SV}{r:SV}(h:Ac P f args r){W:World}{β:Names}{vs:List Value}(V:Bv (all W) W β args vs){sy ra:TypeId × Value}(ht:∀b cs,A4w sy ra b cs->∃ty O,W.heap[b]?=some (.cells cs ty O)) :
  Calls P f ⟨vs⟩ W λe L=>∃v S' β',e=.returned v/\Ak S' L β' r v/\RowKit.Below W.heap.size W L:=by
 have M:Inv ⟨W,all W,λ_=>False,λ_ _=>False,Gh.none P sy ra⟩ (all W) W β []:={
  Fg:=λ_ I=>I,Ee:=λ_ I=>.inl I,Bf:=λ_ I=>I,kept:=λ_ _ _=>rfl,os:=rfl,tape:=rfl,output:=rfl,size:=Bi _,
  box:=λk c E=>by simp at E,B7:=λk c E=>by simp at E,inj:=λk c U Z E=>by simp at E,fix:=λ_ _ h=>h.elim
  Dh:=λb cs I=>by obtain⟨ty,O,h⟩:=ht b cs I;exact⟨(Vd.1 h).1,ty,O,h⟩
  one:=λk Y st U Y' st' E=>by simp at E
  Fm:=λk Y st E=>by simp at E }
 refine(h.2 ⟨W,all W,λ_=>False,λ_ _=>False,Gh.none P sy ra⟩ β vs M V).mono ?_;rintro e L ⟨v,S',β',rfl,J,hr⟩;exact⟨v,S',β',rfl,hr,⟨J.os,J.tape,J.output,J.size,λk E=>J.kept k E id⟩⟩
end Go.Abs
/- Data of the program's types are types, expressions, declarations, programs -/
namespace Go.Abs
open Go Go.Proofs Tryz
variable {P:Program}
def A4t{T:TypeId}(E:P.underlying T=some .string):∀{n:Nat} {ds:List D},Fq P n T ds->∃s:A3,ds=[.str s]
 |0,_,h=>by simp[Fq]at h
 |n+1,_,h=>by rw[Fq,E]at h;exact h
def A4m{T:TypeId}{k:IntKind}(E:P.underlying T=some (.int k)):∀{n:Nat} {ds:List D},Fq P n T ds->∃z,ds=[.int k z]
 |0,_,h=>by simp[Fq]at h
 |n+1,_,h=>by rw[Fq,E]at h;exact h
def A2z{T e:TypeId}(J:P.underlying T=some (.slice e)):∀{n:Nat} {ds:List D},Fq P n T ds->∃m rows,n=m+1/\ds=[.slice rows]/\∀row,row∈rows->Fq P m e row
 |0,_,h=>by simp[Fq]at h
 |n+1,_,h=>by rw[Fq,J]at h;obtain⟨rows,I,E⟩:=h;exact⟨n,rows,rfl,I,E⟩
def A6c{T:TypeId}{fs:Array Field}(E:P.underlying T=some (.struct fs)):∀{n:Nat} {ds:List D},Fq P n T ds->∃m,n=m+1/\Ti P m fs.toList ds
 |0,_,h=>by simp[Fq]at h
 |n+1,_,h=>by rw[Fq,E]at h;exact⟨n,rfl,h⟩
def A1y{α:Type}{C:α->List D}{Q:List D->Prop}(h:∀row,Q row->∃x,row=C x):∀(rows:List (List D)),(∀row,row∈rows->Q row)->∃l:List α,rows=l.map C
 |[],_=>⟨[],rfl⟩
 |row::rows,hr=>by obtain⟨x,J⟩:=h row (hr row (by simp));obtain⟨l,I⟩:=A1y h rows λr E=>hr r (by simp[E]);exact⟨x::l,by rw[J,I];rfl⟩
def B1p:∀(n:Nat) {ds:List D},Fq Tryz.prog n 25 ds->∃t:Ty,ds=Be t:=by
 intro n
 induction n using Nat.strongRecOn with
 |ind n O =>
 intro ds h;obtain⟨m,rfl,I⟩:=A6c underlying25 h;simp only[Ti]at I;obtain⟨a,_,rfl,J,_,b,_,rfl,M,_,c,_,rfl,L,_,rfl⟩:=I;obtain⟨s,rfl⟩:=A4t underlying9 J;obtain⟨k,rows,rfl,rfl,hr⟩:=A2z underlying23 M;obtain⟨z,rfl⟩:=A4m underlying3 L;obtain⟨l,rfl⟩:=A1y (C:=Be) (λrow E=>O k (by omega) E) rows hr;exact⟨.mk s l z,by simp[Be,Ty.name,Ty.args,Ty.pos,Cz]⟩
variable {n:Nat}
def E9a{ds:List D}(h:Fq Tryz.prog n 23 ds):∃l:List Ty,ds=[.slice (Au l)]:=by obtain⟨k,rows,rfl,rfl,hr⟩:=A2z underlying23 h;obtain⟨l,rfl⟩:=A1y (C:=Be) (λrow E=>B1p k E) rows hr;exact⟨l,by rw[Cz]⟩
def F0f{ds:List D}(h:Fq Tryz.prog n 59 ds):∃l:List A3,ds=[.slice (C5 l)]:=by obtain⟨k,rows,rfl,rfl,hr⟩:=A2z underlying59 h;obtain⟨l,rfl⟩:=A1y (C:=λs:A3=>[.str s]) (λrow E=>A4t underlying9 E) rows hr;exact⟨l,rfl⟩
def D8f:∀(n:Nat) {ds:List D},Fq Tryz.prog n 28 ds->∃e:Ex,ds=Bu e:=by
 intro n
 induction n using Nat.strongRecOn with
 |ind n V =>
 intro ds h;obtain⟨m,rfl,I⟩:=A6c underlying28 h;simp only[Ti]at I;obtain⟨a,_,rfl,L,_,b,_,rfl,O,_,c,_,rfl,M,_,d,_,rfl,J,_,e,_,rfl,U,_,f,_,rfl,W,_,rfl⟩:=I;obtain⟨z,rfl⟩:=A4m underlying3 L;obtain⟨s,rfl⟩:=A4t underlying9 O;obtain⟨t,rfl⟩:=B1p m M;obtain⟨l,rfl⟩:=E9a J;obtain⟨k,rows,rfl,rfl,hr⟩:=A2z underlying26 U;obtain⟨q,rfl⟩:=A4m underlying3 W;obtain⟨ks,rfl⟩:=A1y (C:=Bu) (λrow E=>V k (by omega) E) rows hr;exact⟨.mk z s t l ks q,by simp[Bu,Be,Ex.kind,Ex.name,Ex.type,Ex.targs,Ex.kids,Ex.pos,S6]⟩
def F6k{ds:List D}(h:Fq Tryz.prog n 165 ds):∃e:Am,ds=Jy e:=by obtain⟨m,rfl,E⟩:=A6c underlying165 h;simp only[Ti]at E;obtain⟨a,_,rfl,J,_,b,_,rfl,I,_,c,_,rfl,L,_,rfl⟩:=E;obtain⟨s,rfl⟩:=A4t underlying9 J;obtain⟨t,rfl⟩:=B1p m I;obtain⟨z,rfl⟩:=A4m underlying3 L;exact⟨⟨s,t,z⟩,rfl⟩
def G9p{ds:List D}(h:Fq Tryz.prog n 68 ds):∃e:Param,ds=Ha e:=by obtain⟨m,rfl,E⟩:=A6c underlying68 h;simp only[Ti]at E;obtain⟨a,_,rfl,J,_,b,_,rfl,I,_,c,_,rfl,L,_,rfl⟩:=E;obtain⟨s,rfl⟩:=A4t underlying9 J;obtain⟨t,rfl⟩:=B1p m I;obtain⟨z,rfl⟩:=A4m underlying3 L;exact⟨⟨s,t,z⟩,rfl⟩
def E5a{ds:List D}(h:Fq Tryz.prog n 56 ds):∃l:List Am,ds=[.slice (Ar l)]:=by obtain⟨k,rows,rfl,rfl,hr⟩:=A2z underlying56 h;obtain⟨l,rfl⟩:=A1y (C:=Jy) (λrow E=>F6k E) rows hr;exact⟨l,rfl⟩
def D6s{ds:List D}(h:Fq Tryz.prog n 57 ds):∃l:List Param,ds=[.slice (B9 l)]:=by obtain⟨k,rows,rfl,rfl,hr⟩:=A2z underlying57 h;obtain⟨l,rfl⟩:=A1y (C:=Ha) (λrow E=>G9p E) rows hr;exact⟨l,rfl⟩
def E6z{ds:List D}(h:Fq Tryz.prog n 61 ds):∃e:A5,ds=Fw e:=by obtain⟨m,rfl,E⟩:=A6c underlying61 h;simp only[Ti]at E;obtain⟨a,_,rfl,J,_,b,_,rfl,M,_,c,_,rfl,L,_,d,_,rfl,I,_,e,_,rfl,O,_,rfl⟩:=E;obtain⟨s,rfl⟩:=A4t underlying9 J;obtain⟨fs,rfl⟩:=E5a M;obtain⟨ps,rfl⟩:=D6s L;obtain⟨t,rfl⟩:=B1p m I;obtain⟨z,rfl⟩:=A4m underlying3 O;exact⟨⟨s,fs,ps,t,z⟩,rfl⟩
def G8y{ds:List D}(h:Fq Tryz.prog n 58 ds):∃l:List A5,ds=[.slice (C1 l)]:=by obtain⟨k,rows,rfl,rfl,hr⟩:=A2z underlying58 h;obtain⟨l,rfl⟩:=A1y (C:=Fw) (λrow E=>E6z E) rows hr;exact⟨l,rfl⟩
def F0q{ds:List D}(h:Fq Tryz.prog n 63 ds):∃e:Decl,ds=Bb e:=by obtain⟨m,rfl,I⟩:=A6c underlying63 h;simp only[Ti]at I;obtain⟨a,_,rfl,O,_,b,_,rfl,W,_,c,_,rfl,V,_,d,_,rfl,U,_,e,_,rfl,Z,_,f,_,rfl,h6,_,g,_,rfl,M,_,i,_,rfl,h8,_,j,_,rfl,J,_,k,_,rfl,E,_,rfl⟩:=I;obtain⟨z,rfl⟩:=A4m underlying3 O;obtain⟨s,rfl⟩:=A4t underlying9 W;obtain⟨fs,rfl⟩:=E5a V;obtain⟨ps,rfl⟩:=D6s U;obtain⟨ss,rfl⟩:=G8y Z;obtain⟨r,rfl⟩:=A4t underlying9 h6;obtain⟨vs,rfl⟩:=F0f M;obtain⟨L,rfl⟩:=E6z h8;obtain⟨bd,rfl⟩:=D8f m J;obtain⟨q,rfl⟩:=A4m underlying3 E;exact⟨⟨z,s,fs,ps,ss,r,vs,L,bd,q⟩,by simp[Bb,Fw,Bu]⟩
def F7i{ds:List D}(h:Fq Tryz.prog n 22 ds):∃l:List Decl,ds=[.slice (Ix l)]:=by obtain⟨k,rows,rfl,rfl,hr⟩:=A2z underlying22 h;obtain⟨l,rfl⟩:=A1y (C:=Bb) (λrow E=>F0q E) rows hr;exact⟨l,rfl⟩
def G4d{ds:List D}(h:Fq Tryz.prog n 30 ds):∃p:Prog,ds=An p:=by obtain⟨m,rfl,E⟩:=A6c underlying30 h;simp only[Ti]at E;obtain⟨a,_,rfl,J,_,b,_,rfl,I,_,rfl⟩:=E;obtain⟨l,rfl⟩:=F7i J;obtain⟨e,rfl⟩:=D8f m I;exact⟨⟨l,e⟩,by simp[An,Bu]⟩
def C9b:List TypeId:=[3,4,9,59,25,23,28,26,165,56,68,57,61,58,63,22,30]
def D5r:C6z Tryz.prog C9b=true:=by kernel_rfl
variable {H:Type} {enc:TypeId × Value->H}
def B6k{W:World}{base:Nat}{v:Value}{d:DataW H}{ps:List MemPlace}(E:Value.okWide Tryz.prog W .any base 30 v)
  (h:DataW.Trod enc Tryz.prog W 0 (λ_=>true) true 30 v d ps)(L:∀k,k∈d.weights Tryz.prog 30->k<=reachBytes)(β:Names):∃p:Prog,Ak (all W) W β (D7 p) v:=by
 obtain⟨n,ds,J,I⟩:=E3r D5r (by simp[C9b]) underlying30 E h L β;obtain⟨p,rfl⟩:=G4d J;exact⟨p,I⟩
end Go.Abs
