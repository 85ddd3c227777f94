/- Arguments as the form reads them are data: from DataW.trod to RepC. Own framework, part Read. -/
import Derived.Test.YtaneedhchnaniaaGreatDoorKAb4
import Derived.ProofKit
import Derived.Deep.Slices
namespace Go.Abs
set_option linter.all false
open Go
variable {P:Program} {Ts:List TypeId}
def Zm (P:Program):List Field→Nat→Nat→Bool
 |[],o,m=>o == m
 |f::fs,o,m=>f.offset == o && Zm P fs (o+P.cellsOf f.type) m
def okT (P:Program)(Ts:List TypeId)(T:TypeId):Bool:=match P.underlying T with
 |some .bool=>true
 |some (.int _)=>true
 |some .string=>true
 |some (.slice e)=>Ts.contains e && Nat.ble 1 (P.bytesOf e) && Nat.ble 1 (P.cellsOf e)
 |some (.struct fs)=>fs.toList.all (fun f=>Ts.contains f.type) && Zm P fs.toList 0 (P.cellsOf T)
 |_=>false
def B9a (P:Program)(Ts:List TypeId):Bool:=Ts.all (okT P Ts)
mutual
def F9 (P:Program):Nat→TypeId→List D→Prop
 | 0,_,_=>False
 |n+1,T,ds=>match P.underlying T with
  |some .bool=>∃b,ds=[.bool b]
  |some (.int k)=>∃z,ds=[.int k z]
  |some .string=>∃s,ds=[.str s]
  |some (.slice e)=>∃rows,ds=[.slice rows]∧∀row,row∈rows→F9 P n e row
  |some (.struct fs)=>Sc P n fs.toList ds
  |_=>False
def Sc (P:Program):Nat→List Field→List D→Prop
 |_,[],ds=>ds=[]
 |n,f::fs,ds=>∃a b,ds=a++b∧F9 P n f.type a∧a.length=P.cellsOf f.type∧Sc P n fs b
end
structure Reads (w:World)(ds:List D)(cs:List Value):Prop where
 len:ds.length=cs.length
 one:∀d,d∈ds→d.one=true
 rep:∀(j:Nat) (d:D) (v:Value),ds[j]? = some d→cs[j]? = some v→Br (all w) w d v
theorem Reads.nil {w:World}:Reads w [] []:=⟨rfl,by simp,by simp⟩
theorem Reads.single {w:World} {d:D} {v:Value} (h:Br (all w) w d v)(J:d.one=true):Reads w [d] [v]:=by
 refine⟨rfl,by simpa using J,?_⟩;intro j O L E I;cases j with
 |zero=>simp at E I;subst E I;exact h
 |succ j=>simp at E
theorem Reads.append {w:World} {a b:List D} {x y:List Value} (h:Reads w a x)(k:Reads w b y):Reads w (a++b) (x++y):=by
 refine⟨by simp [h.len,k.len],?_,?_⟩
 ·intro d hd;rcases Bw.1 hd with hd| hd
  ·exact h.one d hd
  ·exact k.one d hd
 ·intro j d v I E;by_cases J:j < a.length
  ·rw [J6 J] at I;rw [J6 (by have:=h.len;omega)] at E;exact h.rep j d v I E
  ·rw [Jh (by omega)] at I;rw [Jh (by have:=h.len;omega)] at E;exact k.rep (j - a.length) d v I (by rw [h.len];exact E)
variable {H:Type} {enc:TypeId × Value→H} {w:World}
theorem D5g {T:TypeId}:∀(fs:List Field)(o m:Nat),Zm P fs o m=true→o≤m
 |[],o,m,h=>by simp [Zm] at h;omega
 |f::fs,o,m,h=>by simp only [Zm,B1,Ug] at h;have:=D5g (T:=T) fs _ m h.2;omega
theorem E1j {n:Nat} (ih:∀(T:TypeId)(cs:List Value)(x:DataW H × List MemPlace),T∈Ts→DataW.trod enc P w 0 (fun _=>true) true n T cs=some x→(∀k,k∈x.1.weights P T→k≤reachBytes) →
   ∃ds,F9 P n T ds∧Reads w ds cs) :
  ∀(fs:List Field) (o m:Nat) (xs:List (DataW H × List MemPlace)) (cs:List Value),Zm P fs o m=true→(∀f,f∈fs→f.type∈Ts)→cs.length=m→xs.length=fs.length →
   (∀(i:Nat) (f:Field),fs[i]? = some f→DataW.trod enc P w 0 (fun _=>true) true n f.type ((cs.drop f.offset).take (P.cellsOf f.type))=xs[i]?) →
   (∀k,k∈DataW.weightsEach P (fs.map (·.type)) (xs.map (·.1))→k≤reachBytes) →
   ∃ds,Sc P n fs ds∧Reads w ds (cs.drop o)
 |[],o,m,xs,cs,ht,_,W,_,_,_=>by simp [Zm] at ht;refine⟨[],by simp [Sc],?_⟩;rw [Ig (by omega)];exact .nil
 |f::fs,o,m,xs,cs,ht,hT,W,Z,hr,J=>by
  simp only [Zm,B1,Ug] at ht;obtain⟨ho,ht⟩:=ht;cases xs with
  |nil=>simp at Z
  |cons x xs =>
   have L:=hr 0 f rfl;simp only [Iz] at L;rw [ho] at L;simp only [Cz,DataW.weightsEach] at J;obtain⟨a,V,E⟩:=ih f.type _ x (hT f (by simp)) L (fun k R=>J k (Bw.2 (.inl R)));obtain⟨b,I,U⟩:=E1j ih fs (o+P.cellsOf f.type) m xs cs ht (fun g O=>hT g (by simp [O])) W (by simpa using Z) (fun i g O=>by have:=hr (i+1) g (by simpa using O);simpa using this) (fun k R=>J k (Bw.2 (.inr R)))
   have a0:=D5g (P:=P) (T:=0) fs _ m ht;refine⟨a++b,?_,?_⟩
   ·rw [Sc];refine⟨a,b,rfl,V,?_,I⟩;rw [E.len];simp;omega
   ·have:=E.append U;rw [show cs.drop (o+P.cellsOf f.type)=(cs.drop o).drop (P.cellsOf f.type) by rw [List.drop_drop],Sw] at this;exact this
theorem D6c {e:TypeId}:∀(l:List (DataW H))(d:DataW H),d∈l→∀k,k∈d.weights P e→k∈DataW.weightsAll P e l
 |[],_,h,_,_=>by simp at h
 |x::l,d,h,k,E=>by
  simp only [DataW.weightsAll,Bw];rcases As.1 h with rfl| h
  ·exact .inl E
  ·exact .inr (D6c l d h k E)
theorem E9s {T e:TypeId} (h:okT P Ts T=true)(E:P.underlying T=some (.slice e)):e∈Ts∧1≤P.bytesOf e∧1≤P.cellsOf e:=by unfold okT at h;rw [E] at h;simp only [B1,Ak2,Nat.ble_eq] at h;exact⟨h.1.1,h.1.2,h.2⟩
theorem F6b {T:TypeId} {fs:Array Field} (h:okT P Ts T=true)(E:P.underlying T=some (.struct fs)):(∀f,f∈fs.toList→f.type∈Ts)∧Zm P fs.toList 0 (P.cellsOf T)=true:=by unfold okT at h;rw [E] at h;simp only [B1,Cf,Ak2] at h;exact h
theorem E2a (hT:B9a P Ts=true):∀(n:Nat)(T:TypeId)(cs:List Value)(x:DataW H × List MemPlace),T∈Ts→DataW.trod enc P w 0 (fun _=>true) true n T cs=some x→(∀k,k∈x.1.weights P T→k≤reachBytes) →
  ∃ds,F9 P n T ds∧Reads w ds cs
 | 0,T,cs,x,_,h,_=>by simp [DataW.trod] at h
 |n+1,T,cs,x,hm,h,hw=>by
  have R:=Cf.1 hT T hm;have ih:=E2a hT n;cases O:P.underlying T with
  |none=>unfold okT at R;rw [O] at R;simp at R
  |some a1 =>
   cases a1 with
   |bool =>obtain⟨b,rfl,rfl⟩:=DataW.trod_bool O h;exact⟨[.bool b],by rw [F9,O];exact⟨b,rfl⟩,.single (.bool b) rfl⟩
   |int k =>obtain⟨z,rfl,rfl,_⟩:=DataW.trod_int O h;exact⟨[.int k z],by rw [F9,O];exact⟨z,rfl⟩,.single (.int k z) rfl⟩
   |string =>obtain⟨s,rfl,rfl,hs⟩:=DataW.trod_string O h;have:=hw s.data.toList.length (by simp [DataW.weights]);refine⟨[.str s.data.toList],by rw [F9,O];exact⟨_,rfl⟩,.single ?_ rfl⟩;exact Br.str s.data.toList (Dk this (by decide))
   |slice e =>
    obtain⟨he,a3,aa⟩:=E9s R O;rcases DataW.trod_slice O h with ⟨rfl,rfl⟩| ⟨a,len,cap,J,rest,n',hn,rfl,rfl,_,a',a9,ab,a6,_,_⟩
    ·exact⟨[.slice []],by rw [F9,O];exact⟨[],rfl,by simp⟩,.single (.Ja none 0 (fun _=>rfl)) rfl⟩
    ·obtain rfl:n'=n:=by omega
     simp only [DataW.weights,O,As,Bw] at hw;have a8:len≤lim:=by
      have Z:=hw _ (.inl rfl);simp only [B6] at Z;have h2:(J.length+rest.length)*1≤(J.length+rest.length)*P.bytesOf e:=Am5 _ a3;have h3:reachBytes≤lim:=by decide
      omega
     have key:∀i,i < len→∃ds cs',F9 P n' e ds∧Reads w ds cs'∧w.cells? 0 (a.add (i*P.cellsOf e)) (P.cellsOf e)=some cs':=by intro i L;have Z:=a6 i L;have h2:J[i]? = some J[i]:=Ba (by omega);rw [h2] at Z;obtain⟨cs',hc,ht⟩:=Option.bind_eq_some_iff.1 Z;obtain⟨ds,g1,W⟩:=ih e cs' _ he ht (fun k hk=>hw k (.inr (.inl (D6c _ _ (Ax.2 ⟨J[i],F7 _,rfl⟩) k hk))));exact⟨ds,cs',g1,W,hc⟩
     cases len with
     |zero=>exact⟨[.slice []],by rw [F9,O];exact⟨[],rfl,by simp⟩,.single (.Ja (some a) cap (by simp)) rfl⟩
     |succ len =>
      have a0:a.spot=none:=by obtain⟨ds,cs',_,_,hc⟩:=key 0 (by omega);obtain⟨_,hl,E⟩:=Ar1 hc;have h0:=E 0 (by omega);have Z:cs'[0]? = some cs'[0]:=Ba (by omega);rw [Z] at h0;have:=World.cell?_spot h0;simpa [Addr.add] using this
      obtain⟨b,off,spot⟩:=a;simp only at a0;subst a0;have V:∀i j,((⟨b,off,none⟩:Addr).add (i*P.cellsOf e)).add j=⟨b,off+(i*P.cellsOf e+j),none⟩:=by intro i j;rw [Xk,Xk,Mh]
      have a4:∃rows:List (List D),rows.length=len+1∧∀i row,rows[i]? = some row→∃cs',F9 P n' e row∧Reads w row cs'∧w.cells? 0 ((⟨b,off,none⟩:Addr).add (i*P.cellsOf e)) (P.cellsOf e)=some cs':=by
       have gen:∀m,m≤len+1→∃rows:List (List D),rows.length=m∧∀i row,rows[i]? = some row→∃cs',F9 P n' e row∧Reads w row cs'∧w.cells? 0 ((⟨b,off,none⟩:Addr).add (i*P.cellsOf e)) (P.cellsOf e)=some cs':=by
        intro m
        induction m with
        |zero=>intro _;exact⟨[],rfl,by simp⟩
        |succ m a7 =>
         intro ac;obtain⟨rows,Z,h2⟩:=a7 (by omega);obtain⟨ds,cs',g1,W,g3⟩:=key m (by omega);refine⟨rows++[ds],by simp [Z],?_⟩;intro i row L;by_cases ad:i < m
         ·rw [J6 (by omega)] at L;exact h2 i row L
         ·rw [Jh (by omega),Z] at L;have:i=m:=by
           have:=(Ay.1 L).1;simp at this;omega
          subst this;simp only [At4,Iz,Av] at L;subst L;exact⟨cs',g1,W,g3⟩
       exact gen (len+1) (Cq _)
      obtain⟨rows,a2,I⟩:=a4;have hb:b < w.heap.size:=by obtain⟨ds,cs',_,_,hc⟩:=key 0 (by omega);obtain⟨_,hl,E⟩:=Ar1 hc;have h0:=E 0 (by omega);rw [Ba (by omega)] at h0;rw [V] at h0;refine Classical.byContradiction fun hc=>?_;have:w.heap[b]? = none:=Array.getElem?_eq_none (by omega);simp [World.cell?,this] at h0
      refine⟨[.slice rows],by rw [F9,O];refine⟨rows,rfl,fun row hr=>?_⟩;obtain⟨i,L⟩:=Nt.1 hr;exact (I i row L).choose_spec.1,.single ?_ rfl⟩;have U:∀(i:Nat) (row:List D),rows[i]? = some row→row.length=P.cellsOf e:=by intro i row L;obtain⟨cs',_,W,g3⟩:=I i row L;rw [W.len,(Ar1 g3).2.1]
      rw [←a2];refine .slice rows b off cap (P.cellsOf e) hb (by omega) (by omega) ?_ ?_ ?_ ?_
      ·intro row hr;obtain⟨i,L⟩:=Nt.1 hr;exact U i row L
      ·intro row hr d hd;obtain⟨i,L⟩:=Nt.1 hr;obtain⟨cs',_,W,_⟩:=I i row L;exact W.one d hd
      ·intro i j L hj;obtain⟨cs',_,_,g3⟩:=I i rows[i] (Ba L);obtain⟨_,hl,E⟩:=Ar1 g3;have:=E j hj;rw [V] at this;exact⟨_,this.trans (Ba (by omega))⟩
      ·intro i j row d v L hd hv;obtain⟨cs',_,W,g3⟩:=I i row L;obtain⟨_,hl,E⟩:=Ar1 g3;have hj:j < P.cellsOf e:=by rw [←U i row L];exact (Ay.1 hd).1
       have:=E j hj;rw [V] at this;exact W.rep j d v hd (by rw [←this];exact hv)
   |struct fs =>
    obtain⟨Z,h2⟩:=F6b R O;obtain⟨xs,n',hn,rfl,hl,a5,hr⟩:=DataW.trod_struct O h;obtain rfl:n'=n:=by omega
    obtain⟨ds,g1,W⟩:=E1j (Ts:=Ts) (fun T cs x hm h hw=>ih T cs x hm h hw) fs.toList 0 (P.cellsOf T) xs cs h2 Z hl (by simpa using a5) (fun i f hf=>hr i f (by simpa using hf)) (by intro k hk;refine hw k ?_;simp only [DataW.weights,O];exact hk)
    exact⟨ds,by rw [F9,O];exact g1,by simpa using W⟩
   |_=>unfold okT at R;rw [O] at R;simp at R
theorem G5i {T:TypeId} {fs:Array Field} (hT:B9a P Ts=true)(R:T∈Ts)(J:P.underlying T=some (.struct fs)) {W:World} {base:Nat} {v:Value} {d:DataW H} {ps:List MemPlace} (I:Value.okWide P W .any base T v)
  (h:DataW.Trod enc P W 0 (fun _=>true) true T v d ps) (L:∀k,k∈d.weights P T→k≤reachBytes) (β:Names):∃n ds,F9 P n T ds∧Am (all W) W β (.agg (ds.map .d)) v:=by
 obtain⟨cs,rfl,_⟩:=WideShapes.okWide_struct J I;obtain⟨n,O⟩:=h;obtain⟨ds,U,E⟩:=E2a hT n T _ _ R O L;refine⟨n,ds,U,D7r ?_⟩;have:=Br.agg (S:=all W) (w:=W) ds cs.toList E.len.symm E.one E.rep;simpa using this
def Gh.none (P:Program)(sy ra:TypeId × Value):Gh:=⟨⟨P,0,0,0,fun _=>.undef,fun _=>false⟩,fun _ _ _ _=>False,sy,ra⟩
theorem Ac.calls {f:FuncId} {args:List SV} {r:SV} (h:Ac P f args r) {W:World} {β:Names} {vs:List Value} (Z:Bm (all W) W β args vs) {sy ra:TypeId × Value} (ht:∀b cs,A3d sy ra b cs→∃ty L,W.heap[b]? = some (.cells cs ty L)) :
  Calls P f ⟨vs⟩ W fun e O=>∃v S' β',e=.returned v∧Am S' O β' r v∧RowKit.Below W.heap.size W O:=by
 have R:Inv ⟨W,all W,fun _=>False,fun _ _=>False,Gh.none P sy ra⟩ (all W) W β []:={
  Ek:=fun _ I=>I,Dx:=fun _ I=>.inl I,Bi:=fun _ I=>I,kept:=fun _ _ _=>rfl,os:=rfl,tape:=rfl,output:=rfl,size:=Cq _,
  box:=fun k c E=>by simp at E,B8:=fun k c E=>by simp at E,inj:=fun k c V c' E=>by simp at E,fix:=fun _ _ h=>h.elim
  D9:=fun b cs I=>by obtain⟨ty,L,h⟩:=ht b cs I;exact⟨(X6.1 h).1,ty,L,h⟩
  one:=fun k Y st V Y' U E=>by simp at E
  Ez:=fun k Y st E=>by simp at E }
 refine (h.2 ⟨W,all W,fun _=>False,fun _ _=>False,Gh.none P sy ra⟩ β vs R Z).mono ?_;rintro e O ⟨v,S',β',rfl,J,hr⟩;exact⟨v,S',β',rfl,hr,⟨J.os,J.tape,J.output,J.size,fun k E=>J.kept k E id⟩⟩
end Go.Abs
