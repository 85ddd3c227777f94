/- Arguments as the form reads them are data: from DataW.trod to RepC. Own framework, part Read. -/
import Derived.Test.YtaneedhchnaniaaGreatDoorQAb4
import Derived.ProofKit
import Derived.Deep.Slices
import Derived.Below
namespace Go.Abs
set_option linter.unusedSimpArgs false
set_option linter.unusedVariables false
open Go
variable {P:Program} {Ts:List TypeId}
def tightL (P:Program):List Field→Nat→Nat→Bool
 | [],o,m=>o == m
 | f::fs,o,m=>f.offset == o && tightL P fs (o+P.cellsOf f.type) m
def okT (P:Program)(Ts:List TypeId)(T:TypeId):Bool:=match P.underlying T with
 | some .bool=>true
 | some (.int _)=>true
 | some .string=>true
 | some (.slice e)=>Ts.contains e && Nat.ble 1 (P.bytesOf e) && Nat.ble 1 (P.cellsOf e)
 | some (.struct fs)=>fs.toList.all (fun f=>Ts.contains f.type) && tightL P fs.toList 0 (P.cellsOf T)
 | _=>false
def okTs (P:Program)(Ts:List TypeId):Bool:=Ts.all (okT P Ts)
mutual
def Conf (P:Program):Nat→TypeId→List D→Prop
 | 0,_,_=>False
 | n+1,T,ds=>match P.underlying T with
  | some .bool=>∃ b,ds=[.bool b]
  | some (.int k)=>∃ z,ds=[.int k z]
  | some .string=>∃ s,ds=[.str s]
  | some (.slice e)=>∃ rows,ds=[.slice rows]∧∀ row,row∈rows→Conf P n e row
  | some (.struct fs)=>ConfL P n fs.toList ds
  | _=>False
def ConfL (P:Program):Nat→List Field→List D→Prop
 | _,[],ds=>ds=[]
 | n,f::fs,ds=>∃ a b,ds=a++b∧Conf P n f.type a∧a.length=P.cellsOf f.type∧ConfL P n fs b
end
structure Reads (w:World)(ds:List D)(cs:List Value):Prop where
 len:ds.length=cs.length
 one:∀ d,d∈ds→d.one=true
 rep:∀ (j:Nat) (d:D) (v:Value),ds[j]? = some d→cs[j]? = some v→RepC (all w) w d v
theorem Reads.nil {w:World}:Reads w [] []:=⟨rfl,by simp,by simp⟩
theorem Reads.single {w:World} {d:D} {v:Value} (h:RepC (all w) w d v)(ho:d.one=true):Reads w [d] [v]:=by
 refine⟨rfl,by simpa using ho,?_⟩
 intro j d' v' h1 h2
 cases j with
 | zero=>simp at h1 h2;subst h1 h2;exact h
 | succ j=>simp at h1
theorem Reads.append {w:World} {a b:List D} {x y:List Value} (h:Reads w a x)(k:Reads w b y):Reads w (a++b) (x++y):=by
 refine⟨by simp [h.len,k.len],?_,?_⟩
 ·intro d hd
  rcases List.mem_append.1 hd with hd | hd
  ·exact h.one d hd
  ·exact k.one d hd
 ·intro j d v h1 h2
  by_cases hj:j < a.length
  ·rw [List.getElem?_append_left hj] at h1
   rw [List.getElem?_append_left (by have:=h.len;omega)] at h2
   exact h.rep j d v h1 h2
  ·rw [List.getElem?_append_right (by omega)] at h1
   rw [List.getElem?_append_right (by have:=h.len;omega)] at h2
   exact k.rep (j - a.length) d v h1 (by rw [h.len];exact h2)
variable {H:Type} {enc:TypeId × Value→H} {w:World}
theorem tight_size {T:TypeId}:∀ (fs:List Field)(o m:Nat),tightL P fs o m=true→o≤m
 | [],o,m,h=>by simp [tightL] at h;omega
 | f::fs,o,m,h=>by
  simp only [tightL,Bool.and_eq_true,beq_iff_eq] at h
  have:=tight_size (T:=T) fs _ m h.2
  omega
theorem struct_read {n:Nat} (ih:∀ (T:TypeId)(cs:List Value)(x:DataW H × List MemPlace),T∈Ts→DataW.trod enc P w 0 (fun _=>true) true n T cs=some x→(∀ k,k∈x.1.weights P T→k≤reachBytes) →
   ∃ ds,Conf P n T ds∧Reads w ds cs) :
  ∀ (fs:List Field) (o m:Nat) (xs:List (DataW H × List MemPlace)) (cs:List Value),tightL P fs o m=true→(∀ f,f∈fs→f.type∈Ts)→cs.length=m→xs.length=fs.length →
   (∀ (i:Nat) (f:Field),fs[i]? = some f→DataW.trod enc P w 0 (fun _=>true) true n f.type ((cs.drop f.offset).take (P.cellsOf f.type))=xs[i]?) →
   (∀ k,k∈DataW.weightsEach P (fs.map (·.type)) (xs.map (·.1))→k≤reachBytes) →
   ∃ ds,ConfL P n fs ds∧Reads w ds (cs.drop o)
 | [],o,m,xs,cs,ht,_,hl,_,_,_=>by
  simp [tightL] at ht
  refine⟨[],by simp [ConfL],?_⟩
  rw [List.drop_eq_nil_of_le (by omega)]
  exact .nil
 | f::fs,o,m,xs,cs,ht,hT,hl,hx,hr,hw=>by
  simp only [tightL,Bool.and_eq_true,beq_iff_eq] at ht
  obtain⟨ho,ht⟩:=ht
  cases xs with
  | nil=>simp at hx
  | cons x xs =>
   have h0:=hr 0 f rfl
   simp only [List.getElem?_cons_zero] at h0
   rw [ho] at h0
   simp only [List.map_cons,DataW.weightsEach] at hw
   obtain⟨a,ha1,ha2⟩:=ih f.type _ x (hT f (by simp)) h0 (fun k hk=>hw k (List.mem_append.2 (.inl hk)))
   obtain⟨b,hb1,hb2⟩:=struct_read ih fs (o+P.cellsOf f.type) m xs cs ht (fun g hg=>hT g (by simp [hg])) hl (by simpa using hx) (fun i g hg=>by
    have:=hr (i+1) g (by simpa using hg);simpa using this) (fun k hk=>hw k (List.mem_append.2 (.inr hk)))
   have hle:=tight_size (P:=P) (T:=0) fs _ m ht
   refine⟨a++b,?_,?_⟩
   ·rw [ConfL]
    refine⟨a,b,rfl,ha1,?_,hb1⟩
    rw [ha2.len];simp;omega
   ·have:=ha2.append hb2
    rw [show cs.drop (o+P.cellsOf f.type)=(cs.drop o).drop (P.cellsOf f.type) by rw [List.drop_drop],List.take_append_drop] at this
    exact this
theorem weightsAll_mem {e:TypeId}:∀ (l:List (DataW H))(d:DataW H),d∈l→∀ k,k∈d.weights P e→k∈DataW.weightsAll P e l
 | [],_,h,_,_=>by simp at h
 | x::l,d,h,k,hk=>by
  simp only [DataW.weightsAll,List.mem_append]
  rcases List.mem_cons.1 h with rfl | h
  ·exact .inl hk
  ·exact .inr (weightsAll_mem l d h k hk)
theorem okT_slice {T e:TypeId} (h:okT P Ts T=true)(hu:P.underlying T=some (.slice e)):e∈Ts∧1≤P.bytesOf e∧1≤P.cellsOf e:=by
 unfold okT at h
 rw [hu] at h
 simp only [Bool.and_eq_true,List.contains_iff_mem,Nat.ble_eq] at h
 exact⟨h.1.1,h.1.2,h.2⟩
theorem okT_struct {T:TypeId} {fs:Array Field} (h:okT P Ts T=true)(hu:P.underlying T=some (.struct fs)):(∀ f,f∈fs.toList→f.type∈Ts)∧tightL P fs.toList 0 (P.cellsOf T)=true:=by
 unfold okT at h
 rw [hu] at h
 simp only [Bool.and_eq_true,List.all_eq_true,List.contains_iff_mem] at h
 exact h
theorem trod_read (hT:okTs P Ts=true):∀ (n:Nat)(T:TypeId)(cs:List Value)(x:DataW H × List MemPlace),T∈Ts→DataW.trod enc P w 0 (fun _=>true) true n T cs=some x→(∀ k,k∈x.1.weights P T→k≤reachBytes) →
  ∃ ds,Conf P n T ds∧Reads w ds cs
 | 0,T,cs,x,_,h,_=>by simp [DataW.trod] at h
 | n+1,T,cs,x,hm,h,hw=>by
  have hok:=List.all_eq_true.1 hT T hm
  have ih:=trod_read hT n
  cases hu:P.underlying T with
  | none=>unfold okT at hok;rw [hu] at hok;simp at hok
  | some desc =>
   cases desc with
   | bool =>
    obtain⟨b,rfl,rfl⟩:=DataW.trod_bool hu h
    exact⟨[.bool b],by rw [Conf,hu];exact⟨b,rfl⟩,.single (.bool b) rfl⟩
   | int k =>
    obtain⟨z,rfl,rfl,_⟩:=DataW.trod_int hu h
    exact⟨[.int k z],by rw [Conf,hu];exact⟨z,rfl⟩,.single (.int k z) rfl⟩
   | string =>
    obtain⟨s,rfl,rfl,hs⟩:=DataW.trod_string hu h
    have:=hw s.data.toList.length (by simp [DataW.weights])
    refine⟨[.str s.data.toList],by rw [Conf,hu];exact⟨_,rfl⟩,.single ?_ rfl⟩
    exact RepC.str s.data.toList (Nat.le_trans this (by decide))
   | slice e =>
    obtain⟨he,hbe,hce⟩:=okT_slice hok hu
    rcases DataW.trod_slice hu h with ⟨rfl,rfl⟩ | ⟨a,len,cap,elems,rest,n',hn,rfl,rfl,_,hlc,hcm,hel,hrd,_,_⟩
    ·exact⟨[.slice []],by rw [Conf,hu];exact⟨[],rfl,by simp⟩,.single (.slice0 none 0 (fun _=>rfl)) rfl⟩
    ·obtain rfl:n'=n:=by omega
     simp only [DataW.weights,hu,List.mem_cons,List.mem_append] at hw
     have hlen:len≤lim:=by
      have h1:=hw _ (.inl rfl)
      simp only [List.length_map] at h1
      have h2:(elems.length+rest.length)*1≤(elems.length+rest.length)*P.bytesOf e:=Nat.mul_le_mul_left _ hbe
      have h3:reachBytes≤lim:=by decide
      omega
     have key:∀ i,i < len→∃ ds cs',Conf P n' e ds∧Reads w ds cs'∧w.cells? 0 (a.add (i*P.cellsOf e)) (P.cellsOf e)=some cs':=by
      intro i hi
      have h1:=hrd i hi
      have h2:elems[i]? = some elems[i]:=List.getElem?_eq_getElem (by omega)
      rw [h2] at h1
      obtain⟨cs',hc,ht⟩:=Option.bind_eq_some_iff.1 h1
      obtain⟨ds,g1,g2⟩:=ih e cs' _ he ht (fun k hk=>hw k (.inr (.inl (weightsAll_mem _ _ (List.mem_map.2 ⟨elems[i],List.getElem_mem _,rfl⟩) k hk))))
      exact⟨ds,cs',g1,g2,hc⟩
     cases len with
     | zero=>exact⟨[.slice []],by rw [Conf,hu];exact⟨[],rfl,by simp⟩,.single (.slice0 (some a) cap (by simp)) rfl⟩
     | succ len =>
      have hspot:a.spot=none:=by
       obtain⟨ds,cs',_,_,hc⟩:=key 0 (by omega)
       obtain⟨_,hl,hcell⟩:=World.cells?_some hc
       have h0:=hcell 0 (by omega)
       have h1:cs'[0]? = some cs'[0]:=List.getElem?_eq_getElem (by omega)
       rw [h1] at h0
       have:=World.cell?_spot h0
       simpa [Addr.add] using this
      obtain⟨b,off,spot⟩:=a
      simp only at hspot
      subst hspot
      have haddr:∀ i j,((⟨b,off,none⟩:Addr).add (i*P.cellsOf e)).add j=⟨b,off+(i*P.cellsOf e+j),none⟩:=by
       intro i j;rw [add_addr,add_addr,Nat.add_assoc]
      have hch:∃ rows:List (List D),rows.length=len+1∧∀ i row,rows[i]? = some row→∃ cs',Conf P n' e row∧Reads w row cs'∧w.cells? 0 ((⟨b,off,none⟩:Addr).add (i*P.cellsOf e)) (P.cellsOf e)=some cs':=by
       have gen:∀ m,m≤len+1→∃ rows:List (List D),rows.length=m∧∀ i row,rows[i]? = some row→∃ cs',Conf P n' e row∧Reads w row cs'∧w.cells? 0 ((⟨b,off,none⟩:Addr).add (i*P.cellsOf e)) (P.cellsOf e)=some cs':=by
        intro m
        induction m with
        | zero=>intro _;exact⟨[],rfl,by simp⟩
        | succ m ihm =>
         intro hle
         obtain⟨rows,h1,h2⟩:=ihm (by omega)
         obtain⟨ds,cs',g1,g2,g3⟩:=key m (by omega)
         refine⟨rows++[ds],by simp [h1],?_⟩
         intro i row hi
         by_cases hlt:i < m
         ·rw [List.getElem?_append_left (by omega)] at hi;exact h2 i row hi
         ·rw [List.getElem?_append_right (by omega),h1] at hi
          have:i=m:=by
           have:=(List.getElem?_eq_some_iff.1 hi).1
           simp at this;omega
          subst this
          simp only [Nat.sub_self,List.getElem?_cons_zero,Option.some.injEq] at hi
          subst hi
          exact⟨cs',g1,g2,g3⟩
       exact gen (len+1) (Nat.le_refl _)
      obtain⟨rows,hrl,hrows⟩:=hch
      have hb:b < w.heap.size:=by
       obtain⟨ds,cs',_,_,hc⟩:=key 0 (by omega)
       obtain⟨_,hl,hcell⟩:=World.cells?_some hc
       have h0:=hcell 0 (by omega)
       rw [List.getElem?_eq_getElem (by omega)] at h0
       rw [haddr] at h0
       refine Classical.byContradiction fun hc=>?_
       have:w.heap[b]? = none:=Array.getElem?_eq_none (by omega)
       simp [World.cell?,this] at h0
      refine⟨[.slice rows],by rw [Conf,hu];refine⟨rows,rfl,fun row hr=>?_⟩;obtain⟨i,hi⟩:=List.mem_iff_getElem?.1 hr;exact (hrows i row hi).choose_spec.1,.single ?_ rfl⟩
      have hrowlen:∀ (i:Nat) (row:List D),rows[i]? = some row→row.length=P.cellsOf e:=by
       intro i row hi
       obtain⟨cs',_,g2,g3⟩:=hrows i row hi
       rw [g2.len,(World.cells?_some g3).2.1]
      rw [← hrl]
      refine .slice rows b off cap (P.cellsOf e) hb (by omega) (by omega) ?_ ?_ ?_ ?_
      ·intro row hr;obtain⟨i,hi⟩:=List.mem_iff_getElem?.1 hr;exact hrowlen i row hi
      ·intro row hr d hd;obtain⟨i,hi⟩:=List.mem_iff_getElem?.1 hr
       obtain⟨cs',_,g2,_⟩:=hrows i row hi
       exact g2.one d hd
      ·intro i j hi hj
       obtain⟨cs',_,_,g3⟩:=hrows i rows[i] (List.getElem?_eq_getElem hi)
       obtain⟨_,hl,hcell⟩:=World.cells?_some g3
       have:=hcell j hj
       rw [haddr] at this
       exact⟨_,this.trans (List.getElem?_eq_getElem (by omega))⟩
      ·intro i j row d v hi hd hv
       obtain⟨cs',_,g2,g3⟩:=hrows i row hi
       obtain⟨_,hl,hcell⟩:=World.cells?_some g3
       have hj:j < P.cellsOf e:=by rw [← hrowlen i row hi];exact (List.getElem?_eq_some_iff.1 hd).1
       have:=hcell j hj
       rw [haddr] at this
       exact g2.rep j d v hd (by rw [← this];exact hv)
   | struct fs =>
    obtain⟨h1,h2⟩:=okT_struct hok hu
    obtain⟨xs,n',hn,rfl,hl,hxs,hr⟩:=DataW.trod_struct hu h
    obtain rfl:n'=n:=by omega
    obtain⟨ds,g1,g2⟩:=struct_read (Ts:=Ts) (fun T cs x hm h hw=>ih T cs x hm h hw) fs.toList 0 (P.cellsOf T) xs cs h2 h1 hl (by simpa using hxs) (fun i f hf=>hr i f (by simpa using hf)) (by
     intro k hk
     refine hw k ?_
     simp only [DataW.weights,hu]
     exact hk)
    exact⟨ds,by rw [Conf,hu];exact g1,by simpa using g2⟩
   | _=>unfold okT at hok;rw [hu] at hok;simp at hok
theorem arg_agg {T:TypeId} {fs:Array Field} (hT:okTs P Ts=true)(hm:T∈Ts)(hu:P.underlying T=some (.struct fs)) {W:World} {base:Nat} {v:Value} {d:DataW H} {ps:List MemPlace} (hok:Value.okWide P W .any base T v)
  (h:DataW.Trod enc P W 0 (fun _=>true) true T v d ps) (hw:∀ k,k∈d.weights P T→k≤reachBytes) (β:Names):∃ n ds,Conf P n T ds∧RepV (all W) W β (.agg (ds.map .d)) v:=by
 obtain⟨cs,rfl,_⟩:=WideShapes.okWide_struct hu hok
 obtain⟨n,hn⟩:=h
 obtain⟨ds,h1,h2⟩:=trod_read hT n T _ _ hm hn hw
 refine⟨n,ds,h1,repV_agg_of ?_⟩
 have:=RepC.agg (S:=all W) (w:=W) ds cs.toList h2.len.symm h2.one h2.rep
 simpa using this
theorem arg_slice {T e:TypeId} (hT:okTs P Ts=true)(hm:T∈Ts)(hu:P.underlying T=some (.slice e)) {W:World} {base:Nat} {v:Value} {d:DataW H} {ps:List MemPlace} (hok:Value.okWide P W .any base T v)
  (h:DataW.Trod enc P W 0 (fun _=>true) true T v d ps) (hw:∀ k,k∈d.weights P T→k≤reachBytes) (β:Names):∃ n rows,Conf P n T [.slice rows]∧RepV (all W) W β (.d (.slice rows)) v:=by
 obtain⟨a,len,cap,rfl⟩:=WideShapes.okWide_slice hu hok
 obtain⟨n,hn⟩:=h
 obtain⟨ds,h1,h2⟩:=trod_read hT n T _ _ hm hn hw
 cases n with
 | zero=>simp [Conf] at h1
 | succ n =>
  have h1':=h1
  rw [Conf,hu] at h1
  obtain⟨rows,rfl,_⟩:=h1
  exact⟨n+1,rows,h1',.d _ _ (h2.rep 0 _ _ rfl rfl)⟩
def Gh.none (P:Program)(sy ra:TypeId × Value):Gh:=⟨⟨P,0,0,0,fun _=>.undef,fun _=>false⟩,fun _ _ _ _=>False,sy,ra⟩
theorem CallOK.calls {f:FuncId} {args:List SV} {r:SV} (h:CallOK P f args r) {W:World} {β:Names} {vs:List Value} (hv:RepL (all W) W β args vs) {sy ra:TypeId × Value} (ht:∀ b cs,fixedRow sy ra b cs→∃ ty fr,W.heap[b]? = some (.cells cs ty fr)) :
  Calls P f ⟨vs⟩ W fun e W'=>∃ v S' β',e=.returned v∧RepV S' W' β' r v∧RowKit.Below W.heap.size W W':=by
 have hin:Inv ⟨W,all W,fun _=>False,fun _ _=>False,Gh.none P sy ra⟩ (all W) W β []:={
  S0sub:=fun _ hb=>hb,Snew:=fun _ hb=>.inl hb,Slt:=fun _ hb=>hb,kept:=fun _ _ _=>rfl,os:=rfl,tape:=rfl,output:=rfl,size:=Nat.le_refl _,
  box:=fun k c hk=>by simp at hk,priv:=fun k c hk=>by simp at hk,inj:=fun k c k' c' hk=>by simp at hk,fix:=fun _ _ h=>h.elim
  tab:=fun b cs hb=>by
   obtain⟨ty,fr,h⟩:=ht b cs hb
   exact⟨(Array.getElem?_eq_some_iff.1 h).1,ty,fr,h⟩
  one:=fun k Y st k' Y' st' hk=>by simp at hk
  frn:=fun k Y st hk=>by simp at hk }
 refine (h.2 ⟨W,all W,fun _=>False,fun _ _=>False,Gh.none P sy ra⟩ β vs hin hv).mono ?_
 rintro e W' ⟨v,S',β',rfl,hi,hr⟩
 exact⟨v,S',β',rfl,hr,⟨hi.os,hi.tape,hi.output,hi.size,fun k hk=>hi.kept k hk id⟩⟩
end Go.Abs
