/- Slices of one's own, calls, code on abstract states, regions. Own framework. -/
import Derived.Deep.LoopGhost
import Derived.Sort.LoopGhostIn
import Derived.OrdersIn
import Derived.Test.YtjneockcgjfhaaaGreatDoorKAb1
set_option linter.all false
namespace Go.Abs
open Go
variable {P:Program} {o:Oper} {ρ:Kf} {bx:Aa}
def Vj:List SV->Option (List D)
 |[]=>some []
 |.d x::r=>match Vj r with
  |some l=>match x with
   |.nil=>some (.slice []::l)
   |.emp=>some (.slice []::l)
   |.agg _=>none
   |y=>some (y::l)
  |none=>none
 |_::_=>none
variable {S:Nat->Prop} {w:World} {β:Names}
def B6f :∀(cs:List SV)(ds:List D)(vs:List Value),Vj cs=some ds->Bz S w β cs vs ->ds.length=cs.length/\(∀d,d∈ds->d.one=true)/\∀(j:Nat) (d:D) (v:Value),ds[j]?=some d->vs[j]?=some v->C0 S w d v
 |[],ds,vs,h,hr=>by simp only[Vj,B0]at h;subst h;simp
 |c::cs,ds,vs,h,hr=>by
  cases c <;> simp only[Vj,reduceCtorEq]at h;rename_i x;cases O:Vj cs with
  |none=>grind
  |some l =>
   rw[O]at h;cases vs with
   |nil=>have:=hr.1;grind
   |cons v vs =>
    have E:C0 S w x v:=(hr.2 0 (.d x) v rfl rfl).Gq;obtain⟨U,W,V⟩:=B6f cs l vs O ⟨by have:=hr.1;grind,λj c v Z E=>hr.2 (j+1) c v (by grind) (by grind)⟩;have key:∃y,ds=y::l/\y.one=true/\C0 S w y v:=by
     cases x <;> simp only[B0,reduceCtorEq]at h <;> first
      |exact⟨_,h.symm,rfl,E⟩
      |exact⟨_,h.symm,rfl,E.of_nil⟩
      |exact⟨_,h.symm,rfl,E.C4k⟩
    obtain⟨y,rfl,J,I⟩:=key;refine⟨by simp[U],?_,?_⟩
    .intro d hd;simp only[B5]at hd;rcases hd with rfl|hd
     .exact J
     .exact W d hd
    .intro j d u hd L;cases j with
     |zero=>simp at hd L;subst hd;subst L;exact I
     |succ j=>exact V j d u (by simpa using hd) (by simpa using L)
structure Flat(S:Nat->Prop)(w:World)(sz:Nat)(rows:List (List D))(vs:List Value):Prop where
 len:vs.length=rows.length*sz
 row:∀row,row∈rows->row.length=sz
 one:∀row,row∈rows->∀d,d∈row->d.one=true
 rep:∀(i j:Nat) (row:List D) (d:D) (v:Value),rows[i]?=some row->row[j]?=some d->vs[i*sz+j]?=some v->C0 S w d v
variable {vs:List Value}
def Flat.ext{S S':Nat->Prop}{w w':World}{sz:Nat}{rows:List (List D)}(h:Flat S w sz rows vs)(e:C9 S w S' w'):Flat S' w' sz rows vs :=⟨h.len,h.row,h.one,λi j row d v E I J=>(h.rep i j row d v E I J).ext e⟩
theorem Flat.nil{sz:Nat} :Flat S w sz [] []:=⟨by simp,by simp,by simp,by simp⟩
def Flat.cons{sz:Nat}{row:List D}{rows:List (List D)}{us vs:List Value}(I:row.length=sz)(J:us.length=sz)(E:∀d,d∈row->d.one=true)
  (hr:∀(j:Nat) (d:D) (v:Value),row[j]?=some d->us[j]?=some v->C0 S w d v)(h:Flat S w sz rows vs):Flat S w sz (row::rows) (us++vs) where
 len:=by simp[J,h.len,Io];omega
 row r hr:=by
  simp only[B5]at hr;rcases hr with rfl|hr
  .exact I
  .exact h.row r hr
 one r hr:=by
  simp only[B5]at hr;rcases hr with rfl|hr
  .exact E
  .exact h.one r hr
 rep i j r d v h1 h2 h3:=by
  have L:j<sz:=by
   have e:=(Aw.1 h2).1;cases i with
   |zero=>grind
   |succ i=>have:=h.row r (Bm (by simpa using h1));omega
  cases i with
  |zero =>grind
  |succ i =>rw[Io,At7,Ma (by omega)]at h3;exact h.rep i j r d v (by grind) h2 (by grind)
def Flat.append{sz:Nat}{rows xs:List (List D)}{us vs:List Value}(h:Flat S w sz rows us)(k:Flat S w sz xs vs):Flat S w sz (rows++xs) (us++vs) where
 len:=by simp[h.len,k.len,Io]
 row r hr:=by
  simp only[C6]at hr;rcases hr with hr|hr
  .exact h.row r hr
  .exact k.row r hr
 one r hr:=by
  simp only[C6]at hr;rcases hr with hr|hr
  .exact h.one r hr
  .exact k.one r hr
 rep i j r d v h1 h2 h3:=by
  by_cases E:i<rows.length
  .rw[N0 E]at h1;have I:j<sz:=by have:=(Aw.1 h2).1;have:=h.row r (Bm h1);omega
   have:(i+1)*sz<=rows.length*sz:=Iv _ E;rw[Io,At7]at this;rw[N0 (by rw[h.len];omega)]at h3;exact h.rep i j r d v h1 h2 h3
  .rw[Ma (by omega)]at h1;have:rows.length*sz<=i*sz:=Iv _ (by omega);rw[Ma (by rw[h.len];omega)]at h3;refine k.rep (i - rows.length) j r d v h1 h2 ?_;rw[<-h3,h.len];grind[Nat.sub_mul]
def rowsOf(ρ:Kf)(sz:Nat):Nat->List (Nat × Operand)->Option (List (List D))
 |_,[]=>some []
 |n,(i,x)::r=>match content (ρ x)with
  |some c=>match Vj c with
   |some row=>if i=n/\row.length=sz then(rowsOf ρ sz (n+1) r).map (row::·)else none
   |none=>none
  |none=>none
def E6d{a:Act}(sz:Nat):∀(parts:List (Nat × Operand))(n:Nat)(rows:List (List D))(pre rest:List Value),(∀p,p∈parts->An S w β (ρ p.2) (a.eval p.2)) ->rowsOf ρ sz n parts=some rows->pre.length=n*sz->rest.length=parts.length*sz ->∃vs,Instr.fill (λi=>some (i*sz,sz)) ⟨pre++rest⟩ (parts.map λp=>(p.1,a.eval p.2))=some ⟨pre++vs⟩/\Flat S w sz rows vs/\rows.length=parts.length
 |[],n,rows,pre,rest,_,h,O,hr=>by
  simp only[rowsOf,B0]at h;subst h;have:rest=[]:=by cases rest <;> simp at hr;rfl
  subst this;exact⟨[],rfl,.nil,rfl⟩
 |(i,x)::parts,n,rows,pre,rest,ha,h,O,hr=>by
  simp only[rowsOf]at h;cases U:content (ρ x)with
  |none=>simp[U]at h
  |some c =>
   cases hd:Vj c with
   |none=>simp[U,hd]at h
   |some row =>
    simp only[U,hd]at h;split at h
    .rename_i V;obtain⟨rfl,W⟩:=V;simp only[P1]at h;obtain⟨J,I,rfl⟩:=h;obtain⟨g1,g2⟩:=(ha (i,x) (by simp)).content U;obtain⟨q1,q2,q3⟩:=B6f c row _ hd g1;have a0:(a.eval x).cells.size=sz:=by have:=g1.1;simp at this;omega
     have E:(a.eval x).cells.toList.length=sz:=by simpa using a0
     have Z:sz<=rest.length:=by rw[hr];simp[Io]
     have L:H5 (pre++rest) (i*sz) (a.eval x).cells.toList=(pre++(a.eval x).cells.toList)++rest.drop sz:=by
      apply Mm;intro j;rw[A0e _ _ _ _ (by simp only[As];omega)];by_cases h1:i*sz<=j/\j<i*sz+(a.eval x).cells.toList.length
      .rw[A6 h1,N0 (by simp only[As];omega),Ma (by omega),O]
      .rw[A3 h1];by_cases h2:j<i*sz
       .rw[N0 (by omega),N0 (by simp only[As];omega),N0 (by omega)]
       .rw[Ma (by omega),Ma (by simp only[As];omega),Vw]
        congr 1
        simp only[As];omega
     obtain⟨vs,f1,f2,f3⟩:=E6d sz parts (i+1) J (pre++(a.eval x).cells.toList) (rest.drop sz) (λp O=>ha p (by simp[O])) I (by simp only[As,E,O,Io];omega) (by simp only[An9,hr,Ar,Io];omega)
     refine⟨(a.eval x).cells.toList++vs,?_,.cons W E q2 q3 f2,by simp[f3]⟩;simp only[Cp,Instr.fill];rw[A3 (by simp only[ne_eq,Xu,E4,Ye];simp;simp at hr;omega)];have hf:=C7m (a.eval x).cells.toList (pre++rest) (i*sz) 0;simp only[Xh]at hf;have e:(a.eval x).cells.toList.zipIdx=(a.eval x).cells.zipIdx.toList:=by simp
     rw[e,Array.foldl_toList]at hf;rw[hf,L,f1,H8]
    .simp at h
def A3w{T e:Nat}(h:Ec P T=some e)(w:World):(underlying T).run P w=.ok (.slice e) w:=by
 unfold Ec at h;cases E:P.underlying T with
 |none=>grind
 |some d =>rw[E]at h;cases d <;> simp only[reduceCtorEq,B0]at h;subst h;simp[underlying,E]
def C9c{a:Act}{T e n sz:Nat}{parts:Array (Nat × Operand)}(V:∀p,p∈parts.toList->An S w β (ρ p.2) (a.eval p.2)){rows:List (List D)}{O:List SV}
  (hT:Ec P T=some e)(hs:C4 P e=some sz)(U:Cz P e=some O)(L:O.length=sz)(Z:n*sz<=16777216)(W:parts.size=n)(hr:rowsOf ρ sz 0 parts.toList=some rows) :
  ∃vs,(Instr.buildSlice T n (parts.map λp=>(p.1,a.eval p.2))).run P w=.ok (.slice (some ⟨w.heap.size,0,none⟩) n n) { w with heap:=w.heap.push (.cells ⟨vs⟩ e) }/\Flat S w sz rows vs/\rows.length=n:=by
 obtain⟨z,E,rfl⟩:=B5u U w;simp only[Bc,Ap1]at L;obtain⟨vs,f1,f2,f3⟩:=E6d sz parts.toList 0 rows [] ((Array.range (n*sz)).map (λj=>(if n*sz=0 then #[]else z.cells)[j % (if n*sz=0 then #[]else z.cells).size]!)).toList V hr (by simp) (by grind);refine⟨vs,?_,f2,by grind⟩;simp only[Y7]at f1;simp only[Instr.buildSlice,Ii,A3w hT,Hm,Qn hs];rw[A3 (show ¬n*sz > 2 ^ 24 by omega)];have I:Instr.fill (λi=>some (i*sz,sz)) (Array.map (λx=>(if n*sz=0 then #[]else z.cells)[x % (if n*sz=0 then #[]else z.cells).size]!) (Array.range (n*sz))) (Array.map (λp=>(p.fst,a.eval p.snd)) parts).toList=some ⟨vs⟩:=by rw[As9];exact f1
 by_cases J:n*sz=0;rw[A6 J];simp only[A6 J]at I;simp only[Ii,L8,Hm,I,newRow,run_newObj];rw[A3 J];simp only[A3 J]at I;simp only[Ii,L8,Hm,E,I,newRow,run_newObj]
def Flat.slice{sz:Nat}{rows:List (List D)}(h:Flat S w sz rows vs){b:Nat}{ty:TypeId}{W:Nat × Nat}{us:List Value}{off cap:Nat}(U:S b)
  (L:w.heap[b]?=some (.cells ⟨us⟩ ty W))(O:∀(j:Nat) (v:Value),vs[j]?=some v->us[off+j]?=some v)(Z:rows.length<=lim)(V:rows.length<=cap) :
  C0 S w (.slice rows) (.slice (some ⟨b,off,none⟩) rows.length cap):=by
 refine .slice rows b off cap sz U Z V h.row h.one ?_ ?_
 .intro i j J hj;have E:i*sz+j<vs.length:=by rw[h.len];have:(i+1)*sz<=rows.length*sz:=Iv _ J;rw[Io,At7]at this;omega
  exact⟨vs[i*sz+j],by rw[cells_of_row L];simp_all⟩
 .intro i j row d v hr hd I;have J:=(Aw.1 hr).1;have hj:j<sz:=by have:=(Aw.1 hd).1;have:=h.row row (Bm hr);omega
  have E:i*sz+j<vs.length:=by rw[h.len];have:(i+1)*sz<=rows.length*sz:=Iv _ J;rw[Io,At7]at this;omega
  rw[cells_of_row L,O _ _ (Br E)]at I;simp only[B0]at I;exact h.rep i j row d v hr hd (by grind)
def Inv.F9a{C:Ctx}(h:Inv C S w β bx)(x:Obj) :Inv C (λb=>S b\/b=w.heap.size) { w with heap:=w.heap.push x } β bx/\C9 S w (λb=>S b\/b=w.heap.size) { w with heap:=w.heap.push x }:=by refine h.grow (λb hb=>.inl hb) ?_ ?_ ?_ rfl rfl rfl (by simp);grind;intro b hb;rcases hb with hb|hb;have:=h.C3 b hb;grind;grind;grind
def F3h{T e n sz:Nat}{parts:Array (Nat × Operand)}(L:o.op=.buildSlice T n parts){rows:List (List D)}{U:List SV}
  (hT:Ec P T=some e)(hs:C4 P e=some sz)(hz:Cz P e=some U)(J:U.length=sz)(hn:n*sz<=16777216)(O:parts.size=n)(hr:rowsOf ρ sz 0 parts.toList=some rows)(I:n<=lim) :
  C1 P o ρ bx (.d (.slice rows)) bx []:=by
 intro C S w β a hi ha;obtain⟨vs,E,Z,hl⟩:=C9c (λp O=>ha p.2 (mo L (by grind[Op.operands]))) hT hs hz J hn O hr;obtain⟨W,V⟩:=hi.F9a (.cells ⟨vs⟩ e);refine Jk ?_;unfold Oper.wp;have:(execOp a.eval o).run P w=.ok (.value (.slice (some ⟨w.heap.size,0,none⟩) n n)) { w with heap:=w.heap.push (.cells ⟨vs⟩ e) }:=by simp only[execOp,L,Ii,E,Hm,L8]
 rw[this];refine⟨_,_,β,rfl,W,V,?_,λ_ _=>rfl⟩;subst hl;exact .d _ _ ((Z.ext V).slice (.inr rfl) (C4x w _) (λj v hv=>by grind) I (Bq _))
def C3u{i:BI}{sz:Nat}{rows:List (List D)}{ty:TypeId}{b:Nat}(hb:i.base=some b)(W:i.sz=sz)(L:rows.length=i.len)(O:i.len<=i.cap)
  (J:rows.length<=lim)(hh:w.heap[b]?=some (.cells ⟨vs⟩ ty (0,0)))(I:(i.off+i.cap)*sz<=vs.length)(us:List Value)(E:Flat S w sz rows us)(hu:∀(j:Nat) (v:Value),us[j]?=some v->vs[i.off*sz+j]?=some v) :
  Dj S w β i (.rows sz rows):=by
 refine⟨W,L,O,J,E.row,E.one,?_⟩;rw[hb];refine⟨ty,vs,hh,I,?_⟩;intro r j row d v hr hd Z;have hj:j<sz:=by have:=(Aw.1 hd).1;have:=E.row row (Bm hr);omega
 have U:=(Aw.1 hr).1;have V:r*sz+j<us.length:=by rw[E.len];have:(r+1)*sz<=rows.length*sz:=Iv _ U;rw[Io,At7]at this;omega
 have:=hu _ _ (Br V);rw[Io,Xo,this]at Z;simp only[B0]at Z;exact E.rep r j row d v hr hd (by grind)
theorem F8q{T e n sz k:Nat}{parts:Array (Nat × Operand)}(I:k<=999999)(U:o.op=.buildSlice T n parts){rows:List (List D)}{zs:List SV}
  (hT:Ec P T=some e)(hs:C4 P e=some sz)(hz:Cz P e=some zs)(L:zs.length=sz)(hn:n*sz<=16777216)(V:parts.size=n)(hr:rowsOf ρ sz 0 parts.toList=some rows)(a0:n<=lim) :
  C1 P o ρ bx (.acc k) ((k,.rows sz rows)::G7 k (C5 k bx)) [k]:=by
 intro C S w β a O ha;obtain⟨vs,E,Z,hl⟩:=C9c (λp V=>ha p.2 (mo U (by grind[Op.operands]))) hT hs hz L hn V hr;obtain⟨h1,h2⟩:=O.Wg (k:=k) (w':={ w with heap:=w.heap.push (.cells ⟨vs⟩ e) }) (c:=.rows sz rows) { base:=some w.heap.size,len:=n,cap:=n,sz:=sz } I (by
   intro b W;simp only[B0]at W;subst W;exact⟨λhs=>by have:=O.C3 _ hs;omega,by simp,.inl (Bq _)⟩)
  (λb' J _=>D1d w _ J) rfl rfl rfl (by simp)
  (λe0=>C3u rfl rfl hl (Bq _) (by omega) (C4x w _) (by simp[Z.len,hl]) vs (Z.ext e0) (λj v hv=>by grind))
 refine Jk ?_;unfold Oper.wp;have:(execOp a.eval o).run P w=.ok (.value (.slice (some ⟨w.heap.size,0,none⟩) n n)) { w with heap:=w.heap.push (.cells ⟨vs⟩ e) }:=by simp only[execOp,U,Ii,E,Hm,L8]
 rw[this];refine⟨_,S,_,rfl,h1,h2,?_,λj hj=>M3 (by grind)⟩;have:=An.acc (S:=S) (w:={ w with heap:=w.heap.push (.cells ⟨vs⟩ e) }) (β:=Ej β k { base:=some w.heap.size,len:=n,cap:=n,sz:=sz }) k;grind[Hp]
end Go.Abs
namespace Go.Abs
open Go
variable {P:Program} {o:Oper} {ρ:Kf} {bx:Aa}
def Iy(i:BI):Value:=.slice (i.base.map λb=>⟨b,i.off*i.sz,none⟩) i.len i.cap
structure Src(P:Program)(S:Nat->Prop)(w:World)(sz:Nat)(xs:List (List D))(v:Value)(vs:List Value):Prop where
 len:(Builtin.lenOf v).run P w=.ok xs.length w
 cells:∀n w',n=xs.length->(∀b,(∃p l c,v=.slice (some ⟨b,p,none⟩) l c)->w'.heap[b]?=w.heap[b]?)->(Builtin.firstCells sz n v).run P w'=.ok ⟨vs⟩ w'
 flat:Flat S w sz xs vs
 one:vs.all (·.oneCell')=true
variable {S:Nat->Prop} {w:World}
theorem Src.nil{sz:Nat}{p:Option Addr}{c:Nat} :Src P S w sz [] (.slice p 0 c) [] where
 len:=rfl
 cells n w' hn _:=by
  subst hn;cases p with
  |none=>rfl
  |some a=>simp[Builtin.firstCells,loadCells,loadCellsFrom]
 flat:=.nil
 one:=rfl
def C2i{b off n:Nat}(h:∀j,j<n->∃v,w.cell? ⟨b,off+j,none⟩=some v):∃vs:List Value,vs.length=n/\∀(j:Nat)(v:Value),vs[j]?=some v->w.cell? ⟨b,off+j,none⟩=some v:=by refine⟨(List.range n).map λj=>(w.cell? ⟨b,off+j,none⟩).getD undef,by simp,?_⟩;grind
theorem C7i{sz n b off len cap:Nat}{vs:List Value}(E:vs.length=n*sz)(h:∀(j:Nat)(v:Value),vs[j]?=some v->w.cell? ⟨b,off+j,none⟩=some v) :(Builtin.firstCells sz n (.slice (some ⟨b,off,none⟩) len cap)).run P w=.ok ⟨vs⟩ w:=by grind[run_loadCells_list,Yi,Builtin.firstCells]
theorem cell_of_heap{w w':World}{b:Nat}(h:w'.heap[b]?=w.heap[b]?)(p:Nat):w'.cell? ⟨b,p,none⟩=w.cell? ⟨b,p,none⟩:=World.cell?_of_block (w:=w) h
def Src.slice{sz:Nat}{xs:List (List D)}{v:Value}(h:C0 S w (.slice xs) v)(a1:∀row,row∈xs->row.length=sz):∃vs,Src P S w sz xs v vs:=by
 cases h with
 |Lw a c _=>exact⟨[],.nil⟩
 |slice _ b off cap E hS h1 h2 h3 J h4 h5 =>
  by_cases hx:xs=[];subst hx;exact⟨[],.nil⟩
  .have L:E=sz:=by
    cases xs with
    |nil=>grind
    |cons r xs=>simp_all
   subst L;have a0:∀j,j<xs.length*E->∃v,w.cell? ⟨b,off+j,none⟩=some v:=by
    intro j hj;have U5:0<E:=by
                 rcases Au1 E with h|h;· grind
                 exact h
    obtain⟨v,U⟩:=h4 (j / E) (j % E) (At3 (by grind)) (As0 _ U5);have:j / E*E+j % E=j:=by rw[Aq2];exact Nat.div_add_mod j E
    exact⟨v,by grind⟩
   obtain⟨vs,hl,W⟩:=C2i a0;have I:Flat S w E xs vs:=⟨hl,h3,J,λi j row d v hr hd U=>h5 i j row d v hr hd (W _ _ U)⟩;refine⟨vs,?_,?_,I,?_⟩;rfl;grind[C7i,cell_of_heap]
   .rw[Dr];intro v U;obtain⟨j,hj⟩:=Wz.1 U;have Z:=(Aw.1 hj).1;rw[hl]at Z;have U5:0<E:=by
                 rcases Au1 E with h|h;· grind
                 exact h
    have V:j / E<xs.length:=At3 (by grind);have O:=h3 _ (Gi V);have hm:j % E<xs[j / E].length:=by rw[O];exact As0 _ U5
    have e:j / E*E+j % E=j:=by rw[Aq2];exact Nat.div_add_mod j E
    exact(I.rep (j / E) (j % E) _ _ v (Br V) (Br hm) (by grind)).one (J _ (Gi V) _ (Gi hm))
def Src.acc{β:Names}{i:BI}{sz:Nat}{xs:List (List D)}(h:Dj S w β i (.rows sz xs)):∃vs,Src P S w sz xs (Iy i) vs:=by
 obtain⟨g1,g2,g3,g4,g5,g6,U⟩:=h;subst g1;cases W:i.base with
 |none =>
  rw[W]at U;simp only at U;have:xs=[]:=by cases xs with|nil=>rfl|cons r xs=>grind
  subst this;refine⟨[],?_⟩;grind[Iy,nil]
 |some b =>
  rw[W]at U;obtain⟨ty,vs,hh,a1,J⟩:=U;have Z:i.off*i.sz+xs.length*i.sz<=vs.length:=by have:(i.off+xs.length)*i.sz<=(i.off+i.cap)*i.sz:=Iv _ (by omega);rw[Io]at this;omega
  have hl:((vs.drop (i.off*i.sz)).take (xs.length*i.sz)).length=xs.length*i.sz:=by simp;omega
  have O:∀(j:Nat) (v:Value),((vs.drop (i.off*i.sz)).take (xs.length*i.sz))[j]?=some v->vs[i.off*i.sz+j]?=some v:=by intro j v I;simp only[Ak4,Vw]at I;split at I;exact I;grind
  have E:Flat S w i.sz xs ((vs.drop (i.off*i.sz)).take (xs.length*i.sz)):=by refine⟨hl,g5,g6,?_⟩;intro r j row d v hr hd I;have:=O _ _ I;exact J r j row d v hr hd (by grind)
  refine⟨_,?_,?_,E,?_⟩;simp[Iy,W,Builtin.lenOf,g2];grind[Iy,C7i,cells_of_row]
  .rw[Dr];intro v I;obtain⟨j,hj⟩:=Wz.1 I;have a0:=(Aw.1 hj).1;rw[hl]at a0;have U5:0<i.sz:=by
                 rcases Au1 i.sz with h|h;· grind
                 exact h
   have V:j / i.sz<xs.length:=At3 (by grind);have L:=g5 _ (Gi V);have hm:j % i.sz<xs[j / i.sz].length:=by rw[L];exact As0 _ U5
   have e:j / i.sz*i.sz+j % i.sz=j:=by rw[Aq2];exact Nat.div_add_mod j i.sz
   exact(E.rep (j / i.sz) (j % i.sz) _ _ v (Br V) (Br hm) (by grind)).one (g6 _ (Gi V) _ (Gi hm))
structure A8s(P:Program)(T e sz bytes:Nat):Prop where
 hT:Ec P T=some e
 Np:C4 P e=some sz
 hzero:(Cz P e).map List.length=some sz
 D1s:(P.info? e).map (·.bytes)=some bytes
 U5:bytes≠0
def L5(P:Program)(T:TypeId):Bool :=match P.underlying T with
 |some (.slice _)=>true
 |some .string=>true
 |_=>false
def G6e{T:TypeId}(h:L5 P T=true)(w:World):(∃e,(underlying T).run P w=.ok (.slice e) w)\/(underlying T).run P w=.ok .string w:=by
 unfold L5 at h;cases E:P.underlying T with
 |none=>grind
 |some d =>
  cases d <;> simp[E]at h;exact .inr (by simp[underlying,E]);rename_i e;exact .inl ⟨e,by simp[underlying,E]⟩
def E2q(zero:Array Value)(n:Nat):(Builtin.zeroCells zero n).size=n*zero.size:=by simp[Builtin.zeroCells]
def E5g{β:Names}{i:BI}{T e sz bytes U:Nat}{rs xs:List (List D)}{v:Value}{vs:List Value}(hE:A8s P T e sz bytes)(hU:L5 P U=true)(a4:Dj S w β i (.rows sz rs))
  (b1:∀b,i.base=some b->¬S b/\b<w.heap.size)(I:Src P S w sz xs v vs)(a2:(rs.length+xs.length)*bytes<=lim)(ty:TypeId) :
  ∃(i':BI) (w':World),(Builtin.append_ #[T,U] ty #[Iy i,v]).run P w=.ok (Iy i') w'/\w'.os=w.os/\w'.tape=w.tape/\w'.output=w.output/\w.heap.size<=w'.heap.size /\ (∀b,b<w.heap.size->i.base≠some b->w'.heap[b]?=w.heap[b]?)/\(∀b,i'.base=some b->i.base=some b\/(w.heap.size<=b/\b<w'.heap.size)) /\ (C9 S w S w'->∀β',Dj S w' β' i' (.rows sz (rs++xs))):=by
 have a6:=a4;obtain⟨g1,g2,g3,g4,g5,g6,g7⟩:=a4;have hdu:=G6e hU w;have ai:1<=bytes:=by have:=hE.U5;omega
 have au:rs.length+xs.length<=lim:=Dd (Nat.le_mul_of_pos_right _ ai) a2;obtain⟨os,O⟩:=Src.acc (P:=P) a6;obtain⟨zs,hz,ab⟩:∃zs,Cz P e=some zs/\zs.length=sz:=by have:=hE.hzero;simp_all
 by_cases hc:i.len+xs.length<=i.cap
 ·
  cases hb:i.base with
  |none =>
   rw[hb]at g7;simp only at g7;have hx:xs=[]:=by cases xs with
    |nil=>rfl
    |cons r xs=>grind
   have hr:rs=[]:=by cases rs with
    |nil=>rfl
    |cons r xs=>grind
   subst hx;subst hr;simp only[Az,Xh]at hc g2;refine⟨i,w,?_,rfl,rfl,rfl,Bq _,λ_ _ _=>rfl,λb h=>.inl (by grind),λ_ _=>?_⟩
   .have J:=I.cells 0 w rfl (λ_ _=>rfl);have ac:=I.len;simp only[Az]at ac;rcases hdu with⟨eu,hdu⟩|hdu <;> simp[Iy,hb,Builtin.append_,A3w hE.hT,Qn hE.Np,hdu,ac,<-g2,J]
   .refine⟨g1,by grind,g3,by simp,by simp,by simp,?_⟩
    grind
  |some b =>
   rw[hb]at g7;obtain⟨aq,bs,hh,ae,ay⟩:=g7;subst g1;have hl:=I.flat.len;have a0:(i.off*i.sz+i.len*i.sz)+0+vs.length<=bs.length:=by have:(i.off+(i.len+xs.length))*i.sz<=(i.off+i.cap)*i.sz:=Iv _ (by omega);simp only[Io]at this ae;omega
   obtain⟨w',af,q1,q2,q3,q4,q5,q6⟩:=B2c (P:=P) vs bs b (i.off*i.sz+i.len*i.sz) 0 aq w hh a0 I.one;refine⟨{ i with len:=i.len+xs.length },w',?_,q3,q4,q5,by omega,?_,λb' az=>.inl (by grind),?_⟩
   .have J:=I.cells xs.length w rfl (λ_ _=>rfl);simp only[Builtin.append_,Iy,hb,Ef];rcases hdu with⟨eu,hdu⟩|hdu <;> simp[A3w hE.hT,Qn hE.Np,hdu,I.len,hc,J,Yi,af]
   .grind
   .intro e0 β';refine C3u (b:=b) (us:=H5 os (rs.length*i.sz) []++vs) (by omega) rfl (by grind) hc (by grind) q1 (by rw[A6c];omega) (by simp only[H5];exact(O.flat.ext e0).append (I.flat.ext e0)) ?_;intro j u hu;simp only[H5]at hu;show(H5 bs _ vs)[i.off*i.sz+j]?=_;rw[A0e _ _ _ _ a0];by_cases hj:j<os.length
    .rw[N0 hj]at hu;have ap:=O.flat.len;rw[A3 (by grind)];have:=O.cells rs.length w rfl (λ_ _=>rfl);have ak:∀(j:Nat) (u:Value),os[j]?=some u->bs[i.off*i.sz+j]?=some u:=by
      intro j u hu;have b0:=(Aw.1 hu).1;have L:(Builtin.firstCells i.sz rs.length (Iy i)).run P w=.ok ⟨(bs.drop (i.off*i.sz)).take (rs.length*i.sz)⟩ w:=by
       simp only[Iy,hb,Ef];refine C7i ?_ ?_
       .grind
       .grind[cells_of_row]
      rw[this]at L;simp only[Result.ok.injEq,Array.mk.injEq,T9]at L;rw[L]at hu;simp only[Ak4,Vw]at hu;split at hu
      .exact hu
      .omega
     grind
    .rw[Ma (by omega)]at hu;have ap:=O.flat.len
     grind
 ·
  have aw:i.cap<i.len+xs.length:=by omega
  have a5:i.len=rs.length:=g2.symm;have av:=growslice_fits aw (bytes:=bytes) (by rw[a5];exact a2);obtain⟨V,a9,Z⟩:∃V,P.info? e=some V/\V.bytes=bytes:=by
   have:=hE.D1s;cases hz:P.info? e with
   |none=>grind
   |some V=>grind
  obtain⟨z,a7,ah⟩:=B5u hz w.drew
  let E:=(Question.appendCap (i.len+xs.length) i.cap e).cut (w.tape w.drawn (.appendCap (i.len+xs.length) i.cap e))
  have ax:i.len+xs.length<=E:=by show _<=(i.len+xs.length)+_ % _;omega
  let rest:=(Builtin.zeroCells z.cells (E - (i.len+xs.length))).toList
  let W:World:={ w.drew with heap:=w.drew.heap.push (.cells ⟨os++vs++rest⟩ e) }
  have Np:z.cells.size=sz:=by rw[ah]at ab;simpa using ab
  refine⟨{ base:=some w.heap.size,off:=0,len:=i.len+xs.length,cap:=E,sz:=sz },W,?_,rfl,rfl,rfl,?_,?_,?_,?_⟩
  .have h1:=O.cells i.len w.drew a5 (λ_ _=>rfl);have h2:=I.cells xs.length w.drew rfl (λ_ _=>rfl);have a3:¬(2 ^ 48<Builtin.nextslicecap (i.len+xs.length) i.cap*V.bytes):=by rw[Z];omega
   have aj:V.bytes≠0:=by rw[Z];exact hE.U5
   have a1:(choose (.appendCap (i.len+xs.length) i.cap e)).run P w=.ok E w.drew:=by simp[run_choose,Question.forced,E]
   obtain⟨aa,a8⟩:∃aa,Iy i=.slice aa i.len i.cap:=⟨_,rfl⟩;have ao:Iy ({ base:=some w.heap.size,off:=0,len:=i.len+xs.length,cap:=E,sz:=sz }:BI)=.slice (some ⟨w.heap.size,0,none⟩) (i.len+xs.length) E:=by simp[Iy]
   rw[ao];rw[a8]at h1 |-;simp only[Builtin.append_];have a':(⟨os⟩:Array Value)++((⟨vs⟩:Array Value)++Builtin.zeroCells z.cells (E - (i.len+xs.length)))=⟨os++vs++rest⟩:=by apply Lk;simp[rest]
   have ad:(Question.appendCap (i.len+xs.length) i.cap e).forced=false:=rfl;rcases hdu with⟨eu,hdu⟩|hdu
   all_goals
    simp[-run_choose,A3w hE.hT,Qn hE.Np,hdu,I.len,hc,typeInfo,a9,aj,a3,a1,h1,h2,a7,newRow,a'];rw[<-H8];rfl
  .show w.heap.size<=(w.heap.push _).size;simp
  .intro b hb _;exact D1d w _ hb
  .intro b hb;simp only[B0]at hb;subst hb;exact .inr ⟨Bq _,by show w.heap.size<(w.heap.push _).size;simp⟩
  .intro e0 β';have ag:=O.flat.len;have am:=I.flat.len;have ar:rest.length=(E - (i.len+xs.length))*sz:=by
    show(Builtin.zeroCells _ _).toList.length=_;rw[Ap1,E2q,Np]
   refine C3u (b:=w.heap.size) (vs:=os++vs++rest) (ty:=e) (us:=os++vs) rfl rfl (by grind) ax (by grind) (by show(w.heap.push _)[w.heap.size]?=_;simp) ?_ ((O.flat.ext e0).append (I.flat.ext e0)) ?_
   .simp only[As,ag,am,ar,Qe];rw[<-Io,<-Io]
    grind
   grind
end Go.Abs
namespace Go.Abs
open Go
variable {P:Program} {o:Oper} {ρ:Kf} {bx:Aa}
inductive Wf(bx:Aa)(sz:Nat):SV->List (List D)->Prop where
 |nil:Wf bx sz (.d .nil) []
 |emp:Wf bx sz (.d .emp) []
 |slice (xs:List (List D)):(∀row,row∈xs->row.length=sz)->Wf bx sz (.d (.slice xs)) xs
 |acc (k:Nat) (xs:List (List D)):(k,Aq.rows sz xs)∈bx->Wf bx sz (.acc k) xs
variable {S:Nat->Prop} {w:World} {β:Names}
def Wf.src{C:Ctx}{sz:Nat}{x:SV}{xs:List (List D)}{v:Value}(h:Wf bx sz x xs)(J:Inv C S w β bx)(E:An S w β x v):∃vs,Src P S w sz xs v vs:=by
 cases h with
 |nil=>cases E with|d _ _ h=>cases h;exact⟨[],.nil⟩
 |emp=>cases E with|d _ _ h=>cases h;exact⟨[],.nil⟩
 |slice _ hs=>cases E with|d _ _ h=>exact Src.slice h hs
 |acc k _ I=>cases E with|acc _=>exact Src.acc (J.box k _ I)
def E2r{T U:TypeId}{x y:Operand}(I:o.op=.call { callee:=.builtin .append,args:=#[x,y],argTypes:=#[T,U] }){a:Act}{w w':World}{s v r:Value}(hs:a.eval x=s)(E:a.eval y=v)
  (h:(Builtin.append_ #[T,U] o.type #[s,v]).run P w=.ok r w'):(execOp a.eval o).run P w=.ok (.value r) w':=by simp[execOp,I,resolve,invoke,builtin,hs,E,h]
theorem G3d{T U e sz bytes k:Nat}{x y:Operand}(a0:k<=999999)(ho:o.op=.call { callee:=.builtin .append,args:=#[x,y],argTypes:=#[T,U] }){rs xs:List (List D)}(hE:A8s P T e sz bytes)(hU:L5 P U=true)
  (hx:ρ x=.acc k)(W:(k,Aq.rows sz rs)∈bx)(hy:Wf bx sz (ρ y) xs)(O:(rs.length+xs.length)*bytes<=lim) :
  C1 P o ρ bx (.acc k) ((k,.rows sz (rs++xs))::G7 k (C5 k bx)) [k]:=by
 intro C S w β a J ha;obtain⟨vs,V⟩:=hy.src (P:=P) J ((ha y (mC ho)));have I:=(ha x (mC ho));rw[hx]at I;have hv:a.eval x=Iy (β k):=by generalize a.eval x=v at I;cases I;rfl
 obtain⟨i',w',Z,q1,q2,q3,q4,q5,q6,q7⟩:=E5g hE hU (J.box k _ W) (λb E=>⟨(J.Bh k _ W b E).1,(J.Bh k _ W b E).2.1⟩) V O o.type;have L:∀b,i'.base=some b->¬S b/\b<w'.heap.size/\(w.heap.size<=b\/∃x,(k,x)∈bx/\(β k).base=some b):=by intro b E;rcases q6 b E with h|⟨h1,h2⟩;obtain⟨g1,g2,_⟩:=J.Bh k _ W b h;grind;exact⟨λhs=>by have:=J.C3 b hs;omega,h2,.inl h1⟩
 obtain⟨h1,h2⟩:=J.Wg (k:=k) (c:=.rows sz (rs++xs)) i' a0 L (λb' E hn=>q5 b' E (hn _ W)) q1 q2 q3 q4 (λe0=>q7 e0 _);refine Jk ?_;unfold Oper.wp;rw[E2r ho hv rfl Z];refine⟨_,S,_,rfl,h1,h2,?_,λj hj=>M3 (by grind)⟩;have:=An.acc (S:=S) (w:=w') (β:=Ej β k i') k;rw[Hp]at this;exact this
def B9d{sz:Nat} :Dj S w β { base:=none,sz:=sz } (.rows sz []) :=⟨rfl,rfl,Bq _,by simp,by simp,by simp,rfl⟩
theorem F1t{T U e sz bytes k:Nat}{x y:Operand}(Z:k<=999999)(ho:o.op=.call { callee:=.builtin .append,args:=#[x,y],argTypes:=#[T,U] }){xs:List (List D)}(hE:A8s P T e sz bytes)(hU:L5 P U=true)
  (hx:ρ x=.d .nil)(hy:Wf bx sz (ρ y) xs)(a0:xs.length*bytes<=lim) :
  C1 P o ρ bx (.acc k) ((k,.rows sz xs)::G7 k (C5 k bx)) [k]:=by
 intro C S w β a V ha;obtain⟨vs,L⟩:=hy.src (P:=P) V ((ha y (mC ho)));have E:=(ha x (mC ho));rw[hx]at E;have hv:a.eval x=Iy { base:=none,sz:=sz }:=by generalize a.eval x=v at E;cases E with|d _ _ h=>cases h;rfl
 obtain⟨W,w',O,q1,q2,q3,q4,q5,q6,q7⟩:=E5g (rs:=[]) hE hU (B9d (S:=S) (w:=w) (β:=β)) (by simp) L (by grind) o.type;have J:∀b,W.base=some b->¬S b/\b<w'.heap.size/\(w.heap.size<=b\/∃x,(k,x)∈bx/\(β k).base=some b):=by intro b I;rcases q6 b I with h|⟨h1,h2⟩;grind;exact⟨λhs=>by have:=V.C3 b hs;omega,h2,.inl h1⟩
 obtain⟨h1,h2⟩:=V.Wg (k:=k) (c:=.rows sz xs) W Z J (λb' I _=>q5 b' I (by simp)) q1 q2 q3 q4 (λe0=>by grind);refine Jk ?_;unfold Oper.wp;rw[E2r ho hv rfl O];refine⟨_,S,_,rfl,h1,h2,?_,λj hj=>M3 (by grind)⟩;have:=An.acc (S:=S) (w:=w') (β:=Ej β k W) k;rw[Hp]at this;exact this
def Dj.C0i{i:BI}{sz:Nat}{rs:List (List D)}(h:Dj S w β i (.rows sz rs))(Z:∀b,i.base=some b->S b):C0 S w (.slice rs) (Iy i):=by
 obtain⟨vs,hs⟩:=Src.acc (P:=default) h;obtain⟨V,U,O,g4,g5,g6,E⟩:=h;subst V;unfold Iy;rw[<-U]at O |-;cases I:i.base with
 |none =>
  rw[I]at E;simp only at E;have:rs=[]:=by cases rs with|nil=>rfl|cons r xs=>grind
  subst this;rw[E];exact .Lw none 0 (λ_=>rfl)
 |some b =>
  rw[I]at E;obtain⟨ty,us,hh,L,J⟩:=E;simp only[Ef];refine .slice rs b _ _ i.sz (Z b I) g4 O g5 g6 ?_ ?_
  .intro r j hr hj;have h1:(i.off+r+1)*i.sz<=(i.off+i.cap)*i.sz:=Iv _ (by omega);have h2:(i.off+r+1)*i.sz=i.off*i.sz+(r*i.sz+i.sz):=by rw[Io,Io,At7,Xo]
   have W:i.off*i.sz+(r*i.sz+j)<us.length:=by omega
   exact⟨us[i.off*i.sz+(r*i.sz+j)],by rw[cells_of_row hh];simp⟩
  grind[cells_of_row]
def Inv.Jh{C:Ctx}{k sz:Nat}{rs:List (List D)}(h:Inv C S w β bx)(J:(k,Aq.rows sz rs)∈bx) :Inv C (λb=>S b\/(β k).base=some b) w β (C5 k bx)/\C9 S w (λb=>S b\/(β k).base=some b) w/\C0 (λb=>S b\/(β k).base=some b) w (.slice rs) (Iy (β k)):=by
 have e:C9 S w (λb=>S b\/(β k).base=some b) w:=⟨λ_ h=>.inl h,λ_ _=>rfl⟩;refine⟨?_,e,(Dj.ext (h.box k _ J) e (λ_ _=>rfl) (λ_ _=>rfl)).C0i λb hb=>.inr hb⟩;exact{
  Fh:=λb hb=>.inl (h.Fh b hb)
  Ei:=λb hb=>by
   rcases hb with hb|hb
   .exact h.Ei b hb
   .exact .inr (h.Bh k _ J b hb).2.2
  C3:=λb hb=>by
   rcases hb with hb|hb
   .exact h.C3 b hb
   .exact(h.Bh k _ J b hb).2.1
  kept:=h.kept
  os:=h.os
  tape:=h.tape
  output:=h.output
  size:=h.size
  box:=λj c E=>by obtain⟨L,E⟩:=Ed.1 E;exact(h.box j c E).ext e (λ_ _=>rfl) (λ_ _=>rfl)
  Bh:=λj c E b hb=>by
   obtain⟨L,E⟩:=Ed.1 E;obtain⟨h1,W,h3⟩:=h.Bh j c E b hb;refine⟨λhs=>?_,W,h3⟩;rcases hs with hs|hs
   .grind
   .exact L (h.inj j c k _ E J b hb hs).1
  inj:=λj c j' U E Z b hb a0=>h.inj j c j' U (Ed.1 E).2 (Ed.1 Z).2 b hb a0
  one:=λk Y st V Y' st' J I=>h.one k Y st V Y' st' (Ed.1 J).2 (Ed.1 I).2
  Fp:=λj Y st E=>by
   obtain⟨h1,W,h3,h4,B,h5,O⟩:=h.Fp j Y st (Ed.1 E).2;have a1:=h.size;have hB:∀b,B b->¬(S b\/(β k).base=some b):=λb hb hs=>hs.elim (O b hb).1 ((O b hb).2.2.2 k _ J);refine⟨h1,W,h3,λV U I=>h4 V U (Ed.1 I).2,B,W.X3 st B S w _ w h5 ⟨λ_ h=>.inl h,λb hb=>hb.imp id λhb=>by grind,λb hb=>?_,hB,λ_ _=>rfl,rfl,rfl,rfl,Bq _⟩,λb hb=>⟨hB b hb,(O b hb).2.1,(O b hb).2.2.1,λV U I=>(O b hb).2.2.2 V U (Ed.1 I).2⟩⟩;rcases hb with hb|hb
   .exact h.C3 b hb
   .exact(h.Bh k _ J b hb).2.1
  Dv:=λb cs hv=>⟨.inl (h.Dv b cs hv).1,(h.Dv b cs hv).2⟩
  fix:=h.fix }
end Go.Abs
namespace Go.Abs
open Go
variable {P:Program} {o:Oper} {ρ:Kf} {bx:Aa}
def Enters(P:Program)(f:FuncId):Prop:=∃fn,P.funcs[f]?=some fn/\(fn.name == "runtime.NumGoroutine")=false/\fn.body.isNone=false
def Ch(P:Program)(f:FuncId)(args:List SV)(pre:Aa)(r:SV)(E:Aa):Prop :=Enters P f/\∀(C:Ctx) (β:Names) (vs:List Value),Inv C C.S0 C.w0 β pre->Bz C.S0 C.w0 β args vs ->Calls P f ⟨vs⟩ C.w0 (λe w'=>∃v S' β',e=.returned v/\Inv C S' w' β' E/\An S' w' β' r v)
def Ab(P:Program)(f:FuncId)(args:List SV)(r:SV):Prop:=Ch P f args [] r []
def A1n{f:FuncId}(J:Enters P f){fo:Operand}{args:Array Operand}{E2:Array TypeId}(I:o.op=.call { callee:=.value fo,args:=args,argTypes:=E2 }){a:Act}{caps:Array Value}(L:a.eval fo=.func (.func f) #[] caps)(w:World) :(execOp a.eval o).run P w=.ok (.enter f (args.map a.eval++caps)) w:=by obtain⟨fn,E,U,O⟩:=J;simp only[execOp,I,resolve,Deferred.ofValue,L,invoke,callFunc,Ii,L8,Hm,run_program,E,U,O,I5,Fm,Array.empty_append]
def D.flat:D->Bool
 |.int _ _| .bool _| .str _| .nil| .Lb| .Ly| .Kc| .Lc=>true
 |_=>false
def SV.scalar:SV->Bool
 |.d x=>x.flat
 |.undef=>true
 |.tuple xs=>xs.all λx=>match x with| .d y=>y.flat| .undef=>true|_=>false
 |_=>false
def C0.scalar{S S':Nat->Prop}{w w':World}{x:D}{v:Value}(h:C0 S w x v)(hs:x.flat=true):C0 S' w' x v:=by cases h <;> simp[D.flat]at hs <;> constructor;omega
def An.scalar{S S':Nat->Prop}{w w':World}{β β':Names}{x:SV}{v:Value}(h:An S w β x v)(hs:x.scalar=true):An S' w' β' x v:=by
 cases h with
 |undef=>exact .undef _
 |d x v h=>exact .d _ _ (h.scalar (by simpa [SV.scalar]using hs))
 |tuple cells vs J O =>
  refine .tuple cells vs J ?_;intro j c v E I;have L:=O j c v E I;simp only[SV.scalar]at hs;have:=Dr.1 hs c (Bm E);cases L with
  |d x v h=>exact .d _ _ (h.scalar (by omega))
  |undef=>exact .undef _
  |_=>grind
 |_=>simp[SV.scalar]at hs
def A8(bx:Aa)(k:Nat):Option Aq :=match bx with
 |[]=>none
 |(j,c)::r=>if j=k then some c else A8 r k
theorem Hs{k:Nat}{c:Aq} :∀{bx:Aa},A8 bx k=some c->(k,c)∈bx
 |[],h=>by simp[A8]at h
 |(j,x)::r,h=>by simp only[A8]at h;split at h;grind;simp[Hs h]
mutual
def coerce(bx:Aa):SV->Option SV
 |.d .nil=>some (.d (.slice []))
 |.d .emp=>some (.d (.slice []))
 |.d x=>some (.d x)
 |.undef=>some .undef
 |.Fa l=>some (.Fa l)
 |.Aj c off=>some (.Aj c off)
 |.agg cs=>match H6 bx cs with
  |some l=>if l.all SV.one then some (.agg l)else none
  |none=>none
 |.tuple cs=>match H6 bx cs with
  |some l=>some (.tuple l)
  |none=>none
 |.Bk f cs=>match H6 bx cs with
  |some l=>some (.Bk f l)
  |none=>none
 |.acc k=>match A8 bx k with
  |some (.rows _ rs)=>some (.d (.slice rs))
  |_=>none
 |.mp k=>match A8 bx k with
  |some (.map kvs)=>some (.d (.map kvs))
  |_=>none
 |.box _ _=>none
 |.Ee _ _ _=>none
 |.Fv cs off=>if SV.Mw cs then some (.Fv cs off)else none
def H6(bx:Aa):List SV->Option (List SV)
 |[]=>some []
 |c::cs=>match coerce bx c with
  |some x=>match H6 bx cs with
   |some l=>some (x::l)
   |none=>none
  |none=>none
end
variable {C:Ctx} {S:Nat->Prop} {w:World}
def Inv.bd{β:Names}(h:Inv C S w β bx):C9 S w (λb=>b<w.heap.size) w:=⟨λb E=>h.C3 b E,λ_ _=>rfl⟩
abbrev all(w:World):Nat->Prop:=λb=>b<w.heap.size
mutual
theorem A5z{C:Ctx}{S S1:Nat->Prop}{w:World}{β:Names}(Z:Inv C S w β bx)(J:C9 S w S1 w)(hS:∀k c,(k,c)∈bx->∀b,(β k).base=some b->S1 b):∀{x y:SV} {v:Value},coerce bx x=some y->An S w β x v->An S1 w β y v/\y.closed=true
 |.undef,y,v,h,E=>by simp only[coerce,B0]at h;subst h;exact⟨.undef v,rfl⟩
 |.Aj c off,y,v,h,E=>by simp only[coerce,B0]at h;subst h;exact⟨E.ext J (λ_ _=>rfl),rfl⟩
 |.d x,y,v,h,E=>by
  have L:An S1 w β (.d x) v:=E.ext J (λ_ _=>rfl);cases x <;> simp only[coerce,B0]at h <;> subst h <;> first
   |exact⟨L,rfl⟩
   |exact⟨.d _ _ L.Gq.of_nil,rfl⟩
   |exact⟨.d _ _ L.Gq.C4k,rfl⟩
 |.agg cs,y,v,h,E=>by
  simp only[coerce]at h;cases I:H6 bx cs with
  |none=>simp[I]at h
  |some l =>
   simp only[I]at h;split at h
   .rename_i a2;simp only[B0]at h;subst h;cases E with
    |agg _ vs h1 h2 h3 =>obtain⟨W,g2⟩:=W3 Z J hS I ⟨h1,h3⟩;exact⟨An.B4v W a2,by simp only[SV.closed];exact g2⟩
   simp at h
 |.tuple cs,y,v,h,E=>by
  simp only[coerce]at h;cases I:H6 bx cs with
  |none=>simp[I]at h
  |some l =>
   simp only[I,B0]at h;subst h;cases E with
   |tuple _ vs h1 h3 =>obtain⟨W,g2⟩:=W3 Z J hS I ⟨h1,h3⟩;exact⟨.tuple _ _ W.1 W.2,by simp only[SV.closed];exact g2⟩
 |.Bk f cs,y,v,h,E=>by
  simp only[coerce]at h;cases I:H6 bx cs with
  |none=>simp[I]at h
  |some l =>
   simp only[I,B0]at h;subst h;cases E with
   |Bk _ _ vs h1 h3 =>obtain⟨W,g2⟩:=W3 Z J hS I ⟨h1,h3⟩;exact⟨.Bk _ _ _ W.1 W.2,by simp only[SV.closed];exact g2⟩
 |.acc k,y,v,h,E=>by
  simp only[coerce]at h;cases V:A8 bx k with
  |none=>simp[V]at h
  |some c =>
   cases c <;> simp[V]at h;subst h;cases E with
   |acc _ =>refine⟨.d _ _ ?_,rfl⟩;exact(Dj.ext (Z.box k _ (Hs V)) J (λ_ _=>rfl) (λ_ _=>rfl)).C0i λb a4=>hS k _ (Hs V) b a4
 |.mp k,y,v,h,E=>by
  simp only[coerce]at h;cases V:A8 bx k with
  |none=>simp[V]at h
  |some c =>
   cases c <;> simp[V]at h;subst h;cases E with
   |mp _ b O =>obtain⟨b',es,a0,h1,h2,h3,h4⟩:=Z.box k _ (Hs V);rw[O]at h1;cases h1;refine⟨.d _ _ (.map _ b es a0 (hS k _ (Hs V) b O) h2 h3 ?_ ?_),rfl⟩;intro i kv e hk a1;exact(h4 i kv e hk a1).1.ext J;intro i kv e hk a1;exact(h4 i kv e hk a1).2.ext J
 |.box _ _,y,v,h,E=>by simp[coerce]at h
 |.Ee _ _ _,y,v,h,E=>by simp[coerce]at h
 |.Fa l,y,v,h,E=>by simp only[coerce,B0]at h;subst h;cases E;exact⟨.Fa l,rfl⟩
 |.Fv cs off,y,v,h,E=>by
  simp only[coerce]at h;split at h
  .rename_i a3;simp only[B0]at h;subst h;have U:(SV.Fv cs off).closed=true:=by simpa [SV.closed]using a3
   exact⟨E.ext J λk hk=>absurd hk (by rw[SV.C3y k U];simp),U⟩
  simp at h
theorem W3{C:Ctx}{S S1:Nat->Prop}{w:World}{β:Names}(Z:Inv C S w β bx)(J:C9 S w S1 w)(hS:∀k c,(k,c)∈bx->∀b,(β k).base=some b->S1 b):∀{cs l:List SV} {vs:List Value},H6 bx cs=some l->Bz S w β cs vs->Bz S1 w β l vs/\SV.Mw l=true
 |[],l,vs,h,E=>by simp only[H6,B0]at h;subst h;exact⟨⟨E.1,by simp⟩,rfl⟩
 |c::cs,l,vs,h,E=>by
  simp only[H6]at h;cases U:coerce bx c with
  |none=>simp[U]at h
  |some x =>
   cases I:H6 bx cs with
   |none=>simp[U,I]at h
   |some m =>
    simp only[U,I,B0]at h;subst h;cases vs with
    |nil=>have:=E.1;simp at this
    |cons v vs =>obtain⟨W,g2⟩:=A5z Z J hS U (E.2 0 c v rfl rfl);obtain⟨q1,q2⟩:=W3 Z J hS I ⟨by have:=E.1;simpa using this,λj c v U L=>E.2 (j+1) c v (by simpa using U) (by simpa using L)⟩;exact⟨.cons W q1,by simp only[SV.Mw,g2,q2,Bool.and_self]⟩
end
def Bz.Yn{β:Names}{a:Act} :∀(xs:List Operand),(∀x,x∈xs->An S w β (ρ x) (a.eval x))->Bz S w β (xs.map ρ) (xs.map a.eval)
 |[],_=>.nil
 |x::xs,E=>.cons (E x (by simp)) (Bz.Yn xs λy I=>E y (by grind))
def Inv.begin{S E:Nat->Prop}{β L:Names}(h:Inv C S w β bx)(I:∀b,E b->b<w.heap.size)(J:∀b,S b->E b):Inv ⟨w,E,λ_=>False,λ_ _=>False,C.G⟩ E w L [] where
 Fh _ hb:=hb
 Ei _ hb:=.inl hb
 C3:=I
 kept _ _ _:=rfl
 os:=rfl
 tape:=rfl
 output:=rfl
 size:=Bq _
 box k c hk:=by grind
 Bh k c hk:=by grind
 inj k c k' c' hk:=by simp
 fix _ _ h:=h.elim
 Dv b cs hv:=⟨J b (h.Dv b cs hv).1,(h.Dv b cs hv).2⟩
 one k Y st k' Y' st' hk:=by simp
 Fp k Y st hk:=by grind
def Inv.back{S I S':Nat->Prop}{w w':World}{β β':Names}(h:Inv C S w β bx)(E:Inv ⟨w,I,λ_=>False,λ_ _=>False,C.G⟩ S' w' β' []) :Inv C (λb=>S b\/(S' b/\w.heap.size<=b)) w' β bx/\C9 S w (λb=>S b\/(S' b/\w.heap.size<=b)) w':=by refine h.grow (λb hb=>.inl hb) ?_ ?_ (λb hb=>E.kept b hb (by simp)) E.os E.tape E.output E.size;grind;intro b hb;rcases hb with hb|hb;have:=h.C3 b hb;have:=E.size;grind;exact E.C3 b hb.1
variable {fo:Operand}
def F2i{f:FuncId}{args:Array Operand}{E2:Array TypeId}(Z:o.op=.call { callee:=.value fo,args:=args,argTypes:=E2 }){caps E:List SV}{r:SV}
  (hf:ρ fo=.Bk f caps)(O:H6 [] (args.toList.map ρ++caps)=some E)(hc:Ab P f E r)(hr:r.closed=true):C1 P o ρ bx r bx []:=by
 intro C S w β a W ha;have J:=(ha fo (mC Z));rw[hf]at J;generalize a0:a.eval fo=v at J;cases J with
 |Bk _ _ cs h1 h2 =>
  have U:Bz S w β (args.toList.map ρ++caps) (args.toList.map a.eval++cs):=(Bz.Yn _ λx hx=>ha x (mo Z (by grind[Op.operands,Call.operands]))).append ⟨h1,h2⟩;have V:Inv ⟨w,S,λ_=>False,λ_ _=>False,C.G⟩ S w β []:=W.begin W.C3 (λ_ h=>h);obtain⟨g1,g2⟩:=W3 V (C9.refl S w) (by simp) O U;have L:=hc.2 ⟨w,S,λ_=>False,λ_ _=>False,C.G⟩ β _ V g1;refine Jk ?_;unfold Oper.wp;rw[A1n hc.1 Z a0,Am8];have I:args.map a.eval++(⟨cs⟩:Array Value)=⟨args.toList.map a.eval++cs⟩:=by apply Lk;simp
  rw[I];refine L.mono ?_;rintro e w' ⟨v,S',β',rfl,hk,hv⟩;obtain⟨q1,q2⟩:=W.back hk;have e':C9 S' w' (λb=>S b\/(S' b/\w.heap.size<=b)) w':=⟨λb hb=>by rcases hk.Ei b hb with h|h|h;grind;grind;grind,λ_ _=>rfl⟩;exact⟨v,_,β,rfl,q1,q2,(hv.ext e' (λ_ _=>rfl)).closed hr,λ_ _=>rfl⟩
def G5d{f:FuncId}{args:Array Operand}{E2:Array TypeId}(W:o.op=.call { callee:=.value fo,args:=args,argTypes:=E2 }){caps E:List SV}{r:SV}
  (hf:ρ fo=.Bk f caps)(O:H6 bx (args.toList.map ρ++caps)=some E)(hc:Ab P f E r)(hr:r.scalar=true):C1 P o ρ bx r bx []:=by
 intro C S w β a U ha;have J:=(ha fo (mC W));rw[hf]at J;generalize Z:a.eval fo=v at J;cases J with
 |Bk _ _ cs h1 h2 =>
  have V:Bz S w β (args.toList.map ρ++caps) (args.toList.map a.eval++cs):=(Bz.Yn _ λx hx=>ha x (mo W (by grind[Op.operands,Call.operands]))).append ⟨h1,h2⟩;have a0:Inv ⟨w,all w,λ_=>False,λ_ _=>False,C.G⟩ (all w) w β []:=U.begin (λ_ hb=>hb) U.C3;obtain⟨g1,g2⟩:=W3 U U.bd (λk c hk b hb=>(U.Bh k c hk b hb).2.1) O V;have L:=hc.2 ⟨w,all w,λ_=>False,λ_ _=>False,C.G⟩ β _ a0 g1;refine Jk ?_;unfold Oper.wp;rw[A1n hc.1 W Z,Am8];have I:args.map a.eval++(⟨cs⟩:Array Value)=⟨args.toList.map a.eval++cs⟩:=by apply Lk;simp
  rw[I];refine L.mono ?_;rintro e w' ⟨v,S',β',rfl,hk,hv⟩;obtain⟨q1,q2⟩:=U.back hk;exact⟨v,_,β,rfl,q1,q2,hv.scalar hr,λ_ _=>rfl⟩
def A5r(q k:Nat):SV->SV
 |.acc j=>if j=q then .acc k else .undef
 |.tuple [.acc j,x]=>if j=q then(if x.closed then .tuple [.acc k,x]else .undef)else .undef
 |_=>.undef
theorem F7g{β J:Names}{q k:Nat}{i:BI}{r:SV}{v:Value}(h:An S w J r v)(W:J q=i):An S w (Ej β k i) (A5r q k r) v:=by
 have I:∀u,An S w J (.acc q) u->An S w (Ej β k i) (.acc k) u:=λu Z=>by cases Z;rw[W];have:=An.acc (S:=S) (w:=w) (β:=Ej β k i) k;grind[Hp]
 unfold A5r;split;split;grind;exact .undef _
 .split
  .split
   .rename_i U
    subst_vars
    cases h with
    |tuple _ vs V O =>
     refine .tuple _ vs V λn c v E L=>?_
     match n,E with
     |0,E=>simp only[Md,B0]at E;subst E;exact I _ (O 0 _ v rfl L)
     |1,E=>simp only[Q3,Md,B0]at E;subst E;exact(O 1 _ v rfl L).closed U
     |n+2,E=>simp at E
   exact .undef _
  exact .undef _
 exact .undef _
theorem G3m{f:FuncId}{args:Array Operand}{E2:Array TypeId}{k:Nat}(a0:k<=999999)(ho:o.op=.call { callee:=.value fo,args:=args,argTypes:=E2 }){caps E:List SV}{q sz:Nat}{rows:List (List D)}{r:SV}
  (hf:ρ fo=.Bk f caps)(V:H6 [] (args.toList.map ρ++caps)=some E)(hc:Ch P f E [] r [(q,.rows sz rows)]) :
  C1 P o ρ bx (A5r q k r) ((k,.rows sz rows)::G7 k (C5 k bx)) [k]:=by
 intro C S w β a hi ha;have L:=(ha fo (mC ho));rw[hf]at L;generalize a1:a.eval fo=v at L;cases L with
 |Bk _ _ cs h1 h2 =>
  have W:Bz S w β (args.toList.map ρ++caps) (args.toList.map a.eval++cs):=(Bz.Yn _ λx hx=>ha x (mo ho (by grind[Op.operands,Call.operands]))).append ⟨h1,h2⟩;have Z:Inv ⟨w,S,λ_=>False,λ_ _=>False,C.G⟩ S w β []:=hi.begin hi.C3 (λ_ h=>h);obtain⟨g1,g2⟩:=W3 Z (C9.refl S w) (by simp) V W;have U:=hc.2 ⟨w,S,λ_=>False,λ_ _=>False,C.G⟩ β _ Z g1;refine Jk ?_;unfold Oper.wp;rw[A1n hc.1 ho a1,Am8];have I:args.map a.eval++(⟨cs⟩:Array Value)=⟨args.toList.map a.eval++cs⟩:=by apply Lk;simp
  rw[I];refine U.mono ?_;rintro e w' ⟨v,S',β',rfl,J,hv⟩;have a2:∀b,S' b->S b\/w.heap.size<=b:=λb O=>by rcases J.Ei b O with h|h|h;grind;grind;grind
  obtain⟨p1,p2⟩:=hi.D2x (k:=k) (w':=w') (S':=S') (c:=.rows sz rows) (β' q) a0 (λb O=>J.Fh b O) a2 J.C3 (by
    intro b O;obtain⟨g1,g2,g3⟩:=J.Bh q (.rows sz rows) (by simp) b O
    grind)
   (λb O _=>J.kept b O (by simp)) J.os J.tape J.output J.size (λ_=>Dj.ext (c:=.rows sz rows) (J.box q (.rows sz rows) (by simp)) (C9.refl _ _) (λ_ _=>rfl) (by simp[Aq.has]))
  grind[F7g,M3]
end Go.Abs
namespace Go.Abs
open Go
variable {P:Program}
def Ao(sl:SL):Operand->SV
 |.tmp t=>Af sl t
 |.const v=>Kw v
 |.func f=>.Bk f []
 |.global _=>.undef
def Gk(sl:SL)(dst:Option Nat)(r:SV):SL :=match dst with
 |some t=>(t,r)::sl
 |none=>sl
def Gb:List Nat->SL->SL
 |[],sl=>sl
 |k::ks,sl=>Gb ks (Wr k sl)
def A4n(o:Oper):Bool:=match o.op with| .defer _=>false|_=>true
variable {o:Oper}
def F8j(h:A4n o=true):∀c,o.op≠.defer c:=by grind[A4n]
def I1(n:Nat)(dst:Option Nat):Prop :=match dst with
 |some t=>t<n
 |none=>True
def Marks(C:Ctx)(S:Nat->Prop)(w:World)(ds:List Deferred):Prop :=∃Ds:List Nat,ds=Ds.map (λD=>({ target:=.collected D,args:=#[] }:Deferred))/\Ds.Nodup/\∀D,D∈Ds->S D/\C.w0.heap.size<=D/\w.heap[D]?=some (.deferred (some []))
variable {C:Ctx} {S:Nat->Prop} {w:World}
theorem Marks.nil :Marks C S w []:=⟨[],rfl,by simp,by simp⟩
def Marks.ext{S S':Nat->Prop}{w w':World}{ds:List Deferred}(h:Marks C S w ds)(e:C9 S w S' w'):Marks C S' w' ds:=by obtain⟨Ds,J,L,I⟩:=h;exact⟨Ds,J,L,λD E=>⟨e.sub D (I D E).1,(I D E).2.1,(e.same D (I D E).1).trans (I D E).2.2⟩⟩
variable {a:Act}
def Marks.put{S S':Nat->Prop}{w w':World}{dst:Option Tmp}{v:Value}(h:Marks C S w a.defers)(e:C9 S w S' w'):Marks C S' w' (a.put dst v).defers:=by
 have:(a.put dst v).defers=a.defers:=by cases dst <;> rfl
 rw[this];exact h.ext e
structure St(C:Ctx)(n:Nat)(S:Nat->Prop)(w:World)(β:Names)(a:Act)(sl:SL)(bx:Aa):Prop where
 inv:Inv C S w β bx
 size:a.tmps.size=n
 defers:Marks C S w a.defers
 slot:∀t,An S w β (Af sl t) (a.tmps.getD t undef)
variable {β:Names}
def St.Ao{n:Nat}{sl:SL}{bx:Aa}(h:St C n S w β a sl bx)(x:Operand):An S w β (Ao sl x) (a.eval x):=by
 cases x with
 |tmp t=>exact h.slot t
 |const v=>exact B3e S w β v
 |global g=>exact .undef _
 |func f=>exact .Bk f [] [] rfl (by simp)
def E8v{t u:Nat}{v:Value}(h:t<a.tmps.size):(a.put (some t) v).tmps.getD u undef=if t=u then v else a.tmps.getD u undef:=by simp only[Act.put,An8,Array.getElem?_setIfInBounds];grind
def St.put{n:Nat}{S S':Nat->Prop}{w w':World}{β β':Names}{sl:SL}{bx bx':Aa}{dst:Option Nat}{v:Value}{r:SV}{pg:List Nat}(h:St C n S w β a sl bx)(hd:I1 n dst)
  (Z:Inv C S' w' β' bx')(U:C9 S w S' w')(hr:An S' w' β' r v)(hb:∀k,k∉pg->β' k =β k):St C n S' w' β' (a.put dst v) (Gk (Gb pg sl) dst r) bx':=by
 have O:∀(ks:List Nat) (sl:SL) (t:Nat) (u:Value),An S w β (Af sl t) u->(∀k,(Af (Gb ks sl) t).has k=true->k∉ks/\(Af sl t).has k=true)/\An S w β (Af (Gb ks sl) t) u:=by
  intro ks
  induction ks with
  |nil=>intro sl t u W;exact⟨λk L=>⟨by simp,L⟩,W⟩
  |cons k ks ih =>
   intro sl t u W;have hp:An S w β (Af (Wr k sl) t) u:=by rw[A8h];unfold N7;split;exact .undef _;exact W
   obtain⟨J,V⟩:=ih (Wr k sl) t u hp;refine⟨λj hj=>?_,V⟩;obtain⟨g1,I⟩:=J j hj;rw[A8h]at I;unfold N7 at I;split at I;simp[SV.has]at I;grind
 have E:∀t,An S' w' β' (Af (Gb pg sl) t) (a.tmps.getD t undef):=by intro t;obtain⟨J,V⟩:=O pg sl t _ (h.slot t);exact V.ext U λk L=>hb k (J k L).1
 cases dst with
 |none=>exact⟨Z,h.size,h.defers.ext U,E⟩
 |some d =>refine⟨Z,by simp[Act.put,h.size],h.defers.put U,?_⟩;intro t;rw[E8v (by rw[h.size];exact hd)];grind[Gk,Af]
def FW(ro:Option Nat):Fence:={ Fence.wide with round:=ro }
def F8p:FW none=Fence.wide:=rfl
def A0(ro:Option Nat)(P:Program)(n:Nat)(c:Code)(Q:Exit->SL->Aa->Prop)(sl:SL)(bx:Aa):Prop :=∀(C:Ctx) (S:Nat->Prop) (w:World) (β:Names) (a:Act),St C n S w β a sl bx ->c.wpIn (FW ro) 0 P (λe E w'=>∃sl' bx' S' β',Q e sl' bx'/\St C n S' w' β' E sl' bx') a w
variable {ro:Option Nat} {n:Nat} {Q:Exit->SL->Aa->Prop} {sl:SL} {bx:Aa}
variable {c:Code}
def A0.mono{E:Exit->SL->Aa->Prop}(h:A0 ro P n c Q sl bx)(I:∀e sl bx,Q e sl bx->E e sl bx):A0 ro P n c E sl bx :=λC S w β a hs=>As4 (h C S w β a hs) λ_ _ _ ⟨sl',bx',S',β',q,r⟩=>⟨sl',bx',S',β',I _ _ _ q,r⟩
def A0.kk(h:Q .normal sl bx):A0 ro P n .skip Q sl bx:=λ_ S _ β _ hs=>wpIn_skip ⟨sl,bx,S,β,h,hs⟩
def A0.ret(h:Q .ret sl bx):A0 ro P n .ret Q sl bx:=λ_ S _ β _ hs=>wpIn_ret ⟨sl,bx,S,β,h,hs⟩
def A0.xx{id:Nat}(h:Q (.exit id) sl bx):A0 ro P n (.exit id) Q sl bx:=λ_ S _ β _ hs=>wpIn_exit ⟨sl,bx,S,β,h,hs⟩
def A5(K:SL->Aa->Prop)(Q:Exit->SL->Aa->Prop):Exit->SL->Aa->Prop
 |.normal,sl,bx=>K sl bx
 |e,sl,bx=>Q e sl bx
def A9(id:Nat)(Q:Exit->SL->Aa->Prop):Exit->SL->Aa->Prop
 |.exit E,sl,bx=>if E=id then Q .normal sl bx else Q (.exit E) sl bx
 |e,sl,bx=>Q e sl bx
def A0.seq{x y:Code}(h:A0 ro P n x (A5 (A0 ro P n y Q) Q) sl bx):A0 ro P n (.seq x y) Q sl bx:=by
 intro C S w β a hs;refine wpIn_seq (As4 (h C S w β a hs) ?_);rintro e E w' ⟨sl',bx',S',β',q,r⟩;cases e with
 |normal=>exact q C S' w' β' E r
 |_=>exact⟨sl',bx',S',β',q,r⟩
def A0.bb{id:Nat}(h:A0 ro P n c (A9 id Q) sl bx):A0 ro P n (.block id c) Q sl bx:=by
 intro C S w β a hs;refine wpIn_block (As4 (h C S w β a hs) ?_);rintro e I w' ⟨sl',bx',S',β',q,r⟩;cases e with
 |exit E =>simp only[A9]at q;simp only[Exit.inBlock];grind
 |_=>exact⟨sl',bx',S',β',q,r⟩
def A0.cond{c:Operand}{x y:Code}{t:Bool}(L:Ao sl c=.d (.bool t))(J:t=true->A0 ro P n x Q sl bx)(I:t=false->A0 ro P n y Q sl bx):A0 ro P n (.cond c x y) Q sl bx:=by intro C S w β a hs;have E:=hs.Ao c;rw[L]at E;exact wpIn_cond_split E.Wk (λh=>J h C S w β a hs) (λh=>I h C S w β a hs)
def Av(x y:SV):Prop:=y=.undef\/x=y\/(y=.d (.slice [])/\(x=.d .nil\/x=.d .emp))
def sle(sl:SL):SL->Prop
 |[]=>True
 |(t,y)::r=>Av (Af sl t) y/\sle sl r
def F9f{x y:SV}{v:Value}(h:Av x y)(hr:An S w β x v):An S w β y v:=by rcases h with rfl|rfl|⟨rfl,rfl|rfl⟩;exact .undef _;exact hr;exact .d _ _ hr.Gq.of_nil;exact .d _ _ hr.Gq.C4k
def E1o :∀{sl':SL},sle sl sl'->∀{t:Nat} {v:Value},An S w β (Af sl t) v->An S w β (Af sl' t) v
 |[],_,t,v,_=>.undef _
 |(u,y)::r,h,t,v,hr=>by
  simp only[Af];split
  .subst_vars;exact F9f h.1 hr
  .exact E1o h.2 hr
def ble(bx:Aa):Aa->Prop
 |[]=>True
 |(k,c)::r=>A8 bx k=some c/\ble bx r
def A7e:∀{bx':Aa},ble bx bx'->∀k c,(k,c)∈bx'->(k,c)∈bx
 |[],_,k,c,h=>by grind
 |(j,x)::r,h,k,c,hm=>by simp only[B5,Ew]at hm;rcases hm with⟨rfl,rfl⟩|hm;exact Hs h.1;exact A7e h.2 k c hm
def St.weaken{sl':SL}{bx':Aa}(h:St C n S w β a sl bx)(E:sle sl sl')(I:ble bx bx'):St C n S w β a sl' bx' :=⟨h.inv.sub (A7e I),h.size,h.defers,λt=>E1o E (h.slot t)⟩
def A0.ww{sl':SL}{bx':Aa}(E:sle sl sl')(I:ble bx bx')(h:A0 ro P n c Q sl' bx'):A0 ro P n c Q sl bx :=λC S w β a hs=>h C S w β a (hs.weaken E I)
def A0.loop{X:Type}(mk:X->SL)(mb:X->Aa)(I:X->Prop)(μ:X->Nat){c:Code}(J:X)(W:I J)(L:sle sl (mk J))(O:ble bx (mb J))
  (h:∀x,I x->A0 ro P n c (A5 (λsl' bx'=>∃E,I E/\μ E<μ x/\sle sl' (mk E)/\ble bx' (mb E)) Q) (mk x) (mb x)):A0 ro P n (.loop c) Q sl bx:=by
 intro C S w β a hs;refine wpIn_loop_ghost (λm a w=>∃x S β,I x/\μ x=m/\St C n S w β a (mk x) (mb x)) (μ J) ⟨J,S,β,W,rfl,hs.weaken L O⟩ ?_;rintro m a w ⟨x,S,β,U,rfl,hs⟩;refine As4 (h x U C S w β a hs) ?_;rintro e a' w' ⟨sl',bx',S',β',q,r⟩;cases e with
 |normal =>obtain⟨E,L,O,V,Z⟩:=q;exact⟨μ E,O,E,S',β',L,rfl,r.weaken V Z⟩
 |_=>exact⟨sl',bx',S',β',q,r⟩
def A0.bd(t:Nat){d:D}(hd:Af sl t=.d d)(h:d.Bd->A0 ro P n c Q sl bx):A0 ro P n c Q sl bx:=by intro C S w β a hs;have hr:=hs.slot t;rw[hd]at hr;exact h hr.Gq.bd C S w β a hs
def Qs(ops:Array Oper)(j:Nat):Option Nat:=(ops[j]?).bind (·.dst)
def Vp(ops:Array Oper)(sl:SL)(o:Oper):Option Bool :=match o.guard with
 |none=>some true
 |some (j,E)=>match Qs ops j with
  |some t=>match Af sl t with
   |.d (.bool b)=>some (b ==E)
   |.tuple []=>some false
   |_=>none
  |none=>none
variable {ops:Array Oper}
def D2g{b:Bool}(hs:∀t,(∃j E,o.guard=some (j,E)/\Qs ops j=some t)->An S w β (Af sl t) (a.tmps.getD t undef)/\t<a.tmps.size)
  (h:Vp ops sl o=some b):Region.wanted o (yielded ops a.tmps)=b:=by
 unfold Vp at h;unfold Region.wanted;cases U:o.guard with
 |none=>grind
 |some W =>
  obtain⟨j,E⟩:=W;simp only[U]at h |-;cases O:Qs ops j with
  |none=>grind
  |some t =>
   simp only[O]at h;obtain⟨I,Z⟩:=hs t ⟨j,E,U,O⟩;have V:yielded ops a.tmps j=match a.tmps.getD t undef with| .bool b=>some b|_=>none:=by unfold yielded;rw[show(ops[j]?).bind (·.dst)=some t from O];have L:t<a.tmps.size:=Z;simp only[Ap5,Yr L,An8,Dh];grind
   rw[V];generalize a.tmps.getD t undef=v at I;split at h;rename_i x J;rw[J]at I;rw[I.Wk];simp_all
   .rename_i J;rw[J]at I;have:v=.tuple ⟨[]⟩:=by cases I with|tuple _ vs hl _=>grind
    grind
   grind
def Run(P:Program)(n:Nat)(ops:Array Oper):List Oper->SL->Aa->(SL->Aa->Prop)->Prop
 |[],sl,bx,K=>K sl bx
 |o::os,sl,bx,K=>∃g,Vp ops sl o=some g/\I1 n o.dst /\ (g=true->∃r bx' pg,C1 P o (Ao sl) bx r bx' pg/\Run P n ops os (Gk (Gb pg sl) o.dst r) bx' K) /\ (g=false->Run P n ops os (Gk sl o.dst (.tuple [])) bx K)
def D3w(hd:∀o,o∈ops.toList->I1 n o.dst){j t:Nat}(h:Qs ops j=some t):t<n:=by
 unfold Qs at h;cases E:ops[j]? with
 |none=>grind
 |some o =>simp only[E,Ap5]at h;have:=hd o (by grind);rw[h]at this;exact this
def Oper.G4j{K J:Act->World->Prop}{O:Exit->Act->World->Prop}(I:o.wp P a w K (λ_ _ _=>False))(h:∀a w,K a w->J a w):o.wp P a w J O:=by
 unfold Oper.wp at*;generalize(execOp a.eval o).run P w=r at*;cases r with
 |ok n w' =>
  cases n <;> simp only[Oper.upon]at I |- <;>
   first
    |grind
    |exact Calls.mono I (λe U E=>by cases e <;> first|exact h _ _ E|exact E.elim| (obtain⟨_,_,L⟩:=E;exact L.elim))
    |exact Rows.mono I (λ_ _ E=>h _ _ E)
 |halt x w'=>cases x <;> simp only[Oper.upon]at I |-
def Oper.C1r{K J:Act->World->Prop}(I:o.wpx P a w K)(h:∀a w,K a w->J a w):o.wpx P a w J:=by rcases I with I|⟨l,f,tmps,E,body,w',hr,I⟩;exact .inl (Oper.G4j I h);refine .inr ⟨l,f,tmps,E,body,w',hr,I.mono ?_⟩;grind
def E2a{ro:Option Nat}{m:Nat}{f:FuncId}{args:Array Value}{R:Ending->World->Prop}(h:Calls P f args w R):CallsIn (FW ro) m P f args w R :=(callsIn_wide (n:=m)).2 h
def G7g{ro:Option Nat}{m:Nat}{row:String}{args:Array Value}{R:Value->World->Prop}(h:Rows P row args w R):RowsIn (FW ro) m P row args w R:=by intro c cs _;obtain⟨v,w',r,s⟩:=h c cs;exact⟨v,w',r,(stepsIn_wide (P:=P)).2 s⟩
def Oper.C9h{ro:Option Nat}{K V:Act->World->Prop}{Z:Exit->Act->World->Prop}(O:A4n o=true)(E:o.wpx P a w K)(h:∀a w,K a w->V a w):o.wpIn (FW ro) 0 P a w V Z:=by
 refine⟨λ_ _=>trivial,?_⟩;rw[Oper.semAt_eq _ _ _ (F8j O)];rcases E with E|⟨l,f,tmps,L,body,w',hr,E⟩
 .unfold Oper.wp at E;generalize(execOp a.eval o).run P w=r at*;cases r with
  |ok n w' =>
   cases n <;> simp only[Oper.upon]at E |- <;> simp only[Oper.uponIn] <;>
    first
     |grind
     |exact⟨λJ=>by simp[FW,Fence.wide]at J,E2a (Calls.mono E (λe U I=>by cases e <;> first|exact h _ _ I|exact I.elim| (obtain⟨_,_,W⟩:=I;exact W.elim)))⟩
     |exact⟨λJ=>by simp[FW,Fence.wide]at J,G7g (Rows.mono E (λ_ _ I=>h _ _ I))⟩
  |halt x w'=>cases x <;> simp only[Oper.upon]at E
 .rw[hr];simp only[Oper.uponIn];refine⟨λJ=>by simp[FW,Fence.wide]at J,RoundIn.mono (F:=FW ro) E ?_⟩;intro e U I;cases e with
  |returned v=>exact h _ _ I
  |_=>exact I.elim
def C2q{W:Exit->Act->World->Prop}(hd:∀o,o∈ops.toList->I1 n o.dst)(E:∀o,o∈ops.toList->A4n o=true){K:SL->Aa->Prop}
  (V:∀sl bx S w β a,K sl bx->St C n S w β a sl bx->W .normal a w):∀(k i:Nat) (sl:SL) (bx:Aa) (S:Nat->Prop) (w:World) (β:Names) (a:Act),i+k=ops.size->Run P n ops (ops.toList.drop i) sl bx K ->
  St C n S w β a sl bx->wpOpsIn (FW ro) 0 P ops W (List.range' i k) a w
 |0,i,sl,bx,S,w,β,a,O,hr,hs=>by have:ops.toList.drop i=[]:=Jf (by grind);rw[this]at hr;exact V sl bx S w β a hr hs
 |k+1,i,sl,bx,S,w,β,a,O,hr,hs=>by
  have hi:i<ops.size:=by omega
  have dp:ops.toList.drop i=ops[i]::ops.toList.drop (i+1):=by rw[Gv (by omega)];simp
  rw[dp]at hr;obtain⟨g,hg,I,h1,h2⟩:=hr;simp only[List.range'_succ,wpOpsIn,Yr hi];have hw:=D2g (a:=a) (S:=S) (w:=w) (β:=β) (λt ht=>by obtain⟨j,Z,_,hj⟩:=ht;exact⟨hs.slot t,by rw[hs.size];exact D3w hd hj⟩) hg
  rw[hw];cases g with
  |true =>simp only[Ac];obtain⟨r,bx',pg,U,J⟩:=h1 rfl;refine Oper.C9h (E _ (by simp)) (U C S w β a hs.inv λx _=>hs.Ao x) ?_;rintro a' w' ⟨v,S',β',rfl,L,he,hv,hb⟩;exact C2q hd E V k (i+1) _ bx' S' w' β' _ (by omega) J (hs.put I L he hv hb)
  |false =>simp only[I5,Fm];refine⟨λ_ _=>trivial,?_⟩;exact C2q hd E V k (i+1) _ bx S w β _ (by omega) (h2 rfl) (hs.put (pg:=[]) I hs.inv (C9.refl S w) (.tuple [] [] rfl (by simp)) (λ_ _=>rfl))
end Go.Abs
namespace Go.Abs
open Go
variable {ro:Option Nat} {P:Program} {n:Nat} {Q:Exit->SL->Aa->Prop} {sl:SL} {bx:Aa}
def Fu(n:Nat)(ops:List Oper):Bool:=ops.all λo=>(match o.dst with|some t=>decide (t<n)|none=>true) && A4n o
def B8f{ops:List Oper}(h:Fu n ops=true):∀o,o∈ops->I1 n o.dst:=by intro o E;have:=Dr.1 h o E;simp only[Bi]at this;grind[I1]
def E6w{ops:List Oper}(h:Fu n ops=true):∀o,o∈ops->A4n o=true:=by intro o E;have:=Dr.1 h o E;grind
def Vy(ks:List Nat)(sl:SL):SL :=match ks with
 |[]=>[]
 |k::r=>(k,Af sl k)::Vy r sl
def T2(ks:List Nat)(bx:Aa):Aa :=match ks with
 |[]=>[]
 |k::r=>match A8 bx k with
  |some c=>(k,c)::T2 r bx
  |none=>T2 r bx
def D5u(sl:SL):∀(ks:List Nat)(t:Nat),Af (Vy ks sl) t=Af sl t\/Af (Vy ks sl) t=.undef
 |[],t=>.inr rfl
 |k::r,t=>by simp only[Vy,Af];split;grind;exact D5u sl r t
def C4j{k:Nat}{c:Aq} :∀{ks:List Nat},(k,c)∈T2 ks bx->(k,c)∈bx
 |[],h=>by simp[T2]at h
 |j::r,h=>by simp only[T2]at h;split at h;rename_i x E;simp only[B5,Ew]at h;rcases h with⟨rfl,rfl⟩|h;exact Hs E;exact C4j h;exact C4j h
def St.X3{C:Ctx}{S:Nat->Prop}{w:World}{β:Names}{a:Act}(h:St C n S w β a sl bx)(ks E:List Nat):St C n S w β a (Vy ks sl) (T2 E bx) :=⟨h.inv.sub λ_ _ I=>C4j I,h.size,h.defers,λt=>by
  rcases D5u sl ks t with e|e <;> rw[e]
  .exact h.slot t
  .exact .undef _⟩
variable {ops:Array Oper}
def A0.region{id:Nat}(ks I:List Nat)(hd:Fu n ops.toList=true)(h:Run P n ops ops.toList sl bx λsl' bx'=>Q .normal (Vy ks sl') (T2 I bx')):A0 ro P n (.region id ops false) Q sl bx:=by intro C S w β a hs;refine wpIn_region ?_;rw[List.range_eq_range'];exact C2q (B8f hd) (E6w hd) (λsl' bx' S' w' β' L J E=>⟨_,_,S',β',J,E.X3 ks I⟩) ops.size 0 sl bx S w β a (by simp) (by grind) hs
def A7y(ops:Array Oper)(o:Oper):List Nat:=o.looksAt ops
def left(size:Nat)(E:Array Bool):Nat:=(List.range size).countP λi=>!(E.getD i false)
def F5f{size i:Nat}{E:Array Bool}(hs:E.size=size)(W:i<size)(h:E.getD i false=false):left size (E.setIfInBounds i true)<left size E:=by
 unfold left;have L:i<E.size:=by omega
 have J:∀j,(!(E.setIfInBounds i true).getD j false)=(!(decide (j=i)) && !(E.getD j false)):=by intro j;by_cases O:i=j;simp_all;rw[getD_set_ne false O];grind
 simp only[J];have:∀l:List Nat,i∈l->(l.countP λj=>!(decide (j=i)) && !(E.getD j false))<l.countP λj=>!(E.getD j false):=by
  intro l
  induction l with
  |nil=>simp
  |cons a l V =>intro I;have U:(l.countP λj=>!(decide (j=i)) && !(E.getD j false))<=l.countP λj=>!(E.getD j false):=List.countP_mono_left (by simp);grind
 grind
variable {o:Oper}
def F4w{s I:SL}(h:∀j E t,o.guard=some (j,E)->Qs ops j=some t->Af s t=Af I t):Vp ops s o=Vp ops I o:=by grind[Vp]
def F0q{j t:Nat}{E:Bool}(I:o.guard=some (j,E))(J:Qs ops j=some t):t∈o.looksAt ops:=by grind[Oper.looksAt,Qs]
def G3b{t:Nat}(h:Operand.tmp t∈o.op.operands):t∈o.looksAt ops:=by unfold Oper.looksAt;simp only[C6,Pb];left;exact⟨.tmp t,by grind,rfl⟩
end Go.Abs
