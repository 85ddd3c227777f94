/- Slices of one's own, calls, code on abstract states, regions. Own framework. -/
import Derived.Deep.LoopGhost
import Derived.Sort.LoopGhostIn
import Derived.OrdersIn
import Derived.Test.YtieakoebgfiniaaGreatDoorZAb1
set_option linter.all false
namespace Go.Abs
open Go
variable {P:Program} {o:Oper} {ρ:Hz} {bx:Ab}
def Tq:List SV->Option (List D)
 |[]=>some []
 |.d x::r=>match Tq r with
  |some l=>match x with
   |.nil=>some (.slice []::l)
   |.emp=>some (.slice []::l)
   |.agg _=>none
   |y=>some (y::l)
  |none=>none
 |_::_=>none
variable {S:Nat->Prop} {w:World} {β:Names}
def B2d :∀(cs:List SV)(ds:List D)(vs:List Value),Tq cs=some ds->Bv S w β cs vs ->
  ds.length=cs.length/\(∀d,d∈ds->d.one=true)/\∀(j:Nat) (d:D) (v:Value),ds[j]?=some d->vs[j]?=some v->Bu S w d v
 |[],ds,vs,h,hr=>by simp only[Tq,B5]at h;subst h;simp
 |c::cs,ds,vs,h,hr=>by
  cases c <;> simp only[Tq,reduceCtorEq]at h;rename_i x;cases O:Tq cs with
  |none=>grind
  |some l =>
   rw[O]at h;cases vs with
   |nil=>have:=hr.1;grind
   |cons v vs =>
    have E:Bu S w x v:=(hr.2 0 (.d x) v rfl rfl).Ij;obtain⟨U,V,W⟩:=B2d cs l vs O ⟨by have:=hr.1;grind,λj c v Z E=>hr.2 (j+1) c v (by grind) (by grind)⟩;have key:∃y,ds=y::l/\y.one=true/\Bu S w y v:=by
     cases x <;> simp only[B5,reduceCtorEq]at h <;> first
      |exact⟨_,h.symm,rfl,E⟩
      |exact⟨_,h.symm,rfl,E.of_nil⟩
      |exact⟨_,h.symm,rfl,E.C3u⟩
    obtain⟨y,rfl,L,J⟩:=key;refine⟨by simp[U],?_,?_⟩
    .intro d hd;simp only[B1]at hd;rcases hd with rfl|hd
     .exact L
     .exact V d hd
    .intro j d u hd I;cases j with
     |zero=>simp at hd I;subst hd;subst I;exact J
     |succ j=>exact W j d u (by simpa using hd) (by simpa using I)
structure Flat(S:Nat->Prop)(w:World)(sz:Nat)(rows:List (List D))(vs:List Value):Prop where
 len:vs.length=rows.length*sz
 row:∀row,row∈rows->row.length=sz
 one:∀row,row∈rows->∀d,d∈row->d.one=true
 rep:∀(i j:Nat) (row:List D) (d:D) (v:Value),rows[i]?=some row->row[j]?=some d->vs[i*sz+j]?=some v->Bu S w d v
variable {vs:List Value}
def Flat.ext{S S':Nat->Prop}{w w':World}{sz:Nat}{rows:List (List D)}(h:Flat S w sz rows vs)(e:C4 S w S' w'):Flat S' w' sz rows vs :=
 ⟨h.len,h.row,h.one,λi j row d v J E I=>(h.rep i j row d v J E I).ext e⟩
theorem Flat.nil{sz:Nat} :Flat S w sz [] []:=⟨by simp,by simp,by simp,by simp⟩
def Flat.cons{sz:Nat}{row:List D}{rows:List (List D)}{us vs:List Value}(E:row.length=sz)(I:us.length=sz)(J:∀d,d∈row->d.one=true)
  (hr:∀(j:Nat) (d:D) (v:Value),row[j]?=some d->us[j]?=some v->Bu S w d v)(h:Flat S w sz rows vs):Flat S w sz (row::rows) (us++vs) where
 len:=by simp[I,h.len,Hw];omega
 row r hr:=by
  simp only[B1]at hr;rcases hr with rfl|hr
  .exact E
  .exact h.row r hr
 one r hr:=by
  simp only[B1]at hr;rcases hr with rfl|hr
  .exact J
  .exact h.one r hr
 rep i j r d v h1 h2 h3:=by
  have L:j<sz:=by
   have e:=(Az.1 h2).1;cases i with
   |zero=>grind
   |succ i=>have:=h.row r (C6 (by simpa using h1));omega
  cases i with
  |zero =>grind
  |succ i =>rw[Hw,At0,Kd (by omega)]at h3;exact h.rep i j r d v (by grind) h2 (by grind)
def Flat.append{sz:Nat}{rows xs:List (List D)}{us vs:List Value}(h:Flat S w sz rows us)(k:Flat S w sz xs vs):Flat S w sz (rows++xs) (us++vs) where
 len:=by simp[h.len,k.len,Hw]
 row r hr:=by
  simp only[Bz]at hr;rcases hr with hr|hr
  .exact h.row r hr
  .exact k.row r hr
 one r hr:=by
  simp only[Bz]at hr;rcases hr with hr|hr
  .exact h.one r hr
  .exact k.one r hr
 rep i j r d v h1 h2 h3:=by
  by_cases E:i<rows.length
  .rw[L4 E]at h1;have I:j<sz:=by have:=(Az.1 h2).1;have:=h.row r (C6 h1);omega
   have:(i+1)*sz<=rows.length*sz:=Hp _ E;rw[Hw,At0]at this;rw[L4 (by rw[h.len];omega)]at h3;exact h.rep i j r d v h1 h2 h3
  .rw[Kd (by omega)]at h1;have:rows.length*sz<=i*sz:=Hp _ (by omega);rw[Kd (by rw[h.len];omega)]at h3;refine k.rep (i - rows.length) j r d v h1 h2 ?_;rw[<-h3,h.len];grind[Nat.sub_mul]
def rowsOf(ρ:Hz)(sz:Nat):Nat->List (Nat × Operand)->Option (List (List D))
 |_,[]=>some []
 |n,(i,x)::r=>match content (ρ x)with
  |some c=>match Tq c with
   |some row=>if i=n/\row.length=sz then(rowsOf ρ sz (n+1) r).map (row::·)else none
   |none=>none
  |none=>none
def D4e{a:Act}(sz:Nat):∀(parts:List (Nat × Operand))(n:Nat)(rows:List (List D))(pre rest:List Value),(∀p,p∈parts->Am S w β (ρ p.2) (a.eval p.2)) ->
  rowsOf ρ sz n parts=some rows->pre.length=n*sz->rest.length=parts.length*sz ->
  ∃vs,Instr.fill (λi=>some (i*sz,sz)) ⟨pre++rest⟩ (parts.map λp=>(p.1,a.eval p.2))=some ⟨pre++vs⟩/\Flat S w sz rows vs/\rows.length=parts.length
 |[],n,rows,pre,rest,_,h,O,hr=>by
  simp only[rowsOf,B5]at h;subst h;have:rest=[]:=by cases rest <;> simp at hr;rfl
  subst this;exact⟨[],rfl,.nil,rfl⟩
 |(i,x)::parts,n,rows,pre,rest,ha,h,O,hr=>by
  simp only[rowsOf]at h;cases U:content (ρ x)with
  |none=>simp[U]at h
  |some c =>
   cases hd:Tq c with
   |none=>simp[U,hd]at h
   |some row =>
    simp only[U,hd]at h;split at h
    .rename_i V;obtain⟨rfl,Z⟩:=V;simp only[Jv]at h;obtain⟨I,J,rfl⟩:=h;obtain⟨g1,g2⟩:=(ha (i,x) (by simp)).content U;obtain⟨q1,q2,q3⟩:=B2d c row _ hd g1;have W:(a.eval x).cells.size=sz:=by have:=g1.1;simp at this;omega
     have E:(a.eval x).cells.toList.length=sz:=by simpa using W
     have a0:sz<=rest.length:=by rw[hr];simp[Hw]
     have L:Gy (pre++rest) (i*sz) (a.eval x).cells.toList=(pre++(a.eval x).cells.toList)++rest.drop sz:=by
      apply Ld;intro j;rw[A0t _ _ _ _ (by simp only[B6];omega)];by_cases h1:i*sz<=j/\j<i*sz+(a.eval x).cells.toList.length
      .rw[A8 h1,L4 (by simp only[B6];omega),Kd (by omega),O]
      .rw[A6 h1];by_cases h2:j<i*sz
       .rw[L4 (by omega),L4 (by simp only[B6];omega),L4 (by omega)]
       .rw[Kd (by omega),Kd (by simp only[B6];omega),Wn]
        congr 1
        simp only[B6];omega
     obtain⟨vs,f1,f2,f3⟩:=D4e sz parts (i+1) I (pre++(a.eval x).cells.toList) (rest.drop sz) (λp O=>ha p (by simp[O])) J (by simp only[B6,E,O,Hw];omega)
      (by simp only[Ap1,hr,Bg,Hw];omega)
     refine⟨(a.eval x).cells.toList++vs,?_,.cons Z E q2 q3 f2,by simp[f3]⟩;simp only[Ck,Instr.fill];rw[A6 (by simp only[ne_eq,Vp,Dp,Vc];simp;simp at hr;omega)];have hf:=C3h (a.eval x).cells.toList (pre++rest) (i*sz) 0;simp only[Ma]at hf;have e:(a.eval x).cells.toList.zipIdx=(a.eval x).cells.zipIdx.toList:=by simp
     rw[e,Array.foldl_toList]at hf;rw[hf,L,f1,Ga]
    .simp at h
def A1x{T e:Nat}(h:Dt P T=some e)(w:World):(underlying T).run P w=.ok (.slice e) w:=by
 unfold Dt at h;cases E:P.underlying T with
 |none=>grind
 |some d =>rw[E]at h;cases d <;> simp only[reduceCtorEq,B5]at h;subst h;simp[underlying,E]
def D8a{a:Act}{T e n sz:Nat}{parts:Array (Nat × Operand)}(V:∀p,p∈parts.toList->Am S w β (ρ p.2) (a.eval p.2)){rows:List (List D)}{O:List SV}
  (hT:Dt P T=some e)(hs:Be P e=some sz)(U:Cb P e=some O)(L:O.length=sz)(Z:n*sz<=16777216)(W:parts.size=n)(hr:rowsOf ρ sz 0 parts.toList=some rows) :
  ∃vs,(Instr.buildSlice T n (parts.map λp=>(p.1,a.eval p.2))).run P w=.ok (.slice (some ⟨w.heap.size,0,none⟩) n n) { w with heap:=w.heap.push (.cells ⟨vs⟩ e) }/\Flat S w sz rows vs/\rows.length=n:=by
 obtain⟨z,E,rfl⟩:=B1o U w;simp only[Bc,Ao8]at L;obtain⟨vs,f1,f2,f3⟩:=D4e sz parts.toList 0 rows [] ((Array.range (n*sz)).map (λj=>(if n*sz=0 then #[]else z.cells)[j % (if n*sz=0 then #[]else z.cells).size]!)).toList V hr (by simp) (by grind);refine⟨vs,?_,f2,by grind⟩;simp only[Vi]at f1;simp only[Instr.buildSlice,Hm,A1x hT,H0,Pb hs];rw[A6 (show ¬n*sz > 2 ^ 24 by omega)];have I:Instr.fill (λi=>some (i*sz,sz)) (Array.map (λx=>(if n*sz=0 then #[]else z.cells)[x % (if n*sz=0 then #[]else z.cells).size]!) (Array.range (n*sz))) (Array.map (λp=>(p.fst,a.eval p.snd)) parts).toList=some ⟨vs⟩:=by rw[Aq7];exact f1
 by_cases J:n*sz=0
 .rw[A8 J];simp only[A8 J]at I;simp only[Hm,K8,H0,I,newRow,run_newObj]
 .rw[A6 J];simp only[A6 J]at I;simp only[Hm,K8,H0,E,I,newRow,run_newObj]
def Flat.slice{sz:Nat}{rows:List (List D)}(h:Flat S w sz rows vs){b:Nat}{ty:TypeId}{W:Nat × Nat}{us:List Value}{off cap:Nat}(V:S b)
  (L:w.heap[b]?=some (.cells ⟨us⟩ ty W))(hv:∀(j:Nat) (v:Value),vs[j]?=some v->us[off+j]?=some v)(Z:rows.length<=lim)(U:rows.length<=cap) :
  Bu S w (.slice rows) (.slice (some ⟨b,off,none⟩) rows.length cap):=by
 refine .slice rows b off cap sz V Z U h.row h.one ?_ ?_
 .intro i j J O;have E:i*sz+j<vs.length:=by
   rw[h.len];have:(i+1)*sz<=rows.length*sz:=Hp _ J;rw[Hw,At0]at this;omega
  exact⟨vs[i*sz+j],by rw[cells_of_row L];simp_all⟩
 .intro i j row d v hr hd I;have J:=(Az.1 hr).1;have O:j<sz:=by have:=(Az.1 hd).1;have:=h.row row (C6 hr);omega
  have E:i*sz+j<vs.length:=by rw[h.len];have:(i+1)*sz<=rows.length*sz:=Hp _ J;rw[Hw,At0]at this;omega
  rw[cells_of_row L,hv _ _ (Bi E)]at I;simp only[B5]at I;exact h.rep i j row d v hr hd (by grind)
def Inv.G1u{C:Ctx}(h:Inv C S w β bx)(x:Obj) :
  Inv C (λb=>S b\/b=w.heap.size) { w with heap:=w.heap.push x } β bx/\C4 S w (λb=>S b\/b=w.heap.size) { w with heap:=w.heap.push x }:=by
 refine h.grow (λb hb=>.inl hb) ?_ ?_ ?_ rfl rfl rfl (by simp)
 .grind
 .intro b hb;rcases hb with hb|hb
  .have:=h.Bw b hb;grind
  grind
 grind
def E1o{T e n sz:Nat}{parts:Array (Nat × Operand)}(O:o.op=.buildSlice T n parts){rows:List (List D)}{L:List SV}
  (hT:Dt P T=some e)(hs:Be P e=some sz)(hz:Cb P e=some L)(J:L.length=sz)(hn:n*sz<=16777216)(U:parts.size=n)(hr:rowsOf ρ sz 0 parts.toList=some rows)(I:n<=lim) :
  Br P o ρ bx (.d (.slice rows)) bx []:=by
 intro C S w β a hi ha;obtain⟨vs,E,W,hl⟩:=D8a (λp U=>ha p.2 (mo O (by grind[Op.operands]))) hT hs hz J hn U hr;obtain⟨Z,V⟩:=hi.G1u (.cells ⟨vs⟩ e);refine I7 ?_;unfold Oper.wp;have:(execOp a.eval o).run P w=.ok (.value (.slice (some ⟨w.heap.size,0,none⟩) n n)) { w with heap:=w.heap.push (.cells ⟨vs⟩ e) }:=by simp only[execOp,O,Hm,E,H0,K8]
 rw[this];refine⟨_,_,β,rfl,Z,V,?_,λ_ _=>rfl⟩;subst hl;exact .d _ _ ((W.ext V).slice (.inr rfl) (C3x w _) (λj v hv=>by grind) I (Bs _))
def C1k{i:BI}{sz:Nat}{rows:List (List D)}{ty:TypeId}{b:Nat}(hb:i.base=some b)(V:i.sz=sz)(O:rows.length=i.len)(J:i.len<=i.cap)
  (L:rows.length<=lim)(hh:w.heap[b]?=some (.cells ⟨vs⟩ ty (0,0)))(I:(i.off+i.cap)*sz<=vs.length)(us:List Value)(E:Flat S w sz rows us)(hu:∀(j:Nat) (v:Value),us[j]?=some v->vs[i.off*sz+j]?=some v) :
  De S w β i (.rows sz rows):=by
 refine⟨V,O,J,L,E.row,E.one,?_⟩;rw[hb];refine⟨ty,vs,hh,I,?_⟩;intro r j row d v hr hd Z;have hj:j<sz:=by have:=(Az.1 hd).1;have:=E.row row (C6 hr);omega
 have W:=(Az.1 hr).1;have U:r*sz+j<us.length:=by rw[E.len];have:(r+1)*sz<=rows.length*sz:=Hp _ W;rw[Hw,At0]at this;omega
 have:=hu _ _ (Bi U);rw[Hw,Si,this]at Z;simp only[B5]at Z;exact E.rep r j row d v hr hd (by grind)
theorem E8y{T e n sz k:Nat}{parts:Array (Nat × Operand)}(J:k<=999999)(W:o.op=.buildSlice T n parts){rows:List (List D)}{zs:List SV}
  (hT:Dt P T=some e)(hs:Be P e=some sz)(hz:Cb P e=some zs)(L:zs.length=sz)(hn:n*sz<=16777216)(hp:parts.size=n)(hr:rowsOf ρ sz 0 parts.toList=some rows)(U:n<=lim) :
  Br P o ρ bx (.acc k) ((k,.rows sz rows)::H8 k (Cd k bx)) [k]:=by
 intro C S w β a O ha;obtain⟨vs,E,hf,V⟩:=D8a (λp hp=>ha p.2 (mo W (by grind[Op.operands]))) hT hs hz L hn hp hr;obtain⟨h1,h2⟩:=O.Tb (k:=k) (w':={ w with heap:=w.heap.push (.cells ⟨vs⟩ e) }) (c:=.rows sz rows) { base:=some w.heap.size,len:=n,cap:=n,sz:=sz } J (by
   intro b Z;simp only[B5]at Z;subst Z;exact⟨λhs=>by have:=O.Bw _ hs;omega,by simp,.inl (Bs _)⟩)
  (λb' I _=>D7h w _ I) rfl rfl rfl (by simp)
  (λe0=>C1k rfl rfl V (Bs _) (by omega) (C3x w _) (by simp[hf.len,V]) vs (hf.ext e0) (λj v hv=>by grind))
 refine I7 ?_;unfold Oper.wp;have:(execOp a.eval o).run P w=.ok (.value (.slice (some ⟨w.heap.size,0,none⟩) n n)) { w with heap:=w.heap.push (.cells ⟨vs⟩ e) }:=by simp only[execOp,W,Hm,E,H0,K8]
 rw[this];refine⟨_,S,_,rfl,h1,h2,?_,λj hj=>Lu (by grind)⟩;have:=Am.acc (S:=S) (w:={ w with heap:=w.heap.push (.cells ⟨vs⟩ e) }) (β:=Ed β k { base:=some w.heap.size,len:=n,cap:=n,sz:=sz }) k
 grind[Gw]
end Go.Abs
namespace Go.Abs
open Go
variable {P:Program} {o:Oper} {ρ:Hz} {bx:Ab}
def I2(i:BI):Value:=.slice (i.base.map λb=>⟨b,i.off*i.sz,none⟩) i.len i.cap
structure Src(P:Program)(S:Nat->Prop)(w:World)(sz:Nat)(xs:List (List D))(v:Value)(vs:List Value):Prop where
 len:(Builtin.lenOf v).run P w=.ok xs.length w
 cells:∀n w',n=xs.length->(∀b,(∃p l c,v=.slice (some ⟨b,p,none⟩) l c)->w'.heap[b]?=w.heap[b]?)->(Builtin.firstCells sz n v).run P w'=.ok ⟨vs⟩ w'
 flat:Flat S w sz xs vs
 one:vs.all (·.oneCell')=true
variable {S:Nat->Prop} {w:World}
theorem Src.nil{sz:Nat}{p:Option Addr}{c:Nat} :Src P S w sz [] (.slice p 0 c) [] where
 len:=rfl
 cells n w' hn _:=by
  subst hn;cases p with
  |none=>rfl
  |some a=>simp[Builtin.firstCells,loadCells,loadCellsFrom]
 flat:=.nil
 one:=rfl
def C8w{b off n:Nat}(h:∀j,j<n->∃v,w.cell? ⟨b,off+j,none⟩=some v):∃vs:List Value,vs.length=n/\∀(j:Nat)(v:Value),vs[j]?=some v->w.cell? ⟨b,off+j,none⟩=some v:=by
 refine⟨(List.range n).map λj=>(w.cell? ⟨b,off+j,none⟩).getD undef,by simp,?_⟩
 grind
theorem C6z{sz n b off len cap:Nat}{vs:List Value}(E:vs.length=n*sz)(h:∀(j:Nat)(v:Value),vs[j]?=some v->w.cell? ⟨b,off+j,none⟩=some v) :
  (Builtin.firstCells sz n (.slice (some ⟨b,off,none⟩) len cap)).run P w=.ok ⟨vs⟩ w:=by
 grind[run_loadCells_list,Wt,Builtin.firstCells]
theorem cell_of_heap{w w':World}{b:Nat}(h:w'.heap[b]?=w.heap[b]?)(p:Nat):w'.cell? ⟨b,p,none⟩=w.cell? ⟨b,p,none⟩:=World.cell?_of_block (w:=w) h
def Src.slice{sz:Nat}{xs:List (List D)}{v:Value}(h:Bu S w (.slice xs) v)(a0:∀row,row∈xs->row.length=sz):∃vs,Src P S w sz xs v vs:=by
 cases h with
 |Mk a c _=>exact⟨[],.nil⟩
 |slice _ b off cap E hS h1 h2 h3 J h4 h5 =>
  by_cases hx:xs=[]
  .subst hx;exact⟨[],.nil⟩
  .have O:E=sz:=by
    cases xs with
    |nil=>grind
    |cons r xs=>simp_all
   subst O;have hex:∀j,j<xs.length*E->∃v,w.cell? ⟨b,off+j,none⟩=some v:=by
    intro j hj;have Sg:0<E:=by
                 rcases At5 E with h|h;· grind
                 .exact h
    obtain⟨v,U⟩:=h4 (j / E) (j % E) (As8 (by grind)) (Ar6 _ Sg);have:j / E*E+j % E=j:=by rw[Ap7];exact Nat.div_add_mod j E
    exact⟨v,by grind⟩
   obtain⟨vs,hl,V⟩:=C8w hex;have I:Flat S w E xs vs:=⟨hl,h3,J,λi j row d v hr hd U=>h5 i j row d v hr hd (V _ _ U)⟩;refine⟨vs,?_,?_,I,?_⟩
   .rfl
   .grind[C6z,cell_of_heap]
   .rw[Dm];intro v U;obtain⟨j,hj⟩:=Sy.1 U;have Z:=(Az.1 hj).1;rw[hl]at Z;have Sg:0<E:=by
                 rcases At5 E with h|h;· grind
                 .exact h
    have W:j / E<xs.length:=As8 (by grind);have L:=h3 _ (Fq W);have hm:j % E<xs[j / E].length:=by rw[L];exact Ar6 _ Sg
    have e:j / E*E+j % E=j:=by rw[Ap7];exact Nat.div_add_mod j E
    exact(I.rep (j / E) (j % E) _ _ v (Bi W) (Bi hm) (by grind)).one (J _ (Fq W) _ (Fq hm))
def Src.acc{β:Names}{i:BI}{sz:Nat}{xs:List (List D)}(h:De S w β i (.rows sz xs)):∃vs,Src P S w sz xs (I2 i) vs:=by
 obtain⟨g1,g2,g3,g4,g5,g6,U⟩:=h;subst g1;cases Z:i.base with
 |none =>
  rw[Z]at U;simp only at U;have:xs=[]:=by cases xs with
   |nil=>rfl
   |cons r xs=>grind
  subst this;refine⟨[],?_⟩
  grind[I2,nil]
 |some b =>
  rw[Z]at U;obtain⟨ty,vs,hh,a1,O⟩:=U;have V:i.off*i.sz+xs.length*i.sz<=vs.length:=by have:(i.off+xs.length)*i.sz<=(i.off+i.cap)*i.sz:=Hp _ (by omega);rw[Hw]at this;omega
  have hl:((vs.drop (i.off*i.sz)).take (xs.length*i.sz)).length=xs.length*i.sz:=by simp;omega
  have L:∀(j:Nat) (v:Value),((vs.drop (i.off*i.sz)).take (xs.length*i.sz))[j]?=some v->vs[i.off*i.sz+j]?=some v:=by
   intro j v I;simp only[Ak4,Wn]at I;split at I
   .exact I
   .grind
  have E:Flat S w i.sz xs ((vs.drop (i.off*i.sz)).take (xs.length*i.sz)):=by refine⟨hl,g5,g6,?_⟩;intro r j row d v hr hd I;have:=L _ _ I;exact O r j row d v hr hd (by grind)
  refine⟨_,?_,?_,E,?_⟩
  .simp[I2,Z,Builtin.lenOf,g2]
  .grind[I2,C6z,cells_of_row]
  .rw[Dm];intro v I;obtain⟨j,hj⟩:=Sy.1 I;have a0:=(Az.1 hj).1;rw[hl]at a0;have Sg:0<i.sz:=by
                 rcases At5 i.sz with h|h;· grind
                 .exact h
   have W:j / i.sz<xs.length:=As8 (by grind);have J:=g5 _ (Fq W);have hm:j % i.sz<xs[j / i.sz].length:=by rw[J];exact Ar6 _ Sg
   have e:j / i.sz*i.sz+j % i.sz=j:=by rw[Ap7];exact Nat.div_add_mod j i.sz
   exact(E.rep (j / i.sz) (j % i.sz) _ _ v (Bi W) (Bi hm) (by grind)).one (g6 _ (Fq W) _ (Fq hm))
structure A9w(P:Program)(T e sz bytes:Nat):Prop where
 hT:Dt P T=some e
 Ms:Be P e=some sz
 hzero:(Cb P e).map List.length=some sz
 B0w:(P.info? e).map (·.bytes)=some bytes
 Sg:bytes≠0
def Jg(P:Program)(T:TypeId):Bool :=
 match P.underlying T with
 |some (.slice _)=>true
 |some .string=>true
 |_=>false
def F5p{T:TypeId}(h:Jg P T=true)(w:World):(∃e,(underlying T).run P w=.ok (.slice e) w)\/(underlying T).run P w=.ok .string w:=by
 unfold Jg at h;cases E:P.underlying T with
 |none=>grind
 |some d =>
  cases d <;> simp[E]at h
  .exact .inr (by simp[underlying,E])
  .rename_i e;exact .inl ⟨e,by simp[underlying,E]⟩
def E2b(zero:Array Value)(n:Nat):(Builtin.zeroCells zero n).size=n*zero.size:=by simp[Builtin.zeroCells]
def D8h{β:Names}{i:BI}{T e sz bytes U:Nat}{rs xs:List (List D)}{v:Value}{vs:List Value}(hE:A9w P T e sz bytes)(hU:Jg P U=true)(a4:De S w β i (.rows sz rs))
  (b0:∀b,i.base=some b->¬S b/\b<w.heap.size)(I:Src P S w sz xs v vs)(Z:(rs.length+xs.length)*bytes<=lim)(ty:TypeId) :
  ∃(i':BI) (w':World),(Builtin.append_ #[T,U] ty #[I2 i,v]).run P w=.ok (I2 i') w'/\w'.os=w.os/\w'.tape=w.tape/\w'.output=w.output/\w.heap.size<=w'.heap.size /\
   (∀b,b<w.heap.size->i.base≠some b->w'.heap[b]?=w.heap[b]?)/\(∀b,i'.base=some b->i.base=some b\/(w.heap.size<=b/\b<w'.heap.size)) /\
   (C4 S w S w'->∀β',De S w' β' i' (.rows sz (rs++xs))):=by
 have a7:=a4;obtain⟨g1,g2,g3,g4,g5,g6,g7⟩:=a4;have hdu:=F5p hU w;have ai:1<=bytes:=by have:=hE.Sg;omega
 have av:rs.length+xs.length<=lim:=Cp (Nat.le_mul_of_pos_right _ ai) Z;obtain⟨os,L⟩:=Src.acc (P:=P) a7;obtain⟨zs,hz,af⟩:∃zs,Cb P e=some zs/\zs.length=sz:=by have:=hE.hzero;simp_all
 by_cases hc:i.len+xs.length<=i.cap
 ·
  cases hb:i.base with
  |none =>
   rw[hb]at g7;simp only at g7;have hx:xs=[]:=by cases xs with
    |nil=>rfl
    |cons r xs=>grind
   have hr:rs=[]:=by cases rs with
    |nil=>rfl
    |cons r xs=>grind
   subst hx;subst hr;simp only[Ca,Ma]at hc g2;refine⟨i,w,?_,rfl,rfl,rfl,Bs _,λ_ _ _=>rfl,λb h=>.inl (by grind),λ_ _=>?_⟩
   .have J:=I.cells 0 w rfl (λ_ _=>rfl);have aa:=I.len;simp only[Ca]at aa;rcases hdu with⟨eu,hdu⟩|hdu <;> simp[I2,hb,Builtin.append_,A1x hE.hT,Pb hE.Ms,hdu,aa,<-g2,J]
   .refine⟨g1,by grind,g3,by simp,by simp,by simp,?_⟩
    grind
  |some b =>
   rw[hb]at g7;obtain⟨ao,bs,hh,ad,ay⟩:=g7;subst g1;have hl:=I.flat.len;have a0:(i.off*i.sz+i.len*i.sz)+0+vs.length<=bs.length:=by have:(i.off+(i.len+xs.length))*i.sz<=(i.off+i.cap)*i.sz:=Hp _ (by omega);simp only[Hw]at this ad;omega
   obtain⟨w',a9,q1,q2,q3,q4,q5,q6⟩:=B2j (P:=P) vs bs b (i.off*i.sz+i.len*i.sz) 0 ao w hh a0 I.one;refine⟨{ i with len:=i.len+xs.length },w',?_,q3,q4,q5,by omega,?_,λb' b1=>.inl (by grind),?_⟩
   .have J:=I.cells xs.length w rfl (λ_ _=>rfl);simp only[Builtin.append_,I2,hb,Ez];rcases hdu with⟨eu,hdu⟩|hdu <;> simp[A1x hE.hT,Pb hE.Ms,hdu,I.len,hc,J,Wt,a9]
   .grind
   .intro e0 β';refine C1k (b:=b) (us:=Gy os (rs.length*i.sz) []++vs) (by omega) rfl (by grind) hc (by grind) q1 (by rw[A5b];omega) (by simp only[Gy];exact(L.flat.ext e0).append (I.flat.ext e0)) ?_;intro j u hu;simp only[Gy]at hu;show(Gy bs _ vs)[i.off*i.sz+j]?=_;rw[A0t _ _ _ _ a0];by_cases hj:j<os.length
    .rw[L4 hj]at hu;have ak:=L.flat.len;rw[A6 (by grind)];have:=L.cells rs.length w rfl (λ_ _=>rfl);have aj:∀(j:Nat) (u:Value),os[j]?=some u->bs[i.off*i.sz+j]?=some u:=by
      intro j u hu;have az:=(Az.1 hu).1;have O:(Builtin.firstCells i.sz rs.length (I2 i)).run P w=.ok ⟨(bs.drop (i.off*i.sz)).take (rs.length*i.sz)⟩ w:=by
       simp only[I2,hb,Ez];refine C6z ?_ ?_
       .grind
       .grind[cells_of_row]
      rw[this]at O;simp only[Result.ok.injEq,Array.mk.injEq,Sn]at O;rw[O]at hu;simp only[Ak4,Wn]at hu;split at hu
      .exact hu
      .omega
     grind
    .rw[Kd (by omega)]at hu;have ak:=L.flat.len
     grind
 ·
  have ar:i.cap<i.len+xs.length:=by omega
  have a5:i.len=rs.length:=g2.symm;have aw:=growslice_fits ar (bytes:=bytes) (by rw[a5];exact Z);obtain⟨V,ab,a2⟩:∃V,P.info? e=some V/\V.bytes=bytes:=by
   have:=hE.B0w;cases hz:P.info? e with
   |none=>grind
   |some V=>grind
  obtain⟨z,a6,au⟩:=B1o hz w.drew
  let E:=(Question.appendCap (i.len+xs.length) i.cap e).cut (w.tape w.drawn (.appendCap (i.len+xs.length) i.cap e))
  have ap:i.len+xs.length<=E:=by show _<=(i.len+xs.length)+_ % _;omega
  let rest:=(Builtin.zeroCells z.cells (E - (i.len+xs.length))).toList
  let W:World:={ w.drew with heap:=w.drew.heap.push (.cells ⟨os++vs++rest⟩ e) }
  have Ms:z.cells.size=sz:=by rw[au]at af;simpa using af
  refine⟨{ base:=some w.heap.size,off:=0,len:=i.len+xs.length,cap:=E,sz:=sz },W,?_,rfl,rfl,rfl,?_,?_,?_,?_⟩
  .have h1:=L.cells i.len w.drew a5 (λ_ _=>rfl);have h2:=I.cells xs.length w.drew rfl (λ_ _=>rfl);have a3:¬(2 ^ 48<Builtin.nextslicecap (i.len+xs.length) i.cap*V.bytes):=by rw[a2];omega
   have am:V.bytes≠0:=by rw[a2];exact hE.Sg
   have a1:(choose (.appendCap (i.len+xs.length) i.cap e)).run P w=.ok E w.drew:=by simp[run_choose,Question.forced,E]
   obtain⟨a',ac⟩:∃a',I2 i=.slice a' i.len i.cap:=⟨_,rfl⟩;have ag:I2 ({ base:=some w.heap.size,off:=0,len:=i.len+xs.length,cap:=E,sz:=sz }:BI)=.slice (some ⟨w.heap.size,0,none⟩) (i.len+xs.length) E:=by simp[I2]
   rw[ag];rw[ac]at h1 |-;simp only[Builtin.append_];have a8:(⟨os⟩:Array Value)++((⟨vs⟩:Array Value)++Builtin.zeroCells z.cells (E - (i.len+xs.length)))=⟨os++vs++rest⟩:=by apply Kt;simp[rest]
   have ae:(Question.appendCap (i.len+xs.length) i.cap e).forced=false:=rfl;rcases hdu with⟨eu,hdu⟩|hdu
   all_goals
    simp[-run_choose,A1x hE.hT,Pb hE.Ms,hdu,I.len,hc,typeInfo,ab,am,a3,a1,h1,h2,a6,newRow,a8];rw[<-Ga];rfl
  .show w.heap.size<=(w.heap.push _).size;simp
  .intro b hb _;exact D7h w _ hb
  .intro b hb;simp only[B5]at hb;subst hb;exact .inr ⟨Bs _,by show w.heap.size<(w.heap.push _).size;simp⟩
  .intro e0 β';have ax:=L.flat.len;have aq:=I.flat.len;have ah:rest.length=(E - (i.len+xs.length))*sz:=by
    show(Builtin.zeroCells _ _).toList.length=_;rw[Ao8,E2b,Ms]
   refine C1k (b:=w.heap.size) (vs:=os++vs++rest) (ty:=e) (us:=os++vs) rfl rfl (by grind) ap (by grind) (by show(w.heap.push _)[w.heap.size]?=_;simp) ?_ ((L.flat.ext e0).append (I.flat.ext e0)) ?_
   .simp only[B6,ax,aq,ah,Ky];rw[<-Hw,<-Hw]
    grind
   grind
end Go.Abs
namespace Go.Abs
open Go
variable {P:Program} {o:Oper} {ρ:Hz} {bx:Ab}
inductive V7(bx:Ab)(sz:Nat):SV->List (List D)->Prop where
 |nil:V7 bx sz (.d .nil) []
 |emp:V7 bx sz (.d .emp) []
 |slice (xs:List (List D)):(∀row,row∈xs->row.length=sz)->V7 bx sz (.d (.slice xs)) xs
 |acc (k:Nat) (xs:List (List D)):(k,Aq.rows sz xs)∈bx->V7 bx sz (.acc k) xs
variable {S:Nat->Prop} {w:World} {β:Names}
def V7.src{C:Ctx}{sz:Nat}{x:SV}{xs:List (List D)}{v:Value}(h:V7 bx sz x xs)(I:Inv C S w β bx)(E:Am S w β x v):∃vs,Src P S w sz xs v vs:=by
 cases h with
 |nil=>cases E with|d _ _ h=>cases h;exact⟨[],.nil⟩
 |emp=>cases E with|d _ _ h=>cases h;exact⟨[],.nil⟩
 |slice _ hs=>cases E with|d _ _ h=>exact Src.slice h hs
 |acc k _ J=>cases E with|acc _=>exact Src.acc (I.box k _ J)
def E8j{T U:TypeId}{x y:Operand}(I:o.op=.call { callee:=.builtin .append,args:=#[x,y],argTypes:=#[T,U] }){a:Act}{w w':World}{s v r:Value}(hs:a.eval x=s)(E:a.eval y=v)
  (h:(Builtin.append_ #[T,U] o.type #[s,v]).run P w=.ok r w'):(execOp a.eval o).run P w=.ok (.value r) w':=by
 simp[execOp,I,resolve,invoke,builtin,hs,E,h]
theorem G4h{T U e sz bytes k:Nat}{x y:Operand}(a0:k<=999999)(ho:o.op=.call { callee:=.builtin .append,args:=#[x,y],argTypes:=#[T,U] }){rs xs:List (List D)}(hE:A9w P T e sz bytes)(hU:Jg P U=true)
  (hx:ρ x=.acc k)(V:(k,Aq.rows sz rs)∈bx)(hy:V7 bx sz (ρ y) xs)(I:(rs.length+xs.length)*bytes<=lim) :
  Br P o ρ bx (.acc k) ((k,.rows sz (rs++xs))::H8 k (Cd k bx)) [k]:=by
 intro C S w β a J ha;obtain⟨vs,W⟩:=hy.src (P:=P) J ((ha y (mC ho)));have L:=(ha x (mC ho));rw[hx]at L;have hv:a.eval x=I2 (β k):=by generalize a.eval x=v at L;cases L;rfl
 obtain⟨i',w',Z,q1,q2,q3,q4,q5,q6,q7⟩:=D8h hE hU (J.box k _ V) (λb E=>⟨(J.Ba k _ V b E).1,(J.Ba k _ V b E).2.1⟩) W I o.type;have O:∀b,i'.base=some b->¬S b/\b<w'.heap.size/\(w.heap.size<=b\/∃x,(k,x)∈bx/\(β k).base=some b):=by
  intro b E;rcases q6 b E with h|⟨h1,h2⟩
  .obtain⟨g1,g2,_⟩:=J.Ba k _ V b h
   grind
  .exact⟨λhs=>by have:=J.Bw b hs;omega,h2,.inl h1⟩
 obtain⟨h1,h2⟩:=J.Tb (k:=k) (c:=.rows sz (rs++xs)) i' a0 O (λb' E hn=>q5 b' E (hn _ V)) q1 q2 q3 q4 (λe0=>q7 e0 _);refine I7 ?_;unfold Oper.wp;rw[E8j ho hv rfl Z];refine⟨_,S,_,rfl,h1,h2,?_,λj hj=>Lu (by grind)⟩;have:=Am.acc (S:=S) (w:=w') (β:=Ed β k i') k;rw[Gw]at this;exact this
def B9a{sz:Nat} :De S w β { base:=none,sz:=sz } (.rows sz []) :=
 ⟨rfl,rfl,Bs _,by simp,by simp,by simp,rfl⟩
theorem G4u{T U e sz bytes k:Nat}{x y:Operand}(a0:k<=999999)(ho:o.op=.call { callee:=.builtin .append,args:=#[x,y],argTypes:=#[T,U] }){xs:List (List D)}(hE:A9w P T e sz bytes)(hU:Jg P U=true)
  (hx:ρ x=.d .nil)(hy:V7 bx sz (ρ y) xs)(V:xs.length*bytes<=lim) :
  Br P o ρ bx (.acc k) ((k,.rows sz xs)::H8 k (Cd k bx)) [k]:=by
 intro C S w β a W ha;obtain⟨vs,L⟩:=hy.src (P:=P) W ((ha y (mC ho)));have I:=(ha x (mC ho));rw[hx]at I;have hv:a.eval x=I2 { base:=none,sz:=sz }:=by generalize a.eval x=v at I;cases I with|d _ _ h=>cases h;rfl
 obtain⟨i',w',O,q1,q2,q3,q4,q5,q6,q7⟩:=D8h (rs:=[]) hE hU (B9a (S:=S) (w:=w) (β:=β)) (by simp) L (by grind) o.type;have J:∀b,i'.base=some b->¬S b/\b<w'.heap.size/\(w.heap.size<=b\/∃x,(k,x)∈bx/\(β k).base=some b):=by
  intro b E;rcases q6 b E with h|⟨h1,Z⟩
  .grind
  .exact⟨λhs=>by have:=W.Bw b hs;omega,Z,.inl h1⟩
 obtain⟨h1,Z⟩:=W.Tb (k:=k) (c:=.rows sz xs) i' a0 J (λb' E _=>q5 b' E (by simp)) q1 q2 q3 q4 (λe0=>by grind);refine I7 ?_;unfold Oper.wp;rw[E8j ho hv rfl O];refine⟨_,S,_,rfl,h1,Z,?_,λj hj=>Lu (by grind)⟩;have:=Am.acc (S:=S) (w:=w') (β:=Ed β k i') k;rw[Gw]at this;exact this
def De.B5t{i:BI}{sz:Nat}{rs:List (List D)}(h:De S w β i (.rows sz rs))(hS:∀b,i.base=some b->S b):Bu S w (.slice rs) (I2 i):=by
 obtain⟨vs,hs⟩:=Src.acc (P:=default) h;obtain⟨W,V,L,g4,g5,g6,E⟩:=h;subst W;unfold I2;rw[<-V]at L |-;cases I:i.base with
 |none =>
  rw[I]at E;simp only at E;have:rs=[]:=by cases rs with
   |nil=>rfl
   |cons r xs=>grind
  subst this;rw[E];exact .Mk none 0 (λ_=>rfl)
 |some b =>
  rw[I]at E;obtain⟨ty,us,Z,J,O⟩:=E;simp only[Ez];refine .slice rs b _ _ i.sz (hS b I) g4 L g5 g6 ?_ ?_
  .intro r j hr hj;have h1:(i.off+r+1)*i.sz<=(i.off+i.cap)*i.sz:=Hp _ (by omega);have h2:(i.off+r+1)*i.sz=i.off*i.sz+(r*i.sz+i.sz):=by rw[Hw,Hw,At0,Si]
   have U:i.off*i.sz+(r*i.sz+j)<us.length:=by omega
   exact⟨us[i.off*i.sz+(r*i.sz+j)],by rw[cells_of_row Z];simp⟩
  grind[cells_of_row]
def Inv.Lw{C:Ctx}{k sz:Nat}{rs:List (List D)}(h:Inv C S w β bx)(J:(k,Aq.rows sz rs)∈bx) :
  Inv C (λb=>S b\/(β k).base=some b) w β (Cd k bx)/\C4 S w (λb=>S b\/(β k).base=some b) w/\Bu (λb=>S b\/(β k).base=some b) w (.slice rs) (I2 (β k)):=by
 have e:C4 S w (λb=>S b\/(β k).base=some b) w:=⟨λ_ h=>.inl h,λ_ _=>rfl⟩;refine⟨?_,e,(De.ext (h.box k _ J) e (λ_ _=>rfl) (λ_ _=>rfl)).B5t λb hb=>.inr hb⟩;exact{
  Fe:=λb hb=>.inl (h.Fe b hb)
  Ej:=λb hb=>by
   rcases hb with hb|hb
   .exact h.Ej b hb
   .exact .inr (h.Ba k _ J b hb).2.2
  Bw:=λb hb=>by
   rcases hb with hb|hb
   .exact h.Bw b hb
   .exact(h.Ba k _ J b hb).2.1
  kept:=h.kept
  os:=h.os
  tape:=h.tape
  output:=h.output
  size:=h.size
  box:=λj c E=>by obtain⟨O,E⟩:=Ee.1 E;exact(h.box j c E).ext e (λ_ _=>rfl) (λ_ _=>rfl)
  Ba:=λj c E b hb=>by
   obtain⟨O,E⟩:=Ee.1 E;obtain⟨h1,W,h3⟩:=h.Ba j c E b hb;refine⟨λhs=>?_,W,h3⟩;rcases hs with hs|hs
   .grind
   .exact O (h.inj j c k _ E J b hb hs).1
  inj:=λj c j' L E Z b hb a0=>h.inj j c j' L (Ee.1 E).2 (Ee.1 Z).2 b hb a0
  one:=λk Y st V Y' st' J I=>h.one k Y st V Y' st' (Ee.1 J).2 (Ee.1 I).2
  Fo:=λj Y st E=>by
   obtain⟨h1,W,h3,h4,B,h5,U⟩:=h.Fo j Y st (Ee.1 E).2;have a1:=h.size;have hB:∀b,B b->¬(S b\/(β k).base=some b):=λb hb hs=>hs.elim (U b hb).1 ((U b hb).2.2.2 k _ J);refine⟨h1,W,h3,λV L I=>h4 V L (Ee.1 I).2,B,W.W3 st B S w _ w h5 ⟨λ_ h=>.inl h,λb hb=>hb.imp id λhb=>by grind,λb hb=>?_,hB,λ_ _=>rfl,rfl,rfl,rfl,Bs _⟩,λb hb=>⟨hB b hb,(U b hb).2.1,(U b hb).2.2.1,λV L I=>(U b hb).2.2.2 V L (Ee.1 I).2⟩⟩;rcases hb with hb|hb
   .exact h.Bw b hb
   .exact(h.Ba k _ J b hb).2.1
  E2:=λb cs hv=>⟨.inl (h.E2 b cs hv).1,(h.E2 b cs hv).2⟩
  fix:=h.fix }
end Go.Abs
namespace Go.Abs
open Go
variable {P:Program} {o:Oper} {ρ:Hz} {bx:Ab}
def Enters(P:Program)(f:FuncId):Prop:=∃fn,P.funcs[f]?=some fn/\(fn.name == "runtime.NumGoroutine")=false/\fn.body.isNone=false
def C8(P:Program)(f:FuncId)(args:List SV)(pre:Ab)(r:SV)(E:Ab):Prop :=
 Enters P f/\∀(C:Ctx) (β:Names) (vs:List Value),Inv C C.S0 C.w0 β pre->Bv C.S0 C.w0 β args vs ->
  Calls P f ⟨vs⟩ C.w0 (λe w'=>∃v S' β',e=.returned v/\Inv C S' w' β' E/\Am S' w' β' r v)
def Aa(P:Program)(f:FuncId)(args:List SV)(r:SV):Prop:=C8 P f args [] r []
def Yh{f:FuncId}(U:Enters P f){fo:Operand}{args:Array Operand}{Da:Array TypeId}(I:o.op=.call { callee:=.value fo,args:=args,argTypes:=Da }){a:Act}{caps:Array Value}(E:a.eval fo=.func (.func f) #[] caps)(w:World) :
  (execOp a.eval o).run P w=.ok (.enter f (args.map a.eval++caps)) w:=by
 obtain⟨fn,J,L,O⟩:=U;simp only[execOp,I,resolve,Deferred.ofValue,E,invoke,callFunc,Hm,K8,H0,run_program,J,L,O,I0,Fx,Array.empty_append]
def D.flat:D->Bool
 |.int _ _| .bool _| .str _| .nil| .Kx| .Lg| .Hc| .Fh=>true
 |_=>false
def SV.scalar:SV->Bool
 |.d x=>x.flat
 |.undef=>true
 |.tuple xs=>xs.all λx=>match x with| .d y=>y.flat| .undef=>true|_=>false
 |_=>false
def Bu.scalar{S S':Nat->Prop}{w w':World}{x:D}{v:Value}(h:Bu S w x v)(hs:x.flat=true):Bu S' w' x v:=by cases h <;> simp[D.flat]at hs <;> constructor;omega
def Am.scalar{S S':Nat->Prop}{w w':World}{β β':Names}{x:SV}{v:Value}(h:Am S w β x v)(hs:x.scalar=true):Am S' w' β' x v:=by
 cases h with
 |undef=>exact .undef _
 |d x v h=>exact .d _ _ (h.scalar (by simpa [SV.scalar]using hs))
 |tuple cells vs I J =>
  refine .tuple cells vs I ?_;intro j c v E O;have L:=J j c v E O;simp only[SV.scalar]at hs;have:=Dm.1 hs c (C6 E);cases L with
  |d x v h=>exact .d _ _ (h.scalar (by omega))
  |undef=>exact .undef _
  |_=>grind
 |_=>simp[SV.scalar]at hs
def A7(bx:Ab)(k:Nat):Option Aq :=
 match bx with
 |[]=>none
 |(j,c)::r=>if j=k then some c else A7 r k
theorem Gu{k:Nat}{c:Aq} :∀{bx:Ab},A7 bx k=some c->(k,c)∈bx
 |[],h=>by simp[A7]at h
 |(j,x)::r,h=>by
  simp only[A7]at h;split at h
  .grind
  .simp[Gu h]
mutual
def coerce(bx:Ab):SV->Option SV
 |.d .nil=>some (.d (.slice []))
 |.d .emp=>some (.d (.slice []))
 |.d x=>some (.d x)
 |.undef=>some .undef
 |.Eo l=>some (.Eo l)
 |.A9 c off=>some (.A9 c off)
 |.agg cs=>match G7 bx cs with
  |some l=>if l.all SV.one then some (.agg l)else none
  |none=>none
 |.tuple cs=>match G7 bx cs with
  |some l=>some (.tuple l)
  |none=>none
 |.Bf f cs=>match G7 bx cs with
  |some l=>some (.Bf f l)
  |none=>none
 |.acc k=>match A7 bx k with
  |some (.rows _ rs)=>some (.d (.slice rs))
  |_=>none
 |.mp k=>match A7 bx k with
  |some (.map kvs)=>some (.d (.map kvs))
  |_=>none
 |.box _ _=>none
 |.Eg _ _ _=>none
 |.F5 cs off=>if SV.M8 cs then some (.F5 cs off)else none
def G7(bx:Ab):List SV->Option (List SV)
 |[]=>some []
 |c::cs=>match coerce bx c with
  |some x=>match G7 bx cs with
   |some l=>some (x::l)
   |none=>none
  |none=>none
end
variable {C:Ctx} {S:Nat->Prop} {w:World}
def Inv.bd{β:Names}(h:Inv C S w β bx):C4 S w (λb=>b<w.heap.size) w:=⟨λb E=>h.Bw b E,λ_ _=>rfl⟩
abbrev all(w:World):Nat->Prop:=λb=>b<w.heap.size
mutual
theorem A6b{C:Ctx}{S S1:Nat->Prop}{w:World}{β:Names}(Z:Inv C S w β bx)(J:C4 S w S1 w)(hS:∀k c,(k,c)∈bx->∀b,(β k).base=some b->S1 b):∀{x y:SV} {v:Value},coerce bx x=some y->Am S w β x v->Am S1 w β y v/\y.closed=true
 |.undef,y,v,h,E=>by simp only[coerce,B5]at h;subst h;exact⟨.undef v,rfl⟩
 |.A9 c off,y,v,h,E=>by simp only[coerce,B5]at h;subst h;exact⟨E.ext J (λ_ _=>rfl),rfl⟩
 |.d x,y,v,h,E=>by
  have O:Am S1 w β (.d x) v:=E.ext J (λ_ _=>rfl);cases x <;> simp only[coerce,B5]at h <;> subst h <;> first
   |exact⟨O,rfl⟩
   |exact⟨.d _ _ O.Ij.of_nil,rfl⟩
   |exact⟨.d _ _ O.Ij.C3u,rfl⟩
 |.agg cs,y,v,h,E=>by
  simp only[coerce]at h;cases I:G7 bx cs with
  |none=>simp[I]at h
  |some l =>
   simp only[I]at h;split at h
   .rename_i a2;simp only[B5]at h;subst h;cases E with
    |agg _ vs h1 h2 h3 =>obtain⟨U,g2⟩:=Uf Z J hS I ⟨h1,h3⟩;exact⟨Am.A7x U a2,by simp only[SV.closed];exact g2⟩
   .simp at h
 |.tuple cs,y,v,h,E=>by
  simp only[coerce]at h;cases I:G7 bx cs with
  |none=>simp[I]at h
  |some l =>
   simp only[I,B5]at h;subst h;cases E with
   |tuple _ vs h1 h3 =>obtain⟨U,g2⟩:=Uf Z J hS I ⟨h1,h3⟩;exact⟨.tuple _ _ U.1 U.2,by simp only[SV.closed];exact g2⟩
 |.Bf f cs,y,v,h,E=>by
  simp only[coerce]at h;cases I:G7 bx cs with
  |none=>simp[I]at h
  |some l =>
   simp only[I,B5]at h;subst h;cases E with
   |Bf _ _ vs h1 h3 =>obtain⟨U,g2⟩:=Uf Z J hS I ⟨h1,h3⟩;exact⟨.Bf _ _ _ U.1 U.2,by simp only[SV.closed];exact g2⟩
 |.acc k,y,v,h,E=>by
  simp only[coerce]at h;cases W:A7 bx k with
  |none=>simp[W]at h
  |some c =>
   cases c <;> simp[W]at h;subst h;cases E with
   |acc _ =>refine⟨.d _ _ ?_,rfl⟩;exact(De.ext (Z.box k _ (Gu W)) J (λ_ _=>rfl) (λ_ _=>rfl)).B5t λb a4=>hS k _ (Gu W) b a4
 |.mp k,y,v,h,E=>by
  simp only[coerce]at h;cases W:A7 bx k with
  |none=>simp[W]at h
  |some c =>
   cases c <;> simp[W]at h;subst h;cases E with
   |mp _ b L =>
    obtain⟨b',es,a0,h1,h2,h3,h4⟩:=Z.box k _ (Gu W);rw[L]at h1;cases h1;refine⟨.d _ _ (.map _ b es a0 (hS k _ (Gu W) b L) h2 h3 ?_ ?_),rfl⟩
    .intro i kv e hk a1;exact(h4 i kv e hk a1).1.ext J
    .intro i kv e hk a1;exact(h4 i kv e hk a1).2.ext J
 |.box _ _,y,v,h,E=>by simp[coerce]at h
 |.Eg _ _ _,y,v,h,E=>by simp[coerce]at h
 |.Eo l,y,v,h,E=>by simp only[coerce,B5]at h;subst h;cases E;exact⟨.Eo l,rfl⟩
 |.F5 cs off,y,v,h,E=>by
  simp only[coerce]at h;split at h
  .rename_i a3;simp only[B5]at h;subst h;have V:(SV.F5 cs off).closed=true:=by simpa [SV.closed]using a3
   exact⟨E.ext J λk hk=>absurd hk (by rw[SV.C1u k V];simp),V⟩
  .simp at h
theorem Uf{C:Ctx}{S S1:Nat->Prop}{w:World}{β:Names}(Z:Inv C S w β bx)(J:C4 S w S1 w)(hS:∀k c,(k,c)∈bx->∀b,(β k).base=some b->S1 b):∀{cs l:List SV} {vs:List Value},G7 bx cs=some l->Bv S w β cs vs->Bv S1 w β l vs/\SV.M8 l=true
 |[],l,vs,h,E=>by simp only[G7,B5]at h;subst h;exact⟨⟨E.1,by simp⟩,rfl⟩
 |c::cs,l,vs,h,E=>by
  simp only[G7]at h;cases V:coerce bx c with
  |none=>simp[V]at h
  |some x =>
   cases I:G7 bx cs with
   |none=>simp[V,I]at h
   |some m =>
    simp only[V,I,B5]at h;subst h;cases vs with
    |nil=>have:=E.1;simp at this
    |cons v vs =>obtain⟨U,g2⟩:=A6b Z J hS V (E.2 0 c v rfl rfl);obtain⟨q1,q2⟩:=Uf Z J hS I ⟨by have:=E.1;simpa using this,λj c v V O=>E.2 (j+1) c v (by simpa using V) (by simpa using O)⟩;exact⟨.cons U q1,by simp only[SV.M8,g2,q2,Bool.and_self]⟩
end
def Bv.Vd{β:Names}{a:Act} :∀(xs:List Operand),(∀x,x∈xs->Am S w β (ρ x) (a.eval x))->Bv S w β (xs.map ρ) (xs.map a.eval)
 |[],_=>.nil
 |x::xs,E=>.cons (E x (by simp)) (Bv.Vd xs λy I=>E y (by grind))
def Inv.begin{S E:Nat->Prop}{β I:Names}(h:Inv C S w β bx)(L:∀b,E b->b<w.heap.size)(J:∀b,S b->E b):Inv ⟨w,E,λ_=>False,λ_ _=>False,C.G⟩ E w I [] where
 Fe _ hb:=hb
 Ej _ hb:=.inl hb
 Bw:=L
 kept _ _ _:=rfl
 os:=rfl
 tape:=rfl
 output:=rfl
 size:=Bs _
 box k c hk:=by grind
 Ba k c hk:=by grind
 inj k c k' c' hk:=by simp
 fix _ _ h:=h.elim
 E2 b cs hv:=⟨J b (h.E2 b cs hv).1,(h.E2 b cs hv).2⟩
 one k Y st k' Y' st' hk:=by simp
 Fo k Y st hk:=by grind
def Inv.back{S I S':Nat->Prop}{w w':World}{β β':Names}(h:Inv C S w β bx)(E:Inv ⟨w,I,λ_=>False,λ_ _=>False,C.G⟩ S' w' β' []) :
  Inv C (λb=>S b\/(S' b/\w.heap.size<=b)) w' β bx/\C4 S w (λb=>S b\/(S' b/\w.heap.size<=b)) w':=by
 refine h.grow (λb hb=>.inl hb) ?_ ?_ (λb hb=>E.kept b hb (by simp)) E.os E.tape E.output E.size
 .grind
 .intro b hb;rcases hb with hb|hb
  .have:=h.Bw b hb;have:=E.size;grind
  .exact E.Bw b hb.1
variable {fo:Operand}
def G8w{f:FuncId}{args:Array Operand}{Da:Array TypeId}(Z:o.op=.call { callee:=.value fo,args:=args,argTypes:=Da }){caps E:List SV}{r:SV}
  (hf:ρ fo=.Bf f caps)(J:G7 [] (args.toList.map ρ++caps)=some E)(hc:Aa P f E r)(hr:r.closed=true):Br P o ρ bx r bx []:=by
 intro C S w β a W ha;have L:=(ha fo (mC Z));rw[hf]at L;generalize a0:a.eval fo=v at L;cases L with
 |Bf _ _ cs h1 h2 =>
  have U:Bv S w β (args.toList.map ρ++caps) (args.toList.map a.eval++cs):=(Bv.Vd _ λx hx=>ha x (mo Z (by grind[Op.operands,Call.operands]))).append ⟨h1,h2⟩;have V:Inv ⟨w,S,λ_=>False,λ_ _=>False,C.G⟩ S w β []:=W.begin W.Bw (λ_ h=>h);obtain⟨g1,g2⟩:=Uf V (C4.refl S w) (by simp) J U;have O:=hc.2 ⟨w,S,λ_=>False,λ_ _=>False,C.G⟩ β _ V g1;refine I7 ?_;unfold Oper.wp;rw[Yh hc.1 Z a0,X2];have I:args.map a.eval++(⟨cs⟩:Array Value)=⟨args.toList.map a.eval++cs⟩:=by apply Kt;simp
  rw[I];refine O.mono ?_;rintro e w' ⟨v,S',β',rfl,hk,hv⟩;obtain⟨q1,q2⟩:=W.back hk;have e':C4 S' w' (λb=>S b\/(S' b/\w.heap.size<=b)) w':=⟨λb hb=>by
   rcases hk.Ej b hb with h|h|h
   .grind
   .grind
   grind,λ_ _=>rfl⟩
  exact⟨v,_,β,rfl,q1,q2,(hv.ext e' (λ_ _=>rfl)).closed hr,λ_ _=>rfl⟩
def F6k{f:FuncId}{args:Array Operand}{Da:Array TypeId}(Z:o.op=.call { callee:=.value fo,args:=args,argTypes:=Da }){caps E:List SV}{r:SV}
  (hf:ρ fo=.Bf f caps)(J:G7 bx (args.toList.map ρ++caps)=some E)(hc:Aa P f E r)(hr:r.scalar=true):Br P o ρ bx r bx []:=by
 intro C S w β a U ha;have L:=(ha fo (mC Z));rw[hf]at L;generalize a0:a.eval fo=v at L;cases L with
 |Bf _ _ cs h1 h2 =>
  have V:Bv S w β (args.toList.map ρ++caps) (args.toList.map a.eval++cs):=(Bv.Vd _ λx hx=>ha x (mo Z (by grind[Op.operands,Call.operands]))).append ⟨h1,h2⟩;have W:Inv ⟨w,all w,λ_=>False,λ_ _=>False,C.G⟩ (all w) w β []:=U.begin (λ_ hb=>hb) U.Bw;obtain⟨g1,g2⟩:=Uf U U.bd (λk c hk b hb=>(U.Ba k c hk b hb).2.1) J V;have O:=hc.2 ⟨w,all w,λ_=>False,λ_ _=>False,C.G⟩ β _ W g1;refine I7 ?_;unfold Oper.wp;rw[Yh hc.1 Z a0,X2];have I:args.map a.eval++(⟨cs⟩:Array Value)=⟨args.toList.map a.eval++cs⟩:=by apply Kt;simp
  rw[I];refine O.mono ?_;rintro e w' ⟨v,S',β',rfl,hk,hv⟩;obtain⟨q1,q2⟩:=U.back hk;exact⟨v,_,β,rfl,q1,q2,hv.scalar hr,λ_ _=>rfl⟩
def A6g(q k:Nat):SV->SV
 |.acc j=>if j=q then .acc k else .undef
 |.tuple [.acc j,x]=>if j=q then(if x.closed then .tuple [.acc k,x]else .undef)else .undef
 |_=>.undef
theorem F8z{β J:Names}{q k:Nat}{i:BI}{r:SV}{v:Value}(h:Am S w J r v)(Z:J q=i):Am S w (Ed β k i) (A6g q k r) v:=by
 have I:∀u,Am S w J (.acc q) u->Am S w (Ed β k i) (.acc k) u:=λu V=>by
  cases V;rw[Z];have:=Am.acc (S:=S) (w:=w) (β:=Ed β k i) k
  grind[Gw]
 unfold A6g;split
 .split
  .grind
  .exact .undef _
 .split
  .split
   .rename_i U
    subst_vars
    cases h with
    |tuple _ vs W L =>
     refine .tuple _ vs W λn c v E O=>?_
     match n,E with
     |0,E=>simp only[Xg,B5]at E;subst E;exact I _ (L 0 _ v rfl O)
     |1,E=>simp only[Ai7,Xg,B5]at E;subst E;exact(L 1 _ v rfl O).closed U
     |n+2,E=>simp at E
   .exact .undef _
  .exact .undef _
 .exact .undef _
theorem H2j{f:FuncId}{args:Array Operand}{Da:Array TypeId}{k:Nat}(a0:k<=999999)(ho:o.op=.call { callee:=.value fo,args:=args,argTypes:=Da }){caps E:List SV}{q sz:Nat}{rows:List (List D)}{r:SV}
  (hf:ρ fo=.Bf f caps)(O:G7 [] (args.toList.map ρ++caps)=some E)(hc:C8 P f E [] r [(q,.rows sz rows)]) :
  Br P o ρ bx (A6g q k r) ((k,.rows sz rows)::H8 k (Cd k bx)) [k]:=by
 intro C S w β a hi ha;have U:=(ha fo (mC ho));rw[hf]at U;generalize a1:a.eval fo=v at U;cases U with
 |Bf _ _ cs h1 h2 =>
  have W:Bv S w β (args.toList.map ρ++caps) (args.toList.map a.eval++cs):=(Bv.Vd _ λx hx=>ha x (mo ho (by grind[Op.operands,Call.operands]))).append ⟨h1,h2⟩;have Z:Inv ⟨w,S,λ_=>False,λ_ _=>False,C.G⟩ S w β []:=hi.begin hi.Bw (λ_ h=>h);obtain⟨g1,g2⟩:=Uf Z (C4.refl S w) (by simp) O W;have V:=hc.2 ⟨w,S,λ_=>False,λ_ _=>False,C.G⟩ β _ Z g1;refine I7 ?_;unfold Oper.wp;rw[Yh hc.1 ho a1,X2];have I:args.map a.eval++(⟨cs⟩:Array Value)=⟨args.toList.map a.eval++cs⟩:=by apply Kt;simp
  rw[I];refine V.mono ?_;rintro e w' ⟨v,S',β',rfl,J,hv⟩;have a2:∀b,S' b->S b\/w.heap.size<=b:=λb L=>by
   rcases J.Ej b L with h|h|h
   .grind
   .grind
   grind
  obtain⟨p1,p2⟩:=hi.C9x (k:=k) (w':=w') (S':=S') (c:=.rows sz rows) (β' q) a0 (λb L=>J.Fe b L) a2 J.Bw (by
    intro b L;obtain⟨g1,g2,g3⟩:=J.Ba q (.rows sz rows) (by simp) b L
    grind)
   (λb L _=>J.kept b L (by simp)) J.os J.tape J.output J.size (λ_=>De.ext (c:=.rows sz rows) (J.box q (.rows sz rows) (by simp)) (C4.refl _ _) (λ_ _=>rfl) (by simp[Aq.has]))
  grind[F8z,Lu]
end Go.Abs
namespace Go.Abs
open Go
variable {P:Program}
def Ao(sl:SL):Operand->SV
 |.tmp t=>Ae sl t
 |.const v=>Kc v
 |.func f=>.Bf f []
 |.global _=>.undef
def Fy(sl:SL)(dst:Option Nat)(r:SV):SL :=
 match dst with
 |some t=>(t,r)::sl
 |none=>sl
def G1:List Nat->SL->SL
 |[],sl=>sl
 |k::ks,sl=>G1 ks (W9 k sl)
def A3q(o:Oper):Bool:=match o.op with| .defer _=>false|_=>true
variable {o:Oper}
def F6r(h:A3q o=true):∀c,o.op≠.defer c:=by grind[A3q]
def Qm(n:Nat)(dst:Option Nat):Prop :=
 match dst with
 |some t=>t<n
 |none=>True
def Marks(C:Ctx)(S:Nat->Prop)(w:World)(ds:List Deferred):Prop :=
 ∃Ds:List Nat,ds=Ds.map (λD=>({ target:=.collected D,args:=#[] }:Deferred))/\Ds.Nodup/\∀D,D∈Ds->S D/\C.w0.heap.size<=D/\w.heap[D]?=some (.deferred (some []))
variable {C:Ctx} {S:Nat->Prop} {w:World}
theorem Marks.nil :Marks C S w []:=⟨[],rfl,by simp,by simp⟩
def Marks.ext{S S':Nat->Prop}{w w':World}{ds:List Deferred}(h:Marks C S w ds)(e:C4 S w S' w'):Marks C S' w' ds:=by obtain⟨Ds,L,J,I⟩:=h;exact⟨Ds,L,J,λD E=>⟨e.sub D (I D E).1,(I D E).2.1,(e.same D (I D E).1).trans (I D E).2.2⟩⟩
variable {a:Act}
def Marks.put{S S':Nat->Prop}{w w':World}{dst:Option Tmp}{v:Value}(h:Marks C S w a.defers)(e:C4 S w S' w'):Marks C S' w' (a.put dst v).defers:=by
 have:(a.put dst v).defers=a.defers:=by cases dst <;> rfl
 rw[this];exact h.ext e
structure St(C:Ctx)(n:Nat)(S:Nat->Prop)(w:World)(β:Names)(a:Act)(sl:SL)(bx:Ab):Prop where
 inv:Inv C S w β bx
 size:a.tmps.size=n
 defers:Marks C S w a.defers
 slot:∀t,Am S w β (Ae sl t) (a.tmps.getD t undef)
variable {β:Names}
def St.Ao{n:Nat}{sl:SL}{bx:Ab}(h:St C n S w β a sl bx)(x:Operand):Am S w β (Ao sl x) (a.eval x):=by
 cases x with
 |tmp t=>exact h.slot t
 |const v=>exact A5a S w β v
 |global g=>exact .undef _
 |func f=>exact .Bf f [] [] rfl (by simp)
def F9z{t u:Nat}{v:Value}(h:t<a.tmps.size):(a.put (some t) v).tmps.getD u undef=if t=u then v else a.tmps.getD u undef:=by
 simp only[Act.put,An7,Array.getElem?_setIfInBounds]
 grind
def St.put{n:Nat}{S S':Nat->Prop}{w w':World}{β β':Names}{sl:SL}{bx bx':Ab}{dst:Option Nat}{v:Value}{r:SV}{pg:List Nat}(h:St C n S w β a sl bx)(hd:Qm n dst)
  (Z:Inv C S' w' β' bx')(V:C4 S w S' w')(hr:Am S' w' β' r v)(hb:∀k,k∉pg->β' k =β k):St C n S' w' β' (a.put dst v) (Fy (G1 pg sl) dst r) bx':=by
 have J:∀(ks:List Nat) (sl:SL) (t:Nat) (u:Value),Am S w β (Ae sl t) u->(∀k,(Ae (G1 ks sl) t).has k=true->k∉ks/\(Ae sl t).has k=true)/\Am S w β (Ae (G1 ks sl) t) u:=by
  intro ks
  induction ks with
  |nil=>intro sl t u L;exact⟨λk O=>⟨by simp,O⟩,L⟩
  |cons k ks ih =>
   intro sl t u L;have hp:Am S w β (Ae (W9 k sl) t) u:=by
    rw[A7h];unfold Ly;split
    .exact .undef _
    .exact L
   obtain⟨U,W⟩:=ih (W9 k sl) t u hp;refine⟨λj hj=>?_,W⟩;obtain⟨g1,I⟩:=U j hj;rw[A7h]at I;unfold Ly at I;split at I
   .simp[SV.has]at I
   grind
 have E:∀t,Am S' w' β' (Ae (G1 pg sl) t) (a.tmps.getD t undef):=by intro t;obtain⟨U,W⟩:=J pg sl t _ (h.slot t);exact W.ext V λk O=>hb k (U k O).1
 cases dst with
 |none=>exact⟨Z,h.size,h.defers.ext V,E⟩
 |some d =>
  refine⟨Z,by simp[Act.put,h.size],h.defers.put V,?_⟩;intro t;rw[F9z (by rw[h.size];exact hd)]
  grind[Fy,Ae]
def FW(ro:Option Nat):Fence:={ Fence.wide with round:=ro }
def F5v:FW none=Fence.wide:=rfl
def A0(ro:Option Nat)(P:Program)(n:Nat)(c:Code)(Q:Exit->SL->Ab->Prop)(sl:SL)(bx:Ab):Prop :=
 ∀(C:Ctx) (S:Nat->Prop) (w:World) (β:Names) (a:Act),St C n S w β a sl bx ->
  c.wpIn (FW ro) 0 P (λe E w'=>∃sl' bx' S' β',Q e sl' bx'/\St C n S' w' β' E sl' bx') a w
variable {ro:Option Nat} {n:Nat} {Q:Exit->SL->Ab->Prop} {sl:SL} {bx:Ab}
variable {c:Code}
def A0.mono{E:Exit->SL->Ab->Prop}(h:A0 ro P n c Q sl bx)(I:∀e sl bx,Q e sl bx->E e sl bx):A0 ro P n c E sl bx :=
 λC S w β a hs=>Zq (h C S w β a hs) λ_ _ _ ⟨sl',bx',S',β',q,r⟩=>⟨sl',bx',S',β',I _ _ _ q,r⟩
def A0.kk(h:Q .normal sl bx):A0 ro P n .skip Q sl bx:=λ_ S _ β _ hs=>wpIn_skip ⟨sl,bx,S,β,h,hs⟩
def A0.ret(h:Q .ret sl bx):A0 ro P n .ret Q sl bx:=λ_ S _ β _ hs=>wpIn_ret ⟨sl,bx,S,β,h,hs⟩
def A0.xx{id:Nat}(h:Q (.exit id) sl bx):A0 ro P n (.exit id) Q sl bx:=λ_ S _ β _ hs=>wpIn_exit ⟨sl,bx,S,β,h,hs⟩
def A4(K:SL->Ab->Prop)(Q:Exit->SL->Ab->Prop):Exit->SL->Ab->Prop
 |.normal,sl,bx=>K sl bx
 |e,sl,bx=>Q e sl bx
def Ac(id:Nat)(Q:Exit->SL->Ab->Prop):Exit->SL->Ab->Prop
 |.exit E,sl,bx=>if E=id then Q .normal sl bx else Q (.exit E) sl bx
 |e,sl,bx=>Q e sl bx
def A0.seq{x y:Code}(h:A0 ro P n x (A4 (A0 ro P n y Q) Q) sl bx):A0 ro P n (.seq x y) Q sl bx:=by
 intro C S w β a hs;refine wpIn_seq (Zq (h C S w β a hs) ?_);rintro e E w' ⟨sl',bx',S',β',q,r⟩;cases e with
 |normal=>exact q C S' w' β' E r
 |_=>exact⟨sl',bx',S',β',q,r⟩
def A0.bb{id:Nat}(h:A0 ro P n c (Ac id Q) sl bx):A0 ro P n (.block id c) Q sl bx:=by
 intro C S w β a hs;refine wpIn_block (Zq (h C S w β a hs) ?_);rintro e I w' ⟨sl',bx',S',β',q,r⟩;cases e with
 |exit E =>
  simp only[Ac]at q;simp only[Exit.inBlock]
  grind
 |_=>exact⟨sl',bx',S',β',q,r⟩
def A0.cond{c:Operand}{x y:Code}{t:Bool}(J:Ao sl c=.d (.bool t))(L:t=true->A0 ro P n x Q sl bx)(I:t=false->A0 ro P n y Q sl bx):A0 ro P n (.cond c x y) Q sl bx:=by intro C S w β a hs;have E:=hs.Ao c;rw[J]at E;exact wpIn_cond_split E.Vn (λh=>L h C S w β a hs) (λh=>I h C S w β a hs)
def Ay(x y:SV):Prop:=y=.undef\/x=y\/(y=.d (.slice [])/\(x=.d .nil\/x=.d .emp))
def sle(sl:SL):SL->Prop
 |[]=>True
 |(t,y)::r=>Ay (Ae sl t) y/\sle sl r
def H5i{x y:SV}{v:Value}(h:Ay x y)(hr:Am S w β x v):Am S w β y v:=by
 rcases h with rfl|rfl|⟨rfl,rfl|rfl⟩
 .exact .undef _
 .exact hr
 .exact .d _ _ hr.Ij.of_nil
 .exact .d _ _ hr.Ij.C3u
def D2m :∀{sl':SL},sle sl sl'->∀{t:Nat} {v:Value},Am S w β (Ae sl t) v->Am S w β (Ae sl' t) v
 |[],_,t,v,_=>.undef _
 |(u,y)::r,h,t,v,hr=>by
  simp only[Ae];split
  .subst_vars;exact H5i h.1 hr
  .exact D2m h.2 hr
def ble(bx:Ab):Ab->Prop
 |[]=>True
 |(k,c)::r=>A7 bx k=some c/\ble bx r
def A7k:∀{bx':Ab},ble bx bx'->∀k c,(k,c)∈bx'->(k,c)∈bx
 |[],_,k,c,h=>by grind
 |(j,x)::r,h,k,c,hm=>by
  simp only[B1,Fp]at hm;rcases hm with⟨rfl,rfl⟩|hm
  .exact Gu h.1
  .exact A7k h.2 k c hm
def St.weaken{sl':SL}{bx':Ab}(h:St C n S w β a sl bx)(I:sle sl sl')(E:ble bx bx'):St C n S w β a sl' bx' :=
 ⟨h.inv.sub (A7k E),h.size,h.defers,λt=>D2m I (h.slot t)⟩
def A0.ww{sl':SL}{bx':Ab}(I:sle sl sl')(E:ble bx bx')(h:A0 ro P n c Q sl' bx'):A0 ro P n c Q sl bx :=
 λC S w β a hs=>h C S w β a (hs.weaken I E)
def A0.loop{X:Type}(mk:X->SL)(mb:X->Ab)(I:X->Prop)(μ:X->Nat){c:Code}(J:X)(Z:I J)(L:sle sl (mk J))(O:ble bx (mb J))
  (h:∀x,I x->A0 ro P n c (A4 (λsl' bx'=>∃E,I E/\μ E<μ x/\sle sl' (mk E)/\ble bx' (mb E)) Q) (mk x) (mb x)):A0 ro P n (.loop c) Q sl bx:=by
 intro C S w β a hs;refine wpIn_loop_ghost (λm a w=>∃x S β,I x/\μ x=m/\St C n S w β a (mk x) (mb x)) (μ J) ⟨J,S,β,Z,rfl,hs.weaken L O⟩ ?_;rintro m a w ⟨x,S,β,U,rfl,hs⟩;refine Zq (h x U C S w β a hs) ?_;rintro e a' w' ⟨sl',bx',S',β',q,r⟩;cases e with
 |normal =>obtain⟨E,L,O,W,V⟩:=q;exact⟨μ E,O,E,S',β',L,rfl,r.weaken W V⟩
 |_=>exact⟨sl',bx',S',β',q,r⟩
def A0.bd(t:Nat){d:D}(hd:Ae sl t=.d d)(h:d.Bd->A0 ro P n c Q sl bx):A0 ro P n c Q sl bx:=by intro C S w β a hs;have hr:=hs.slot t;rw[hd]at hr;exact h hr.Ij.bd C S w β a hs
def Pk(ops:Array Oper)(j:Nat):Option Nat:=(ops[j]?).bind (·.dst)
def Td(ops:Array Oper)(sl:SL)(o:Oper):Option Bool :=
 match o.guard with
 |none=>some true
 |some (j,E)=>match Pk ops j with
  |some t=>match Ae sl t with
   |.d (.bool b)=>some (b ==E)
   |.tuple []=>some false
   |_=>none
  |none=>none
variable {ops:Array Oper}
def C6j{b:Bool}(hs:∀t,(∃j E,o.guard=some (j,E)/\Pk ops j=some t)->Am S w β (Ae sl t) (a.tmps.getD t undef)/\t<a.tmps.size)
  (h:Td ops sl o=some b):Region.wanted o (yielded ops a.tmps)=b:=by
 unfold Td at h;unfold Region.wanted;cases U:o.guard with
 |none=>grind
 |some Z =>
  obtain⟨j,E⟩:=Z;simp only[U]at h |-;cases O:Pk ops j with
  |none=>grind
  |some t =>
   simp only[O]at h;obtain⟨I,V⟩:=hs t ⟨j,E,U,O⟩;have W:yielded ops a.tmps j=match a.tmps.getD t undef with| .bool b=>some b|_=>none:=by
    unfold yielded;rw[show(ops[j]?).bind (·.dst)=some t from O];have L:t<a.tmps.size:=V;simp only[Aq6,Xb L,An7,Dz]
    grind
   rw[W];generalize a.tmps.getD t undef=v at I;split at h
   .rename_i x J;rw[J]at I;rw[I.Vn];simp_all
   .rename_i J;rw[J]at I;have:v=.tuple ⟨[]⟩:=by cases I with|tuple _ vs hl _=>grind
    grind
   grind
def Xu(P:Program)(n:Nat)(ops:Array Oper):List Oper->SL->Ab->(SL->Ab->Prop)->Prop
 |[],sl,bx,K=>K sl bx
 |o::os,sl,bx,K=>∃g,Td ops sl o=some g/\Qm n o.dst /\
   (g=true->∃r bx' pg,Br P o (Ao sl) bx r bx' pg/\Xu P n ops os (Fy (G1 pg sl) o.dst r) bx' K) /\
   (g=false->Xu P n ops os (Fy sl o.dst (.tuple [])) bx K)
def C7z(hd:∀o,o∈ops.toList->Qm n o.dst){j t:Nat}(h:Pk ops j=some t):t<n:=by
 unfold Pk at h;cases E:ops[j]? with
 |none=>grind
 |some o =>simp only[E,Aq6]at h;have:=hd o (by grind);rw[h]at this;exact this
def Oper.G3o{K J:Act->World->Prop}{U:Exit->Act->World->Prop}(I:o.wp P a w K (λ_ _ _=>False))(h:∀a w,K a w->J a w):o.wp P a w J U:=by
 unfold Oper.wp at*;generalize(execOp a.eval o).run P w=r at*;cases r with
 |ok n w' =>
  cases n <;> simp only[Oper.upon]at I |- <;>
   first
    |grind
    |exact Calls.mono I (λe O E=>by cases e <;> first|exact h _ _ E|exact E.elim| (obtain⟨_,_,L⟩:=E;exact L.elim))
    |exact Rows.mono I (λ_ _ E=>h _ _ E)
 |halt x w'=>cases x <;> simp only[Oper.upon]at I |-
def Oper.C9g{K J:Act->World->Prop}(I:o.wpx P a w K)(h:∀a w,K a w->J a w):o.wpx P a w J:=by
 rcases I with I|⟨l,f,tmps,E,body,w',hr,I⟩
 .exact .inl (Oper.G3o I h)
 .refine .inr ⟨l,f,tmps,E,body,w',hr,I.mono ?_⟩
  grind
def C9z{ro:Option Nat}{m:Nat}{f:FuncId}{args:Array Value}{R:Ending->World->Prop}(h:Calls P f args w R):CallsIn (FW ro) m P f args w R :=
 (callsIn_wide (n:=m)).2 h
def G1d{ro:Option Nat}{m:Nat}{row:String}{args:Array Value}{R:Value->World->Prop}(h:Rows P row args w R):RowsIn (FW ro) m P row args w R:=by intro c cs _;obtain⟨v,w',r,s⟩:=h c cs;exact⟨v,w',r,(stepsIn_wide (P:=P)).2 s⟩
def Oper.C6b{ro:Option Nat}{K V:Act->World->Prop}{Z:Exit->Act->World->Prop}(O:A3q o=true)(E:o.wpx P a w K)(h:∀a w,K a w->V a w):o.wpIn (FW ro) 0 P a w V Z:=by
 refine⟨λ_ _=>trivial,?_⟩;rw[Oper.semAt_eq _ _ _ (F6r O)];rcases E with E|⟨l,f,tmps,L,body,w',hr,E⟩
 .unfold Oper.wp at E;generalize(execOp a.eval o).run P w=r at*;cases r with
  |ok n w' =>
   cases n <;> simp only[Oper.upon]at E |- <;> simp only[Oper.uponIn] <;>
    first
     |grind
     |exact⟨λJ=>by simp[FW,Fence.wide]at J,C9z (Calls.mono E (λe U I=>by cases e <;> first|exact h _ _ I|exact I.elim| (obtain⟨_,_,W⟩:=I;exact W.elim)))⟩
     |exact⟨λJ=>by simp[FW,Fence.wide]at J,G1d (Rows.mono E (λ_ _ I=>h _ _ I))⟩
  |halt x w'=>cases x <;> simp only[Oper.upon]at E
 .rw[hr];simp only[Oper.uponIn];refine⟨λJ=>by simp[FW,Fence.wide]at J,RoundIn.mono (F:=FW ro) E ?_⟩;intro e U I;cases e with
  |returned v=>exact h _ _ I
  |_=>exact I.elim
def B9i{Z:Exit->Act->World->Prop}(hd:∀o,o∈ops.toList->Qm n o.dst)(E:∀o,o∈ops.toList->A3q o=true){K:SL->Ab->Prop}
  (V:∀sl bx S w β a,K sl bx->St C n S w β a sl bx->Z .normal a w):∀(k i:Nat) (sl:SL) (bx:Ab) (S:Nat->Prop) (w:World) (β:Names) (a:Act),i+k=ops.size->Xu P n ops (ops.toList.drop i) sl bx K ->
  St C n S w β a sl bx->wpOpsIn (FW ro) 0 P ops Z (List.range' i k) a w
 |0,i,sl,bx,S,w,β,a,L,hr,hs=>by have:ops.toList.drop i=[]:=Ib (by grind);rw[this]at hr;exact V sl bx S w β a hr hs
 |k+1,i,sl,bx,S,w,β,a,L,hr,hs=>by
  have hi:i<ops.size:=by omega
  have dp:ops.toList.drop i=ops[i]::ops.toList.drop (i+1):=by rw[Gb (by omega)];simp
  rw[dp]at hr;obtain⟨g,hg,I,h1,h2⟩:=hr;simp only[Au4,wpOpsIn,Xb hi];have hw:=C6j (a:=a) (S:=S) (w:=w) (β:=β) (λt ht=>by obtain⟨j,W,_,hj⟩:=ht;exact⟨hs.slot t,by rw[hs.size];exact C7z hd hj⟩) hg
  rw[hw];cases g with
  |true =>simp only[Af];obtain⟨r,bx',pg,O,J⟩:=h1 rfl;refine Oper.C6b (E _ (by simp)) (O C S w β a hs.inv λx _=>hs.Ao x) ?_;rintro a' w' ⟨v,S',β',rfl,U,he,hv,hb⟩;exact B9i hd E V k (i+1) _ bx' S' w' β' _ (by omega) J (hs.put I U he hv hb)
  |false =>simp only[I0,Fx];refine⟨λ_ _=>trivial,?_⟩;exact B9i hd E V k (i+1) _ bx S w β _ (by omega) (h2 rfl) (hs.put (pg:=[]) I hs.inv (C4.refl S w) (.tuple [] [] rfl (by simp)) (λ_ _=>rfl))
end Go.Abs
namespace Go.Abs
open Go
variable {ro:Option Nat} {P:Program} {n:Nat} {Q:Exit->SL->Ab->Prop} {sl:SL} {bx:Ab}
def Ef(n:Nat)(ops:List Oper):Bool:=ops.all λo=>(match o.dst with|some t=>decide (t<n)|none=>true) && A3q o
def A3w{ops:List Oper}(h:Ef n ops=true):∀o,o∈ops->Qm n o.dst:=by
 intro o E;have:=Dm.1 h o E;simp only[Bb]at this
 grind[Qm]
def B6h{ops:List Oper}(h:Ef n ops=true):∀o,o∈ops->A3q o=true:=by
 intro o E;have:=Dm.1 h o E
 grind
def Vh(ks:List Nat)(sl:SL):SL :=
 match ks with
 |[]=>[]
 |k::r=>(k,Ae sl k)::Vh r sl
def Ri(ks:List Nat)(bx:Ab):Ab :=
 match ks with
 |[]=>[]
 |k::r=>match A7 bx k with
  |some c=>(k,c)::Ri r bx
  |none=>Ri r bx
def D9c(sl:SL):∀(ks:List Nat)(t:Nat),Ae (Vh ks sl) t=Ae sl t\/Ae (Vh ks sl) t=.undef
 |[],t=>.inr rfl
 |k::r,t=>by
  simp only[Vh,Ae];split
  .grind
  .exact D9c sl r t
def C2f{k:Nat}{c:Aq} :∀{ks:List Nat},(k,c)∈Ri ks bx->(k,c)∈bx
 |[],h=>by simp[Ri]at h
 |j::r,h=>by
  simp only[Ri]at h;split at h
  .rename_i x E;simp only[B1,Fp]at h;rcases h with⟨rfl,rfl⟩|h
   .exact Gu E
   .exact C2f h
  .exact C2f h
def St.W3{C:Ctx}{S:Nat->Prop}{w:World}{β:Names}{a:Act}(h:St C n S w β a sl bx)(ks E:List Nat):St C n S w β a (Vh ks sl) (Ri E bx) :=
 ⟨h.inv.sub λ_ _ I=>C2f I,h.size,h.defers,λt=>by
  rcases D9c sl ks t with e|e <;> rw[e]
  .exact h.slot t
  .exact .undef _⟩
variable {ops:Array Oper}
def A0.region{id:Nat}(ks I:List Nat)(hd:Ef n ops.toList=true)(h:Xu P n ops ops.toList sl bx λsl' bx'=>Q .normal (Vh ks sl') (Ri I bx')):A0 ro P n (.region id ops false) Q sl bx:=by intro C S w β a hs;refine wpIn_region ?_;rw[List.range_eq_range'];exact B9i (A3w hd) (B6h hd) (λsl' bx' S' w' β' L J E=>⟨_,_,S',β',J,E.W3 ks I⟩) ops.size 0 sl bx S w β a (by simp) (by grind) hs
def A9d(ops:Array Oper)(o:Oper):List Nat:=o.looksAt ops
def left(size:Nat)(E:Array Bool):Nat:=(List.range size).countP λi=>!(E.getD i false)
def H4p{size i:Nat}{E:Array Bool}(hs:E.size=size)(V:i<size)(h:E.getD i false=false):left size (E.setIfInBounds i true)<left size E:=by
 unfold left;have J:i<E.size:=by omega
 have O:∀j,(!(E.setIfInBounds i true).getD j false)=(!(decide (j=i)) && !(E.getD j false)):=by
  intro j;by_cases U:i=j
  .simp_all
  .rw[getD_set_ne false U];grind
 simp only[O];have:∀l:List Nat,i∈l->(l.countP λj=>!(decide (j=i)) && !(E.getD j false))<l.countP λj=>!(E.getD j false):=by
  intro l
  induction l with
  |nil=>simp
  |cons a l W =>
   intro I;have L:(l.countP λj=>!(decide (j=i)) && !(E.getD j false))<=l.countP λj=>!(E.getD j false):=List.countP_mono_left (by simp)
   grind
 grind
variable {o:Oper}
def G9g{s I:SL}(h:∀j E t,o.guard=some (j,E)->Pk ops j=some t->Ae s t=Ae I t):Td ops s o=Td ops I o:=by grind[Td]
def G7v{j t:Nat}{E:Bool}(I:o.guard=some (j,E))(J:Pk ops j=some t):t∈o.looksAt ops:=by grind[Oper.looksAt,Pk]
def G9k{t:Nat}(h:Operand.tmp t∈o.op.operands):t∈o.looksAt ops:=by unfold Oper.looksAt;simp only[Bz,Ns];left;exact⟨.tmp t,by grind,rfl⟩
end Go.Abs
