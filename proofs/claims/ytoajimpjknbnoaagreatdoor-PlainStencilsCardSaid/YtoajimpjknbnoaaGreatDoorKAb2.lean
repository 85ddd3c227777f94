import Derived.Deep.LoopGhost
import Derived.Sort.LoopGhostIn
import Derived.OrdersIn
import Derived.Test.YtoajimpjknbnoaaGreatDoorKAb1
set_option linter.all false
namespace Go.iA
open Go
variable {P:Program} {o:Oper} {ρ:Iq} {bx:Ac}
def Uu:List SV->Option (List D)
 |[]=>some []
 |.d x::r=>match Uu r with
  |some l=>match x with
   |.nil=>some (.slice []::l)
   |.emp=>some (.slice []::l)
   |.agg _=>none
   |y=>some (y::l)
  |none=>none
 |_::_=>none
variable {S:Nat->Prop} {w:World} {β:Names}
def gN :∀(cs:List SV)(ds:List D)(vs:List Value),Uu cs=some ds->C7 S w β cs vs ->ds.length=cs.length/\(∀d,d∈ds->d.one=true)/\∀(j:Nat) (d:D) (v:Value),ds[j]?=some d->vs[j]?=some v->C5 S w d v
 |[],ds,vs,h,hr=>by simp only[Uu,B8]at h;subst h;simp
 |c::cs,ds,vs,h,hr=>by
  cases c <;> simp only[Uu,reduceCtorEq]at h;rename_i x;cases O:Uu cs with
  |none=>grind
  |some l =>
   rw[O]at h;cases vs with
   |nil=>have:=hr.1;grind
   |cons v vs =>
    have E:C5 S w x v:=(hr.2 0 (.d x) v rfl rfl).Js;obtain⟨W,U,V⟩:=gN cs l vs O ⟨by have:=hr.1;grind,λj c v Z E=>hr.2 (j+1) c v (by grind) (by grind)⟩;have key:∃y,ds=y::l/\y.one=true/\C5 S w y v:=by
     cases x <;> simp only[B8,reduceCtorEq]at h <;> first
      |exact⟨_,h.symm,rfl,E⟩
      |exact⟨_,h.symm,rfl,E.of_nil⟩
      |exact⟨_,h.symm,rfl,E.WT⟩
    obtain⟨y,rfl,I,J⟩:=key;refine⟨by simp[W],?_,?_⟩
    .intro d hd;simp only[Ay]at hd;rcases hd with rfl|hd
     .exact I
     .exact U d hd
    .intro j d u hd L;cases j with
     |zero=>simp at hd L;subst hd;subst L;exact J
     |succ j=>exact V j d u (by simpa using hd) (by simpa using L)
structure Flat(S:Nat->Prop)(w:World)(sz:Nat)(rows:List (List D))(vs:List Value):Prop where
 len:vs.length=rows.length*sz
 row:∀row,row∈rows->row.length=sz
 one:∀row,row∈rows->∀d,d∈row->d.one=true
 rep:∀(i j:Nat) (row:List D) (d:D) (v:Value),rows[i]?=some row->row[j]?=some d->vs[i*sz+j]?=some v->C5 S w d v
variable {vs:List Value}
def Flat.ext{S S':Nat->Prop}{w w':World}{sz:Nat}{rows:List (List D)}(h:Flat S w sz rows vs)(e:Cg S w S' w'):Flat S' w' sz rows vs :=⟨h.len,h.row,h.one,λi j row d v J I E=>(h.rep i j row d v J I E).ext e⟩
theorem Flat.nil{sz:Nat} :Flat S w sz [] []:=⟨by simp,by simp,by simp,by simp⟩
def Flat.cons{sz:Nat}{row:List D}{rows:List (List D)}{us vs:List Value}(J:row.length=sz)(I:us.length=sz)(E:∀d,d∈row->d.one=true)
  (hr:∀(j:Nat) (d:D) (v:Value),row[j]?=some d->us[j]?=some v->C5 S w d v)(h:Flat S w sz rows vs):Flat S w sz (row::rows) (us++vs) where
 len:=by simp[I,h.len,Ii];omega
 row r hr:=by
  simp only[Ay]at hr;rcases hr with rfl|hr
  .exact J
  .exact h.row r hr
 one r hr:=by
  simp only[Ay]at hr;rcases hr with rfl|hr
  .exact E
  .exact h.one r hr
 rep i j r d v h1 h2 h3:=by
  have L:j<sz:=by
   have e:=(Az.1 h2).1;cases i with
   |zero=>grind
   |succ i=>have:=h.row r (Bs (by simpa using h1));omega
  cases i with
  |zero =>grind
  |succ i =>rw[Ii,rJ,Lq (by omega)]at h3;exact h.rep i j r d v (by grind) h2 (by grind)
def Flat.append{sz:Nat}{rows xs:List (List D)}{us vs:List Value}(h:Flat S w sz rows us)(k:Flat S w sz xs vs):Flat S w sz (rows++xs) (us++vs) where
 len:=by simp[h.len,k.len,Ii]
 row r hr:=by
  simp only[Bj]at hr;rcases hr with hr|hr
  .exact h.row r hr
  .exact k.row r hr
 one r hr:=by
  simp only[Bj]at hr;rcases hr with hr|hr
  .exact h.one r hr
  .exact k.one r hr
 rep i j r d v h1 h2 h3:=by
  by_cases E:i<rows.length
  .rw[Mm E]at h1;have I:j<sz:=by have:=(Az.1 h2).1;have:=h.row r (Bs h1);omega
   have:(i+1)*sz<=rows.length*sz:=Ih _ E;rw[Ii,rJ]at this;rw[Mm (by rw[h.len];omega)]at h3;exact h.rep i j r d v h1 h2 h3
  .rw[Lq (by omega)]at h1;have:rows.length*sz<=i*sz:=Ih _ (by omega);rw[Lq (by rw[h.len];omega)]at h3;refine k.rep (i - rows.length) j r d v h1 h2 ?_;rw[<-h3,h.len];grind[Nat.sub_mul]
def rowsOf(ρ:Iq)(sz:Nat):Nat->List (Nat × Operand)->Option (List (List D))
 |_,[]=>some []
 |n,(i,x)::r=>match content (ρ x)with
  |some c=>match Uu c with
   |some row=>if i=n/\row.length=sz then(rowsOf ρ sz (n+1) r).map (row::·)else none
   |none=>none
  |none=>none
def Jl{a:Act}(sz:Nat):∀(parts:List (Nat × Operand))(n:Nat)(rows:List (List D))(pre rest:List Value),(∀p,p∈parts->An S w β (ρ p.2) (a.eval p.2)) ->rowsOf ρ sz n parts=some rows->pre.length=n*sz->rest.length=parts.length*sz ->∃vs,Instr.fill (λi=>some (i*sz,sz)) ⟨pre++rest⟩ (parts.map λp=>(p.1,a.eval p.2))=some ⟨pre++vs⟩/\Flat S w sz rows vs/\rows.length=parts.length
 |[],n,rows,pre,rest,_,h,hp,hr=>by
  simp only[rowsOf,B8]at h;subst h;have:rest=[]:=by cases rest <;> simp at hr;rfl
  subst this;exact⟨[],rfl,.nil,rfl⟩
 |(i,x)::parts,n,rows,pre,rest,ha,h,hp,hr=>by
  simp only[rowsOf]at h;cases O:content (ρ x)with
  |none=>simp[O]at h
  |some c =>
   cases hd:Uu c with
   |none=>simp[O,hd]at h
   |some row =>
    simp only[O,hd]at h;split at h
    .rename_i W;obtain⟨rfl,Z⟩:=W;simp only[Jn]at h;obtain⟨J,I,rfl⟩:=h;obtain⟨g1,g2⟩:=(ha (i,x) (by simp)).content O;obtain⟨q1,q2,q3⟩:=gN c row _ hd g1;have a0:(a.eval x).cells.size=sz:=by have:=g1.1;simp at this;omega
     have E:(a.eval x).cells.toList.length=sz:=by simpa using a0
     have V:sz<=rest.length:=by rw[hr];simp[Ii]
     have L:Hr (pre++rest) (i*sz) (a.eval x).cells.toList=(pre++(a.eval x).cells.toList)++rest.drop sz:=by
      apply Kx;intro j;rw[YC _ _ _ _ (by simp only[B5];omega)];by_cases h1:i*sz<=j/\j<i*sz+(a.eval x).cells.toList.length
      .rw[A7 h1,Mm (by simp only[B5];omega),Lq (by omega),hp]
      .rw[A5 h1];by_cases h2:j<i*sz
       .rw[Mm (by omega),Mm (by simp only[B5];omega),Mm (by omega)]
       .rw[Lq (by omega),Lq (by simp only[B5];omega),Y0]
        congr 1
        simp only[B5];omega
     obtain⟨vs,f1,f2,f3⟩:=Jl sz parts (i+1) J (pre++(a.eval x).cells.toList) (rest.drop sz) (λp hp=>ha p (by simp[hp])) I (by simp only[B5,E,hp,Ii];omega) (by simp only[yJ,hr,Bg,Ii];omega)
     refine⟨(a.eval x).cells.toList++vs,?_,.cons Z E q2 q3 f2,by simp[f3]⟩;simp only[Cj,Instr.fill];rw[A5 (by simp only[ne_eq,U7,Di,Yo];simp;simp at hr;omega)];have U:=pT (a.eval x).cells.toList (pre++rest) (i*sz) 0;simp only[Nd]at U;have e:(a.eval x).cells.toList.zipIdx=(a.eval x).cells.zipIdx.toList:=by simp
     rw[e,Array.foldl_toList]at U;rw[U,L,f1,H3]
    .simp at h
def YE{T e:Nat}(h:E9 P T=some e)(w:World):(underlying T).run P w=.ok (.slice e) w:=by
 unfold E9 at h;cases E:P.underlying T with
 |none=>grind
 |some d =>rw[E]at h;cases d <;> simp only[reduceCtorEq,B8]at h;subst h;simp[underlying,E]
def j7{a:Act}{T e n sz:Nat}{parts:Array (Nat × Operand)}(V:∀p,p∈parts.toList->An S w β (ρ p.2) (a.eval p.2)){rows:List (List D)}{O:List SV}
  (hT:E9 P T=some e)(hs:Bp P e=some sz)(U:Co P e=some O)(L:O.length=sz)(W:n*sz<=16777216)(hp:parts.size=n)(hr:rowsOf ρ sz 0 parts.toList=some rows) :
  ∃vs,(Instr.buildSlice T n (parts.map λp=>(p.1,a.eval p.2))).run P w=.ok (.slice (some ⟨w.heap.size,0,none⟩) n n) { w with heap:=w.heap.push (.cells ⟨vs⟩ e) }/\Flat S w sz rows vs/\rows.length=n:=by
 obtain⟨z,E,rfl⟩:=SK U w;simp only[B7,qN]at L;obtain⟨vs,f1,f2,f3⟩:=Jl sz parts.toList 0 rows [] ((Array.range (n*sz)).map (λj=>(if n*sz=0 then #[]else z.cells)[j % (if n*sz=0 then #[]else z.cells).size]!)).toList V hr (by simp) (by grind);refine⟨vs,?_,f2,by grind⟩;simp only[Wv]at f1;simp only[Instr.buildSlice,Ha,YE hT,Hp,Qh hs];rw[A5 (show ¬n*sz > 2 ^ 24 by omega)];have I:Instr.fill (λi=>some (i*sz,sz)) (Array.map (λx=>(if n*sz=0 then #[]else z.cells)[x % (if n*sz=0 then #[]else z.cells).size]!) (Array.range (n*sz))) (Array.map (λp=>(p.fst,a.eval p.snd)) parts).toList=some ⟨vs⟩:=by rw[kN];exact f1
 by_cases J:n*sz=0;rw[A7 J];simp only[A7 J]at I;simp only[Ha,L3,Hp,I,newRow,run_newObj];rw[A5 J];simp only[A5 J]at I;simp only[Ha,L3,Hp,E,I,newRow,run_newObj]
def Flat.slice{sz:Nat}{rows:List (List D)}(h:Flat S w sz rows vs){b:Nat}{ty:TypeId}{Z:Nat × Nat}{us:List Value}{off cap:Nat}(hb:S b)
  (L:w.heap[b]?=some (.cells ⟨us⟩ ty Z))(V:∀(j:Nat) (v:Value),vs[j]?=some v->us[off+j]?=some v)(O:rows.length<=lim)(U:rows.length<=cap) :
  C5 S w (.slice rows) (.slice (some ⟨b,off,none⟩) rows.length cap):=by
 refine .slice rows b off cap sz hb O U h.row h.one ?_ ?_
 .intro i j J W;have E:i*sz+j<vs.length:=by rw[h.len];have:(i+1)*sz<=rows.length*sz:=Ih _ J;rw[Ii,rJ]at this;omega
  exact⟨vs[i*sz+j],by rw[cells_of_row L];simp_all⟩
 .intro i j row d v hr hd I;have J:=(Az.1 hr).1;have W:j<sz:=by have:=(Az.1 hd).1;have:=h.row row (Bs hr);omega
  have E:i*sz+j<vs.length:=by rw[h.len];have:(i+1)*sz<=rows.length*sz:=Ih _ J;rw[Ii,rJ]at this;omega
  rw[cells_of_row L,V _ _ (Bu E)]at I;simp only[B8]at I;exact h.rep i j row d v hr hd (by grind)
def Inv.ez{C:Ctx}(h:Inv C S w β bx)(x:Obj) :Inv C (λb=>S b\/b=w.heap.size) { w with heap:=w.heap.push x } β bx/\Cg S w (λb=>S b\/b=w.heap.size) { w with heap:=w.heap.push x }:=by refine h.grow (λb hb=>.inl hb) ?_ ?_ ?_ rfl rfl rfl (by simp);grind;intro b hb;rcases hb with hb|hb;have:=h.C9 b hb;grind;grind;grind
def uo{T e n sz:Nat}{parts:Array (Nat × Operand)}(U:o.op=.buildSlice T n parts){rows:List (List D)}{O:List SV}
  (hT:E9 P T=some e)(hs:Bp P e=some sz)(W:Co P e=some O)(J:O.length=sz)(hn:n*sz<=16777216)(hp:parts.size=n)(hr:rowsOf ρ sz 0 parts.toList=some rows)(I:n<=lim) :
  C1 P o ρ bx (.d (.slice rows)) bx []:=by
 intro C S w β a hi ha;obtain⟨vs,E,V,Z⟩:=j7 (λp hp=>ha p.2 (mo U (by grind[Op.operands]))) hT hs W J hn hp hr;obtain⟨h1,L⟩:=hi.ez (.cells ⟨vs⟩ e);refine Ja ?_;unfold Oper.wp;have:(execOp a.eval o).run P w=.ok (.value (.slice (some ⟨w.heap.size,0,none⟩) n n)) { w with heap:=w.heap.push (.cells ⟨vs⟩ e) }:=by simp only[execOp,U,Ha,E,Hp,L3]
 rw[this];refine⟨_,_,β,rfl,h1,L,?_,λ_ _=>rfl⟩;subst Z;exact .d _ _ ((V.ext L).slice (.inr rfl) (cW w _) (λj v hv=>by grind) I (Bv _))
def gU{i:BI}{sz:Nat}{rows:List (List D)}{ty:TypeId}{b:Nat}(hb:i.base=some b)(V:i.sz=sz)(I:rows.length=i.len)(J:i.len<=i.cap)
  (L:rows.length<=lim)(hh:w.heap[b]?=some (.cells ⟨vs⟩ ty (0,0)))(O:(i.off+i.cap)*sz<=vs.length)(us:List Value)(E:Flat S w sz rows us)(hu:∀(j:Nat) (v:Value),us[j]?=some v->vs[i.off*sz+j]?=some v) :
  E4 S w β i (.rows sz rows):=by
 refine⟨V,I,J,L,E.row,E.one,?_⟩;rw[hb];refine⟨ty,vs,hh,O,?_⟩;intro r j row d v hr hd Z;have hj:j<sz:=by have:=(Az.1 hd).1;have:=E.row row (Bs hr);omega
 have U:=(Az.1 hr).1;have W:r*sz+j<us.length:=by rw[E.len];have:(r+1)*sz<=rows.length*sz:=Ih _ U;rw[Ii,rJ]at this;omega
 have:=hu _ _ (Bu W);rw[Ii,Uf,this]at Z;simp only[B8]at Z;exact E.rep r j row d v hr hd (by grind)
theorem G5v{T e n sz k:Nat}{parts:Array (Nat × Operand)}(I:k<=999999)(W:o.op=.buildSlice T n parts){rows:List (List D)}{O:List SV}
  (hT:E9 P T=some e)(hs:Bp P e=some sz)(hz:Co P e=some O)(L:O.length=sz)(hn:n*sz<=16777216)(hp:parts.size=n)(hr:rowsOf ρ sz 0 parts.toList=some rows)(U:n<=lim) :
  C1 P o ρ bx (.acc k) ((k,.rows sz rows)::Hx k (Cu k bx)) [k]:=by
 intro C S w β a hi ha;obtain⟨vs,E,hf,V⟩:=j7 (λp hp=>ha p.2 (mo W (by grind[Op.operands]))) hT hs hz L hn hp hr;obtain⟨h1,h2⟩:=hi.Vj (k:=k) (w':={ w with heap:=w.heap.push (.cells ⟨vs⟩ e) }) (c:=.rows sz rows) { base:=some w.heap.size,len:=n,cap:=n,sz:=sz } I (by
   intro b Z;simp only[B8]at Z;subst Z;exact⟨λhs=>by have:=hi.C9 _ hs;omega,by simp,.inl (Bv _)⟩)
  (λb' J _=>yg w _ J) rfl rfl rfl (by simp)
  (λe0=>gU rfl rfl V (Bv _) (by omega) (cW w _) (by simp[hf.len,V]) vs (hf.ext e0) (λj v hv=>by grind))
 refine Ja ?_;unfold Oper.wp;have:(execOp a.eval o).run P w=.ok (.value (.slice (some ⟨w.heap.size,0,none⟩) n n)) { w with heap:=w.heap.push (.cells ⟨vs⟩ e) }:=by simp only[execOp,W,Ha,E,Hp,L3]
 rw[this];refine⟨_,S,_,rfl,h1,h2,?_,λj hj=>Mz (by grind)⟩;have:=An.acc (S:=S) (w:={ w with heap:=w.heap.push (.cells ⟨vs⟩ e) }) (β:=F4 β k { base:=some w.heap.size,len:=n,cap:=n,sz:=sz }) k;grind[Ht]
end Go.iA
namespace Go.iA
open Go
variable {P:Program} {o:Oper} {ρ:Iq} {bx:Ac}
def J7(i:BI):Value:=.slice (i.base.map λb=>⟨b,i.off*i.sz,none⟩) i.len i.cap
structure Src(P:Program)(S:Nat->Prop)(w:World)(sz:Nat)(xs:List (List D))(v:Value)(vs:List Value):Prop where
 len:(Builtin.lenOf v).run P w=.ok xs.length w
 cells:∀n w',n=xs.length->(∀b,(∃p l c,v=.slice (some ⟨b,p,none⟩) l c)->w'.heap[b]?=w.heap[b]?)->(Builtin.firstCells sz n v).run P w'=.ok ⟨vs⟩ w'
 flat:Flat S w sz xs vs
 one:vs.all (·.oneCell')=true
variable {S:Nat->Prop} {w:World}
theorem Src.nil{sz:Nat}{p:Option Addr}{c:Nat} :Src P S w sz [] (.slice p 0 c) [] where
 len:=rfl
 cells n w' hn _:=by
  subst hn;cases p with
  |none=>rfl
  |some a=>simp[Builtin.firstCells,loadCells,loadCellsFrom]
 flat:=.nil
 one:=rfl
def sT{b off n:Nat}(h:∀j,j<n->∃v,w.cell? ⟨b,off+j,none⟩=some v):∃vs:List Value,vs.length=n/\∀(j:Nat)(v:Value),vs[j]?=some v->w.cell? ⟨b,off+j,none⟩=some v:=by refine⟨(List.range n).map λj=>(w.cell? ⟨b,off+j,none⟩).getD undef,by simp,?_⟩;grind
theorem iT{sz n b off len cap:Nat}{vs:List Value}(E:vs.length=n*sz)(h:∀(j:Nat)(v:Value),vs[j]?=some v->w.cell? ⟨b,off+j,none⟩=some v) :(Builtin.firstCells sz n (.slice (some ⟨b,off,none⟩) len cap)).run P w=.ok ⟨vs⟩ w:=by grind[run_loadCells_list,Zf,Builtin.firstCells]
theorem cell_of_heap{w w':World}{b:Nat}(h:w'.heap[b]?=w.heap[b]?)(p:Nat):w'.cell? ⟨b,p,none⟩=w.cell? ⟨b,p,none⟩:=World.cell?_of_block (w:=w) h
def Src.slice{sz:Nat}{xs:List (List D)}{v:Value}(h:C5 S w (.slice xs) v)(a0:∀row,row∈xs->row.length=sz):∃vs,Src P S w sz xs v vs:=by
 cases h with
 |Nv a c _=>exact⟨[],.nil⟩
 |slice _ b off cap E hS h1 h2 h3 J h4 h5 =>
  by_cases hx:xs=[];subst hx;exact⟨[],.nil⟩
  .have O:E=sz:=by
    cases xs with
    |nil=>grind
    |cons r xs=>simp_all
   subst O;have hex:∀j,j<xs.length*E->∃v,w.cell? ⟨b,off+j,none⟩=some v:=by
    intro j hj;have Tt:0<E:=by
                 rcases zW E with h|h;· grind
                 exact h
    obtain⟨v,U⟩:=h4 (j / E) (j % E) (DW (by grind)) (oE _ Tt);have:j / E*E+j % E=j:=by rw[qE];exact Nat.div_add_mod j E
    exact⟨v,by grind⟩
   obtain⟨vs,hl,W⟩:=sT hex;have I:Flat S w E xs vs:=⟨hl,h3,J,λi j row d v hr hd U=>h5 i j row d v hr hd (W _ _ U)⟩;refine⟨vs,?_,?_,I,?_⟩;rfl;grind[iT,cell_of_heap]
   .rw[Dz];intro v U;obtain⟨j,hj⟩:=Re.1 U;have V:=(Az.1 hj).1;rw[hl]at V;have Tt:0<E:=by
                 rcases zW E with h|h;· grind
                 exact h
    have Z:j / E<xs.length:=DW (by grind);have L:=h3 _ (Gc Z);have hm:j % E<xs[j / E].length:=by rw[L];exact oE _ Tt
    have e:j / E*E+j % E=j:=by rw[qE];exact Nat.div_add_mod j E
    exact(I.rep (j / E) (j % E) _ _ v (Bu Z) (Bu hm) (by grind)).one (J _ (Gc Z) _ (Gc hm))
def Src.acc{β:Names}{i:BI}{sz:Nat}{xs:List (List D)}(h:E4 S w β i (.rows sz xs)):∃vs,Src P S w sz xs (J7 i) vs:=by
 obtain⟨g1,g2,g3,g4,g5,g6,U⟩:=h;subst g1;cases Z:i.base with
 |none =>
  rw[Z]at U;simp only at U;have:xs=[]:=by cases xs with|nil=>rfl|cons r xs=>grind
  subst this;refine⟨[],?_⟩;grind[J7,nil]
 |some b =>
  rw[Z]at U;obtain⟨ty,vs,hh,a0,L⟩:=U;have W:i.off*i.sz+xs.length*i.sz<=vs.length:=by have:(i.off+xs.length)*i.sz<=(i.off+i.cap)*i.sz:=Ih _ (by omega);rw[Ii]at this;omega
  have hl:((vs.drop (i.off*i.sz)).take (xs.length*i.sz)).length=xs.length*i.sz:=by simp;omega
  have O:∀(j:Nat) (v:Value),((vs.drop (i.off*i.sz)).take (xs.length*i.sz))[j]?=some v->vs[i.off*i.sz+j]?=some v:=by intro j v I;simp only[tE,Y0]at I;split at I;exact I;grind
  have E:Flat S w i.sz xs ((vs.drop (i.off*i.sz)).take (xs.length*i.sz)):=by refine⟨hl,g5,g6,?_⟩;intro r j row d v hr hd I;have:=O _ _ I;exact L r j row d v hr hd (by grind)
  refine⟨_,?_,?_,E,?_⟩;simp[J7,Z,Builtin.lenOf,g2];grind[J7,iT,cells_of_row]
  .rw[Dz];intro v I;obtain⟨j,hj⟩:=Re.1 I;have V:=(Az.1 hj).1;rw[hl]at V;have Tt:0<i.sz:=by
                 rcases zW i.sz with h|h;· grind
                 exact h
   have hi:j / i.sz<xs.length:=DW (by grind);have J:=g5 _ (Gc hi);have hm:j % i.sz<xs[j / i.sz].length:=by rw[J];exact oE _ Tt
   have e:j / i.sz*i.sz+j % i.sz=j:=by rw[qE];exact Nat.div_add_mod j i.sz
   exact(E.rep (j / i.sz) (j % i.sz) _ _ v (Bu hi) (Bu hm) (by grind)).one (g6 _ (Gc hi) _ (Gc hm))
structure HI(P:Program)(T e sz bytes:Nat):Prop where
 hT:E9 P T=some e
 Pr:Bp P e=some sz
 hzero:(Co P e).map List.length=some sz
 xI:(P.info? e).map (·.bytes)=some bytes
 Tt:bytes≠0
def Kw(P:Program)(T:TypeId):Bool :=match P.underlying T with
 |some (.slice _)=>true
 |some .string=>true
 |_=>false
def G8f{T:TypeId}(h:Kw P T=true)(w:World):(∃e,(underlying T).run P w=.ok (.slice e) w)\/(underlying T).run P w=.ok .string w:=by
 unfold Kw at h;cases E:P.underlying T with
 |none=>grind
 |some d =>
  cases d <;> simp[E]at h;exact .inr (by simp[underlying,E]);rename_i e;exact .inl ⟨e,by simp[underlying,E]⟩
def cg(zero:Array Value)(n:Nat):(Builtin.zeroCells zero n).size=n*zero.size:=by simp[Builtin.zeroCells]
def l8{β:Names}{i:BI}{T e sz bytes U:Nat}{rs xs:List (List D)}{v:Value}{vs:List Value}(hE:HI P T e sz bytes)(hU:Kw P U=true)(a5:E4 S w β i (.rows sz rs))
  (b1:∀b,i.base=some b->¬S b/\b<w.heap.size)(I:Src P S w sz xs v vs)(a2:(rs.length+xs.length)*bytes<=lim)(ty:TypeId) :
  ∃(i':BI) (w':World),(Builtin.append_ #[T,U] ty #[J7 i,v]).run P w=.ok (J7 i') w'/\w'.os=w.os/\w'.tape=w.tape/\w'.output=w.output/\w.heap.size<=w'.heap.size /\ (∀b,b<w.heap.size->i.base≠some b->w'.heap[b]?=w.heap[b]?)/\(∀b,i'.base=some b->i.base=some b\/(w.heap.size<=b/\b<w'.heap.size)) /\ (Cg S w S w'->∀β',E4 S w' β' i' (.rows sz (rs++xs))):=by
 have a7:=a5;obtain⟨g1,g2,g3,g4,g5,g6,g7⟩:=a5;have hdu:=G8f hU w;have am:1<=bytes:=by have:=hE.Tt;omega
 have aw:rs.length+xs.length<=lim:=Cy (Nat.le_mul_of_pos_right _ am) a2;obtain⟨os,O⟩:=Src.acc (P:=P) a7;obtain⟨zs,hz,af⟩:∃zs,Co P e=some zs/\zs.length=sz:=by have:=hE.hzero;simp_all
 by_cases hc:i.len+xs.length<=i.cap
 ·
  cases hb:i.base with
  |none =>
   rw[hb]at g7;simp only at g7;have hx:xs=[]:=by cases xs with
    |nil=>rfl
    |cons r xs=>grind
   have hr:rs=[]:=by cases rs with
    |nil=>rfl
    |cons r xs=>grind
   subst hx;subst hr;simp only[Ck,Nd]at hc g2;refine⟨i,w,?_,rfl,rfl,rfl,Bv _,λ_ _ _=>rfl,λb h=>.inl (by grind),λ_ _=>?_⟩
   .have J:=I.cells 0 w rfl (λ_ _=>rfl);have ad:=I.len;simp only[Ck]at ad;rcases hdu with⟨eu,hdu⟩|hdu <;> simp[J7,hb,Builtin.append_,YE hE.hT,Qh hE.Pr,hdu,ad,<-g2,J]
   .refine⟨g1,by grind,g3,by simp,by simp,by simp,?_⟩
    grind
  |some b =>
   rw[hb]at g7;obtain⟨ah,bs,hh,ac,ay⟩:=g7;subst g1;have hl:=I.flat.len;have a0:(i.off*i.sz+i.len*i.sz)+0+vs.length<=bs.length:=by have:(i.off+(i.len+xs.length))*i.sz<=(i.off+i.cap)*i.sz:=Ih _ (by omega);simp only[Ii]at this ac;omega
   obtain⟨w',aa,q1,q2,q3,q4,q5,q6⟩:=ZL (P:=P) vs bs b (i.off*i.sz+i.len*i.sz) 0 ah w hh a0 I.one;refine⟨{ i with len:=i.len+xs.length },w',?_,q3,q4,q5,by omega,?_,λb' az=>.inl (by grind),?_⟩
   .have J:=I.cells xs.length w rfl (λ_ _=>rfl);simp only[Builtin.append_,J7,hb,Em];rcases hdu with⟨eu,hdu⟩|hdu <;> simp[YE hE.hT,Qh hE.Pr,hdu,I.len,hc,J,Zf,aa]
   .grind
   .intro e0 β';refine gU (b:=b) (us:=Hr os (rs.length*i.sz) []++vs) (by omega) rfl (by grind) hc (by grind) q1 (by rw[PG];omega) (by simp only[Hr];exact(O.flat.ext e0).append (I.flat.ext e0)) ?_;intro j u hu;simp only[Hr]at hu;show(Hr bs _ vs)[i.off*i.sz+j]?=_;rw[YC _ _ _ _ a0];by_cases hj:j<os.length
    .rw[Mm hj]at hu;have ao:=O.flat.len;rw[A5 (by grind)];have:=O.cells rs.length w rfl (λ_ _=>rfl);have au:∀(j:Nat) (u:Value),os[j]?=some u->bs[i.off*i.sz+j]?=some u:=by
      intro j u hu;have b0:=(Az.1 hu).1;have L:(Builtin.firstCells i.sz rs.length (J7 i)).run P w=.ok ⟨(bs.drop (i.off*i.sz)).take (rs.length*i.sz)⟩ w:=by
       simp only[J7,hb,Em];refine iT ?_ ?_
       .grind
       .grind[cells_of_row]
      rw[this]at L;simp only[Result.ok.injEq,Array.mk.injEq,Va]at L;rw[L]at hu;simp only[tE,Y0]at hu;split at hu
      .exact hu
      .omega
     grind
    .rw[Lq (by omega)]at hu;have ao:=O.flat.len
     grind
 ·
  have aj:i.cap<i.len+xs.length:=by omega
  have a4:i.len=rs.length:=g2.symm;have ak:=growslice_fits aj (bytes:=bytes) (by rw[a4];exact a2);obtain⟨V,ae,a1⟩:∃V,P.info? e=some V/\V.bytes=bytes:=by
   have:=hE.xI;cases hz:P.info? e with
   |none=>grind
   |some V=>grind
  obtain⟨z,a6,ai⟩:=SK hz w.drew
  let E:=(Question.appendCap (i.len+xs.length) i.cap e).cut (w.tape w.drawn (.appendCap (i.len+xs.length) i.cap e))
  have ar:i.len+xs.length<=E:=by show _<=(i.len+xs.length)+_ % _;omega
  let rest:=(Builtin.zeroCells z.cells (E - (i.len+xs.length))).toList
  let W:World:={ w.drew with heap:=w.drew.heap.push (.cells ⟨os++vs++rest⟩ e) }
  have Pr:z.cells.size=sz:=by rw[ai]at af;simpa using af
  refine⟨{ base:=some w.heap.size,off:=0,len:=i.len+xs.length,cap:=E,sz:=sz },W,?_,rfl,rfl,rfl,?_,?_,?_,?_⟩
  .have h1:=O.cells i.len w.drew a4 (λ_ _=>rfl);have h2:=I.cells xs.length w.drew rfl (λ_ _=>rfl);have a3:¬(2 ^ 48<Builtin.nextslicecap (i.len+xs.length) i.cap*V.bytes):=by rw[a1];omega
   have ax:V.bytes≠0:=by rw[a1];exact hE.Tt
   have Z:(choose (.appendCap (i.len+xs.length) i.cap e)).run P w=.ok E w.drew:=by simp[run_choose,Question.forced,E]
   obtain⟨a',a8⟩:∃a',J7 i=.slice a' i.len i.cap:=⟨_,rfl⟩;have ap:J7 ({ base:=some w.heap.size,off:=0,len:=i.len+xs.length,cap:=E,sz:=sz }:BI)=.slice (some ⟨w.heap.size,0,none⟩) (i.len+xs.length) E:=by simp[J7]
   rw[ap];rw[a8]at h1 |-;simp only[Builtin.append_];have a9:(⟨os⟩:Array Value)++((⟨vs⟩:Array Value)++Builtin.zeroCells z.cells (E - (i.len+xs.length)))=⟨os++vs++rest⟩:=by apply L5;simp[rest]
   have ab:(Question.appendCap (i.len+xs.length) i.cap e).forced=false:=rfl;rcases hdu with⟨eu,hdu⟩|hdu
   all_goals
    simp[-run_choose,YE hE.hT,Qh hE.Pr,hdu,I.len,hc,typeInfo,ae,ax,a3,Z,h1,h2,a6,newRow,a9];rw[<-H3];rfl
  .show w.heap.size<=(w.heap.push _).size;simp
  .intro b hb _;exact yg w _ hb
  .intro b hb;simp only[B8]at hb;subst hb;exact .inr ⟨Bv _,by show w.heap.size<(w.heap.push _).size;simp⟩
  .intro e0 β';have ag:=O.flat.len;have av:=I.flat.len;have aq:rest.length=(E - (i.len+xs.length))*sz:=by
    show(Builtin.zeroCells _ _).toList.length=_;rw[qN,cg,Pr]
   refine gU (b:=w.heap.size) (vs:=os++vs++rest) (ty:=e) (us:=os++vs) rfl rfl (by grind) ar (by grind) (by show(w.heap.push _)[w.heap.size]?=_;simp) ?_ ((O.flat.ext e0).append (I.flat.ext e0)) ?_
   .simp only[B5,ag,av,aq,Kf];rw[<-Ii,<-Ii]
    grind
   grind
end Go.iA
namespace Go.iA
open Go
variable {P:Program} {o:Oper} {ρ:Iq} {bx:Ac}
inductive Xn(bx:Ac)(sz:Nat):SV->List (List D)->Prop where
 |nil:Xn bx sz (.d .nil) []
 |emp:Xn bx sz (.d .emp) []
 |slice (xs:List (List D)):(∀row,row∈xs->row.length=sz)->Xn bx sz (.d (.slice xs)) xs
 |acc (k:Nat) (xs:List (List D)):(k,Ax.rows sz xs)∈bx->Xn bx sz (.acc k) xs
variable {S:Nat->Prop} {w:World} {β:Names}
def Xn.src{C:Ctx}{sz:Nat}{x:SV}{xs:List (List D)}{v:Value}(h:Xn bx sz x xs)(I:Inv C S w β bx)(E:An S w β x v):∃vs,Src P S w sz xs v vs:=by
 cases h with
 |nil=>cases E with|d _ _ h=>cases h;exact⟨[],.nil⟩
 |emp=>cases E with|d _ _ h=>cases h;exact⟨[],.nil⟩
 |slice _ hs=>cases E with|d _ _ h=>exact Src.slice h hs
 |acc k _ J=>cases E with|acc _=>exact Src.acc (I.box k _ J)
def yn{T U:TypeId}{x y:Operand}(I:o.op=.call { callee:=.builtin .append,args:=#[x,y],argTypes:=#[T,U] }){a:Act}{w w':World}{s v r:Value}(hs:a.eval x=s)(E:a.eval y=v)
  (h:(Builtin.append_ #[T,U] o.type #[s,v]).run P w=.ok r w'):(execOp a.eval o).run P w=.ok (.value r) w':=by simp[execOp,I,resolve,invoke,builtin,hs,E,h]
theorem G3j{T U e sz bytes k:Nat}{x y:Operand}(a0:k<=999999)(ho:o.op=.call { callee:=.builtin .append,args:=#[x,y],argTypes:=#[T,U] }){rs xs:List (List D)}(hE:HI P T e sz bytes)(hU:Kw P U=true)
  (hx:ρ x=.acc k)(W:(k,Ax.rows sz rs)∈bx)(hy:Xn bx sz (ρ y) xs)(J:(rs.length+xs.length)*bytes<=lim) :
  C1 P o ρ bx (.acc k) ((k,.rows sz (rs++xs))::Hx k (Cu k bx)) [k]:=by
 intro C S w β a O ha;obtain⟨vs,Z⟩:=hy.src (P:=P) O ((ha y (mC ho)));have I:=(ha x (mC ho));rw[hx]at I;have hv:a.eval x=J7 (β k):=by generalize a.eval x=v at I;cases I;rfl
 obtain⟨i',w',V,q1,q2,q3,q4,q5,q6,q7⟩:=l8 hE hU (O.box k _ W) (λb E=>⟨(O.Bk k _ W b E).1,(O.Bk k _ W b E).2.1⟩) Z J o.type;have L:∀b,i'.base=some b->¬S b/\b<w'.heap.size/\(w.heap.size<=b\/∃x,(k,x)∈bx/\(β k).base=some b):=by intro b E;rcases q6 b E with h|⟨h1,h2⟩;obtain⟨g1,g2,_⟩:=O.Bk k _ W b h;grind;exact⟨λhs=>by have:=O.C9 b hs;omega,h2,.inl h1⟩
 obtain⟨h1,h2⟩:=O.Vj (k:=k) (c:=.rows sz (rs++xs)) i' a0 L (λb' E hn=>q5 b' E (hn _ W)) q1 q2 q3 q4 (λe0=>q7 e0 _);refine Ja ?_;unfold Oper.wp;rw[yn ho hv rfl V];refine⟨_,S,_,rfl,h1,h2,?_,λj hj=>Mz (by grind)⟩;have:=An.acc (S:=S) (w:=w') (β:=F4 β k i') k;rw[Ht]at this;exact this
def nP{sz:Nat} :E4 S w β { base:=none,sz:=sz } (.rows sz []) :=⟨rfl,rfl,Bv _,by simp,by simp,by simp,rfl⟩
theorem G5f{T U e sz bytes k:Nat}{x y:Operand}(W:k<=999999)(Z:o.op=.call { callee:=.builtin .append,args:=#[x,y],argTypes:=#[T,U] }){xs:List (List D)}(hE:HI P T e sz bytes)(hU:Kw P U=true)
  (hx:ρ x=.d .nil)(hy:Xn bx sz (ρ y) xs)(a0:xs.length*bytes<=lim) :
  C1 P o ρ bx (.acc k) ((k,.rows sz xs)::Hx k (Cu k bx)) [k]:=by
 intro C S w β a hi ha;obtain⟨vs,O⟩:=hy.src (P:=P) hi ((ha y (mC Z)));have E:=(ha x (mC Z));rw[hx]at E;have hv:a.eval x=J7 { base:=none,sz:=sz }:=by generalize a.eval x=v at E;cases E with|d _ _ h=>cases h;rfl
 obtain⟨i',w',L,q1,q2,q3,q4,q5,q6,q7⟩:=l8 (rs:=[]) hE hU (nP (S:=S) (w:=w) (β:=β)) (by simp) O (by grind) o.type;have I:∀b,i'.base=some b->¬S b/\b<w'.heap.size/\(w.heap.size<=b\/∃x,(k,x)∈bx/\(β k).base=some b):=by intro b J;rcases q6 b J with h|⟨h1,V⟩;grind;exact⟨λhs=>by have:=hi.C9 b hs;omega,V,.inl h1⟩
 obtain⟨h1,V⟩:=hi.Vj (k:=k) (c:=.rows sz xs) i' W I (λb' J _=>q5 b' J (by simp)) q1 q2 q3 q4 (λe0=>by grind);refine Ja ?_;unfold Oper.wp;rw[yn Z hv rfl L];refine⟨_,S,_,rfl,h1,V,?_,λj hj=>Mz (by grind)⟩;have:=An.acc (S:=S) (w:=w') (β:=F4 β k i') k;rw[Ht]at this;exact this
def E4.KN{i:BI}{sz:Nat}{rs:List (List D)}(h:E4 S w β i (.rows sz rs))(hS:∀b,i.base=some b->S b):C5 S w (.slice rs) (J7 i):=by
 obtain⟨vs,hs⟩:=Src.acc (P:=default) h;obtain⟨V,g2,J,g4,Z,W,E⟩:=h;subst V;unfold J7;rw[<-g2]at J |-;cases I:i.base with
 |none =>
  rw[I]at E;simp only at E;have:rs=[]:=by cases rs with|nil=>rfl|cons r xs=>grind
  subst this;rw[E];exact .Nv none 0 (λ_=>rfl)
 |some b =>
  rw[I]at E;obtain⟨ty,us,U,O,L⟩:=E;simp only[Em];refine .slice rs b _ _ i.sz (hS b I) g4 J Z W ?_ ?_
  .intro r j hr hj;have h1:(i.off+r+1)*i.sz<=(i.off+i.cap)*i.sz:=Ih _ (by omega);have h2:(i.off+r+1)*i.sz=i.off*i.sz+(r*i.sz+i.sz):=by rw[Ii,Ii,rJ,Uf]
   have a0:i.off*i.sz+(r*i.sz+j)<us.length:=by omega
   exact⟨us[i.off*i.sz+(r*i.sz+j)],by rw[cells_of_row U];simp⟩
  grind[cells_of_row]
def Inv.Km{C:Ctx}{k sz:Nat}{rs:List (List D)}(h:Inv C S w β bx)(J:(k,Ax.rows sz rs)∈bx) :Inv C (λb=>S b\/(β k).base=some b) w β (Cu k bx)/\Cg S w (λb=>S b\/(β k).base=some b) w/\C5 (λb=>S b\/(β k).base=some b) w (.slice rs) (J7 (β k)):=by
 have e:Cg S w (λb=>S b\/(β k).base=some b) w:=⟨λ_ h=>.inl h,λ_ _=>rfl⟩;refine⟨?_,e,(E4.ext (h.box k _ J) e (λ_ _=>rfl) (λ_ _=>rfl)).KN λb hb=>.inr hb⟩;exact{
  G7:=λb hb=>.inl (h.G7 b hb)
  F9:=λb hb=>by
   rcases hb with hb|hb
   .exact h.F9 b hb
   .exact .inr (h.Bk k _ J b hb).2.2
  C9:=λb hb=>by
   rcases hb with hb|hb
   .exact h.C9 b hb
   .exact(h.Bk k _ J b hb).2.1
  kept:=h.kept
  os:=h.os
  tape:=h.tape
  output:=h.output
  size:=h.size
  box:=λj c E=>by obtain⟨O,E⟩:=Ev.1 E;exact(h.box j c E).ext e (λ_ _=>rfl) (λ_ _=>rfl)
  Bk:=λj c E b hb=>by
   obtain⟨O,E⟩:=Ev.1 E;obtain⟨h1,W,h3⟩:=h.Bk j c E b hb;refine⟨λhs=>?_,W,h3⟩;rcases hs with hs|hs
   .grind
   .exact O (h.inj j c k _ E J b hb hs).1
  inj:=λj c j' U E Z b hb a0=>h.inj j c j' U (Ev.1 E).2 (Ev.1 Z).2 b hb a0
  one:=λk Y st V Y' st' J I=>h.one k Y st V Y' st' (Ev.1 J).2 (Ev.1 I).2
  Gf:=λj Y st E=>by
   obtain⟨h1,W,h3,h4,B,h5,L⟩:=h.Gf j Y st (Ev.1 E).2;have a1:=h.size;have hB:∀b,B b->¬(S b\/(β k).base=some b):=λb hb hs=>hs.elim (L b hb).1 ((L b hb).2.2.2 k _ J);refine⟨h1,W,h3,λV U I=>h4 V U (Ev.1 I).2,B,W.Xi st B S w _ w h5 ⟨λ_ h=>.inl h,λb hb=>hb.imp id λhb=>by grind,λb hb=>?_,hB,λ_ _=>rfl,rfl,rfl,rfl,Bv _⟩,λb hb=>⟨hB b hb,(L b hb).2.1,(L b hb).2.2.1,λV U I=>(L b hb).2.2.2 V U (Ev.1 I).2⟩⟩;rcases hb with hb|hb
   .exact h.C9 b hb
   .exact(h.Bk k _ J b hb).2.1
  Ek:=λb cs hv=>⟨.inl (h.Ek b cs hv).1,(h.Ek b cs hv).2⟩
  fix:=h.fix }
end Go.iA
namespace Go.iA
open Go
variable {P:Program} {o:Oper} {ρ:Iq} {bx:Ac}
def Enters(P:Program)(f:FuncId):Prop:=∃fn,P.funcs[f]?=some fn/\(fn.name == "runtime.NumGoroutine")=false/\fn.body.isNone=false
def Ci(P:Program)(f:FuncId)(args:List SV)(pre:Ac)(r:SV)(E:Ac):Prop :=Enters P f/\∀(C:Ctx) (β:Names) (vs:List Value),Inv C C.S0 C.w0 β pre->C7 C.S0 C.w0 β args vs ->Calls P f ⟨vs⟩ C.w0 (λe w'=>∃v S' β',e=.returned v/\Inv C S' w' β' E/\An S' w' β' r v)
def Ab(P:Program)(f:FuncId)(args:List SV)(r:SV):Prop:=Ci P f args [] r []
def tD{f:FuncId}(O:Enters P f){fo:Operand}{args:Array Operand}{Dr:Array TypeId}(I:o.op=.call { callee:=.value fo,args:=args,argTypes:=Dr }){a:Act}{caps:Array Value}(E:a.eval fo=.func (.func f) #[] caps)(w:World) :(execOp a.eval o).run P w=.ok (.enter f (args.map a.eval++caps)) w:=by obtain⟨fn,U,J,L⟩:=O;simp only[execOp,I,resolve,Deferred.ofValue,E,invoke,callFunc,Ha,L3,Hp,run_program,U,J,L,Iu,Gi,Array.empty_append]
def D.flat:D->Bool
 |.int _ _| .bool _| .str _| .nil| .Mo| .N6| .Hd| .G3=>true
 |_=>false
def SV.scalar:SV->Bool
 |.d x=>x.flat
 |.undef=>true
 |.tuple xs=>xs.all λx=>match x with| .d y=>y.flat| .undef=>true|_=>false
 |_=>false
def C5.scalar{S S':Nat->Prop}{w w':World}{x:D}{v:Value}(h:C5 S w x v)(hs:x.flat=true):C5 S' w' x v:=by cases h <;> simp[D.flat]at hs <;> constructor;omega
def An.scalar{S S':Nat->Prop}{w w':World}{β β':Names}{x:SV}{v:Value}(h:An S w β x v)(hs:x.scalar=true):An S' w' β' x v:=by
 cases h with
 |undef=>exact .undef _
 |d x v h=>exact .d _ _ (h.scalar (by simpa [SV.scalar]using hs))
 |tuple cells vs O J =>
  refine .tuple cells vs O ?_;intro j c v E I;have L:=J j c v E I;simp only[SV.scalar]at hs;have:=Dz.1 hs c (Bs E);cases L with
  |d x v h=>exact .d _ _ (h.scalar (by omega))
  |undef=>exact .undef _
  |_=>grind
 |_=>simp[SV.scalar]at hs
def A9(bx:Ac)(k:Nat):Option Ax :=match bx with
 |[]=>none
 |(j,c)::r=>if j=k then some c else A9 r k
theorem Ho{k:Nat}{c:Ax} :∀{bx:Ac},A9 bx k=some c->(k,c)∈bx
 |[],h=>by simp[A9]at h
 |(j,x)::r,h=>by simp only[A9]at h;split at h;grind;simp[Ho h]
mutual
def coerce(bx:Ac):SV->Option SV
 |.d .nil=>some (.d (.slice []))
 |.d .emp=>some (.d (.slice []))
 |.d x=>some (.d x)
 |.undef=>some .undef
 |.Fg l=>some (.Fg l)
 |.A8 c off=>some (.A8 c off)
 |.agg cs=>match Gz bx cs with
  |some l=>if l.all SV.one then some (.agg l)else none
  |none=>none
 |.tuple cs=>match Gz bx cs with
  |some l=>some (.tuple l)
  |none=>none
 |.Bi f cs=>match Gz bx cs with
  |some l=>some (.Bi f l)
  |none=>none
 |.acc k=>match A9 bx k with
  |some (.rows _ rs)=>some (.d (.slice rs))
  |_=>none
 |.mp k=>match A9 bx k with
  |some (.map kvs)=>some (.d (.map kvs))
  |_=>none
 |.box _ _=>none
 |.Fa _ _ _=>none
 |.Fy cs off=>if SV.Ng cs then some (.Fy cs off)else none
def Gz(bx:Ac):List SV->Option (List SV)
 |[]=>some []
 |c::cs=>match coerce bx c with
  |some x=>match Gz bx cs with
   |some l=>some (x::l)
   |none=>none
  |none=>none
end
variable {C:Ctx} {S:Nat->Prop} {w:World}
def Inv.bd{β:Names}(h:Inv C S w β bx):Cg S w (λb=>b<w.heap.size) w:=⟨λb E=>h.C9 b E,λ_ _=>rfl⟩
abbrev all(w:World):Nat->Prop:=λb=>b<w.heap.size
mutual
theorem aH{C:Ctx}{S S1:Nat->Prop}{w:World}{β:Names}(hi:Inv C S w β bx)(J:Cg S w S1 w)(Z:∀k c,(k,c)∈bx->∀b,(β k).base=some b->S1 b):∀{x y:SV} {v:Value},coerce bx x=some y->An S w β x v->An S1 w β y v/\y.closed=true
 |.undef,y,v,h,E=>by simp only[coerce,B8]at h;subst h;exact⟨.undef v,rfl⟩
 |.A8 c off,y,v,h,E=>by simp only[coerce,B8]at h;subst h;exact⟨E.ext J (λ_ _=>rfl),rfl⟩
 |.d x,y,v,h,E=>by
  have L:An S1 w β (.d x) v:=E.ext J (λ_ _=>rfl);cases x <;> simp only[coerce,B8]at h <;> subst h <;> first
   |exact⟨L,rfl⟩
   |exact⟨.d _ _ L.Js.of_nil,rfl⟩
   |exact⟨.d _ _ L.Js.WT,rfl⟩
 |.agg cs,y,v,h,E=>by
  simp only[coerce]at h;cases I:Gz bx cs with
  |none=>simp[I]at h
  |some l =>
   simp only[I]at h;split at h
   .rename_i a2;simp only[B8]at h;subst h;cases E with
    |agg _ vs h1 h2 h3 =>obtain⟨W,g2⟩:=Vt hi J Z I ⟨h1,h3⟩;exact⟨YA W a2,by simp only[SV.closed];exact g2⟩
   simp at h
 |.tuple cs,y,v,h,E=>by
  simp only[coerce]at h;cases I:Gz bx cs with
  |none=>simp[I]at h
  |some l =>
   simp only[I,B8]at h;subst h;cases E with
   |tuple _ vs h1 h3 =>obtain⟨W,g2⟩:=Vt hi J Z I ⟨h1,h3⟩;exact⟨.tuple _ _ W.1 W.2,by simp only[SV.closed];exact g2⟩
 |.Bi f cs,y,v,h,E=>by
  simp only[coerce]at h;cases I:Gz bx cs with
  |none=>simp[I]at h
  |some l =>
   simp only[I,B8]at h;subst h;cases E with
   |Bi _ _ vs h1 h3 =>obtain⟨W,g2⟩:=Vt hi J Z I ⟨h1,h3⟩;exact⟨.Bi _ _ _ W.1 W.2,by simp only[SV.closed];exact g2⟩
 |.acc k,y,v,h,E=>by
  simp only[coerce]at h;cases V:A9 bx k with
  |none=>simp[V]at h
  |some c =>
   cases c <;> simp[V]at h;subst h;cases E with
   |acc _ =>refine⟨.d _ _ ?_,rfl⟩;exact(E4.ext (hi.box k _ (Ho V)) J (λ_ _=>rfl) (λ_ _=>rfl)).KN λb a4=>Z k _ (Ho V) b a4
 |.mp k,y,v,h,E=>by
  simp only[coerce]at h;cases V:A9 bx k with
  |none=>simp[V]at h
  |some c =>
   cases c <;> simp[V]at h;subst h;cases E with
   |mp _ b O =>obtain⟨b',es,a1,h1,h2,h3,h4⟩:=hi.box k _ (Ho V);rw[O]at h1;cases h1;refine⟨.d _ _ (.map _ b es a1 (Z k _ (Ho V) b O) h2 h3 ?_ ?_),rfl⟩;intro i kv e hk a0;exact(h4 i kv e hk a0).1.ext J;intro i kv e hk a0;exact(h4 i kv e hk a0).2.ext J
 |.box _ _,y,v,h,E=>by simp[coerce]at h
 |.Fa _ _ _,y,v,h,E=>by simp[coerce]at h
 |.Fg l,y,v,h,E=>by simp only[coerce,B8]at h;subst h;cases E;exact⟨.Fg l,rfl⟩
 |.Fy cs off,y,v,h,E=>by
  simp only[coerce]at h;split at h
  .rename_i a3;simp only[B8]at h;subst h;have U:(SV.Fy cs off).closed=true:=by simpa [SV.closed]using a3
   exact⟨E.ext J λk hk=>absurd hk (by rw[tB k U];simp),U⟩
  simp at h
theorem Vt{C:Ctx}{S S1:Nat->Prop}{w:World}{β:Names}(hi:Inv C S w β bx)(J:Cg S w S1 w)(Z:∀k c,(k,c)∈bx->∀b,(β k).base=some b->S1 b):∀{cs l:List SV} {vs:List Value},Gz bx cs=some l->C7 S w β cs vs->C7 S1 w β l vs/\SV.Ng l=true
 |[],l,vs,h,E=>by simp only[Gz,B8]at h;subst h;exact⟨⟨E.1,by simp⟩,rfl⟩
 |c::cs,l,vs,h,E=>by
  simp only[Gz]at h;cases U:coerce bx c with
  |none=>simp[U]at h
  |some x =>
   cases I:Gz bx cs with
   |none=>simp[U,I]at h
   |some m =>
    simp only[U,I,B8]at h;subst h;cases vs with
    |nil=>have:=E.1;simp at this
    |cons v vs =>obtain⟨W,g2⟩:=aH hi J Z U (E.2 0 c v rfl rfl);obtain⟨q1,q2⟩:=Vt hi J Z I ⟨by have:=E.1;simpa using this,λj c v U L=>E.2 (j+1) c v (by simpa using U) (by simpa using L)⟩;exact⟨.cons W q1,by simp only[SV.Ng,g2,q2,Bool.and_self]⟩
end
def MA{β:Names}{a:Act} :∀(xs:List Operand),(∀x,x∈xs->An S w β (ρ x) (a.eval x))->C7 S w β (xs.map ρ) (xs.map a.eval)
 |[],_=>.nil
 |x::xs,E=>.cons (E x (by simp)) (MA xs λy I=>E y (by grind))
def Inv.begin{S E:Nat->Prop}{β L:Names}(h:Inv C S w β bx)(J:∀b,E b->b<w.heap.size)(I:∀b,S b->E b):Inv ⟨w,E,λ_=>False,λ_ _=>False,C.G⟩ E w L [] where
 G7 _ hb:=hb
 F9 _ hb:=.inl hb
 C9:=J
 kept _ _ _:=rfl
 os:=rfl
 tape:=rfl
 output:=rfl
 size:=Bv _
 box k c hk:=by grind
 Bk k c hk:=by grind
 inj k c k' c' hk:=by simp
 fix _ _ h:=h.elim
 Ek b cs hv:=⟨I b (h.Ek b cs hv).1,(h.Ek b cs hv).2⟩
 one k Y st k' Y' st' hk:=by simp
 Gf k Y st hk:=by grind
def Inv.back{S I S':Nat->Prop}{w w':World}{β β':Names}(h:Inv C S w β bx)(E:Inv ⟨w,I,λ_=>False,λ_ _=>False,C.G⟩ S' w' β' []) :Inv C (λb=>S b\/(S' b/\w.heap.size<=b)) w' β bx/\Cg S w (λb=>S b\/(S' b/\w.heap.size<=b)) w':=by refine h.grow (λb hb=>.inl hb) ?_ ?_ (λb hb=>E.kept b hb (by simp)) E.os E.tape E.output E.size;grind;intro b hb;rcases hb with hb|hb;have:=h.C9 b hb;have:=E.size;grind;exact E.C9 b hb.1
variable {fo:Operand}
def iw{f:FuncId}{args:Array Operand}{Dr:Array TypeId}(Z:o.op=.call { callee:=.value fo,args:=args,argTypes:=Dr }){caps I:List SV}{r:SV}
  (hf:ρ fo=.Bi f caps)(O:Gz [] (args.toList.map ρ++caps)=some I)(hc:Ab P f I r)(hr:r.closed=true):C1 P o ρ bx r bx []:=by
 intro C S w β a hi ha;have L:=(ha fo (mC Z));rw[hf]at L;generalize W:a.eval fo=v at L;cases L with
 |Bi _ _ cs h1 h2 =>
  have U:C7 S w β (args.toList.map ρ++caps) (args.toList.map a.eval++cs):=(MA _ λx hx=>ha x (mo Z (by grind[Op.operands,Call.operands]))).append ⟨h1,h2⟩;have V:Inv ⟨w,S,λ_=>False,λ_ _=>False,C.G⟩ S w β []:=hi.begin hi.C9 (λ_ h=>h);obtain⟨g1,g2⟩:=Vt V (Cg.refl S w) (by simp) O U;have J:=hc.2 ⟨w,S,λ_=>False,λ_ _=>False,C.G⟩ β _ V g1;refine Ja ?_;unfold Oper.wp;rw[tD hc.1 Z W,gC];have E:args.map a.eval++(⟨cs⟩:Array Value)=⟨args.toList.map a.eval++cs⟩:=by apply L5;simp
  rw[E];refine J.mono ?_;rintro e w' ⟨v,S',β',rfl,hk,hv⟩;obtain⟨q1,q2⟩:=hi.back hk;have e':Cg S' w' (λb=>S b\/(S' b/\w.heap.size<=b)) w':=⟨λb hb=>by rcases hk.F9 b hb with h|h|h;grind;grind;grind,λ_ _=>rfl⟩;exact⟨v,_,β,rfl,q1,q2,(hv.ext e' (λ_ _=>rfl)).closed hr,λ_ _=>rfl⟩
def H5g{f:FuncId}{args:Array Operand}{Dr:Array TypeId}(ho:o.op=.call { callee:=.value fo,args:=args,argTypes:=Dr }){caps I:List SV}{r:SV}
  (hf:ρ fo=.Bi f caps)(O:Gz bx (args.toList.map ρ++caps)=some I)(hc:Ab P f I r)(hr:r.scalar=true):C1 P o ρ bx r bx []:=by
 intro C S w β a U ha;have L:=(ha fo (mC ho));rw[hf]at L;generalize Z:a.eval fo=v at L;cases L with
 |Bi _ _ cs h1 h2 =>
  have V:C7 S w β (args.toList.map ρ++caps) (args.toList.map a.eval++cs):=(MA _ λx hx=>ha x (mo ho (by grind[Op.operands,Call.operands]))).append ⟨h1,h2⟩;have a0:Inv ⟨w,all w,λ_=>False,λ_ _=>False,C.G⟩ (all w) w β []:=U.begin (λ_ hb=>hb) U.C9;obtain⟨g1,g2⟩:=Vt U U.bd (λk c W b hb=>(U.Bk k c W b hb).2.1) O V;have J:=hc.2 ⟨w,all w,λ_=>False,λ_ _=>False,C.G⟩ β _ a0 g1;refine Ja ?_;unfold Oper.wp;rw[tD hc.1 ho Z,gC];have E:args.map a.eval++(⟨cs⟩:Array Value)=⟨args.toList.map a.eval++cs⟩:=by apply L5;simp
  rw[E];refine J.mono ?_;rintro e w' ⟨v,S',β',rfl,W,hv⟩;obtain⟨q1,q2⟩:=U.back W;exact⟨v,_,β,rfl,q1,q2,hv.scalar hr,λ_ _=>rfl⟩
def TH(q k:Nat):SV->SV
 |.acc j=>if j=q then .acc k else .undef
 |.tuple [.acc j,x]=>if j=q then(if x.closed then .tuple [.acc k,x]else .undef)else .undef
 |_=>.undef
theorem H4h{β J:Names}{q k:Nat}{i:BI}{r:SV}{v:Value}(h:An S w J r v)(U:J q=i):An S w (F4 β k i) (TH q k r) v:=by
 have I:∀u,An S w J (.acc q) u->An S w (F4 β k i) (.acc k) u:=λu W=>by cases W;rw[U];have:=An.acc (S:=S) (w:=w) (β:=F4 β k i) k;grind[Ht]
 unfold TH;split;split;grind;exact .undef _
 .split
  .split
   .rename_i Z
    subst_vars
    cases h with
    |tuple _ vs V O =>
     refine .tuple _ vs V λn c v E L=>?_
     match n,E with
     |0,E=>simp only[Rh,B8]at E;subst E;exact I _ (O 0 _ v rfl L)
     |1,E=>simp only[WC,Rh,B8]at E;subst E;exact(O 1 _ v rfl L).closed Z
     |n+2,E=>simp at E
   exact .undef _
  exact .undef _
 exact .undef _
theorem F5v{f:FuncId}{args:Array Operand}{Dr:Array TypeId}{k:Nat}(a0:k<=999999)(ho:o.op=.call { callee:=.value fo,args:=args,argTypes:=Dr }){caps I:List SV}{q sz:Nat}{rows:List (List D)}{r:SV}
  (hf:ρ fo=.Bi f caps)(V:Gz [] (args.toList.map ρ++caps)=some I)(hc:Ci P f I [] r [(q,.rows sz rows)]) :
  C1 P o ρ bx (TH q k r) ((k,.rows sz rows)::Hx k (Cu k bx)) [k]:=by
 intro C S w β a hi ha;have O:=(ha fo (mC ho));rw[hf]at O;generalize a1:a.eval fo=v at O;cases O with
 |Bi _ _ cs h1 h2 =>
  have W:C7 S w β (args.toList.map ρ++caps) (args.toList.map a.eval++cs):=(MA _ λx hx=>ha x (mo ho (by grind[Op.operands,Call.operands]))).append ⟨h1,h2⟩;have Z:Inv ⟨w,S,λ_=>False,λ_ _=>False,C.G⟩ S w β []:=hi.begin hi.C9 (λ_ h=>h);obtain⟨g1,g2⟩:=Vt Z (Cg.refl S w) (by simp) V W;have L:=hc.2 ⟨w,S,λ_=>False,λ_ _=>False,C.G⟩ β _ Z g1;refine Ja ?_;unfold Oper.wp;rw[tD hc.1 ho a1,gC];have E:args.map a.eval++(⟨cs⟩:Array Value)=⟨args.toList.map a.eval++cs⟩:=by apply L5;simp
  rw[E];refine L.mono ?_;rintro e w' ⟨v,S',β',rfl,J,hv⟩;have a2:∀b,S' b->S b\/w.heap.size<=b:=λb U=>by rcases J.F9 b U with h|h|h;grind;grind;grind
  obtain⟨p1,p2⟩:=hi.KX (k:=k) (w':=w') (S':=S') (c:=.rows sz rows) (β' q) a0 (λb U=>J.G7 b U) a2 J.C9 (by
    intro b U;obtain⟨g1,g2,g3⟩:=J.Bk q (.rows sz rows) (by simp) b U
    grind)
   (λb U _=>J.kept b U (by simp)) J.os J.tape J.output J.size (λ_=>E4.ext (c:=.rows sz rows) (J.box q (.rows sz rows) (by simp)) (Cg.refl _ _) (λ_ _=>rfl) (by simp[Ax.has]))
  grind[H4h,Mz]
end Go.iA
namespace Go.iA
open Go
variable {P:Program}
def Aq(sl:SL):Operand->SV
 |.tmp t=>Ae sl t
 |.const v=>M5 v
 |.func f=>.Bi f []
 |.global _=>.undef
def Gt(sl:SL)(dst:Option Nat)(r:SV):SL :=match dst with
 |some t=>(t,r)::sl
 |none=>sl
def H0:List Nat->SL->SL
 |[],sl=>sl
 |k::ks,sl=>H0 ks (Y9 k sl)
def vF(o:Oper):Bool:=match o.op with| .defer _=>false|_=>true
variable {o:Oper}
def G8p(h:vF o=true):∀c,o.op≠.defer c:=by grind[vF]
def Sj(n:Nat)(dst:Option Nat):Prop :=match dst with
 |some t=>t<n
 |none=>True
def Marks(C:Ctx)(S:Nat->Prop)(w:World)(ds:List Deferred):Prop :=∃Ds:List Nat,ds=Ds.map (λD=>({ target:=.collected D,args:=#[] }:Deferred))/\Ds.Nodup/\∀D,D∈Ds->S D/\C.w0.heap.size<=D/\w.heap[D]?=some (.deferred (some []))
variable {C:Ctx} {S:Nat->Prop} {w:World}
theorem Marks.nil :Marks C S w []:=⟨[],rfl,by simp,by simp⟩
def Marks.ext{S S':Nat->Prop}{w w':World}{ds:List Deferred}(h:Marks C S w ds)(e:Cg S w S' w'):Marks C S' w' ds:=by obtain⟨Ds,L,J,E⟩:=h;exact⟨Ds,L,J,λD I=>⟨e.sub D (E D I).1,(E D I).2.1,(e.same D (E D I).1).trans (E D I).2.2⟩⟩
variable {a:Act}
def Marks.put{S S':Nat->Prop}{w w':World}{dst:Option Tmp}{v:Value}(h:Marks C S w a.defers)(e:Cg S w S' w'):Marks C S' w' (a.put dst v).defers:=by
 have:(a.put dst v).defers=a.defers:=by cases dst <;> rfl
 rw[this];exact h.ext e
structure St(C:Ctx)(n:Nat)(S:Nat->Prop)(w:World)(β:Names)(a:Act)(sl:SL)(bx:Ac):Prop where
 inv:Inv C S w β bx
 size:a.tmps.size=n
 defers:Marks C S w a.defers
 slot:∀t,An S w β (Ae sl t) (a.tmps.getD t undef)
variable {β:Names}
def St.Aq{n:Nat}{sl:SL}{bx:Ac}(h:St C n S w β a sl bx)(x:Operand):An S w β (Aq sl x) (a.eval x):=by
 cases x with
 |tmp t=>exact h.slot t
 |const v=>exact zH S w β v
 |global g=>exact .undef _
 |func f=>exact .Bi f [] [] rfl (by simp)
def F7o{t u:Nat}{v:Value}(h:t<a.tmps.size):(a.put (some t) v).tmps.getD u undef=if t=u then v else a.tmps.getD u undef:=by simp only[Act.put,wR,Array.getElem?_setIfInBounds];grind
def St.put{n:Nat}{S S':Nat->Prop}{w w':World}{β β':Names}{sl:SL}{bx bx':Ac}{dst:Option Nat}{v:Value}{r:SV}{pg:List Nat}(h:St C n S w β a sl bx)(hd:Sj n dst)
  (Z:Inv C S' w' β' bx')(O:Cg S w S' w')(hr:An S' w' β' r v)(hb:∀k,k∉pg->β' k =β k):St C n S' w' β' (a.put dst v) (Gt (H0 pg sl) dst r) bx':=by
 have J:∀(ks:List Nat) (sl:SL) (t:Nat) (u:Value),An S w β (Ae sl t) u->(∀k,(Ae (H0 ks sl) t).has k=true->k∉ks/\(Ae sl t).has k=true)/\An S w β (Ae (H0 ks sl) t) u:=by
  intro ks
  induction ks with
  |nil=>intro sl t u W;exact⟨λk U=>⟨by simp,U⟩,W⟩
  |cons k ks ih =>
   intro sl t u W;have hp:An S w β (Ae (Y9 k sl) t) u:=by rw[KJ];unfold Nr;split;exact .undef _;exact W
   obtain⟨V,L⟩:=ih (Y9 k sl) t u hp;refine⟨λj hj=>?_,L⟩;obtain⟨g1,I⟩:=V j hj;rw[KJ]at I;unfold Nr at I;split at I;simp[SV.has]at I;grind
 have E:∀t,An S' w' β' (Ae (H0 pg sl) t) (a.tmps.getD t undef):=by intro t;obtain⟨V,L⟩:=J pg sl t _ (h.slot t);exact L.ext O λk U=>hb k (V k U).1
 cases dst with
 |none=>exact⟨Z,h.size,h.defers.ext O,E⟩
 |some d =>refine⟨Z,by simp[Act.put,h.size],h.defers.put O,?_⟩;intro t;rw[F7o (by rw[h.size];exact hd)];grind[Gt,Ae]
def FW(ro:Option Nat):Fence:={ Fence.wide with round:=ro }
def H5q:FW none=Fence.wide:=rfl
def A0(ro:Option Nat)(P:Program)(n:Nat)(c:Code)(Q:Exit->SL->Ac->Prop)(sl:SL)(bx:Ac):Prop :=∀(C:Ctx) (S:Nat->Prop) (w:World) (β:Names) (a:Act),St C n S w β a sl bx ->c.wpIn (FW ro) 0 P (λe E w'=>∃sl' bx' S' β',Q e sl' bx'/\St C n S' w' β' E sl' bx') a w
variable {ro:Option Nat} {n:Nat} {Q:Exit->SL->Ac->Prop} {sl:SL} {bx:Ac}
variable {c:Code}
def A0.mono{E:Exit->SL->Ac->Prop}(h:A0 ro P n c Q sl bx)(I:∀e sl bx,Q e sl bx->E e sl bx):A0 ro P n c E sl bx :=λC S w β a hs=>PC (h C S w β a hs) λ_ _ _ ⟨sl',bx',S',β',q,r⟩=>⟨sl',bx',S',β',I _ _ _ q,r⟩
def cA(h:Q .normal sl bx):A0 ro P n .skip Q sl bx:=λ_ S _ β _ hs=>wpIn_skip ⟨sl,bx,S,β,h,hs⟩
def A0.ret(h:Q .ret sl bx):A0 ro P n .ret Q sl bx:=λ_ S _ β _ hs=>wpIn_ret ⟨sl,bx,S,β,h,hs⟩
def lA{id:Nat}(h:Q (.exit id) sl bx):A0 ro P n (.exit id) Q sl bx:=λ_ S _ β _ hs=>wpIn_exit ⟨sl,bx,S,β,h,hs⟩
def Aa(K:SL->Ac->Prop)(Q:Exit->SL->Ac->Prop):Exit->SL->Ac->Prop
 |.normal,sl,bx=>K sl bx
 |e,sl,bx=>Q e sl bx
def Af(id:Nat)(Q:Exit->SL->Ac->Prop):Exit->SL->Ac->Prop
 |.exit E,sl,bx=>if E=id then Q .normal sl bx else Q (.exit E) sl bx
 |e,sl,bx=>Q e sl bx
def A0.seq{x y:Code}(h:A0 ro P n x (Aa (A0 ro P n y Q) Q) sl bx):A0 ro P n (.seq x y) Q sl bx:=by
 intro C S w β a hs;refine wpIn_seq (PC (h C S w β a hs) ?_);rintro e E w' ⟨sl',bx',S',β',q,r⟩;cases e with
 |normal=>exact q C S' w' β' E r
 |_=>exact⟨sl',bx',S',β',q,r⟩
def bA{id:Nat}(h:A0 ro P n c (Af id Q) sl bx):A0 ro P n (.block id c) Q sl bx:=by
 intro C S w β a hs;refine wpIn_block (PC (h C S w β a hs) ?_);rintro e I w' ⟨sl',bx',S',β',q,r⟩;cases e with
 |exit E =>simp only[Af]at q;simp only[Exit.inBlock];grind
 |_=>exact⟨sl',bx',S',β',q,r⟩
def A0.cond{c:Operand}{x y:Code}{t:Bool}(I:Aq sl c=.d (.bool t))(L:t=true->A0 ro P n x Q sl bx)(J:t=false->A0 ro P n y Q sl bx):A0 ro P n (.cond c x y) Q sl bx:=by intro C S w β a hs;have E:=hs.Aq c;rw[I]at E;exact wpIn_cond_split E.Yg (λh=>L h C S w β a hs) (λh=>J h C S w β a hs)
def B0(x y:SV):Prop:=y=.undef\/x=y\/(y=.d (.slice [])/\(x=.d .nil\/x=.d .emp))
def sle(sl:SL):SL->Prop
 |[]=>True
 |(t,y)::r=>B0 (Ae sl t) y/\sle sl r
def dz{x y:SV}{v:Value}(h:B0 x y)(hr:An S w β x v):An S w β y v:=by rcases h with rfl|rfl|⟨rfl,rfl|rfl⟩;exact .undef _;exact hr;exact .d _ _ hr.Js.of_nil;exact .d _ _ hr.Js.WT
def vn :∀{sl':SL},sle sl sl'->∀{t:Nat} {v:Value},An S w β (Ae sl t) v->An S w β (Ae sl' t) v
 |[],_,t,v,_=>.undef _
 |(u,y)::r,h,t,v,hr=>by
  simp only[Ae];split
  .subst_vars;exact dz h.1 hr
  .exact vn h.2 hr
def ble(bx:Ac):Ac->Prop
 |[]=>True
 |(k,c)::r=>A9 bx k=some c/\ble bx r
def LJ:∀{bx':Ac},ble bx bx'->∀k c,(k,c)∈bx'->(k,c)∈bx
 |[],_,k,c,h=>by grind
 |(j,x)::r,h,k,c,hm=>by simp only[Ay,Gg]at hm;rcases hm with⟨rfl,rfl⟩|hm;exact Ho h.1;exact LJ h.2 k c hm
def St.weaken{sl':SL}{bx':Ac}(h:St C n S w β a sl bx)(I:sle sl sl')(E:ble bx bx'):St C n S w β a sl' bx' :=⟨h.inv.sub (LJ E),h.size,h.defers,λt=>vn I (h.slot t)⟩
def A0.ww{sl':SL}{bx':Ac}(I:sle sl sl')(E:ble bx bx')(h:A0 ro P n c Q sl' bx'):A0 ro P n c Q sl bx :=λC S w β a hs=>h C S w β a (hs.weaken I E)
def A0.loop{X:Type}(mk:X->SL)(mb:X->Ac)(I:X->Prop)(μ:X->Nat){c:Code}(J:X)(W:I J)(L:sle sl (mk J))(O:ble bx (mb J))
  (h:∀x,I x->A0 ro P n c (Aa (λsl' bx'=>∃E,I E/\μ E<μ x/\sle sl' (mk E)/\ble bx' (mb E)) Q) (mk x) (mb x)):A0 ro P n (.loop c) Q sl bx:=by
 intro C S w β a hs;refine wpIn_loop_ghost (λm a w=>∃x S β,I x/\μ x=m/\St C n S w β a (mk x) (mb x)) (μ J) ⟨J,S,β,W,rfl,hs.weaken L O⟩ ?_;rintro m a w ⟨x,S,β,Z,rfl,hs⟩;refine PC (h x Z C S w β a hs) ?_;rintro e a' w' ⟨sl',bx',S',β',q,r⟩;cases e with
 |normal =>obtain⟨E,L,O,V,U⟩:=q;exact⟨μ E,O,E,S',β',L,rfl,r.weaken V U⟩
 |_=>exact⟨sl',bx',S',β',q,r⟩
def A0.bd(t:Nat){d:D}(hd:Ae sl t=.d d)(h:d.Bd->A0 ro P n c Q sl bx):A0 ro P n c Q sl bx:=by intro C S w β a hs;have hr:=hs.slot t;rw[hd]at hr;exact h hr.Js.bd C S w β a hs
def R7(ops:Array Oper)(j:Nat):Option Nat:=(ops[j]?).bind (·.dst)
def Vh(ops:Array Oper)(sl:SL)(o:Oper):Option Bool :=match o.guard with
 |none=>some true
 |some (j,E)=>match R7 ops j with
  |some t=>match Ae sl t with
   |.d (.bool b)=>some (b ==E)
   |.tuple []=>some false
   |_=>none
  |none=>none
variable {ops:Array Oper}
def BV{b:Bool}(hs:∀t,(∃j E,o.guard=some (j,E)/\R7 ops j=some t)->An S w β (Ae sl t) (a.tmps.getD t undef)/\t<a.tmps.size)
  (h:Vh ops sl o=some b):Region.wanted o (yielded ops a.tmps)=b:=by
 unfold Vh at h;unfold Region.wanted;cases U:o.guard with
 |none=>grind
 |some Z =>
  obtain⟨j,E⟩:=Z;simp only[U]at h |-;cases J:R7 ops j with
  |none=>grind
  |some t =>
   simp only[J]at h;obtain⟨I,V⟩:=hs t ⟨j,E,U,J⟩;have W:yielded ops a.tmps j=match a.tmps.getD t undef with| .bool b=>some b|_=>none:=by unfold yielded;rw[show(ops[j]?).bind (·.dst)=some t from J];have O:t<a.tmps.size:=V;simp only[zJ,Zk O,wR,Dx];grind
   rw[W];generalize a.tmps.getD t undef=v at I;split at h;rename_i x L;rw[L]at I;rw[I.Yg];simp_all
   .rename_i L;rw[L]at I;have:v=.tuple ⟨[]⟩:=by cases I with|tuple _ vs hl _=>grind
    grind
   grind
def Zz(P:Program)(n:Nat)(ops:Array Oper):List Oper->SL->Ac->(SL->Ac->Prop)->Prop
 |[],sl,bx,K=>K sl bx
 |o::os,sl,bx,K=>∃g,Vh ops sl o=some g/\Sj n o.dst /\ (g=true->∃r bx' pg,C1 P o (Aq sl) bx r bx' pg/\Zz P n ops os (Gt (H0 pg sl) o.dst r) bx' K) /\ (g=false->Zz P n ops os (Gt sl o.dst (.tuple [])) bx K)
def oU(hd:∀o,o∈ops.toList->Sj n o.dst){j t:Nat}(h:R7 ops j=some t):t<n:=by
 unfold R7 at h;cases E:ops[j]? with
 |none=>grind
 |some o =>simp only[E,zJ]at h;have:=hd o (by grind);rw[h]at this;exact this
def HB{K J:Act->World->Prop}{U:Exit->Act->World->Prop}(I:o.wp P a w K (λ_ _ _=>False))(h:∀a w,K a w->J a w):o.wp P a w J U:=by
 unfold Oper.wp at*;generalize(execOp a.eval o).run P w=r at*;cases r with
 |ok n w' =>
  cases n <;> simp only[Oper.upon]at I |- <;>
   first
    |grind
    |exact Calls.mono I (λe O E=>by cases e <;> first|exact h _ _ E|exact E.elim| (obtain⟨_,_,L⟩:=E;exact L.elim))
    |exact Rows.mono I (λ_ _ E=>h _ _ E)
 |halt x w'=>cases x <;> simp only[Oper.upon]at I |-
def fB{K J:Act->World->Prop}(I:o.wpx P a w K)(h:∀a w,K a w->J a w):o.wpx P a w J:=by rcases I with I|⟨l,f,tmps,E,body,w',hr,I⟩;exact .inl (HB I h);refine .inr ⟨l,f,tmps,E,body,w',hr,I.mono ?_⟩;grind
def xa{ro:Option Nat}{m:Nat}{f:FuncId}{args:Array Value}{R:Ending->World->Prop}(h:Calls P f args w R):CallsIn (FW ro) m P f args w R :=(callsIn_wide (n:=m)).2 h
def H5r{ro:Option Nat}{m:Nat}{row:String}{args:Array Value}{R:Value->World->Prop}(h:Rows P row args w R):RowsIn (FW ro) m P row args w R:=by intro c cs _;obtain⟨v,w',r,s⟩:=h c cs;exact⟨v,w',r,(stepsIn_wide (P:=P)).2 s⟩
def gB{ro:Option Nat}{K V:Act->World->Prop}{Z:Exit->Act->World->Prop}(O:vF o=true)(E:o.wpx P a w K)(h:∀a w,K a w->V a w):o.wpIn (FW ro) 0 P a w V Z:=by
 refine⟨λ_ _=>trivial,?_⟩;rw[Oper.semAt_eq _ _ _ (G8p O)];rcases E with E|⟨l,f,tmps,L,body,w',hr,E⟩
 .unfold Oper.wp at E;generalize(execOp a.eval o).run P w=r at*;cases r with
  |ok n w' =>
   cases n <;> simp only[Oper.upon]at E |- <;> simp only[Oper.uponIn] <;>
    first
     |grind
     |exact⟨λJ=>by simp[FW,Fence.wide]at J,xa (Calls.mono E (λe U I=>by cases e <;> first|exact h _ _ I|exact I.elim| (obtain⟨_,_,W⟩:=I;exact W.elim)))⟩
     |exact⟨λJ=>by simp[FW,Fence.wide]at J,H5r (Rows.mono E (λ_ _ I=>h _ _ I))⟩
  |halt x w'=>cases x <;> simp only[Oper.upon]at E
 .rw[hr];simp only[Oper.uponIn];refine⟨λJ=>by simp[FW,Fence.wide]at J,RoundIn.mono (F:=FW ro) E ?_⟩;intro e U I;cases e with
  |returned v=>exact h _ _ I
  |_=>exact I.elim
def eR{Z:Exit->Act->World->Prop}(hd:∀o,o∈ops.toList->Sj n o.dst)(E:∀o,o∈ops.toList->vF o=true){K:SL->Ac->Prop}
  (L:∀sl bx S w β a,K sl bx->St C n S w β a sl bx->Z .normal a w):∀(k i:Nat) (sl:SL) (bx:Ac) (S:Nat->Prop) (w:World) (β:Names) (a:Act),i+k=ops.size->Zz P n ops (ops.toList.drop i) sl bx K ->
  St C n S w β a sl bx->wpOpsIn (FW ro) 0 P ops Z (List.range' i k) a w
 |0,i,sl,bx,S,w,β,a,V,hr,hs=>by have:ops.toList.drop i=[]:=Jk (by grind);rw[this]at hr;exact L sl bx S w β a hr hs
 |k+1,i,sl,bx,S,w,β,a,V,hr,hs=>by
  have hi:i<ops.size:=by omega
  have dp:ops.toList.drop i=ops[i]::ops.toList.drop (i+1):=by rw[H7 (by omega)];simp
  rw[dp]at hr;obtain⟨g,hg,J,h1,h2⟩:=hr;simp only[xW,wpOpsIn,Zk hi];have hw:=BV (a:=a) (S:=S) (w:=w) (β:=β) (λt ht=>by obtain⟨j,W,_,hj⟩:=ht;exact⟨hs.slot t,by rw[hs.size];exact oU hd hj⟩) hg
  rw[hw];cases g with
  |true =>simp only[Av];obtain⟨r,bx',pg,U,I⟩:=h1 rfl;refine gB (E _ (by simp)) (U C S w β a hs.inv λx _=>hs.Aq x) ?_;rintro a' w' ⟨v,S',β',rfl,O,he,hv,hb⟩;exact eR hd E L k (i+1) _ bx' S' w' β' _ (by omega) I (hs.put J O he hv hb)
  |false =>simp only[Iu,Gi];refine⟨λ_ _=>trivial,?_⟩;exact eR hd E L k (i+1) _ bx S w β _ (by omega) (h2 rfl) (hs.put (pg:=[]) J hs.inv (Cg.refl S w) (.tuple [] [] rfl (by simp)) (λ_ _=>rfl))
end Go.iA
namespace Go.iA
open Go
variable {ro:Option Nat} {P:Program} {n:Nat} {Q:Exit->SL->Ac->Prop} {sl:SL} {bx:Ac}
def F6(n:Nat)(ops:List Oper):Bool:=ops.all λo=>(match o.dst with|some t=>decide (t<n)|none=>true) && vF o
def JH{ops:List Oper}(h:F6 n ops=true):∀o,o∈ops->Sj n o.dst:=by intro o E;have:=Dz.1 h o E;simp only[Bh]at this;grind[Sj]
def nQ{ops:List Oper}(h:F6 n ops=true):∀o,o∈ops->vF o=true:=by intro o E;have:=Dz.1 h o E;grind
def Xs(ks:List Nat)(sl:SL):SL :=match ks with
 |[]=>[]
 |k::r=>(k,Ae sl k)::Xs r sl
def Tz(ks:List Nat)(bx:Ac):Ac :=match ks with
 |[]=>[]
 |k::r=>match A9 bx k with
  |some c=>(k,c)::Tz r bx
  |none=>Tz r bx
def Pl(sl:SL):∀(ks:List Nat)(t:Nat),Ae (Xs ks sl) t=Ae sl t\/Ae (Xs ks sl) t=.undef
 |[],t=>.inr rfl
 |k::r,t=>by simp only[Xs,Ae];split;grind;exact Pl sl r t
def BU{k:Nat}{c:Ax} :∀{ks:List Nat},(k,c)∈Tz ks bx->(k,c)∈bx
 |[],h=>by simp[Tz]at h
 |j::r,h=>by simp only[Tz]at h;split at h;rename_i x E;simp only[Ay,Gg]at h;rcases h with⟨rfl,rfl⟩|h;exact Ho E;exact BU h;exact BU h
def St.Xi{C:Ctx}{S:Nat->Prop}{w:World}{β:Names}{a:Act}(h:St C n S w β a sl bx)(ks E:List Nat):St C n S w β a (Xs ks sl) (Tz E bx) :=⟨h.inv.sub λ_ _ I=>BU I,h.size,h.defers,λt=>by
  rcases Pl sl ks t with e|e <;> rw[e]
  .exact h.slot t
  .exact .undef _⟩
variable {ops:Array Oper}
def A0.region{id:Nat}(ks I:List Nat)(hd:F6 n ops.toList=true)(h:Zz P n ops ops.toList sl bx λsl' bx'=>Q .normal (Xs ks sl') (Tz I bx')):A0 ro P n (.region id ops false) Q sl bx:=by intro C S w β a hs;refine wpIn_region ?_;rw[List.range_eq_range'];exact eR (JH hd) (nQ hd) (λsl' bx' S' w' β' L J E=>⟨_,_,S',β',J,E.Xi ks I⟩) ops.size 0 sl bx S w β a (by simp) (by grind) hs
def TI(ops:Array Oper)(o:Oper):List Nat:=o.looksAt ops
def left(size:Nat)(E:Array Bool):Nat:=(List.range size).countP λi=>!(E.getD i false)
def G6k{size i:Nat}{E:Array Bool}(hs:E.size=size)(W:i<size)(h:E.getD i false=false):left size (E.setIfInBounds i true)<left size E:=by
 unfold left;have O:i<E.size:=by omega
 have U:∀j,(!(E.setIfInBounds i true).getD j false)=(!(decide (j=i)) && !(E.getD j false)):=by intro j;by_cases J:i=j;simp_all;rw[getD_set_ne false J];grind
 simp only[U];have:∀l:List Nat,i∈l->(l.countP λj=>!(decide (j=i)) && !(E.getD j false))<l.countP λj=>!(E.getD j false):=by
  intro l
  induction l with
  |nil=>simp
  |cons a l V =>intro I;have L:(l.countP λj=>!(decide (j=i)) && !(E.getD j false))<=l.countP λj=>!(E.getD j false):=List.countP_mono_left (by simp);grind
 grind
variable {o:Oper}
def G8j{s I:SL}(h:∀j E t,o.guard=some (j,E)->R7 ops j=some t->Ae s t=Ae I t):Vh ops s o=Vh ops I o:=by grind[Vh]
def ny{j t:Nat}{E:Bool}(J:o.guard=some (j,E))(I:R7 ops j=some t):t∈o.looksAt ops:=by grind[Oper.looksAt,R7]
def G2e{t:Nat}(h:Operand.tmp t∈o.op.operands):t∈o.looksAt ops:=by unfold Oper.looksAt;simp only[Bj,Md];left;exact⟨.tmp t,by grind,rfl⟩
end Go.iA
