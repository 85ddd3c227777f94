/- Slices of one's own, calls, code on abstract states, regions. Own framework. -/
import Derived.Deep.LoopGhost
import Derived.Sort.LoopGhostIn
import Derived.OrdersIn
import Derived.Test.YtcmlfpcaeflleaaGreatDoorGAb1
set_option linter.all false
namespace Go.Abs
open Go
variable {P:Program} {o:Oper} {ρ:Hb} {bx:Aa}
def U6:List SV->Option (List D)
 |[]=>some []
 |.d x::r=>match U6 r with
  |some l=>match x with
   |.nil=>some (.slice []::l)
   |.emp=>some (.slice []::l)
   |.agg _=>none
   |y=>some (y::l)
  |none=>none
 |_::_=>none
variable {S:Nat->Prop} {w:World} {β:Names}
def B7x :∀(cs:List SV)(ds:List D)(vs:List Value),U6 cs=some ds->Bv S w β cs vs ->
  ds.length=cs.length/\(∀d,d∈ds->d.one=true)/\∀(j:Nat) (d:D) (v:Value),ds[j]?=some d->vs[j]?=some v->C0 S w d v
 |[],ds,vs,h,hr=>by simp only[U6,B4]at h;subst h;simp
 |c::cs,ds,vs,h,hr=>by
  cases c <;> simp only[U6,reduceCtorEq]at h;rename_i x;cases M:U6 cs with
  |none=>grind
  |some l =>
   rw[M]at h;cases vs with
   |nil=>have:=hr.1;grind
   |cons v vs =>
    have E:C0 S w x v:=(hr.2 0 (.d x) v rfl rfl).J0;obtain⟨O,V,U⟩:=B7x cs l vs M ⟨by have:=hr.1;grind,λj c v W E=>hr.2 (j+1) c v (by grind) (by grind)⟩;have key:∃y,ds=y::l/\y.one=true/\C0 S w y v:=by
     cases x <;> simp only[B4,reduceCtorEq]at h <;> first
      |exact⟨_,h.symm,rfl,E⟩
      |exact⟨_,h.symm,rfl,E.of_nil⟩
      |exact⟨_,h.symm,rfl,E.C9n⟩
    obtain⟨y,rfl,J,I⟩:=key;refine⟨by simp[O],?_,?_⟩
    .intro d hd;simp only[Aw]at hd;rcases hd with rfl|hd
     .exact J
     .exact V d hd
    .intro j d u hd L;cases j with
     |zero=>simp at hd L;subst hd;subst L;exact I
     |succ j=>exact U j d u (by simpa using hd) (by simpa using L)
structure Flat(S:Nat->Prop)(w:World)(sz:Nat)(rows:List (List D))(vs:List Value):Prop where
 len:vs.length=rows.length*sz
 row:∀row,row∈rows->row.length=sz
 one:∀row,row∈rows->∀d,d∈row->d.one=true
 rep:∀(i j:Nat) (row:List D) (d:D) (v:Value),rows[i]?=some row->row[j]?=some d->vs[i*sz+j]?=some v->C0 S w d v
variable {vs:List Value}
def Flat.ext{S S':Nat->Prop}{w w':World}{sz:Nat}{rows:List (List D)}(h:Flat S w sz rows vs)(e:Bk S w S' w'):Flat S' w' sz rows vs :=
 ⟨h.len,h.row,h.one,λi j row d v I E J=>(h.rep i j row d v I E J).ext e⟩
theorem Flat.nil{sz:Nat} :Flat S w sz [] []:=⟨by simp,by simp,by simp,by simp⟩
def Flat.cons{sz:Nat}{row:List D}{rows:List (List D)}{us vs:List Value}(E:row.length=sz)(I:us.length=sz)(J:∀d,d∈row->d.one=true)
  (hr:∀(j:Nat) (d:D) (v:Value),row[j]?=some d->us[j]?=some v->C0 S w d v)(h:Flat S w sz rows vs):Flat S w sz (row::rows) (us++vs) where
 len:=by simp[I,h.len,Gy];omega
 row r hr:=by
  simp only[Aw]at hr;rcases hr with rfl|hr
  .exact E
  .exact h.row r hr
 one r hr:=by
  simp only[Aw]at hr;rcases hr with rfl|hr
  .exact J
  .exact h.one r hr
 rep i j r d v h1 h2 h3:=by
  have L:j<sz:=by
   have e:=(B5.1 h2).1;cases i with
   |zero=>grind
   |succ i=>have:=h.row r (Br (by simpa using h1));omega
  cases i with
  |zero =>grind
  |succ i =>rw[Gy,Xr,M5 (by omega)]at h3;exact h.rep i j r d v (by grind) h2 (by grind)
def Flat.append{sz:Nat}{rows xs:List (List D)}{us vs:List Value}(h:Flat S w sz rows us)(k:Flat S w sz xs vs):Flat S w sz (rows++xs) (us++vs) where
 len:=by simp[h.len,k.len,Gy]
 row r hr:=by
  simp only[D2]at hr;rcases hr with hr|hr
  .exact h.row r hr
  .exact k.row r hr
 one r hr:=by
  simp only[D2]at hr;rcases hr with hr|hr
  .exact h.one r hr
  .exact k.one r hr
 rep i j r d v h1 h2 h3:=by
  by_cases E:i<rows.length
  .rw[Ls E]at h1;have I:j<sz:=by have:=(B5.1 h2).1;have:=h.row r (Br h1);omega
   have:(i+1)*sz<=rows.length*sz:=I9 _ E;rw[Gy,Xr]at this;rw[Ls (by rw[h.len];omega)]at h3;exact h.rep i j r d v h1 h2 h3
  .rw[M5 (by omega)]at h1;have:rows.length*sz<=i*sz:=I9 _ (by omega);rw[M5 (by rw[h.len];omega)]at h3;refine k.rep (i - rows.length) j r d v h1 h2 ?_;rw[<-h3,h.len];grind [Nat.sub_mul]
def rowsOf(ρ:Hb)(sz:Nat):Nat->List (Nat × Operand)->Option (List (List D))
 |_,[]=>some []
 |n,(i,x)::r=>match content (ρ x)with
  |some c=>match U6 c with
   |some row=>if i=n/\row.length=sz then(rowsOf ρ sz (n+1) r).map (row::·)else none
   |none=>none
  |none=>none
def D2o{a:Act}(sz:Nat):∀(parts:List (Nat × Operand))(n:Nat)(rows:List (List D))(pre rest:List Value),(∀p,p∈parts->Ak S w β (ρ p.2) (a.eval p.2)) ->
  rowsOf ρ sz n parts=some rows->pre.length=n*sz->rest.length=parts.length*sz ->
  ∃vs,Instr.fill (λi=>some (i*sz,sz)) ⟨pre++rest⟩ (parts.map λp=>(p.1,a.eval p.2))=some ⟨pre++vs⟩/\Flat S w sz rows vs/\rows.length=parts.length
 |[],n,rows,pre,rest,_,h,hp,hr=>by
  simp only[rowsOf,B4]at h;subst h;have:rest=[]:=by cases rest <;> simp at hr;rfl
  subst this;exact⟨[],rfl,.nil,rfl⟩
 |(i,x)::parts,n,rows,pre,rest,ha,h,hp,hr=>by
  simp only[rowsOf]at h;cases M:content (ρ x)with
  |none=>simp[M]at h
  |some c =>
   cases O:U6 c with
   |none=>simp[M,O]at h
   |some row =>
    simp only[M,O]at h;split at h
    .rename_i U;obtain⟨rfl,a0⟩:=U;simp only[N9]at h;obtain⟨I,J,rfl⟩:=h;obtain⟨g1,g2⟩:=(ha (i,x) (by simp)).content M;obtain⟨q1,q2,q3⟩:=B7x c row _ O g1;have W:(a.eval x).cells.size=sz:=by have:=g1.1;simp at this;omega
     have E:(a.eval x).cells.toList.length=sz:=by simpa using W
     have V:sz<=rest.length:=by rw[hr];simp[Gy]
     have L:Hc (pre++rest) (i*sz) (a.eval x).cells.toList=(pre++(a.eval x).cells.toList)++rest.drop sz:=by
      apply M3;intro j;rw[A2d _ _ _ _ (by simp only[Bz];omega)];by_cases h1:i*sz<=j/\j<i*sz+(a.eval x).cells.toList.length
      .rw[A9 h1,Ls (by simp only[Bz];omega),M5 (by omega),hp]
      .rw[A6 h1];by_cases h2:j<i*sz
       .rw[Ls (by omega),Ls (by simp only[Bz];omega),Ls (by omega)]
       .rw[M5 (by omega),M5 (by simp only[Bz];omega),Th]
        congr 1
        simp only[Bz];omega
     obtain⟨vs,f1,f2,f3⟩:=D2o sz parts (i+1) I (pre++(a.eval x).cells.toList) (rest.drop sz) (λp hp=>ha p (by simp[hp])) J (by simp only[Bz,E,hp,Gy];omega)
      (by simp only[Aq6,hr,C6,Gy];omega)
     refine⟨(a.eval x).cells.toList++vs,?_,.cons a0 E q2 q3 f2,by simp[f3]⟩;simp only[Ck,Instr.fill];rw[A6 (by simp only[ne_eq,Yj,Da,Uh];simp;simp at hr;omega)];have Z:=C8t (a.eval x).cells.toList (pre++rest) (i*sz) 0;simp only[Sx]at Z;have e:(a.eval x).cells.toList.zipIdx=(a.eval x).cells.zipIdx.toList:=by simp
     rw[e,Array.foldl_toList]at Z;rw[Z,L,f1,N6]
    .simp at h
def A3p{T e:Nat}(h:E4 P T=some e)(w:World):(underlying T).run P w=.ok (.slice e) w:=by
 unfold E4 at h;cases E:P.underlying T with
 |none=>grind
 |some d =>rw[E]at h;cases d <;> simp only[reduceCtorEq,B4]at h;subst h;simp[underlying,E]
def E5c{a:Act}{T e n sz:Nat}{parts:Array (Nat × Operand)}(O:∀p,p∈parts.toList->Ak S w β (ρ p.2) (a.eval p.2)){rows:List (List D)}{M:List SV}
  (hT:E4 P T=some e)(hs:Bm P e=some sz)(hz:Cf P e=some M)(L:M.length=sz)(U:n*sz<=16777216)(hp:parts.size=n)(hr:rowsOf ρ sz 0 parts.toList=some rows) :
  ∃vs,(Instr.buildSlice T n (parts.map λp=>(p.1,a.eval p.2))).run P w=.ok (.slice (some ⟨w.heap.size,0,none⟩) n n) { w with heap:=w.heap.push (.cells ⟨vs⟩ e) }/\Flat S w sz rows vs/\rows.length=n:=by
 obtain⟨z,E,rfl⟩:=B4g hz w;simp only[Bn,Us]at L;obtain⟨vs,f1,f2,f3⟩:=D2o sz parts.toList 0 rows [] ((Array.range (n*sz)).map (λj=>(if n*sz=0 then #[]else z.cells)[j % (if n*sz=0 then #[]else z.cells).size]!)).toList O hr (by simp) (by grind);refine⟨vs,?_,f2,by grind⟩;simp only[Vt]at f1;simp only[Instr.buildSlice,H5,A3p hT,Gz,Q6 hs];rw[A6 (show ¬n*sz > 2 ^ 24 by omega)];have J:Instr.fill (λi=>some (i*sz,sz)) (Array.map (λx=>(if n*sz=0 then #[]else z.cells)[x % (if n*sz=0 then #[]else z.cells).size]!) (Array.range (n*sz))) (Array.map (λp=>(p.fst,a.eval p.snd)) parts).toList=some ⟨vs⟩:=by rw[Ao5];exact f1
 by_cases I:n*sz=0
 .rw[A9 I];simp only[A9 I]at J;simp only[H5,Kx,Gz,J,newRow,run_newObj]
 .rw[A6 I];simp only[A6 I]at J;simp only[H5,Kx,Gz,E,J,newRow,run_newObj]
def Flat.slice{sz:Nat}{rows:List (List D)}(h:Flat S w sz rows vs){b:Nat}{ty:TypeId}{V:Nat × Nat}{us:List Value}{off cap:Nat}(U:S b)
  (M:w.heap[b]?=some (.cells ⟨us⟩ ty V))(hv:∀(j:Nat) (v:Value),vs[j]?=some v->us[off+j]?=some v)(W:rows.length<=lim)(Z:rows.length<=cap) :
  C0 S w (.slice rows) (.slice (some ⟨b,off,none⟩) rows.length cap):=by
 refine .slice rows b off cap sz U W Z h.row h.one ?_ ?_
 .intro i j J O;have I:i*sz+j<vs.length:=by
   rw[h.len];have:(i+1)*sz<=rows.length*sz:=I9 _ J;rw[Gy,Xr]at this;omega
  exact⟨vs[i*sz+j],by rw[cells_of_row M];simp_all⟩
 .intro i j row d v hr L E;have J:=(B5.1 hr).1;have O:j<sz:=by have:=(B5.1 L).1;have:=h.row row (Br hr);omega
  have I:i*sz+j<vs.length:=by rw[h.len];have:(i+1)*sz<=rows.length*sz:=I9 _ J;rw[Gy,Xr]at this;omega
  rw[cells_of_row M,hv _ _ (B8 I)]at E;simp only[B4]at E;exact h.rep i j row d v hr L (by grind)
def Inv.G2a{C:Ctx}(h:Inv C S w β bx)(x:Obj) :
  Inv C (λb=>S b\/b=w.heap.size) { w with heap:=w.heap.push x } β bx/\Bk S w (λb=>S b\/b=w.heap.size) { w with heap:=w.heap.push x }:=by
 refine h.grow (λb hb=>.inl hb) ?_ ?_ ?_ rfl rfl rfl (by simp)
 .grind
 .intro b hb;rcases hb with hb|hb
  .have:=h.Bf b hb;grind
  grind
 grind
def D8k{T e n sz:Nat}{parts:Array (Nat × Operand)}(O:o.op=.buildSlice T n parts){rows:List (List D)}{L:List SV}
  (hT:E4 P T=some e)(hs:Bm P e=some sz)(hz:Cf P e=some L)(J:L.length=sz)(U:n*sz<=16777216)(hp:parts.size=n)(hr:rowsOf ρ sz 0 parts.toList=some rows)(E:n<=lim) :
  Bp P o ρ bx (.d (.slice rows)) bx []:=by
 intro C S w β a hi V;obtain⟨vs,I,Z,hl⟩:=E5c (λp hp=>V p.2 (mo O (by grind [Op.operands]))) hT hs hz J U hp hr;obtain⟨W,M⟩:=hi.G2a (.cells ⟨vs⟩ e);refine H6 ?_;unfold Oper.wp;have:(execOp a.eval o).run P w=.ok (.value (.slice (some ⟨w.heap.size,0,none⟩) n n)) { w with heap:=w.heap.push (.cells ⟨vs⟩ e) }:=by simp only[execOp,O,H5,I,Gz,Kx]
 rw[this];refine⟨_,_,β,rfl,W,M,?_,λ_ _=>rfl⟩;subst hl;exact .d _ _ ((Z.ext M).slice (.inr rfl) (C5r w _) (λj v hv=>by grind) E (Bi _))
def C6s{i:BI}{sz:Nat}{rows:List (List D)}{ty:TypeId}{b:Nat}(hb:i.base=some b)(U:i.sz=sz)(J:rows.length=i.len)(L:i.len<=i.cap)
  (I:rows.length<=lim)(hh:w.heap[b]?=some (.cells ⟨vs⟩ ty (0,0)))(M:(i.off+i.cap)*sz<=vs.length)(us:List Value)(E:Flat S w sz rows us)(hu:∀(j:Nat) (v:Value),us[j]?=some v->vs[i.off*sz+j]?=some v) :
  Df S w β i (.rows sz rows):=by
 refine⟨U,J,L,I,E.row,E.one,?_⟩;rw[hb];refine⟨ty,vs,hh,M,?_⟩;intro r j row d v hr W Z;have hj:j<sz:=by have:=(B5.1 W).1;have:=E.row row (Br hr);omega
 have V:=(B5.1 hr).1;have O:r*sz+j<us.length:=by rw[E.len];have:(r+1)*sz<=rows.length*sz:=I9 _ V;rw[Gy,Xr]at this;omega
 have:=hu _ _ (B8 O);rw[Gy,Wr,this]at Z;simp only[B4]at Z;exact E.rep r j row d v hr W (by grind)
theorem G3x{T e n sz k:Nat}{parts:Array (Nat × Operand)}(I:k<=999999)(O:o.op=.buildSlice T n parts){rows:List (List D)}{zs:List SV}
  (hT:E4 P T=some e)(hs:Bm P e=some sz)(hz:Cf P e=some zs)(L:zs.length=sz)(hn:n*sz<=16777216)(hp:parts.size=n)(hr:rowsOf ρ sz 0 parts.toList=some rows)(W:n<=lim) :
  Bp P o ρ bx (.acc k) ((k,.rows sz rows)::Gw k (Ca k bx)) [k]:=by
 intro C S w β a Z ha;obtain⟨vs,E,V,M⟩:=E5c (λp hp=>ha p.2 (mo O (by grind [Op.operands]))) hT hs hz L hn hp hr;obtain⟨h1,h2⟩:=Z.W1 (k:=k) (w':={ w with heap:=w.heap.push (.cells ⟨vs⟩ e) }) (c:=.rows sz rows) { base:=some w.heap.size,len:=n,cap:=n,sz:=sz } I (by
   intro b U;simp only[B4]at U;subst U;exact⟨λhs=>by have:=Z.Bf _ hs;omega,by simp,.inl (Bi _)⟩)
  (λb' J _=>D3g w _ J) rfl rfl rfl (by simp)
  (λe0=>C6s rfl rfl M (Bi _) (by omega) (C5r w _) (by simp[V.len,M]) vs (V.ext e0) (λj v hv=>by grind))
 refine H6 ?_;unfold Oper.wp;have:(execOp a.eval o).run P w=.ok (.value (.slice (some ⟨w.heap.size,0,none⟩) n n)) { w with heap:=w.heap.push (.cells ⟨vs⟩ e) }:=by simp only[execOp,O,H5,E,Gz,Kx]
 rw[this];refine⟨_,S,_,rfl,h1,h2,?_,λj hj=>Lo (by grind)⟩;have:=Ak.acc (S:=S) (w:={ w with heap:=w.heap.push (.cells ⟨vs⟩ e) }) (β:=Eg β k { base:=some w.heap.size,len:=n,cap:=n,sz:=sz }) k
 grind [H2]
end Go.Abs
namespace Go.Abs
open Go
variable {P:Program} {o:Oper} {ρ:Hb} {bx:Aa}
def Ij(i:BI):Value:=.slice (i.base.map λb=>⟨b,i.off*i.sz,none⟩) i.len i.cap
structure Src(P:Program)(S:Nat->Prop)(w:World)(sz:Nat)(xs:List (List D))(v:Value)(vs:List Value):Prop where
 len:(Builtin.lenOf v).run P w=.ok xs.length w
 cells:∀n w',n=xs.length->(∀b,(∃p l c,v=.slice (some ⟨b,p,none⟩) l c)->w'.heap[b]?=w.heap[b]?)->(Builtin.firstCells sz n v).run P w'=.ok ⟨vs⟩ w'
 flat:Flat S w sz xs vs
 one:vs.all (·.oneCell')=true
variable {S:Nat->Prop} {w:World}
theorem Src.nil{sz:Nat}{p:Option Addr}{c:Nat} :Src P S w sz [] (.slice p 0 c) [] where
 len:=rfl
 cells n w' hn _:=by
  subst hn;cases p with
  |none=>rfl
  |some a=>simp[Builtin.firstCells,loadCells,loadCellsFrom]
 flat:=.nil
 one:=rfl
def C3m{b off n:Nat}(h:∀j,j<n->∃v,w.cell? ⟨b,off+j,none⟩=some v):∃vs:List Value,vs.length=n/\∀(j:Nat)(v:Value),vs[j]?=some v->w.cell? ⟨b,off+j,none⟩=some v:=by
 refine⟨(List.range n).map λj=>(w.cell? ⟨b,off+j,none⟩).getD undef,by simp,?_⟩
 grind
theorem C6j{sz n b off len cap:Nat}{vs:List Value}(E:vs.length=n*sz)(h:∀(j:Nat)(v:Value),vs[j]?=some v->w.cell? ⟨b,off+j,none⟩=some v) :
  (Builtin.firstCells sz n (.slice (some ⟨b,off,none⟩) len cap)).run P w=.ok ⟨vs⟩ w:=by
 grind [run_loadCells_list,Yv,Builtin.firstCells]
theorem cell_of_heap{w w':World}{b:Nat}(h:w'.heap[b]?=w.heap[b]?)(p:Nat):w'.cell? ⟨b,p,none⟩=w.cell? ⟨b,p,none⟩:=World.cell?_of_block (w:=w) h
def Src.slice{sz:Nat}{xs:List (List D)}{v:Value}(h:C0 S w (.slice xs) v)(a0:∀row,row∈xs->row.length=sz):∃vs,Src P S w sz xs v vs:=by
 cases h with
 |Jz a c _=>exact⟨[],.nil⟩
 |slice _ b off cap E hS h1 h2 h3 J h4 h5 =>
  by_cases hx:xs=[]
  .subst hx;exact⟨[],.nil⟩
  .have M:E=sz:=by
    cases xs with
    |nil=>grind
    |cons r xs=>simp_all
   subst M;have V:∀j,j<xs.length*E->∃v,w.cell? ⟨b,off+j,none⟩=some v:=by
    intro j hj;have Pj:0<E:=by
                 rcases Ap3 E with h|h;· grind
                 .exact h
    obtain⟨v,O⟩:=h4 (j / E) (j % E) (At3 (by grind)) (Zk _ Pj);have:j / E*E+j % E=j:=by rw[Uu];exact Nat.div_add_mod j E
    exact⟨v,by grind⟩
   obtain⟨vs,hl,U⟩:=C3m V;have I:Flat S w E xs vs:=⟨hl,h3,J,λi j row d v hr hd O=>h5 i j row d v hr hd (U _ _ O)⟩;refine⟨vs,?_,?_,I,?_⟩
   .rfl
   .grind [C6j,cell_of_heap]
   .rw[Dr];intro v O;obtain⟨j,hj⟩:=N4.1 O;have Z:=(B5.1 hj).1;rw[hl]at Z;have Pj:0<E:=by
                 rcases Ap3 E with h|h;· grind
                 .exact h
    have W:j / E<xs.length:=At3 (by grind);have L:=h3 _ (Fa W);have hm:j % E<xs[j / E].length:=by rw[L];exact Zk _ Pj
    have e:j / E*E+j % E=j:=by rw[Uu];exact Nat.div_add_mod j E
    exact(I.rep (j / E) (j % E) _ _ v (B8 W) (B8 hm) (by grind)).one (J _ (Fa W) _ (Fa hm))
def Src.acc{β:Names}{i:BI}{sz:Nat}{xs:List (List D)}(h:Df S w β i (.rows sz xs)):∃vs,Src P S w sz xs (Ij i) vs:=by
 obtain⟨g1,g2,g3,g4,g5,g6,O⟩:=h;subst g1;cases V:i.base with
 |none =>
  rw[V]at O;simp only at O;have:xs=[]:=by cases xs with
   |nil=>rfl
   |cons r xs=>grind
  subst this;refine⟨[],?_⟩
  grind [Ij,nil]
 |some b =>
  rw[V]at O;obtain⟨ty,vs,hh,a0,L⟩:=O;have U:i.off*i.sz+xs.length*i.sz<=vs.length:=by have:(i.off+xs.length)*i.sz<=(i.off+i.cap)*i.sz:=I9 _ (by omega);rw[Gy]at this;omega
  have hl:((vs.drop (i.off*i.sz)).take (xs.length*i.sz)).length=xs.length*i.sz:=by simp;omega
  have J:∀(j:Nat) (v:Value),((vs.drop (i.off*i.sz)).take (xs.length*i.sz))[j]?=some v->vs[i.off*i.sz+j]?=some v:=by
   intro j v I;simp only[An1,Th]at I;split at I
   .exact I
   .grind
  have E:Flat S w i.sz xs ((vs.drop (i.off*i.sz)).take (xs.length*i.sz)):=by refine⟨hl,g5,g6,?_⟩;intro r j row d v hr hd I;have:=J _ _ I;exact L r j row d v hr hd (by grind)
  refine⟨_,?_,?_,E,?_⟩
  .simp[Ij,V,Builtin.lenOf,g2]
  .grind [Ij,C6j,cells_of_row]
  .rw[Dr];intro v I;obtain⟨j,hj⟩:=N4.1 I;have Z:=(B5.1 hj).1;rw[hl]at Z;have Pj:0<i.sz:=by
                 rcases Ap3 i.sz with h|h;· grind
                 .exact h
   have W:j / i.sz<xs.length:=At3 (by grind);have M:=g5 _ (Fa W);have hm:j % i.sz<xs[j / i.sz].length:=by rw[M];exact Zk _ Pj
   have e:j / i.sz*i.sz+j % i.sz=j:=by rw[Uu];exact Nat.div_add_mod j i.sz
   exact(E.rep (j / i.sz) (j % i.sz) _ _ v (B8 W) (B8 hm) (by grind)).one (g6 _ (Fa W) _ (Fa hm))
structure B1u(P:Program)(T e sz bytes:Nat):Prop where
 hT:E4 P T=some e
 Pf:Bm P e=some sz
 hzero:(Cf P e).map List.length=some sz
 E1y:(P.info? e).map (·.bytes)=some bytes
 Pj:bytes≠0
def Kf(P:Program)(T:TypeId):Bool :=
 match P.underlying T with
 |some (.slice _)=>true
 |some .string=>true
 |_=>false
def F5s{T:TypeId}(h:Kf P T=true)(w:World):(∃e,(underlying T).run P w=.ok (.slice e) w)\/(underlying T).run P w=.ok .string w:=by
 unfold Kf at h;cases E:P.underlying T with
 |none=>grind
 |some d =>
  cases d <;> simp[E]at h
  .exact .inr (by simp[underlying,E])
  .rename_i e;exact .inl ⟨e,by simp[underlying,E]⟩
def E3n(zero:Array Value)(n:Nat):(Builtin.zeroCells zero n).size=n*zero.size:=by simp[Builtin.zeroCells]
def E7n{β:Names}{i:BI}{T e sz bytes U:Nat}{rs xs:List (List D)}{v:Value}{vs:List Value}(hE:B1u P T e sz bytes)(hU:Kf P U=true)(a4:Df S w β i (.rows sz rs))
  (b0:∀b,i.base=some b->¬S b/\b<w.heap.size)(I:Src P S w sz xs v vs)(a0:(rs.length+xs.length)*bytes<=lim)(ty:TypeId) :
  ∃(i':BI) (w':World),(Builtin.append_ #[T,U] ty #[Ij i,v]).run P w=.ok (Ij i') w'/\w'.os=w.os/\w'.tape=w.tape/\w'.output=w.output/\w.heap.size<=w'.heap.size /\
   (∀b,b<w.heap.size->i.base≠some b->w'.heap[b]?=w.heap[b]?)/\(∀b,i'.base=some b->i.base=some b\/(w.heap.size<=b/\b<w'.heap.size)) /\
   (Bk S w S w'->∀β',Df S w' β' i' (.rows sz (rs++xs))):=by
 have a6:=a4;obtain⟨g1,g2,g3,g4,g5,g6,g7⟩:=a4;have hdu:=F5s hU w;have ai:1<=bytes:=by have:=hE.Pj;omega
 have ag:rs.length+xs.length<=lim:=D3 (Nat.le_mul_of_pos_right _ ai) a0;obtain⟨os,L⟩:=Src.acc (P:=P) a6;obtain⟨zs,hz,ae⟩:∃zs,Cf P e=some zs/\zs.length=sz:=by have:=hE.hzero;simp_all
 by_cases hc:i.len+xs.length<=i.cap
 ·
  cases hb:i.base with
  |none =>
   rw[hb]at g7;simp only at g7;have hx:xs=[]:=by cases xs with
    |nil=>rfl
    |cons r xs=>grind
   have hr:rs=[]:=by cases rs with
    |nil=>rfl
    |cons r xs=>grind
   subst hx;subst hr;simp only[Dy,Sx]at hc g2;refine⟨i,w,?_,rfl,rfl,rfl,Bi _,λ_ _ _=>rfl,λb h=>.inl (by grind),λ_ _=>?_⟩
   .have J:=I.cells 0 w rfl (λ_ _=>rfl);have ab:=I.len;simp only[Dy]at ab;rcases hdu with⟨eu,hdu⟩|hdu <;> simp[Ij,hb,Builtin.append_,A3p hE.hT,Q6 hE.Pf,hdu,ab,<-g2,J]
   .refine⟨g1,by grind,g3,by simp,by simp,by simp,?_⟩
    grind
  |some b =>
   rw[hb]at g7;obtain⟨au,bs,hh,ac,ax⟩:=g7;subst g1;have hl:=I.flat.len;have V:(i.off*i.sz+i.len*i.sz)+0+vs.length<=bs.length:=by have:(i.off+(i.len+xs.length))*i.sz<=(i.off+i.cap)*i.sz:=I9 _ (by omega);simp only[Gy]at this ac;omega
   obtain⟨w',a',q1,q2,q3,q4,q5,q6⟩:=B2b (P:=P) vs bs b (i.off*i.sz+i.len*i.sz) 0 au w hh V I.one;refine⟨{ i with len:=i.len+xs.length },w',?_,q3,q4,q5,by omega,?_,λb' az=>.inl (by grind),?_⟩
   .have J:=I.cells xs.length w rfl (λ_ _=>rfl);simp only[Builtin.append_,Ij,hb,Eu];rcases hdu with⟨eu,hdu⟩|hdu <;> simp[A3p hE.hT,Q6 hE.Pf,hdu,I.len,hc,J,Yv,a']
   .grind
   .intro e0 β';refine C6s (b:=b) (us:=Hc os (rs.length*i.sz) []++vs) (by omega) rfl (by grind) hc (by grind) q1 (by rw[A7s];omega) (by simp only[Hc];exact(L.flat.ext e0).append (I.flat.ext e0)) ?_;intro j u hu;simp only[Hc]at hu;show(Hc bs _ vs)[i.off*i.sz+j]?=_;rw[A2d _ _ _ _ V];by_cases hj:j<os.length
    .rw[Ls hj]at hu;have ar:=L.flat.len;rw[A6 (by grind)];have:=L.cells rs.length w rfl (λ_ _=>rfl);have ah:∀(j:Nat) (u:Value),os[j]?=some u->bs[i.off*i.sz+j]?=some u:=by
      intro j u hu;have ay:=(B5.1 hu).1;have M:(Builtin.firstCells i.sz rs.length (Ij i)).run P w=.ok ⟨(bs.drop (i.off*i.sz)).take (rs.length*i.sz)⟩ w:=by
       simp only[Ij,hb,Eu];refine C6j ?_ ?_
       .grind
       .grind [cells_of_row]
      rw[this]at M;simp only[Result.ok.injEq,Array.mk.injEq,Sh]at M;rw[M]at hu;simp only[An1,Th]at hu;split at hu
      .exact hu
      .omega
     grind
    .rw[M5 (by omega)]at hu;have ar:=L.flat.len
     grind
 ·
  have aw:i.cap<i.len+xs.length:=by omega
  have a3:i.len=rs.length:=g2.symm;have ap:=growslice_fits aw (bytes:=bytes) (by rw[a3];exact a0);obtain⟨O,a8,Z⟩:∃O,P.info? e=some O/\O.bytes=bytes:=by
   have:=hE.E1y;cases hz:P.info? e with
   |none=>grind
   |some O=>grind
  obtain⟨z,a5,am⟩:=B4g hz w.drew
  let E:=(Question.appendCap (i.len+xs.length) i.cap e).cut (w.tape w.drawn (.appendCap (i.len+xs.length) i.cap e))
  have aj:i.len+xs.length<=E:=by show _<=(i.len+xs.length)+_ % _;omega
  let rest:=(Builtin.zeroCells z.cells (E - (i.len+xs.length))).toList
  let W:World:={ w.drew with heap:=w.drew.heap.push (.cells ⟨os++vs++rest⟩ e) }
  have Pf:z.cells.size=sz:=by rw[am]at ae;simpa using ae
  refine⟨{ base:=some w.heap.size,off:=0,len:=i.len+xs.length,cap:=E,sz:=sz },W,?_,rfl,rfl,rfl,?_,?_,?_,?_⟩
  .have h1:=L.cells i.len w.drew a3 (λ_ _=>rfl);have h2:=I.cells xs.length w.drew rfl (λ_ _=>rfl);have a2:¬(2 ^ 48<Builtin.nextslicecap (i.len+xs.length) i.cap*O.bytes):=by rw[Z];omega
   have aq:O.bytes≠0:=by rw[Z];exact hE.Pj
   have a1:(choose (.appendCap (i.len+xs.length) i.cap e)).run P w=.ok E w.drew:=by simp[run_choose,Question.forced,E]
   obtain⟨a9,aa⟩:∃a9,Ij i=.slice a9 i.len i.cap:=⟨_,rfl⟩;have ao:Ij ({ base:=some w.heap.size,off:=0,len:=i.len+xs.length,cap:=E,sz:=sz }:BI)=.slice (some ⟨w.heap.size,0,none⟩) (i.len+xs.length) E:=by simp[Ij]
   rw[ao];rw[aa]at h1 |-;simp only[Builtin.append_];have a7:(⟨os⟩:Array Value)++((⟨vs⟩:Array Value)++Builtin.zeroCells z.cells (E - (i.len+xs.length)))=⟨os++vs++rest⟩:=by apply J6;simp[rest]
   have ad:(Question.appendCap (i.len+xs.length) i.cap e).forced=false:=rfl;rcases hdu with⟨eu,hdu⟩|hdu
   all_goals
    simp[-run_choose,A3p hE.hT,Q6 hE.Pf,hdu,I.len,hc,typeInfo,a8,aq,a2,a1,h1,h2,a5,newRow,a7];rw[<-N6];rfl
  .show w.heap.size<=(w.heap.push _).size;simp
  .intro b hb _;exact D3g w _ hb
  .intro b hb;simp only[B4]at hb;subst hb;exact .inr ⟨Bi _,by show w.heap.size<(w.heap.push _).size;simp⟩
  .intro e0 β';have av:=L.flat.len;have ak:=I.flat.len;have af:rest.length=(E - (i.len+xs.length))*sz:=by
    show(Builtin.zeroCells _ _).toList.length=_;rw[Us,E3n,Pf]
   refine C6s (b:=w.heap.size) (vs:=os++vs++rest) (ty:=e) (us:=os++vs) rfl rfl (by grind) aj (by grind) (by show(w.heap.push _)[w.heap.size]?=_;simp) ?_ ((L.flat.ext e0).append (I.flat.ext e0)) ?_
   .simp only[Bz,av,ak,af,Nd];rw[<-Gy,<-Gy]
    grind
   grind
end Go.Abs
namespace Go.Abs
open Go
variable {P:Program} {o:Oper} {ρ:Hb} {bx:Aa}
inductive Xc(bx:Aa)(sz:Nat):SV->List (List D)->Prop where
 |nil:Xc bx sz (.d .nil) []
 |emp:Xc bx sz (.d .emp) []
 |slice (xs:List (List D)):(∀row,row∈xs->row.length=sz)->Xc bx sz (.d (.slice xs)) xs
 |acc (k:Nat) (xs:List (List D)):(k,Ap.rows sz xs)∈bx->Xc bx sz (.acc k) xs
variable {S:Nat->Prop} {w:World} {β:Names}
def Xc.src{C:Ctx}{sz:Nat}{x:SV}{xs:List (List D)}{v:Value}(h:Xc bx sz x xs)(I:Inv C S w β bx)(E:Ak S w β x v):∃vs,Src P S w sz xs v vs:=by
 cases h with
 |nil=>cases E with|d _ _ h=>cases h;exact⟨[],.nil⟩
 |emp=>cases E with|d _ _ h=>cases h;exact⟨[],.nil⟩
 |slice _ hs=>cases E with|d _ _ h=>exact Src.slice h hs
 |acc k _ J=>cases E with|acc _=>exact Src.acc (I.box k _ J)
def D3n{T U:TypeId}{x y:Operand}(I:o.op=.call { callee:=.builtin .append,args:=#[x,y],argTypes:=#[T,U] }){a:Act}{w w':World}{s v r:Value}(hs:a.eval x=s)(E:a.eval y=v)
  (h:(Builtin.append_ #[T,U] o.type #[s,v]).run P w=.ok r w'):(execOp a.eval o).run P w=.ok (.value r) w':=by
 simp[execOp,I,resolve,invoke,builtin,hs,E,h]
theorem G1x{T U e sz bytes k:Nat}{x y:Operand}(a0:k<=999999)(Z:o.op=.call { callee:=.builtin .append,args:=#[x,y],argTypes:=#[T,U] }){rs xs:List (List D)}(hE:B1u P T e sz bytes)(hU:Kf P U=true)
  (hx:ρ x=.acc k)(V:(k,Ap.rows sz rs)∈bx)(hy:Xc bx sz (ρ y) xs)(L:(rs.length+xs.length)*bytes<=lim) :
  Bp P o ρ bx (.acc k) ((k,.rows sz (rs++xs))::Gw k (Ca k bx)) [k]:=by
 intro C S w β a J ha;obtain⟨vs,W⟩:=hy.src (P:=P) J ((ha y (mC Z)));have M:=(ha x (mC Z));rw[hx]at M;have hv:a.eval x=Ij (β k):=by generalize a.eval x=v at M;cases M;rfl
 obtain⟨i',w',O,q1,q2,q3,q4,q5,q6,q7⟩:=E7n hE hU (J.box k _ V) (λb E=>⟨(J.B7 k _ V b E).1,(J.B7 k _ V b E).2.1⟩) W L o.type;have I:∀b,i'.base=some b->¬S b/\b<w'.heap.size/\(w.heap.size<=b\/∃x,(k,x)∈bx/\(β k).base=some b):=by
  intro b E;rcases q6 b E with h|⟨h1,h2⟩
  .obtain⟨g1,g2,_⟩:=J.B7 k _ V b h
   grind
  .exact⟨λhs=>by have:=J.Bf b hs;omega,h2,.inl h1⟩
 obtain⟨h1,h2⟩:=J.W1 (k:=k) (c:=.rows sz (rs++xs)) i' a0 I (λb' E hn=>q5 b' E (hn _ V)) q1 q2 q3 q4 (λe0=>q7 e0 _);refine H6 ?_;unfold Oper.wp;rw[D3n Z hv rfl O];refine⟨_,S,_,rfl,h1,h2,?_,λj hj=>Lo (by grind)⟩;have:=Ak.acc (S:=S) (w:=w') (β:=Eg β k i') k;rw[H2]at this;exact this
def C1k{sz:Nat} :Df S w β { base:=none,sz:=sz } (.rows sz []) :=
 ⟨rfl,rfl,Bi _,by simp,by simp,by simp,rfl⟩
theorem F0n{T U e sz bytes k:Nat}{x y:Operand}(Z:k<=999999)(O:o.op=.call { callee:=.builtin .append,args:=#[x,y],argTypes:=#[T,U] }){xs:List (List D)}(hE:B1u P T e sz bytes)(hU:Kf P U=true)
  (hx:ρ x=.d .nil)(hy:Xc bx sz (ρ y) xs)(a0:xs.length*bytes<=lim) :
  Bp P o ρ bx (.acc k) ((k,.rows sz xs)::Gw k (Ca k bx)) [k]:=by
 intro C S w β a W ha;obtain⟨vs,M⟩:=hy.src (P:=P) W ((ha y (mC O)));have J:=(ha x (mC O));rw[hx]at J;have hv:a.eval x=Ij { base:=none,sz:=sz }:=by generalize a.eval x=v at J;cases J with|d _ _ h=>cases h;rfl
 obtain⟨i',w',L,q1,q2,q3,q4,q5,q6,q7⟩:=E7n (rs:=[]) hE hU (C1k (S:=S) (w:=w) (β:=β)) (by simp) M (by grind) o.type;have E:∀b,i'.base=some b->¬S b/\b<w'.heap.size/\(w.heap.size<=b\/∃x,(k,x)∈bx/\(β k).base=some b):=by
  intro b I;rcases q6 b I with h|⟨V,h2⟩
  .grind
  .exact⟨λhs=>by have:=W.Bf b hs;omega,h2,.inl V⟩
 obtain⟨V,h2⟩:=W.W1 (k:=k) (c:=.rows sz xs) i' Z E (λb' I _=>q5 b' I (by simp)) q1 q2 q3 q4 (λe0=>by grind);refine H6 ?_;unfold Oper.wp;rw[D3n O hv rfl L];refine⟨_,S,_,rfl,V,h2,?_,λj hj=>Lo (by grind)⟩;have:=Ak.acc (S:=S) (w:=w') (β:=Eg β k i') k;rw[H2]at this;exact this
def Df.B2y{i:BI}{sz:Nat}{rs:List (List D)}(h:Df S w β i (.rows sz rs))(hS:∀b,i.base=some b->S b):C0 S w (.slice rs) (Ij i):=by
 obtain⟨vs,hs⟩:=Src.acc (P:=default) h;obtain⟨W,O,L,g4,Z,g6,E⟩:=h;subst W;unfold Ij;rw[<-O]at L |-;cases I:i.base with
 |none =>
  rw[I]at E;simp only at E;have:rs=[]:=by cases rs with
   |nil=>rfl
   |cons r xs=>grind
  subst this;rw[E];exact .Jz none 0 (λ_=>rfl)
 |some b =>
  rw[I]at E;obtain⟨ty,us,V,M,J⟩:=E;simp only[Eu];refine .slice rs b _ _ i.sz (hS b I) g4 L Z g6 ?_ ?_
  .intro r j hr hj;have h1:(i.off+r+1)*i.sz<=(i.off+i.cap)*i.sz:=I9 _ (by omega);have h2:(i.off+r+1)*i.sz=i.off*i.sz+(r*i.sz+i.sz):=by rw[Gy,Gy,Xr,Wr]
   have U:i.off*i.sz+(r*i.sz+j)<us.length:=by omega
   exact⟨us[i.off*i.sz+(r*i.sz+j)],by rw[cells_of_row V];simp⟩
  grind [cells_of_row]
def Inv.Jq{C:Ctx}{k sz:Nat}{rs:List (List D)}(h:Inv C S w β bx)(J:(k,Ap.rows sz rs)∈bx) :
  Inv C (λb=>S b\/(β k).base=some b) w β (Ca k bx)/\Bk S w (λb=>S b\/(β k).base=some b) w/\C0 (λb=>S b\/(β k).base=some b) w (.slice rs) (Ij (β k)):=by
 have e:Bk S w (λb=>S b\/(β k).base=some b) w:=⟨λ_ h=>.inl h,λ_ _=>rfl⟩;refine⟨?_,e,(Df.ext (h.box k _ J) e (λ_ _=>rfl) (λ_ _=>rfl)).B2y λb hb=>.inr hb⟩;exact{
  Fg:=λb hb=>.inl (h.Fg b hb)
  Ee:=λb hb=>by
   rcases hb with hb|hb
   .exact h.Ee b hb
   .exact .inr (h.B7 k _ J b hb).2.2
  Bf:=λb hb=>by
   rcases hb with hb|hb
   .exact h.Bf b hb
   .exact(h.B7 k _ J b hb).2.1
  kept:=h.kept
  os:=h.os
  tape:=h.tape
  output:=h.output
  size:=h.size
  box:=λj c E=>by obtain⟨U,E⟩:=E3.1 E;exact(h.box j c E).ext e (λ_ _=>rfl) (λ_ _=>rfl)
  B7:=λj c E b hb=>by
   obtain⟨U,E⟩:=E3.1 E;obtain⟨h1,V,h3⟩:=h.B7 j c E b hb;refine⟨λhs=>?_,V,h3⟩;rcases hs with hs|hs
   .grind
   .exact U (h.inj j c k _ E J b hb hs).1
  inj:=λj c j' M E W b hb Z=>h.inj j c j' M (E3.1 E).2 (E3.1 W).2 b hb Z
  one:=λk Y st O Y' st' J I=>h.one k Y st O Y' st' (E3.1 J).2 (E3.1 I).2
  Fm:=λj Y st E=>by
   obtain⟨h1,V,h3,h4,B,h5,L⟩:=h.Fm j Y st (E3.1 E).2;have a0:=h.size;have hB:∀b,B b->¬(S b\/(β k).base=some b):=λb hb hs=>hs.elim (L b hb).1 ((L b hb).2.2.2 k _ J);refine⟨h1,V,h3,λO M I=>h4 O M (E3.1 I).2,B,V.S9 st B S w _ w h5 ⟨λ_ h=>.inl h,λb hb=>hb.imp id λhb=>by grind,λb hb=>?_,hB,λ_ _=>rfl,rfl,rfl,rfl,Bi _⟩,λb hb=>⟨hB b hb,(L b hb).2.1,(L b hb).2.2.1,λO M I=>(L b hb).2.2.2 O M (E3.1 I).2⟩⟩;rcases hb with hb|hb
   .exact h.Bf b hb
   .exact(h.B7 k _ J b hb).2.1
  Dh:=λb cs hv=>⟨.inl (h.Dh b cs hv).1,(h.Dh b cs hv).2⟩
  fix:=h.fix }
end Go.Abs
namespace Go.Abs
open Go
variable {P:Program} {o:Oper} {ρ:Hb} {bx:Aa}
def Enters(P:Program)(f:FuncId):Prop:=∃fn,P.funcs[f]?=some fn/\(fn.name == "runtime.NumGoroutine")=false/\fn.body.isNone=false
def Bj(P:Program)(f:FuncId)(args:List SV)(pre:Aa)(r:SV)(E:Aa):Prop :=
 Enters P f/\∀(C:Ctx) (β:Names) (vs:List Value),Inv C C.S0 C.w0 β pre->Bv C.S0 C.w0 β args vs ->
  Calls P f ⟨vs⟩ C.w0 (λe w'=>∃v S' β',e=.returned v/\Inv C S' w' β' E/\Ak S' w' β' r v)
def Ac(P:Program)(f:FuncId)(args:List SV)(r:SV):Prop:=Bj P f args [] r []
def Sp{f:FuncId}(E:Enters P f){fo:Operand}{args:Array Operand}{Cq:Array TypeId}(O:o.op=.call { callee:=.value fo,args:=args,argTypes:=Cq }){a:Act}{caps:Array Value}(L:a.eval fo=.func (.func f) #[] caps)(w:World) :
  (execOp a.eval o).run P w=.ok (.enter f (args.map a.eval++caps)) w:=by
 obtain⟨fn,I,M,J⟩:=E;simp only[execOp,O,resolve,Deferred.ofValue,L,invoke,callFunc,H5,Kx,Gz,run_program,I,M,J,I6,Fy,Array.empty_append]
def D.flat:D->Bool
 |.int _ _| .bool _| .str _| .nil| .Kt| .Jt| .Jw| .Hu=>true
 |_=>false
def SV.scalar:SV->Bool
 |.d x=>x.flat
 |.undef=>true
 |.tuple xs=>xs.all λx=>match x with| .d y=>y.flat| .undef=>true|_=>false
 |_=>false
def C0.scalar{S S':Nat->Prop}{w w':World}{x:D}{v:Value}(h:C0 S w x v)(hs:x.flat=true):C0 S' w' x v:=by cases h <;> simp[D.flat]at hs <;> constructor;omega
def Ak.scalar{S S':Nat->Prop}{w w':World}{β β':Names}{x:SV}{v:Value}(h:Ak S w β x v)(hs:x.scalar=true):Ak S' w' β' x v:=by
 cases h with
 |undef=>exact .undef _
 |d x v h=>exact .d _ _ (h.scalar (by simpa [SV.scalar]using hs))
 |tuple cells vs I L =>
  refine .tuple cells vs I ?_;intro j c v E M;have J:=L j c v E M;simp only[SV.scalar]at hs;have:=Dr.1 hs c (Br E);cases J with
  |d x v h=>exact .d _ _ (h.scalar (by omega))
  |undef=>exact .undef _
  |_=>grind
 |_=>simp[SV.scalar]at hs
def A7(bx:Aa)(k:Nat):Option Ap :=
 match bx with
 |[]=>none
 |(j,c)::r=>if j=k then some c else A7 r k
theorem F8{k:Nat}{c:Ap} :∀{bx:Aa},A7 bx k=some c->(k,c)∈bx
 |[],h=>by simp[A7]at h
 |(j,x)::r,h=>by
  simp only[A7]at h;split at h
  .grind
  .simp[F8 h]
mutual
def coerce(bx:Aa):SV->Option SV
 |.d .nil=>some (.d (.slice []))
 |.d .emp=>some (.d (.slice []))
 |.d x=>some (.d x)
 |.undef=>some .undef
 |.Ek l=>some (.Ek l)
 |.Ah c off=>some (.Ah c off)
 |.agg cs=>match G8 bx cs with
  |some l=>if l.all SV.one then some (.agg l)else none
  |none=>none
 |.tuple cs=>match G8 bx cs with
  |some l=>some (.tuple l)
  |none=>none
 |.B0 f cs=>match G8 bx cs with
  |some l=>some (.B0 f l)
  |none=>none
 |.acc k=>match A7 bx k with
  |some (.rows _ rs)=>some (.d (.slice rs))
  |_=>none
 |.mp k=>match A7 bx k with
  |some (.map kvs)=>some (.d (.map kvs))
  |_=>none
 |.box _ _=>none
 |.Em _ _ _=>none
 |.Fs cs off=>if SV.Mc cs then some (.Fs cs off)else none
def G8(bx:Aa):List SV->Option (List SV)
 |[]=>some []
 |c::cs=>match coerce bx c with
  |some x=>match G8 bx cs with
   |some l=>some (x::l)
   |none=>none
  |none=>none
end
variable {S:Nat->Prop} {w:World}
def Inv.bd{C:Ctx}{β:Names}(h:Inv C S w β bx):Bk S w (λb=>b<w.heap.size) w:=⟨λb E=>h.Bf b E,λ_ _=>rfl⟩
abbrev all(w:World):Nat->Prop:=λb=>b<w.heap.size
mutual
theorem Xm{C:Ctx}{S S1:Nat->Prop}{w:World}{β:Names}(hi:Inv C S w β bx)(J:Bk S w S1 w)(W:∀k c,(k,c)∈bx->∀b,(β k).base=some b->S1 b):∀{x y:SV} {v:Value},coerce bx x=some y->Ak S w β x v->Ak S1 w β y v/\y.closed=true
 |.undef,y,v,h,E=>by simp only[coerce,B4]at h;subst h;exact⟨.undef v,rfl⟩
 |.Ah c off,y,v,h,E=>by simp only[coerce,B4]at h;subst h;exact⟨E.ext J (λ_ _=>rfl),rfl⟩
 |.d x,y,v,h,E=>by
  have L:Ak S1 w β (.d x) v:=E.ext J (λ_ _=>rfl);cases x <;> simp only[coerce,B4]at h <;> subst h <;> first
   |exact⟨L,rfl⟩
   |exact⟨.d _ _ L.J0.of_nil,rfl⟩
   |exact⟨.d _ _ L.J0.C9n,rfl⟩
 |.agg cs,y,v,h,E=>by
  simp only[coerce]at h;cases I:G8 bx cs with
  |none=>simp[I]at h
  |some l =>
   simp only[I]at h;split at h
   .rename_i a2;simp only[B4]at h;subst h;cases E with
    |agg _ vs Z h2 h3 =>obtain⟨U,g2⟩:=W7 hi J W I ⟨Z,h3⟩;exact⟨Ak.A4f U a2,by simp only[SV.closed];exact g2⟩
   .simp at h
 |.tuple cs,y,v,h,E=>by
  simp only[coerce]at h;cases I:G8 bx cs with
  |none=>simp[I]at h
  |some l =>
   simp only[I,B4]at h;subst h;cases E with
   |tuple _ vs Z h3 =>obtain⟨U,g2⟩:=W7 hi J W I ⟨Z,h3⟩;exact⟨.tuple _ _ U.1 U.2,by simp only[SV.closed];exact g2⟩
 |.B0 f cs,y,v,h,E=>by
  simp only[coerce]at h;cases I:G8 bx cs with
  |none=>simp[I]at h
  |some l =>
   simp only[I,B4]at h;subst h;cases E with
   |B0 _ _ vs Z h3 =>obtain⟨U,g2⟩:=W7 hi J W I ⟨Z,h3⟩;exact⟨.B0 _ _ _ U.1 U.2,by simp only[SV.closed];exact g2⟩
 |.acc k,y,v,h,E=>by
  simp only[coerce]at h;cases O:A7 bx k with
  |none=>simp[O]at h
  |some c =>
   cases c <;> simp[O]at h;subst h;cases E with
   |acc _ =>refine⟨.d _ _ ?_,rfl⟩;exact(Df.ext (hi.box k _ (F8 O)) J (λ_ _=>rfl) (λ_ _=>rfl)).B2y λb a4=>W k _ (F8 O) b a4
 |.mp k,y,v,h,E=>by
  simp only[coerce]at h;cases O:A7 bx k with
  |none=>simp[O]at h
  |some c =>
   cases c <;> simp[O]at h;subst h;cases E with
   |mp _ b M =>
    obtain⟨b',es,a1,Z,h2,h3,h4⟩:=hi.box k _ (F8 O);rw[M]at Z;cases Z;refine⟨.d _ _ (.map _ b es a1 (W k _ (F8 O) b M) h2 h3 ?_ ?_),rfl⟩
    .intro i kv e hk a0;exact(h4 i kv e hk a0).1.ext J
    .intro i kv e hk a0;exact(h4 i kv e hk a0).2.ext J
 |.box _ _,y,v,h,E=>by simp[coerce]at h
 |.Em _ _ _,y,v,h,E=>by simp[coerce]at h
 |.Ek l,y,v,h,E=>by simp only[coerce,B4]at h;subst h;cases E;exact⟨.Ek l,rfl⟩
 |.Fs cs off,y,v,h,E=>by
  simp only[coerce]at h;split at h
  .rename_i a3;simp only[B4]at h;subst h;have V:(SV.Fs cs off).closed=true:=by simpa [SV.closed]using a3
   exact⟨E.ext J λk hk=>absurd hk (by rw[SV.C9x k V];simp),V⟩
  .simp at h
theorem W7{C:Ctx}{S S1:Nat->Prop}{w:World}{β:Names}(hi:Inv C S w β bx)(J:Bk S w S1 w)(W:∀k c,(k,c)∈bx->∀b,(β k).base=some b->S1 b):∀{cs l:List SV} {vs:List Value},G8 bx cs=some l->Bv S w β cs vs->Bv S1 w β l vs/\SV.Mc l=true
 |[],l,vs,h,E=>by simp only[G8,B4]at h;subst h;exact⟨⟨E.1,by simp⟩,rfl⟩
 |c::cs,l,vs,h,E=>by
  simp only[G8]at h;cases V:coerce bx c with
  |none=>simp[V]at h
  |some x =>
   cases I:G8 bx cs with
   |none=>simp[V,I]at h
   |some m =>
    simp only[V,I,B4]at h;subst h;cases vs with
    |nil=>have:=E.1;simp at this
    |cons v vs =>obtain⟨U,g2⟩:=Xm hi J W V (E.2 0 c v rfl rfl);obtain⟨q1,q2⟩:=W7 hi J W I ⟨by have:=E.1;simpa using this,λj c v V L=>E.2 (j+1) c v (by simpa using V) (by simpa using L)⟩;exact⟨.cons U q1,by simp only[SV.Mc,g2,q2,Bool.and_self]⟩
end
def Bv.U1{β:Names}{a:Act} :∀(xs:List Operand),(∀x,x∈xs->Ak S w β (ρ x) (a.eval x))->Bv S w β (xs.map ρ) (xs.map a.eval)
 |[],_=>.nil
 |x::xs,E=>.cons (E x (by simp)) (Bv.U1 xs λy I=>E y (by grind))
def Inv.begin{C:Ctx}{S E:Nat->Prop}{β I:Names}(h:Inv C S w β bx)(L:∀b,E b->b<w.heap.size)(J:∀b,S b->E b):Inv ⟨w,E,λ_=>False,λ_ _=>False,C.G⟩ E w I [] where
 Fg _ hb:=hb
 Ee _ hb:=.inl hb
 Bf:=L
 kept _ _ _:=rfl
 os:=rfl
 tape:=rfl
 output:=rfl
 size:=Bi _
 box k c hk:=by grind
 B7 k c hk:=by grind
 inj k c k' c' hk:=by simp
 fix _ _ h:=h.elim
 Dh b cs hv:=⟨J b (h.Dh b cs hv).1,(h.Dh b cs hv).2⟩
 one k Y st k' Y' st' hk:=by simp
 Fm k Y st hk:=by grind
def Inv.back{C:Ctx}{S I S':Nat->Prop}{w w':World}{β β':Names}(h:Inv C S w β bx)(E:Inv ⟨w,I,λ_=>False,λ_ _=>False,C.G⟩ S' w' β' []) :
  Inv C (λb=>S b\/(S' b/\w.heap.size<=b)) w' β bx/\Bk S w (λb=>S b\/(S' b/\w.heap.size<=b)) w':=by
 refine h.grow (λb hb=>.inl hb) ?_ ?_ (λb hb=>E.kept b hb (by simp)) E.os E.tape E.output E.size
 .grind
 .intro b hb;rcases hb with hb|hb
  .have:=h.Bf b hb;have:=E.size;grind
  .exact E.Bf b hb.1
def H1i{f:FuncId}{fo:Operand}{args:Array Operand}{Cq:Array TypeId}(V:o.op=.call { callee:=.value fo,args:=args,argTypes:=Cq }){caps E:List SV}{r:SV}
  (hf:ρ fo=.B0 f caps)(M:G8 [] (args.toList.map ρ++caps)=some E)(hc:Ac P f E r)(hr:r.closed=true):Bp P o ρ bx r bx []:=by
 intro C S w β a W ha;have J:=(ha fo (mC V));rw[hf]at J;generalize Z:a.eval fo=v at J;cases J with
 |B0 _ _ cs h1 h2 =>
  have U:Bv S w β (args.toList.map ρ++caps) (args.toList.map a.eval++cs):=(Bv.U1 _ λx hx=>ha x (mo V (by grind [Op.operands,Call.operands]))).append ⟨h1,h2⟩;have O:Inv ⟨w,S,λ_=>False,λ_ _=>False,C.G⟩ S w β []:=W.begin W.Bf (λ_ h=>h);obtain⟨g1,g2⟩:=W7 O (Bk.refl S w) (by simp) M U;have L:=hc.2 ⟨w,S,λ_=>False,λ_ _=>False,C.G⟩ β _ O g1;refine H6 ?_;unfold Oper.wp;rw[Sp hc.1 V Z,R6];have I:args.map a.eval++(⟨cs⟩:Array Value)=⟨args.toList.map a.eval++cs⟩:=by apply J6;simp
  rw[I];refine L.mono ?_;rintro e w' ⟨v,S',β',rfl,hk,hv⟩;obtain⟨q1,q2⟩:=W.back hk;have e':Bk S' w' (λb=>S b\/(S' b/\w.heap.size<=b)) w':=⟨λb hb=>by
   rcases hk.Ee b hb with h|h|h
   .grind
   .grind
   grind,λ_ _=>rfl⟩
  exact⟨v,_,β,rfl,q1,q2,(hv.ext e' (λ_ _=>rfl)).closed hr,λ_ _=>rfl⟩
def E8v{f:FuncId}{fo:Operand}{args:Array Operand}{Cq:Array TypeId}(W:o.op=.call { callee:=.value fo,args:=args,argTypes:=Cq }){caps E:List SV}{r:SV}
  (hf:ρ fo=.B0 f caps)(M:G8 bx (args.toList.map ρ++caps)=some E)(hc:Ac P f E r)(hr:r.scalar=true):Bp P o ρ bx r bx []:=by
 intro C S w β a O ha;have J:=(ha fo (mC W));rw[hf]at J;generalize a0:a.eval fo=v at J;cases J with
 |B0 _ _ cs h1 h2 =>
  have U:Bv S w β (args.toList.map ρ++caps) (args.toList.map a.eval++cs):=(Bv.U1 _ λx hx=>ha x (mo W (by grind [Op.operands,Call.operands]))).append ⟨h1,h2⟩;have V:Inv ⟨w,all w,λ_=>False,λ_ _=>False,C.G⟩ (all w) w β []:=O.begin (λ_ Z=>Z) O.Bf;obtain⟨g1,g2⟩:=W7 O O.bd (λk c hk b Z=>(O.B7 k c hk b Z).2.1) M U;have L:=hc.2 ⟨w,all w,λ_=>False,λ_ _=>False,C.G⟩ β _ V g1;refine H6 ?_;unfold Oper.wp;rw[Sp hc.1 W a0,R6];have I:args.map a.eval++(⟨cs⟩:Array Value)=⟨args.toList.map a.eval++cs⟩:=by apply J6;simp
  rw[I];refine L.mono ?_;rintro e w' ⟨v,S',β',rfl,hk,hv⟩;obtain⟨q1,q2⟩:=O.back hk;exact⟨v,_,β,rfl,q1,q2,hv.scalar hr,λ_ _=>rfl⟩
def A6j(q k:Nat):SV->SV
 |.acc j=>if j=q then .acc k else .undef
 |.tuple [.acc j,x]=>if j=q then(if x.closed then .tuple [.acc k,x]else .undef)else .undef
 |_=>.undef
theorem F4n{β J:Names}{q k:Nat}{i:BI}{r:SV}{v:Value}(h:Ak S w J r v)(U:J q=i):Ak S w (Eg β k i) (A6j q k r) v:=by
 have I:∀u,Ak S w J (.acc q) u->Ak S w (Eg β k i) (.acc k) u:=λu V=>by
  cases V;rw[U];have:=Ak.acc (S:=S) (w:=w) (β:=Eg β k i) k
  grind [H2]
 unfold A6j;split
 .split
  .grind
  .exact .undef _
 .split
  .split
   .rename_i W
    subst_vars
    cases h with
    |tuple _ vs O M =>
     refine .tuple _ vs O λn c v E L=>?_
     match n,E with
     |0,E=>simp only[Qt,B4]at E;subst E;exact I _ (M 0 _ v rfl L)
     |1,E=>simp only[Xo,Qt,B4]at E;subst E;exact(M 1 _ v rfl L).closed W
     |n+2,E=>simp at E
   .exact .undef _
  .exact .undef _
 .exact .undef _
theorem F4m{f:FuncId}{fo:Operand}{args:Array Operand}{Cq:Array TypeId}{k:Nat}(a0:k<=999999)(ho:o.op=.call { callee:=.value fo,args:=args,argTypes:=Cq }){caps E:List SV}{q sz:Nat}{rows:List (List D)}{r:SV}
  (hf:ρ fo=.B0 f caps)(U:G8 [] (args.toList.map ρ++caps)=some E)(hc:Bj P f E [] r [(q,.rows sz rows)]) :
  Bp P o ρ bx (A6j q k r) ((k,.rows sz rows)::Gw k (Ca k bx)) [k]:=by
 intro C S w β a hi ha;have L:=(ha fo (mC ho));rw[hf]at L;generalize a1:a.eval fo=v at L;cases L with
 |B0 _ _ cs h1 h2 =>
  have W:Bv S w β (args.toList.map ρ++caps) (args.toList.map a.eval++cs):=(Bv.U1 _ λx hx=>ha x (mo ho (by grind [Op.operands,Call.operands]))).append ⟨h1,h2⟩;have V:Inv ⟨w,S,λ_=>False,λ_ _=>False,C.G⟩ S w β []:=hi.begin hi.Bf (λ_ h=>h);obtain⟨g1,g2⟩:=W7 V (Bk.refl S w) (by simp) U W;have M:=hc.2 ⟨w,S,λ_=>False,λ_ _=>False,C.G⟩ β _ V g1;refine H6 ?_;unfold Oper.wp;rw[Sp hc.1 ho a1,R6];have I:args.map a.eval++(⟨cs⟩:Array Value)=⟨args.toList.map a.eval++cs⟩:=by apply J6;simp
  rw[I];refine M.mono ?_;rintro e w' ⟨v,S',β',rfl,J,hv⟩;have Z:∀b,S' b->S b\/w.heap.size<=b:=λb O=>by
   rcases J.Ee b O with h|h|h
   .grind
   .grind
   grind
  obtain⟨p1,p2⟩:=hi.E2t (k:=k) (w':=w') (S':=S') (c:=.rows sz rows) (β' q) a0 (λb O=>J.Fg b O) Z J.Bf (by
    intro b O;obtain⟨g1,g2,g3⟩:=J.B7 q (.rows sz rows) (by simp) b O
    grind)
   (λb O _=>J.kept b O (by simp)) J.os J.tape J.output J.size (λ_=>Df.ext (c:=.rows sz rows) (J.box q (.rows sz rows) (by simp)) (Bk.refl _ _) (λ_ _=>rfl) (by simp[Ap.has]))
  grind [F4n,Lo]
end Go.Abs
namespace Go.Abs
open Go
variable {P:Program}
def Ao(sl:SL):Operand->SV
 |.tmp t=>Ag sl t
 |.const v=>L2 v
 |.func f=>.B0 f []
 |.global _=>.undef
def Ft(sl:SL)(dst:Option Nat)(r:SV):SL :=
 match dst with
 |some t=>(t,r)::sl
 |none=>sl
def Fe:List Nat->SL->SL
 |[],sl=>sl
 |k::ks,sl=>Fe ks (Wq k sl)
def A4k(o:Oper):Bool:=match o.op with| .defer _=>false|_=>true
variable {o:Oper}
def F8a(h:A4k o=true):∀c,o.op≠.defer c:=by grind [A4k]
def Kp(n:Nat)(dst:Option Nat):Prop :=
 match dst with
 |some t=>t<n
 |none=>True
def Marks(C:Ctx)(S:Nat->Prop)(w:World)(ds:List Deferred):Prop :=
 ∃Ds:List Nat,ds=Ds.map (λD=>({ target:=.collected D,args:=#[] }:Deferred))/\Ds.Nodup/\∀D,D∈Ds->S D/\C.w0.heap.size<=D/\w.heap[D]?=some (.deferred (some []))
variable {S:Nat->Prop} {w:World}
theorem Marks.nil{C:Ctx} :Marks C S w []:=⟨[],rfl,by simp,by simp⟩
def Marks.ext{C:Ctx}{S S':Nat->Prop}{w w':World}{ds:List Deferred}(h:Marks C S w ds)(e:Bk S w S' w'):Marks C S' w' ds:=by obtain⟨Ds,L,J,E⟩:=h;exact⟨Ds,L,J,λD I=>⟨e.sub D (E D I).1,(E D I).2.1,(e.same D (E D I).1).trans (E D I).2.2⟩⟩
variable {a:Act}
def Marks.put{C:Ctx}{S S':Nat->Prop}{w w':World}{dst:Option Tmp}{v:Value}(h:Marks C S w a.defers)(e:Bk S w S' w'):Marks C S' w' (a.put dst v).defers:=by
 have:(a.put dst v).defers=a.defers:=by cases dst <;> rfl
 rw[this];exact h.ext e
structure St(C:Ctx)(n:Nat)(S:Nat->Prop)(w:World)(β:Names)(a:Act)(sl:SL)(bx:Aa):Prop where
 inv:Inv C S w β bx
 size:a.tmps.size=n
 defers:Marks C S w a.defers
 slot:∀t,Ak S w β (Ag sl t) (a.tmps.getD t undef)
variable {β:Names}
def St.Ao{C:Ctx}{n:Nat}{sl:SL}{bx:Aa}(h:St C n S w β a sl bx)(x:Operand):Ak S w β (Ao sl x) (a.eval x):=by
 cases x with
 |tmp t=>exact h.slot t
 |const v=>exact A7g S w β v
 |global g=>exact .undef _
 |func f=>exact .B0 f [] [] rfl (by simp)
def F3q{t u:Nat}{v:Value}(h:t<a.tmps.size):(a.put (some t) v).tmps.getD u undef=if t=u then v else a.tmps.getD u undef:=by
 simp only[Act.put,Ao9,Array.getElem?_setIfInBounds]
 grind
def St.put{C:Ctx}{n:Nat}{S S':Nat->Prop}{w w':World}{β β':Names}{sl:SL}{bx bx':Aa}{dst:Option Nat}{v:Value}{r:SV}{pg:List Nat}(h:St C n S w β a sl bx)(hd:Kp n dst)
  (W:Inv C S' w' β' bx')(U:Bk S w S' w')(hr:Ak S' w' β' r v)(hb:∀k,k∉pg->β' k =β k):St C n S' w' β' (a.put dst v) (Ft (Fe pg sl) dst r) bx':=by
 have J:∀(ks:List Nat) (sl:SL) (t:Nat) (u:Value),Ak S w β (Ag sl t) u->(∀k,(Ag (Fe ks sl) t).has k=true->k∉ks/\(Ag sl t).has k=true)/\Ak S w β (Ag (Fe ks sl) t) u:=by
  intro ks
  induction ks with
  |nil=>intro sl t u V;exact⟨λk M=>⟨by simp,M⟩,V⟩
  |cons k ks ih =>
   intro sl t u V;have hp:Ak S w β (Ag (Wq k sl) t) u:=by
    rw[A9r];unfold Nf;split
    .exact .undef _
    .exact V
   obtain⟨L,O⟩:=ih (Wq k sl) t u hp;refine⟨λj Z=>?_,O⟩;obtain⟨g1,I⟩:=L j Z;rw[A9r]at I;unfold Nf at I;split at I
   .simp[SV.has]at I
   grind
 have E:∀t,Ak S' w' β' (Ag (Fe pg sl) t) (a.tmps.getD t undef):=by intro t;obtain⟨L,O⟩:=J pg sl t _ (h.slot t);exact O.ext U λk M=>hb k (L k M).1
 cases dst with
 |none=>exact⟨W,h.size,h.defers.ext U,E⟩
 |some d =>
  refine⟨W,by simp[Act.put,h.size],h.defers.put U,?_⟩;intro t;rw[F3q (by rw[h.size];exact hd)]
  grind [Ft,Ag]
def FW(ro:Option Nat):Fence:={ Fence.wide with round:=ro }
def A0(ro:Option Nat)(P:Program)(n:Nat)(c:Code)(Q:Exit->SL->Aa->Prop)(sl:SL)(bx:Aa):Prop :=
 ∀(C:Ctx) (S:Nat->Prop) (w:World) (β:Names) (a:Act),St C n S w β a sl bx ->
  c.wpIn (FW ro) 0 P (λe E w'=>∃sl' bx' S' β',Q e sl' bx'/\St C n S' w' β' E sl' bx') a w
variable {ro:Option Nat} {n:Nat} {Q:Exit->SL->Aa->Prop} {sl:SL} {bx:Aa}
def A0.mono{c:Code}{E:Exit->SL->Aa->Prop}(h:A0 ro P n c Q sl bx)(I:∀e sl bx,Q e sl bx->E e sl bx):A0 ro P n c E sl bx :=
 λC S w β a hs=>Xw (h C S w β a hs) λ_ _ _ ⟨sl',bx',S',β',q,r⟩=>⟨sl',bx',S',β',I _ _ _ q,r⟩
def A0.kk(h:Q .normal sl bx):A0 ro P n .skip Q sl bx:=λ_ S _ β _ hs=>wpIn_skip ⟨sl,bx,S,β,h,hs⟩
def A0.ret(h:Q .ret sl bx):A0 ro P n .ret Q sl bx:=λ_ S _ β _ hs=>wpIn_ret ⟨sl,bx,S,β,h,hs⟩
def A0.xx{id:Nat}(h:Q (.exit id) sl bx):A0 ro P n (.exit id) Q sl bx:=λ_ S _ β _ hs=>wpIn_exit ⟨sl,bx,S,β,h,hs⟩
def A4(K:SL->Aa->Prop)(Q:Exit->SL->Aa->Prop):Exit->SL->Aa->Prop
 |.normal,sl,bx=>K sl bx
 |e,sl,bx=>Q e sl bx
def Ab(id:Nat)(Q:Exit->SL->Aa->Prop):Exit->SL->Aa->Prop
 |.exit E,sl,bx=>if E=id then Q .normal sl bx else Q (.exit E) sl bx
 |e,sl,bx=>Q e sl bx
def A0.seq{x y:Code}(h:A0 ro P n x (A4 (A0 ro P n y Q) Q) sl bx):A0 ro P n (.seq x y) Q sl bx:=by
 intro C S w β a hs;refine wpIn_seq (Xw (h C S w β a hs) ?_);rintro e E w' ⟨sl',bx',S',β',q,r⟩;cases e with
 |normal=>exact q C S' w' β' E r
 |_=>exact⟨sl',bx',S',β',q,r⟩
def A0.bb{id:Nat}{c:Code}(h:A0 ro P n c (Ab id Q) sl bx):A0 ro P n (.block id c) Q sl bx:=by
 intro C S w β a hs;refine wpIn_block (Xw (h C S w β a hs) ?_);rintro e I w' ⟨sl',bx',S',β',q,r⟩;cases e with
 |exit E =>
  simp only[Ab]at q;simp only[Exit.inBlock]
  grind
 |_=>exact⟨sl',bx',S',β',q,r⟩
def A0.cond{c:Operand}{x y:Code}{t:Bool}(L:Ao sl c=.d (.bool t))(J:t=true->A0 ro P n x Q sl bx)(I:t=false->A0 ro P n y Q sl bx):A0 ro P n (.cond c x y) Q sl bx:=by intro C S w β a hs;have E:=hs.Ao c;rw[L]at E;exact wpIn_cond_split E.Wc (λh=>J h C S w β a hs) (λh=>I h C S w β a hs)
def Ax(x y:SV):Prop:=y=.undef\/x=y\/(y=.d (.slice [])/\(x=.d .nil\/x=.d .emp))
def sle(sl:SL):SL->Prop
 |[]=>True
 |(t,y)::r=>Ax (Ag sl t) y/\sle sl r
def F6b{x y:SV}{v:Value}(h:Ax x y)(hr:Ak S w β x v):Ak S w β y v:=by
 rcases h with rfl|rfl|⟨rfl,rfl|rfl⟩
 .exact .undef _
 .exact hr
 .exact .d _ _ hr.J0.of_nil
 .exact .d _ _ hr.J0.C9n
def E7g :∀{sl':SL},sle sl sl'->∀{t:Nat} {v:Value},Ak S w β (Ag sl t) v->Ak S w β (Ag sl' t) v
 |[],_,t,v,_=>.undef _
 |(u,y)::r,h,t,v,hr=>by
  simp only[Ag];split
  .subst_vars;exact F6b h.1 hr
  .exact E7g h.2 hr
def ble(bx:Aa):Aa->Prop
 |[]=>True
 |(k,c)::r=>A7 bx k=some c/\ble bx r
def A1d:∀{bx':Aa},ble bx bx'->∀k c,(k,c)∈bx'->(k,c)∈bx
 |[],_,k,c,h=>by grind
 |(j,x)::r,h,k,c,hm=>by
  simp only[Aw,Eo]at hm;rcases hm with⟨rfl,rfl⟩|hm
  .exact F8 h.1
  .exact A1d h.2 k c hm
def St.weaken{C:Ctx}{sl':SL}{bx':Aa}(h:St C n S w β a sl bx)(I:sle sl sl')(E:ble bx bx'):St C n S w β a sl' bx' :=
 ⟨h.inv.sub (A1d E),h.size,h.defers,λt=>E7g I (h.slot t)⟩
def A0.ww{c:Code}{sl':SL}{bx':Aa}(I:sle sl sl')(E:ble bx bx')(h:A0 ro P n c Q sl' bx'):A0 ro P n c Q sl bx :=
 λC S w β a hs=>h C S w β a (hs.weaken I E)
def A0.loop{X:Type}(mk:X->SL)(mb:X->Aa)(I:X->Prop)(μ:X->Nat){c:Code}(J:X)(O:I J)(L:sle sl (mk J))(M:ble bx (mb J))
  (h:∀x,I x->A0 ro P n c (A4 (λsl' bx'=>∃E,I E/\μ E<μ x/\sle sl' (mk E)/\ble bx' (mb E)) Q) (mk x) (mb x)):A0 ro P n (.loop c) Q sl bx:=by
 intro C S w β a hs;refine wpIn_loop_ghost (λm a w=>∃x S β,I x/\μ x=m/\St C n S w β a (mk x) (mb x)) (μ J) ⟨J,S,β,O,rfl,hs.weaken L M⟩ ?_;rintro m a w ⟨x,S,β,W,rfl,hs⟩;refine Xw (h x W C S w β a hs) ?_;rintro e Z w' ⟨sl',bx',S',β',q,r⟩;cases e with
 |normal =>obtain⟨E,L,M,V,U⟩:=q;exact⟨μ E,M,E,S',β',L,rfl,r.weaken V U⟩
 |_=>exact⟨sl',bx',S',β',q,r⟩
def A0.bd{c:Code}(t:Nat){d:D}(E:Ag sl t=.d d)(h:d.Bd->A0 ro P n c Q sl bx):A0 ro P n c Q sl bx:=by intro C S w β a hs;have hr:=hs.slot t;rw[E]at hr;exact h hr.J0.bd C S w β a hs
def Qe(ops:Array Oper)(j:Nat):Option Nat:=(ops[j]?).bind (·.dst)
def N3(ops:Array Oper)(sl:SL)(o:Oper):Option Bool :=
 match o.guard with
 |none=>some true
 |some (j,E)=>match Qe ops j with
  |some t=>match Ag sl t with
   |.d (.bool b)=>some (b ==E)
   |.tuple []=>some false
   |_=>none
  |none=>none
variable {ops:Array Oper}
def B0c{b:Bool}(hs:∀t,(∃j E,o.guard=some (j,E)/\Qe ops j=some t)->Ak S w β (Ag sl t) (a.tmps.getD t undef)/\t<a.tmps.size)
  (h:N3 ops sl o=some b):Region.wanted o (yielded ops a.tmps)=b:=by
 unfold N3 at h;unfold Region.wanted;cases O:o.guard with
 |none=>grind
 |some W =>
  obtain⟨j,E⟩:=W;simp only[O]at h |-;cases J:Qe ops j with
  |none=>grind
  |some t =>
   simp only[J]at h;obtain⟨I,V⟩:=hs t ⟨j,E,O,J⟩;have U:yielded ops a.tmps j=match a.tmps.getD t undef with| .bool b=>some b|_=>none:=by
    unfold yielded;rw[show(ops[j]?).bind (·.dst)=some t from J];have L:t<a.tmps.size:=V;simp only[Ar6,Nt L,Ao9,E1]
    grind
   rw[U];generalize a.tmps.getD t undef=v at I;split at h
   .rename_i x M;rw[M]at I;rw[I.Wc];simp_all
   .rename_i M;rw[M]at I;have:v=.tuple ⟨[]⟩:=by cases I with|tuple _ vs Z _=>grind
    grind
   grind
def Z3(P:Program)(n:Nat)(ops:Array Oper):List Oper->SL->Aa->(SL->Aa->Prop)->Prop
 |[],sl,bx,K=>K sl bx
 |o::os,sl,bx,K=>∃g,N3 ops sl o=some g/\Kp n o.dst /\
   (g=true->∃r bx' pg,Bp P o (Ao sl) bx r bx' pg/\Z3 P n ops os (Ft (Fe pg sl) o.dst r) bx' K) /\
   (g=false->Z3 P n ops os (Ft sl o.dst (.tuple [])) bx K)
def A8k(E:∀o,o∈ops.toList->Kp n o.dst){j t:Nat}(h:Qe ops j=some t):t<n:=by
 unfold Qe at h;cases I:ops[j]? with
 |none=>grind
 |some o =>simp only[I,Ar6]at h;have:=E o (by grind);rw[h]at this;exact this
def Oper.H0u{K J:Act->World->Prop}{M:Exit->Act->World->Prop}(I:o.wp P a w K (λ_ _ _=>False))(h:∀a w,K a w->J a w):o.wp P a w J M:=by
 unfold Oper.wp at*;generalize(execOp a.eval o).run P w=r at*;cases r with
 |ok n w' =>
  cases n <;> simp only[Oper.upon]at I |- <;>
   first
    |grind
    |exact Calls.mono I (λe O E=>by cases e <;> first|exact h _ _ E|exact E.elim| (obtain⟨_,_,L⟩:=E;exact L.elim))
    |exact Rows.mono I (λ_ _ E=>h _ _ E)
 |halt x w'=>cases x <;> simp only[Oper.upon]at I |-
def Oper.B2g{K J:Act->World->Prop}(I:o.wpx P a w K)(h:∀a w,K a w->J a w):o.wpx P a w J:=by
 rcases I with I|⟨l,f,tmps,E,body,w',hr,I⟩
 .exact .inl (Oper.H0u I h)
 .refine .inr ⟨l,f,tmps,E,body,w',hr,I.mono ?_⟩
  grind
def E4c{ro:Option Nat}{m:Nat}{f:FuncId}{args:Array Value}{R:Ending->World->Prop}(h:Calls P f args w R):CallsIn (FW ro) m P f args w R :=
 (callsIn_wide (n:=m)).2 h
def G7x{ro:Option Nat}{m:Nat}{row:String}{args:Array Value}{R:Value->World->Prop}(h:Rows P row args w R):RowsIn (FW ro) m P row args w R:=by intro c cs _;obtain⟨v,w',r,s⟩:=h c cs;exact⟨v,w',r,(stepsIn_wide (P:=P)).2 s⟩
def Oper.B1o{ro:Option Nat}{K U:Act->World->Prop}{W:Exit->Act->World->Prop}(M:A4k o=true)(E:o.wpx P a w K)(h:∀a w,K a w->U a w):o.wpIn (FW ro) 0 P a w U W:=by
 refine⟨λ_ _=>trivial,?_⟩;rw[Oper.semAt_eq _ _ _ (F8a M)];rcases E with E|⟨l,f,tmps,L,body,w',hr,E⟩
 .unfold Oper.wp at E;generalize(execOp a.eval o).run P w=r at*;cases r with
  |ok n w' =>
   cases n <;> simp only[Oper.upon]at E |- <;> simp only[Oper.uponIn] <;>
    first
     |grind
     |exact⟨λJ=>by simp[FW,Fence.wide]at J,E4c (Calls.mono E (λe O I=>by cases e <;> first|exact h _ _ I|exact I.elim| (obtain⟨_,_,V⟩:=I;exact V.elim)))⟩
     |exact⟨λJ=>by simp[FW,Fence.wide]at J,G7x (Rows.mono E (λ_ _ I=>h _ _ I))⟩
  |halt x w'=>cases x <;> simp only[Oper.upon]at E
 .rw[hr];simp only[Oper.uponIn];refine⟨λJ=>by simp[FW,Fence.wide]at J,RoundIn.mono (F:=FW ro) E ?_⟩;intro e O I;cases e with
  |returned v=>exact h _ _ I
  |_=>exact I.elim
def A9a{C:Ctx}{Z:Exit->Act->World->Prop}(L:∀o,o∈ops.toList->Kp n o.dst)(E:∀o,o∈ops.toList->A4k o=true){K:SL->Aa->Prop}
  (M:∀sl bx S w β a,K sl bx->St C n S w β a sl bx->Z .normal a w):∀(k i:Nat) (sl:SL) (bx:Aa) (S:Nat->Prop) (w:World) (β:Names) (a:Act),i+k=ops.size->Z3 P n ops (ops.toList.drop i) sl bx K ->
  St C n S w β a sl bx->wpOpsIn (FW ro) 0 P ops Z (List.range' i k) a w
 |0,i,sl,bx,S,w,β,a,V,hr,hs=>by have:ops.toList.drop i=[]:=Jf (by grind);rw[this]at hr;exact M sl bx S w β a hr hs
 |k+1,i,sl,bx,S,w,β,a,V,hr,hs=>by
  have hi:i<ops.size:=by omega
  have dp:ops.toList.drop i=ops[i]::ops.toList.drop (i+1):=by rw[Ge (by omega)];simp
  rw[dp]at hr;obtain⟨g,hg,J,h1,h2⟩:=hr;simp only[Aq7,wpOpsIn,Nt hi];have hw:=B0c (a:=a) (S:=S) (w:=w) (β:=β) (λt ht=>by obtain⟨j,W,_,hj⟩:=ht;exact⟨hs.slot t,by rw[hs.size];exact A8k L hj⟩) hg
  rw[hw];cases g with
  |true =>simp only[Ae];obtain⟨r,bx',pg,U,I⟩:=h1 rfl;refine Oper.B1o (E _ (by simp)) (U C S w β a hs.inv λx _=>hs.Ao x) ?_;rintro a' w' ⟨v,S',β',rfl,O,he,hv,hb⟩;exact A9a L E M k (i+1) _ bx' S' w' β' _ (by omega) I (hs.put J O he hv hb)
  |false =>simp only[I6,Fy];refine⟨λ_ _=>trivial,?_⟩;exact A9a L E M k (i+1) _ bx S w β _ (by omega) (h2 rfl) (hs.put (pg:=[]) J hs.inv (Bk.refl S w) (.tuple [] [] rfl (by simp)) (λ_ _=>rfl))
end Go.Abs
namespace Go.Abs
open Go
variable {ro:Option Nat} {P:Program} {n:Nat} {Q:Exit->SL->Aa->Prop} {sl:SL} {bx:Aa}
def E6(n:Nat)(ops:List Oper):Bool:=ops.all λo=>(match o.dst with|some t=>decide (t<n)|none=>true) && A4k o
def Q2{ops:List Oper}(h:E6 n ops=true):∀o,o∈ops->Kp n o.dst:=by
 intro o E;have:=Dr.1 h o E;simp only[Bc]at this
 grind [Kp]
def Xf{ops:List Oper}(h:E6 n ops=true):∀o,o∈ops->A4k o=true:=by
 intro o E;have:=Dr.1 h o E
 grind
def Wz(ks:List Nat)(sl:SL):SL :=
 match ks with
 |[]=>[]
 |k::r=>(k,Ag sl k)::Wz r sl
def T4(ks:List Nat)(bx:Aa):Aa :=
 match ks with
 |[]=>[]
 |k::r=>match A7 bx k with
  |some c=>(k,c)::T4 r bx
  |none=>T4 r bx
def E4w(sl:SL):∀(ks:List Nat)(t:Nat),Ag (Wz ks sl) t=Ag sl t\/Ag (Wz ks sl) t=.undef
 |[],t=>.inr rfl
 |k::r,t=>by
  simp only[Wz,Ag];split
  .grind
  .exact E4w sl r t
def C9w{k:Nat}{c:Ap} :∀{ks:List Nat},(k,c)∈T4 ks bx->(k,c)∈bx
 |[],h=>by simp[T4]at h
 |j::r,h=>by
  simp only[T4]at h;split at h
  .rename_i x E;simp only[Aw,Eo]at h;rcases h with⟨rfl,rfl⟩|h
   .exact F8 E
   .exact C9w h
  .exact C9w h
def St.S9{C:Ctx}{S:Nat->Prop}{w:World}{β:Names}{a:Act}(h:St C n S w β a sl bx)(ks E:List Nat):St C n S w β a (Wz ks sl) (T4 E bx) :=
 ⟨h.inv.sub λ_ _ I=>C9w I,h.size,h.defers,λt=>by
  rcases E4w sl ks t with e|e <;> rw[e]
  .exact h.slot t
  .exact .undef _⟩
variable {ops:Array Oper}
def A0.region{id:Nat}(ks J:List Nat)(I:E6 n ops.toList=true)(h:Z3 P n ops ops.toList sl bx λsl' bx'=>Q .normal (Wz ks sl') (T4 J bx')):A0 ro P n (.region id ops false) Q sl bx:=by intro C S w β a hs;refine wpIn_region ?_;rw[List.range_eq_range'];exact A9a (Q2 I) (Xf I) (λsl' bx' S' w' β' M L E=>⟨_,_,S',β',L,E.S9 ks J⟩) ops.size 0 sl bx S w β a (by simp) (by grind) hs
def B0x(ops:Array Oper)(o:Oper):List Nat:=o.looksAt ops
def left(size:Nat)(E:Array Bool):Nat:=(List.range size).countP λi=>!(E.getD i false)
def G2q{size i:Nat}{E:Array Bool}(hs:E.size=size)(U:i<size)(h:E.getD i false=false):left size (E.setIfInBounds i true)<left size E:=by
 unfold left;have O:i<E.size:=by omega
 have M:∀j,(!(E.setIfInBounds i true).getD j false)=(!(decide (j=i)) && !(E.getD j false)):=by
  intro j;by_cases J:i=j
  .simp_all
  .rw[getD_set_ne false J];grind
 simp only[M];have:∀l:List Nat,i∈l->(l.countP λj=>!(decide (j=i)) && !(E.getD j false))<l.countP λj=>!(E.getD j false):=by
  intro l
  induction l with
  |nil=>simp
  |cons a l V =>
   intro I;have L:(l.countP λj=>!(decide (j=i)) && !(E.getD j false))<=l.countP λj=>!(E.getD j false):=List.countP_mono_left (by simp)
   grind
 grind
variable {o:Oper}
def F9j{s I:SL}(h:∀j E t,o.guard=some (j,E)->Qe ops j=some t->Ag s t=Ag I t):N3 ops s o=N3 ops I o:=by grind [N3]
def G1m{j t:Nat}{E:Bool}(J:o.guard=some (j,E))(I:Qe ops j=some t):t∈o.looksAt ops:=by grind [Oper.looksAt,Qe]
def H1v{t:Nat}(h:Operand.tmp t∈o.op.operands):t∈o.looksAt ops:=by unfold Oper.looksAt;simp only[D2,List.mem_filterMap];left;exact⟨.tmp t,by grind,rfl⟩
end Go.Abs
