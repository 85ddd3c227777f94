/- Slices of one's own, calls, code on abstract states, regions. Own framework. -/
import Derived.Deep.LoopGhost
import Derived.Sort.LoopGhostIn
import Derived.OrdersIn
import Derived.Test.YtaneedhchnaniaaGreatDoorKAb1
set_option linter.all false
namespace Go.Abs
open Go
variable {P:Program} {o:Oper} {ρ:Hq} {bx:Ab}
def Ru:List SV→Option (List D)
 |[]=>some []
 |.d x::r=>match Ru r with
  |some l=>match x with
   |.nil=>some (.slice []::l)
   |.emp=>some (.slice []::l)
   |.agg _=>none
   |y=>some (y::l)
  |none=>none
 |_::_=>none
variable {S:Nat→Prop} {w:World} {β:Names}
theorem B0h :∀(cs:List SV)(ds:List D)(vs:List Value),Ru cs=some ds→Bm S w β cs vs →
  ds.length=cs.length∧(∀d,d∈ds→d.one=true)∧∀(j:Nat) (d:D) (v:Value),ds[j]? = some d→vs[j]? = some v→Br S w d v
 |[],ds,vs,h,hr=>by simp only [Ru,Av] at h;subst h;simp
 |c::cs,ds,vs,h,hr=>by
  cases c <;> simp only [Ru,reduceCtorEq] at h;rename_i x;cases I:Ru cs with
  |none=>simp [I] at h
  |some l =>
   rw [I] at h;cases vs with
   |nil=>have:=hr.1;simp at this
   |cons v vs =>
    have E:Br S w x v:=(hr.2 0 (.d x) v rfl rfl).Gp;obtain⟨W,R,V⟩:=B0h cs l vs I ⟨by have:=hr.1;simpa using this,fun j c v U E=>hr.2 (j+1) c v (by simpa using U) (by simpa using E)⟩;have key:∃y,ds=y::l∧y.one=true∧Br S w y v:=by
     cases x <;> simp only [Av,reduceCtorEq] at h <;> first
      |exact⟨_,h.symm,rfl,E⟩
      |exact⟨_,h.symm,rfl,E.of_nil⟩
      |exact⟨_,h.symm,rfl,E.C2t⟩
    obtain⟨y,rfl,L,O⟩:=key;refine⟨by simp [W],?_,?_⟩
    ·intro d hd;simp only [As] at hd;rcases hd with rfl| hd
     ·exact L
     ·exact R d hd
    ·intro j d u hd J;cases j with
     |zero=>simp at hd J;subst hd;subst J;exact O
     |succ j=>exact V j d u (by simpa using hd) (by simpa using J)
structure Flat (S:Nat→Prop)(w:World)(sz:Nat)(rows:List (List D))(vs:List Value):Prop where
 len:vs.length=rows.length*sz
 row:∀row,row∈rows→row.length=sz
 one:∀row,row∈rows→∀d,d∈row→d.one=true
 rep:∀(i j:Nat) (row:List D) (d:D) (v:Value),rows[i]? = some row→row[j]? = some d→vs[i*sz+j]? = some v→Br S w d v
variable {vs:List Value}
theorem Flat.ext {S S':Nat→Prop} {w w':World} {sz:Nat} {rows:List (List D)} (h:Flat S w sz rows vs)(e:Bo S w S' w'):Flat S' w' sz rows vs :=
 ⟨h.len,h.row,h.one,fun i j row d v J E I=>(h.rep i j row d v J E I).ext e⟩
theorem Flat.nil {sz:Nat} :Flat S w sz [] []:=⟨by simp,by simp,by simp,by simp⟩
theorem Flat.cons {sz:Nat} {row:List D} {rows:List (List D)} {us vs:List Value} (J:row.length=sz)(I:us.length=sz)(E:∀d,d∈row→d.one=true)
  (hr:∀(j:Nat) (d:D) (v:Value),row[j]? = some d→us[j]? = some v→Br S w d v) (h:Flat S w sz rows vs):Flat S w sz (row::rows) (us++vs) where
 len:=by simp [I,h.len,Ei];omega
 row r hr:=by
  simp only [As] at hr;rcases hr with rfl| hr
  ·exact J
  ·exact h.row r hr
 one r hr:=by
  simp only [As] at hr;rcases hr with rfl| hr
  ·exact E
  ·exact h.one r hr
 rep i j r d v h1 h2 h3:=by
  have L:j < sz:=by
   have e:=(Ay.1 h2).1;cases i with
   |zero=>simp at h1;subst h1;omega
   |succ i=>have:=h.row r (Bx (by simpa using h1));omega
  cases i with
  |zero =>simp at h1;subst h1;rw [Nat.zero_mul,I2,J6 (by omega)] at h3;exact hr j d v h2 h3
  |succ i =>rw [Ei,At1,Jh (by omega)] at h3;exact h.rep i j r d v (by simpa using h1) h2 (by rw [←h3];congr 1;omega)
theorem Flat.append {sz:Nat} {rows xs:List (List D)} {us vs:List Value} (h:Flat S w sz rows us)(k:Flat S w sz xs vs):Flat S w sz (rows++xs) (us++vs) where
 len:=by simp [h.len,k.len,Ei]
 row r hr:=by
  simp only [Bw] at hr;rcases hr with hr| hr
  ·exact h.row r hr
  ·exact k.row r hr
 one r hr:=by
  simp only [Bw] at hr;rcases hr with hr| hr
  ·exact h.one r hr
  ·exact k.one r hr
 rep i j r d v h1 h2 h3:=by
  by_cases E:i < rows.length
  ·rw [J6 E] at h1;have I:j < sz:=by have:=(Ay.1 h2).1;have:=h.row r (Bx h1);omega
   have:(i+1)*sz≤rows.length*sz:=H4 _ E;rw [Ei,At1] at this;rw [J6 (by rw [h.len];omega)] at h3;exact h.rep i j r d v h1 h2 h3
  ·rw [Jh (by omega)] at h1;have:rows.length*sz≤i*sz:=H4 _ (by omega);rw [Jh (by rw [h.len];omega)] at h3;refine k.rep (i - rows.length) j r d v h1 h2 ?_;rw [←h3,h.len];congr 1;rw [Nat.sub_mul];omega
def rowsOf (ρ:Hq)(sz:Nat):Nat→List (Nat × Operand)→Option (List (List D))
 |_,[]=>some []
 |n,(i,x)::r=>match content (ρ x) with
  |some c=>match Ru c with
   |some row=>if i=n∧row.length=sz then (rowsOf ρ sz (n+1) r).map (row::·) else none
   |none=>none
  |none=>none
theorem C8f {a:Act} (sz:Nat):∀(parts:List (Nat × Operand))(n:Nat)(rows:List (List D))(pre rest:List Value),(∀p,p∈parts→Am S w β (ρ p.2) (a.eval p.2)) →
  rowsOf ρ sz n parts=some rows→pre.length=n*sz→rest.length=parts.length*sz →
  ∃vs,Instr.fill (fun i=>some (i*sz,sz)) ⟨pre++rest⟩ (parts.map fun p=>(p.1,a.eval p.2))=some ⟨pre++vs⟩∧Flat S w sz rows vs∧rows.length=parts.length
 |[],n,rows,pre,rest,_,h,L,hr=>by
  simp only [rowsOf,Av] at h;subst h;have:rest=[]:=by cases rest <;> simp at hr;rfl
  subst this;exact⟨[],rfl,.nil,rfl⟩
 |(i,x)::parts,n,rows,pre,rest,ha,h,L,hr=>by
  simp only [rowsOf] at h;cases R:content (ρ x) with
  |none=>simp [R] at h
  |some c =>
   cases hd:Ru c with
   |none=>simp [R,hd] at h
   |some row =>
    simp only [R,hd] at h;split at h
    ·rename_i Z;obtain⟨rfl,U⟩:=Z;simp only [Ij] at h;obtain⟨J,I,rfl⟩:=h;obtain⟨g1,g2⟩:=(ha (i,x) (by simp)).content R;obtain⟨q1,q2,q3⟩:=B0h c row _ hd g1;have V:(a.eval x).cells.size=sz:=by have:=g1.1;simp at this;omega
     have E:(a.eval x).cells.toList.length=sz:=by simpa using V
     have a0:sz≤rest.length:=by rw [hr];simp [Ei]
     have O:Gs (pre++rest) (i*sz) (a.eval x).cells.toList=(pre++(a.eval x).cells.toList)++rest.drop sz:=by
      apply Lu;intro j;rw [Zv _ _ _ _ (by simp only [B3];omega)];by_cases h1:i*sz≤j∧j < i*sz+(a.eval x).cells.toList.length
      ·rw [A8 h1,J6 (by simp only [B3];omega),Jh (by omega),L]
      ·rw [A6 h1];by_cases h2:j < i*sz
       ·rw [J6 (by omega),J6 (by simp only [B3];omega),J6 (by omega)]
       ·rw [Jh (by omega),Jh (by simp only [B3];omega),Ri]
        congr 1
        simp only [B3];omega
     obtain⟨vs,f1,f2,f3⟩:=C8f sz parts (i+1) J (pre++(a.eval x).cells.toList) (rest.drop sz) (fun p L=>ha p (by simp [L])) I (by simp only [B3,E,L,Ei];omega)
      (by simp only [Ao8,hr,Bg,Ei];omega)
     refine⟨(a.eval x).cells.toList++vs,?_,.cons U E q2 q3 f2,by simp [f3]⟩;simp only [Cz,Instr.fill];rw [A6 (by simp only [ne_eq,Ta,D8,Nb];simp;simp at hr;omega)];have W:=C5n (a.eval x).cells.toList (pre++rest) (i*sz) 0;simp only [Q6] at W;have e:(a.eval x).cells.toList.zipIdx=(a.eval x).cells.zipIdx.toList:=by simp
     rw [e,Array.foldl_toList] at W;rw [W,O,f1,Pg]
    ·simp at h
theorem A1c {T e:Nat} (h:Dv P T=some e)(w:World):(underlying T).run P w=.ok (.slice e) w:=by
 unfold Dv at h;cases E:P.underlying T with
 |none=>simp [E] at h
 |some d =>rw [E] at h;cases d <;> simp only [reduceCtorEq,Av] at h;subst h;simp [underlying,E]
theorem D7s {a:Act} {T e n sz:Nat} {parts:Array (Nat × Operand)} (U:∀p,p∈parts.toList→Am S w β (ρ p.2) (a.eval p.2)) {rows:List (List D)} {R:List SV}
  (hT:Dv P T=some e) (hs:Bs P e=some sz) (V:Cj P e=some R) (L:R.length=sz) (W:n*sz≤16777216) (O:parts.size=n) (hr:rowsOf ρ sz 0 parts.toList=some rows) :
  ∃vs,(Instr.buildSlice T n (parts.map fun p=>(p.1,a.eval p.2))).run P w=.ok (.slice (some ⟨w.heap.size,0,none⟩) n n) { w with heap:=w.heap.push (.cells ⟨vs⟩ e) }∧Flat S w sz rows vs∧rows.length=n:=by
 obtain⟨z,E,rfl⟩:=B5w V w;simp only [B6,V3] at L;obtain⟨vs,f1,f2,f3⟩:=C8f sz parts.toList 0 rows [] ((Array.range (n*sz)).map (fun j=>(if n*sz=0 then #[] else z.cells)[j % (if n*sz=0 then #[] else z.cells).size]!)).toList U hr (by simp) (by simp [O]);refine⟨vs,?_,f2,by rw [f3];simpa using O⟩;simp only [Wa] at f1;simp only [Instr.buildSlice,Hu,A1c hT,H8,Ra hs];rw [A6 (show ¬n*sz > 2 ^ 24 by omega)];have J:Instr.fill (fun i=>some (i*sz,sz)) (Array.map (fun x=>(if n*sz=0 then #[] else z.cells)[x % (if n*sz=0 then #[] else z.cells).size]!) (Array.range (n*sz))) (Array.map (fun p=>(p.fst,a.eval p.snd)) parts).toList=some ⟨vs⟩:=by rw [Ao9];exact f1
 by_cases I:n*sz=0
 ·rw [A8 I];simp only [A8 I] at J;simp only [Hu,Kp,H8,J,newRow,run_newObj]
 ·rw [A6 I];simp only [A6 I] at J;simp only [Hu,Kp,H8,E,J,newRow,run_newObj]
theorem Flat.slice {sz:Nat} {rows:List (List D)} (h:Flat S w sz rows vs) {b:Nat} {ty:TypeId} {U:Nat × Nat} {us:List Value} {off cap:Nat} (Z:S b)
  (L:w.heap[b]? = some (.cells ⟨us⟩ ty U)) (O:∀(j:Nat) (v:Value),vs[j]? = some v→us[off+j]? = some v) (R:rows.length≤lim) (V:rows.length≤cap) :
  Br S w (.slice rows) (.slice (some ⟨b,off,none⟩) rows.length cap):=by
 refine .slice rows b off cap sz Z R V h.row h.one ?_ ?_
 ·intro i j J W;have E:i*sz+j < vs.length:=by
   rw [h.len];have:(i+1)*sz≤rows.length*sz:=H4 _ J;rw [Ei,At1] at this;omega
  exact⟨vs[i*sz+j],by rw [cells_of_row L];exact O _ _ (Ba E)⟩
 ·intro i j row d v hr hd I;have J:=(Ay.1 hr).1;have W:j < sz:=by have:=(Ay.1 hd).1;have:=h.row row (Bx hr);omega
  have E:i*sz+j < vs.length:=by rw [h.len];have:(i+1)*sz≤rows.length*sz:=H4 _ J;rw [Ei,At1] at this;omega
  rw [cells_of_row L,O _ _ (Ba E)] at I;simp only [Av] at I;exact h.rep i j row d v hr hd (by rw [←I,Ba E])
theorem Inv.G3j {C:Ctx} (h:Inv C S w β bx)(x:Obj) :
  Inv C (fun b=>S b∨b=w.heap.size) { w with heap:=w.heap.push x } β bx∧Bo S w (fun b=>S b∨b=w.heap.size) { w with heap:=w.heap.push x }:=by
 refine h.grow (fun b hb=>.inl hb) ?_ ?_ ?_ rfl rfl rfl (by simp)
 ·intro b hb;rcases hb with hb| hb
  ·exact .inl hb
  ·exact .inr (by omega)
 ·intro b hb;rcases hb with hb| hb
  ·have:=h.Bi b hb;simp;omega
  ·simp [hb]
 ·intro b hb;exact B5t w x hb
theorem D6w {T e n sz:Nat} {parts:Array (Nat × Operand)} (R:o.op=.buildSlice T n parts) {rows:List (List D)} {U:List SV}
  (hT:Dv P T=some e) (hs:Bs P e=some sz) (hz:Cj P e=some U) (L:U.length=sz) (hn:n*sz≤16777216) (J:parts.size=n) (hr:rowsOf ρ sz 0 parts.toList=some rows) (E:n≤lim) :
  Bt P o ρ bx (.d (.slice rows)) bx []:=by
 intro C S w β a Z W;obtain⟨vs,I,hf,V⟩:=D7s (fun p J=>W p.2 (mo R (by simp only [Op.operands,Aw2,Ax];exact⟨p,J,rfl⟩))) hT hs hz L hn J hr;obtain⟨h1,O⟩:=Z.G3j (.cells ⟨vs⟩ e);refine He ?_;unfold Oper.wp;have:(execOp a.eval o).run P w=.ok (.value (.slice (some ⟨w.heap.size,0,none⟩) n n)) { w with heap:=w.heap.push (.cells ⟨vs⟩ e) }:=by simp only [execOp,R,Hu,I,H8,Kp]
 rw [this];refine⟨_,_,β,rfl,h1,O,?_,fun _ _=>rfl⟩;subst V;exact .d _ _ ((hf.ext O).slice (.inr rfl) (C0m w _) (fun j v hv=>by simpa using hv) E (Cq _))
theorem B9p {i:BI} {sz:Nat} {rows:List (List D)} {ty:TypeId} {b:Nat} (hb:i.base=some b)(V:i.sz=sz)(J:rows.length=i.len)(I:i.len≤i.cap)
  (E:rows.length≤lim) (hh:w.heap[b]? = some (.cells ⟨vs⟩ ty (0,0))) (O:(i.off+i.cap)*sz≤vs.length) (us:List Value) (R:Flat S w sz rows us) (Z:∀(j:Nat) (v:Value),us[j]? = some v→vs[i.off*sz+j]? = some v) :
  Dh S w β i (.rows sz rows):=by
 refine⟨V,J,I,E,R.row,R.one,?_⟩;rw [hb];refine⟨ty,vs,hh,O,?_⟩;intro r j row d v hr hd W;have hj:j < sz:=by have:=(Ay.1 hd).1;have:=R.row row (Bx hr);omega
 have U:=(Ay.1 hr).1;have L:r*sz+j < us.length:=by rw [R.len];have:(r+1)*sz≤rows.length*sz:=H4 _ U;rw [Ei,At1] at this;omega
 have:=Z _ _ (Ba L);rw [Ei,Mh,this] at W;simp only [Av] at W;exact R.rep r j row d v hr hd (by rw [←W,Ba L])
theorem G5r {T e n sz k:Nat} {parts:Array (Nat × Operand)} (L:k≤999999)(Z:o.op=.buildSlice T n parts) {rows:List (List D)} {zs:List SV}
  (hT:Dv P T=some e) (hs:Bs P e=some sz) (hz:Cj P e=some zs) (O:zs.length=sz) (hn:n*sz≤16777216) (J:parts.size=n) (hr:rowsOf ρ sz 0 parts.toList=some rows) (R:n≤lim) :
  Bt P o ρ bx (.acc k) ((k,.rows sz rows)::H7 k (C3 k bx)) [k]:=by
 intro C S w β a W ha;obtain⟨vs,E,V,U⟩:=D7s (fun p J=>ha p.2 (mo Z (by simp only [Op.operands,Aw2,Ax];exact⟨p,J,rfl⟩))) hT hs hz O hn J hr;obtain⟨h1,h2⟩:=W.Vo (k:=k) (w':={ w with heap:=w.heap.push (.cells ⟨vs⟩ e) }) (c:=.rows sz rows) { base:=some w.heap.size,len:=n,cap:=n,sz:=sz } L (by
   intro b hb;simp only [Av] at hb;subst hb;exact⟨fun hs=>by have:=W.Bi _ hs;omega,by simp,.inl (Cq _)⟩)
  (fun b' I _=>B5t w _ I) rfl rfl rfl (by simp)
  (fun e0=>B9p rfl rfl U (Cq _) (by omega) (C0m w _) (by simp [V.len,U]) vs (V.ext e0) (fun j v hv=>by simpa using hv))
 refine He ?_;unfold Oper.wp;have:(execOp a.eval o).run P w=.ok (.value (.slice (some ⟨w.heap.size,0,none⟩) n n)) { w with heap:=w.heap.push (.cells ⟨vs⟩ e) }:=by simp only [execOp,Z,Hu,E,H8,Kp]
 rw [this];refine⟨_,S,_,rfl,h1,h2,?_,fun j hj=>Jk (by simpa using hj)⟩;have:=Am.acc (S:=S) (w:={ w with heap:=w.heap.push (.cells ⟨vs⟩ e) }) (β:=E3 β k { base:=some w.heap.size,len:=n,cap:=n,sz:=sz }) k;rw [G8] at this;simpa using this
end Go.Abs
namespace Go.Abs
open Go
variable {P:Program} {o:Oper} {ρ:Hq} {bx:Ab}
def Hk (i:BI):Value:=.slice (i.base.map fun b=>⟨b,i.off*i.sz,none⟩) i.len i.cap
structure Src (P:Program)(S:Nat→Prop)(w:World)(sz:Nat)(xs:List (List D))(v:Value)(vs:List Value):Prop where
 len:(Builtin.lenOf v).run P w=.ok xs.length w
 cells:∀n w',n=xs.length→(∀b,(∃p l c,v=.slice (some ⟨b,p,none⟩) l c)→w'.heap[b]? = w.heap[b]?)→(Builtin.firstCells sz n v).run P w'=.ok ⟨vs⟩ w'
 flat:Flat S w sz xs vs
 one:vs.all (·.oneCell')=true
variable {S:Nat→Prop} {w:World}
theorem Src.nil {sz:Nat} {p:Option Addr} {c:Nat} :Src P S w sz [] (.slice p 0 c) [] where
 len:=rfl
 cells n w' hn _:=by
  subst hn;cases p with
  |none=>rfl
  |some a=>simp [Builtin.firstCells,loadCells,loadCellsFrom]
 flat:=.nil
 one:=rfl
theorem C1z {b off n:Nat} (h:∀j,j < n→∃v,w.cell? ⟨b,off+j,none⟩=some v):∃vs:List Value,vs.length=n∧∀(j:Nat)(v:Value),vs[j]? = some v→w.cell? ⟨b,off+j,none⟩=some v:=by
 refine⟨(List.range n).map fun j=>(w.cell? ⟨b,off+j,none⟩).getD undef,by simp,?_⟩;intro j v E;simp only [D3,Ww] at E;by_cases I:j < n
 ·obtain⟨u,J⟩:=h j I;simp [I,J] at E;rw [←E];exact J
 ·simp [I] at E
theorem C5a {sz n b off len cap:Nat} {vs:List Value} (E:vs.length=n*sz)(h:∀(j:Nat)(v:Value),vs[j]? = some v→w.cell? ⟨b,off+j,none⟩=some v) :
  (Builtin.firstCells sz n (.slice (some ⟨b,off,none⟩) len cap)).run P w=.ok ⟨vs⟩ w:=by
 have:=run_loadCells_list (P:=P) w ⟨b,off,none⟩ vs (fun j v I=>by rw [Xk];exact h j v I);rw [E] at this;simpa [Builtin.firstCells] using this
theorem cell_of_heap {w w':World} {b:Nat} (h:w'.heap[b]? = w.heap[b]?)(p:Nat):w'.cell? ⟨b,p,none⟩=w.cell? ⟨b,p,none⟩:=Au5 (w:=w) h
theorem Src.slice {sz:Nat} {xs:List (List D)} {v:Value} (h:Br S w (.slice xs) v)(a1:∀row,row∈xs→row.length=sz):∃vs,Src P S w sz xs v vs:=by
 cases h with
 |Ja a c _=>exact⟨[],.nil⟩
 |slice _ b off cap E hS h1 h2 h3 J h4 h5 =>
  by_cases hx:xs=[]
  ·subst hx;exact⟨[],.nil⟩
  ·have V:E=sz:=by
    cases xs with
    |nil=>exact absurd rfl hx
    |cons r xs=>rw [←h3 r (by simp),a1 r (by simp)]
   subst V;have a0:∀j,j < xs.length*E→∃v,w.cell? ⟨b,off+j,none⟩=some v:=by
    intro j W;have Qg:0 < E:=by
                 rcases Ap2 E with h| h;· subst h;simp at W
                 ·exact h
    obtain⟨v,L⟩:=h4 (j / E) (j % E) (Au7 (by rw [Tf];exact W)) (Xp _ Qg);have:j / E*E+j % E=j:=by rw [Tf];exact Nat.div_add_mod j E
    exact⟨v,by rw [←this];exact L⟩
   obtain⟨vs,Z,R⟩:=C1z a0;have I:Flat S w E xs vs:=⟨Z,h3,J,fun i j row d v hr hd L=>h5 i j row d v hr hd (R _ _ L)⟩;refine⟨vs,?_,?_,I,?_⟩
   ·rfl
   ·intro n w' hn hb;subst hn;exact C5a Z fun j v L=>by rw [cell_of_heap (hb b ⟨off,xs.length,cap,rfl⟩)];exact R j v L
   ·rw [Cf];intro v L;obtain⟨j,W⟩:=Nt.1 L;have O:=(Ay.1 W).1;rw [Z] at O;have Qg:0 < E:=by
                 rcases Ap2 E with h| h;· subst h;simp at O
                 ·exact h
    have hi:j / E < xs.length:=Au7 (by rw [Tf];exact O);have U:=h3 _ (F7 hi);have hm:j % E < xs[j / E].length:=by rw [U];exact Xp _ Qg
    have e:j / E*E+j % E=j:=by rw [Tf];exact Nat.div_add_mod j E
    exact (I.rep (j / E) (j % E) _ _ v (Ba hi) (Ba hm) (by rw [e];exact W)).one (J _ (F7 hi) _ (F7 hm))
theorem Src.acc {β:Names} {i:BI} {sz:Nat} {xs:List (List D)} (h:Dh S w β i (.rows sz xs)):∃vs,Src P S w sz xs (Hk i) vs:=by
 obtain⟨g1,Z,g3,g4,g5,g6,V⟩:=h;subst g1;cases O:i.base with
 |none =>
  rw [O] at V;simp only at V;have:xs=[]:=by cases xs with
   |nil=>rfl
   |cons r xs=>simp at Z;omega
  subst this;refine⟨[],?_⟩;simp only [Hk,O,Ap8,←Z];exact .nil
 |some b =>
  rw [O] at V;obtain⟨ty,vs,hh,a1,U⟩:=V;have a0:i.off*i.sz+xs.length*i.sz≤vs.length:=by have:(i.off+xs.length)*i.sz≤(i.off+i.cap)*i.sz:=H4 _ (by omega);rw [Ei] at this;omega
  have hl:((vs.drop (i.off*i.sz)).take (xs.length*i.sz)).length=xs.length*i.sz:=by simp;omega
  have L:∀(j:Nat) (v:Value),((vs.drop (i.off*i.sz)).take (xs.length*i.sz))[j]? = some v→vs[i.off*i.sz+j]? = some v:=by
   intro j v I;simp only [Yd,Ri] at I;split at I
   ·exact I
   ·simp at I
  have E:Flat S w i.sz xs ((vs.drop (i.off*i.sz)).take (xs.length*i.sz)):=by refine⟨hl,g5,g6,?_⟩;intro r j row d v hr hd I;have:=L _ _ I;exact U r j row d v hr hd (by rw [Ei,Mh];exact this)
  refine⟨_,?_,?_,E,?_⟩
  ·simp [Hk,O,Builtin.lenOf,Z]
  ·intro n w' hn W;subst hn;simp only [Hk,O,E8];refine C5a hl fun j v I=>?_;rw [cell_of_heap (W b ⟨i.off*i.sz,i.len,i.cap,by simp [Hk,O]⟩),cells_of_row hh];exact L j v I
  ·rw [Cf];intro v I;obtain⟨j,hj⟩:=Nt.1 I;have J:=(Ay.1 hj).1;rw [hl] at J;have Qg:0 < i.sz:=by
                 rcases Ap2 i.sz with h| h;· rw [h] at J;simp at J
                 ·exact h
   have hi:j / i.sz < xs.length:=Au7 (by rw [Tf];exact J);have R:=g5 _ (F7 hi);have hm:j % i.sz < xs[j / i.sz].length:=by rw [R];exact Xp _ Qg
   have e:j / i.sz*i.sz+j % i.sz=j:=by rw [Tf];exact Nat.div_add_mod j i.sz
   exact (E.rep (j / i.sz) (j % i.sz) _ _ v (Ba hi) (Ba hm) (by rw [e];exact hj)).one (g6 _ (F7 hi) _ (F7 hm))
structure A7t (P:Program)(T e sz bytes:Nat):Prop where
 hT:Dv P T=some e
 Ms:Bs P e=some sz
 hzero:(Cj P e).map List.length=some sz
 D9y:(P.info? e).map (·.bytes)=some bytes
 Qg:bytes≠0
def Ji (P:Program)(T:TypeId):Bool :=
 match P.underlying T with
 |some (.slice _)=>true
 |some .string=>true
 |_=>false
theorem E6i {T:TypeId} (h:Ji P T=true)(w:World):(∃e,(underlying T).run P w=.ok (.slice e) w)∨(underlying T).run P w=.ok .string w:=by
 unfold Ji at h;cases E:P.underlying T with
 |none=>simp [E] at h
 |some d =>
  cases d <;> simp [E] at h
  ·exact .inr (by simp [underlying,E])
  ·rename_i e;exact .inl ⟨e,by simp [underlying,E]⟩
theorem D4c (zero:Array Value)(n:Nat):(Builtin.zeroCells zero n).size=n*zero.size:=by simp [Builtin.zeroCells]
theorem C9a {β:Names} {i:BI} {T e sz bytes U:Nat} {rs xs:List (List D)} {v:Value} {vs:List Value} (hE:A7t P T e sz bytes)(hU:Ji P U=true)(a7:Dh S w β i (.rows sz rs))
  (b1:∀b,i.base=some b→¬S b∧b < w.heap.size) (I:Src P S w sz xs v vs) (a1:(rs.length+xs.length)*bytes≤lim) (ty:TypeId) :
  ∃(i':BI) (w':World),(Builtin.append_ #[T,U] ty #[Hk i,v]).run P w=.ok (Hk i') w'∧w'.os=w.os∧w'.tape=w.tape∧w'.output=w.output∧w.heap.size≤w'.heap.size ∧
   (∀b,b < w.heap.size→i.base≠some b→w'.heap[b]? = w.heap[b]?)∧(∀b,i'.base=some b→i.base=some b∨(w.heap.size≤b∧b < w'.heap.size)) ∧
   (Bo S w S w'→∀β',Dh S w' β' i' (.rows sz (rs++xs))):=by
 have a9:=a7;obtain⟨g1,g2,g3,g4,g5,g6,g7⟩:=a7;have hdu:=E6i hU w;have ax:1≤bytes:=by have:=hE.Qg;omega
 have a5:rs.length+xs.length≤lim:=Dk (Nat.le_mul_of_pos_right _ ax) a1;obtain⟨os,O⟩:=Src.acc (P:=P) a9;obtain⟨zs,hz,ak⟩:∃zs,Cj P e=some zs∧zs.length=sz:=by
  have:=hE.hzero;cases hz:Cj P e with
  |none=>simp [hz] at this
  |some zs=>exact⟨zs,rfl,by simpa [hz] using this⟩
 by_cases hc:i.len+xs.length≤i.cap
 ·
  cases Z:i.base with
  |none =>
   rw [Z] at g7;simp only at g7;have hx:xs=[]:=by cases xs with
    |nil=>rfl
    |cons r xs=>simp at hc;omega
   have hr:rs=[]:=by cases rs with
    |nil=>rfl
    |cons r xs=>simp at g2;omega
   subst hx;subst hr;simp only [Ch,Q6] at hc g2;refine⟨i,w,?_,rfl,rfl,rfl,Cq _,fun _ _ _=>rfl,fun b h=>.inl (by rw [←Z];exact h),fun _ _=>?_⟩
   ·have J:=I.cells 0 w rfl (fun _ _=>rfl);have ad:=I.len;simp only [Ch] at ad;rcases hdu with ⟨eu,hdu⟩| hdu <;> simp [Hk,Z,Builtin.append_,A1c hE.hT,Ra hE.Ms,hdu,ad,←g2,J]
   ·refine⟨g1,by simpa using g2,g3,by simp,by simp,by simp,?_⟩;rw [Z];exact g7
  |some b =>
   rw [Z] at g7;obtain⟨ar,bs,hh,a0,b0⟩:=g7;subst g1;have hl:=I.flat.len;have a3:(i.off*i.sz+i.len*i.sz)+0+vs.length≤bs.length:=by have:(i.off+(i.len+xs.length))*i.sz≤(i.off+i.cap)*i.sz:=H4 _ (by omega);simp only [Ei] at this a0;omega
   obtain⟨w',ai,q1,q2,q3,q4,q5,q6⟩:=B1e (P:=P) vs bs b (i.off*i.sz+i.len*i.sz) 0 ar w hh a3 I.one;refine⟨{ i with len:=i.len+xs.length },w',?_,q3,q4,q5,by omega,?_,fun b' ah=>.inl (by simpa [Z] using ah),?_⟩
   ·have J:=I.cells xs.length w rfl (fun _ _=>rfl);simp only [Builtin.append_,Hk,Z,E8];rcases hdu with ⟨eu,hdu⟩| hdu <;> simp [A1c hE.hT,Ra hE.Ms,hdu,I.len,hc,J,Xk,ai]
   ·intro b' ah ay;exact q2 b' fun he=>ay (by rw [he])
   ·intro e0 β';refine B9p (b:=b) (us:=Gs os (rs.length*i.sz) []++vs) (by simpa using Z) rfl (by simp [g2]) hc (by simpa using a5) q1 (by rw [A4h];exact a0) (by simp only [Gs];exact (O.flat.ext e0).append (I.flat.ext e0)) ?_;intro j u L;simp only [Gs] at L;show (Gs bs _ vs)[i.off*i.sz+j]? = _;rw [Zv _ _ _ _ a3];by_cases hj:j < os.length
    ·rw [J6 hj] at L;have aa:=O.flat.len;rw [A6 (by rw [aa,g2] at hj;omega)];have:=O.cells rs.length w rfl (fun _ _=>rfl);have a':∀(j:Nat) (u:Value),os[j]? = some u→bs[i.off*i.sz+j]? = some u:=by
      intro j u L;have b2:=(Ay.1 L).1;have V:(Builtin.firstCells i.sz rs.length (Hk i)).run P w=.ok ⟨(bs.drop (i.off*i.sz)).take (rs.length*i.sz)⟩ w:=by
       simp only [Hk,Z,E8];refine C5a ?_ ?_
       ·simp only [Ei] at a0;have:i.len*i.sz≤i.cap*i.sz:=H4 _ g3;rw [←g2] at this;simp;omega
       ·intro j v hv;rw [cells_of_row hh];simp only [Yd,Ri] at hv;split at hv
        ·exact hv
        ·simp at hv
      rw [this] at V;simp only [Result.ok.injEq,Array.mk.injEq,S8] at V;rw [V] at L;simp only [Yd,Ri] at L;split at L
      ·exact L
      ·simp at L
     exact a' j u L
    ·rw [Jh (by omega)] at L;have aa:=O.flat.len;rw [g2] at aa;have aj:=(Ay.1 L).1;rw [A8 (by omega)];rw [←L];congr 1;omega
 ·
  have aj:i.cap < i.len+xs.length:=by omega
  have a8:i.len=rs.length:=g2.symm;have as:=growslice_fits aj (bytes:=bytes) (by rw [a8];exact a1);obtain⟨R,am,a2⟩:∃R,P.info? e=some R∧R.bytes=bytes:=by
   have:=hE.D9y;cases hz:P.info? e with
   |none=>simp [hz] at this
   |some R=>exact⟨R,rfl,by simpa [hz] using this⟩
  obtain⟨z,ab,ap⟩:=B5w hz w.drew
  let E:=(Question.appendCap (i.len+xs.length) i.cap e).cut (w.tape w.drawn (.appendCap (i.len+xs.length) i.cap e))
  have az:i.len+xs.length≤E:=by show _≤(i.len+xs.length)+_ % _;omega
  let rest:=(Builtin.zeroCells z.cells (E - (i.len+xs.length))).toList
  let W:World:={ w.drew with heap:=w.drew.heap.push (.cells ⟨os++vs++rest⟩ e) }
  have Ms:z.cells.size=sz:=by rw [ap] at ak;simpa using ak
  refine⟨{ base:=some w.heap.size,off:=0,len:=i.len+xs.length,cap:=E,sz:=sz },W,?_,rfl,rfl,rfl,?_,?_,?_,?_⟩
  ·have h1:=O.cells i.len w.drew a8 (fun _ _=>rfl);have h2:=I.cells xs.length w.drew rfl (fun _ _=>rfl);have a6:¬(2 ^ 48 < Builtin.nextslicecap (i.len+xs.length) i.cap*R.bytes):=by rw [a2];omega
   have au:R.bytes≠0:=by rw [a2];exact hE.Qg
   have a4:(choose (.appendCap (i.len+xs.length) i.cap e)).run P w=.ok E w.drew:=by simp [run_choose,Question.forced,E]
   obtain⟨ag,af⟩:∃ag,Hk i=.slice ag i.len i.cap:=⟨_,rfl⟩;have ao:Hk ({ base:=some w.heap.size,off:=0,len:=i.len+xs.length,cap:=E,sz:=sz }:BI)=.slice (some ⟨w.heap.size,0,none⟩) (i.len+xs.length) E:=by simp [Hk]
   rw [ao];rw [af] at h1 ⊢;simp only [Builtin.append_];have ae:(⟨os⟩:Array Value)++((⟨vs⟩:Array Value)++Builtin.zeroCells z.cells (E - (i.len+xs.length)))=⟨os++vs++rest⟩:=by apply I6;simp [rest]
   have ac:(Question.appendCap (i.len+xs.length) i.cap e).forced=false:=rfl;rcases hdu with ⟨eu,hdu⟩| hdu
   all_goals
    simp [-run_choose,A1c hE.hT,Ra hE.Ms,hdu,I.len,hc,typeInfo,am,au,a6,a4,h1,h2,ab,newRow,ae];rw [←Pg];rfl
  ·show w.heap.size≤(w.heap.push _).size;simp
  ·intro b Z _;exact B5t w _ Z
  ·intro b Z;simp only [Av] at Z;subst Z;exact .inr ⟨Cq _,by show w.heap.size < (w.heap.push _).size;simp⟩
  ·intro e0 β';have aq:=O.flat.len;have aw:=I.flat.len;have av:rest.length=(E - (i.len+xs.length))*sz:=by
    show (Builtin.zeroCells _ _).toList.length=_;rw [V3,D4c,Ms]
   refine B9p (b:=w.heap.size) (vs:=os++vs++rest) (ty:=e) (us:=os++vs) rfl rfl (by simp [g2]) az (by simpa using a5) (by show (w.heap.push _)[w.heap.size]? = _;simp) ?_ ((O.flat.ext e0).append (I.flat.ext e0)) ?_
   ·simp only [B3,aq,aw,av,I2];rw [←Ei,←Ei];exact H4 _ (by omega)
   ·intro j u L;have:=(Ay.1 L).1;simp only [Nat.zero_mul,I2];rw [J6 this];exact L
end Go.Abs
namespace Go.Abs
open Go
variable {P:Program} {o:Oper} {ρ:Hq} {bx:Ab}
inductive V2 (bx:Ab) (sz:Nat):SV→List (List D)→Prop where
 |nil:V2 bx sz (.d .nil) []
 |emp:V2 bx sz (.d .emp) []
 |slice (xs:List (List D)):(∀row,row∈xs→row.length=sz)→V2 bx sz (.d (.slice xs)) xs
 |acc (k:Nat) (xs:List (List D)):(k,Ar.rows sz xs)∈bx→V2 bx sz (.acc k) xs
variable {S:Nat→Prop} {w:World} {β:Names}
theorem V2.src {C:Ctx} {sz:Nat} {x:SV} {xs:List (List D)} {v:Value} (h:V2 bx sz x xs)(J:Inv C S w β bx)(E:Am S w β x v):∃vs,Src P S w sz xs v vs:=by
 cases h with
 |nil=>cases E with| d _ _ h=>cases h;exact⟨[],.nil⟩
 |emp=>cases E with| d _ _ h=>cases h;exact⟨[],.nil⟩
 |slice _ hs=>cases E with| d _ _ h=>exact Src.slice h hs
 |acc k _ I=>cases E with| acc _=>exact Src.acc (J.box k _ I)
theorem D6u {T U:TypeId} {x y:Operand} (E:o.op=.call { callee:=.builtin .append,args:=#[x,y],argTypes:=#[T,U] }) {a:Act} {w w':World} {s v r:Value} (hs:a.eval x=s)(I:a.eval y=v)
  (h:(Builtin.append_ #[T,U] o.type #[s,v]).run P w=.ok r w'):(execOp a.eval o).run P w=.ok (.value r) w':=by
 simp [execOp,E,resolve,invoke,builtin,hs,I,h]
theorem F8q {T U e sz bytes k:Nat} {x y:Operand} (a0:k≤999999)(ho:o.op=.call { callee:=.builtin .append,args:=#[x,y],argTypes:=#[T,U] }) {rs xs:List (List D)} (hE:A7t P T e sz bytes)(hU:Ji P U=true)
  (hx:ρ x=.acc k) (R:(k,Ar.rows sz rs)∈bx) (hy:V2 bx sz (ρ y) xs) (I:(rs.length+xs.length)*bytes≤lim) :
  Bt P o ρ bx (.acc k) ((k,.rows sz (rs++xs))::H7 k (C3 k bx)) [k]:=by
 intro C S w β a L ha;obtain⟨vs,W⟩:=hy.src (P:=P) L ((ha y (mC ho)));have O:=(ha x (mC ho));rw [hx] at O;have hv:a.eval x=Hk (β k):=by generalize a.eval x=v at O;cases O;rfl
 obtain⟨i',w',V,q1,q2,q3,q4,q5,q6,q7⟩:=C9a hE hU (L.box k _ R) (fun b E=>⟨(L.B8 k _ R b E).1,(L.B8 k _ R b E).2.1⟩) W I o.type;have J:∀b,i'.base=some b→¬S b∧b < w'.heap.size∧(w.heap.size≤b∨∃x,(k,x)∈bx∧(β k).base=some b):=by
  intro b E;rcases q6 b E with h| ⟨Z,h2⟩
  ·obtain⟨g1,g2,_⟩:=L.B8 k _ R b h;exact⟨g1,by omega,.inr ⟨_,R,h⟩⟩
  ·exact⟨fun hs=>by have:=L.Bi b hs;omega,h2,.inl Z⟩
 obtain⟨Z,h2⟩:=L.Vo (k:=k) (c:=.rows sz (rs++xs)) i' a0 J (fun b' E hn=>q5 b' E (hn _ R)) q1 q2 q3 q4 (fun e0=>q7 e0 _);refine He ?_;unfold Oper.wp;rw [D6u ho hv rfl V];refine⟨_,S,_,rfl,Z,h2,?_,fun j hj=>Jk (by simpa using hj)⟩;have:=Am.acc (S:=S) (w:=w') (β:=E3 β k i') k;rw [G8] at this;exact this
theorem B8n {sz:Nat} :Dh S w β { base:=none,sz:=sz } (.rows sz []) :=
 ⟨rfl,rfl,Cq _,by simp [lim],by simp,by simp,rfl⟩
theorem G4z {T U e sz bytes k:Nat} {x y:Operand} (W:k≤999999)(ho:o.op=.call { callee:=.builtin .append,args:=#[x,y],argTypes:=#[T,U] }) {xs:List (List D)} (hE:A7t P T e sz bytes)(hU:Ji P U=true)
  (hx:ρ x=.d .nil) (hy:V2 bx sz (ρ y) xs) (I:xs.length*bytes≤lim) :
  Bt P o ρ bx (.acc k) ((k,.rows sz xs)::H7 k (C3 k bx)) [k]:=by
 intro C S w β a hi ha;obtain⟨vs,R⟩:=hy.src (P:=P) hi ((ha y (mC ho)));have L:=(ha x (mC ho));rw [hx] at L;have hv:a.eval x=Hk { base:=none,sz:=sz }:=by generalize a.eval x=v at L;cases L with| d _ _ h=>cases h;rfl
 obtain⟨Z,w',O,q1,q2,q3,q4,q5,q6,q7⟩:=C9a (rs:=[]) hE hU (B8n (S:=S) (w:=w) (β:=β)) (by simp) R (by simpa using I) o.type;have J:∀b,Z.base=some b→¬S b∧b < w'.heap.size∧(w.heap.size≤b∨∃x,(k,x)∈bx∧(β k).base=some b):=by
  intro b E;rcases q6 b E with h| ⟨V,h2⟩
  ·simp at h
  ·exact⟨fun hs=>by have:=hi.Bi b hs;omega,h2,.inl V⟩
 obtain⟨V,h2⟩:=hi.Vo (k:=k) (c:=.rows sz xs) Z W J (fun b' E _=>q5 b' E (by simp)) q1 q2 q3 q4 (fun e0=>by simpa using q7 e0 _);refine He ?_;unfold Oper.wp;rw [D6u ho hv rfl O];refine⟨_,S,_,rfl,V,h2,?_,fun j hj=>Jk (by simpa using hj)⟩;have:=Am.acc (S:=S) (w:=w') (β:=E3 β k Z) k;rw [G8] at this;exact this
theorem Dh.A9y {i:BI} {sz:Nat} {rs:List (List D)} (h:Dh S w β i (.rows sz rs))(hS:∀b,i.base=some b→S b):Br S w (.slice rs) (Hk i):=by
 obtain⟨vs,hs⟩:=Src.acc (P:=default) h;obtain⟨g1,g2,J,g4,Z,W,E⟩:=h;subst g1;unfold Hk;rw [←g2] at J ⊢;cases L:i.base with
 |none =>
  rw [L] at E;simp only at E;have:rs=[]:=by cases rs with
   |nil=>rfl
   |cons r xs=>simp at J;omega
  subst this;rw [E];exact .Ja none 0 (fun _=>rfl)
 |some b =>
  rw [L] at E;obtain⟨ty,us,R,V,I⟩:=E;simp only [E8];refine .slice rs b _ _ i.sz (hS b L) g4 J Z W ?_ ?_
  ·intro r j hr hj;have h1:(i.off+r+1)*i.sz≤(i.off+i.cap)*i.sz:=H4 _ (by omega);have h2:(i.off+r+1)*i.sz=i.off*i.sz+(r*i.sz+i.sz):=by rw [Ei,Ei,At1,Mh]
   have O:i.off*i.sz+(r*i.sz+j) < us.length:=by omega
   exact⟨us[i.off*i.sz+(r*i.sz+j)],by rw [cells_of_row R];exact Ba O⟩
  ·intro r j row d v hr hd U;rw [cells_of_row R] at U;exact I r j row d v hr hd (by rw [Ei,Mh];exact U)
theorem Inv.Kx {C:Ctx} {k sz:Nat} {rs:List (List D)} (h:Inv C S w β bx)(J:(k,Ar.rows sz rs)∈bx) :
  Inv C (fun b=>S b∨(β k).base=some b) w β (C3 k bx)∧Bo S w (fun b=>S b∨(β k).base=some b) w∧Br (fun b=>S b∨(β k).base=some b) w (.slice rs) (Hk (β k)):=by
 have e:Bo S w (fun b=>S b∨(β k).base=some b) w:=⟨fun _ h=>.inl h,fun _ _=>rfl⟩;refine⟨?_,e,(Dh.ext (h.box k _ J) e (fun _ _=>rfl) (fun _ _=>rfl)).A9y fun b hb=>.inr hb⟩;exact {
  Ek:=fun b hb=>.inl (h.Ek b hb)
  Dx:=fun b hb=>by
   rcases hb with hb| hb
   ·exact h.Dx b hb
   ·exact .inr (h.B8 k _ J b hb).2.2
  Bi:=fun b hb=>by
   rcases hb with hb| hb
   ·exact h.Bi b hb
   ·exact (h.B8 k _ J b hb).2.1
  kept:=h.kept
  os:=h.os
  tape:=h.tape
  output:=h.output
  size:=h.size
  box:=fun j c E=>by obtain⟨R,E⟩:=Dq.1 E;exact (h.box j c E).ext e (fun _ _=>rfl) (fun _ _=>rfl)
  B8:=fun j c E b hb=>by
   obtain⟨R,E⟩:=Dq.1 E;obtain⟨V,W,h3⟩:=h.B8 j c E b hb;refine⟨fun hs=>?_,W,h3⟩;rcases hs with hs| hs
   ·exact V hs
   ·exact R (h.inj j c k _ E J b hb hs).1
  inj:=fun j c j' O E a1 b hb Z=>h.inj j c j' O (Dq.1 E).2 (Dq.1 a1).2 b hb Z
  one:=fun k Y st L Y' a0 J I=>h.one k Y st L Y' a0 (Dq.1 J).2 (Dq.1 I).2
  Ez:=fun j Y st E=>by
   obtain⟨V,W,h3,h4,B,h5,U⟩:=h.Ez j Y st (Dq.1 E).2;have a2:=h.size;have hB:∀b,B b→¬(S b∨(β k).base=some b):=fun b hb hs=>hs.elim (U b hb).1 ((U b hb).2.2.2 k _ J);refine⟨V,W,h3,fun L O I=>h4 L O (Dq.1 I).2,B,W.Sf st B S w _ w h5 ⟨fun _ h=>.inl h,fun b hb=>hb.imp id fun hb=>by rw [V];exact h4 k _ J b hb,fun b hb=>?_,hB,fun _ _=>rfl,rfl,rfl,rfl,Cq _⟩,fun b hb=>⟨hB b hb,(U b hb).2.1,(U b hb).2.2.1,fun L O I=>(U b hb).2.2.2 L O (Dq.1 I).2⟩⟩;rcases hb with hb| hb
   ·exact h.Bi b hb
   ·exact (h.B8 k _ J b hb).2.1
  D9:=fun b cs hv=>⟨.inl (h.D9 b cs hv).1,(h.D9 b cs hv).2⟩
  fix:=h.fix }
end Go.Abs
namespace Go.Abs
open Go
variable {P:Program} {o:Oper} {ρ:Hq} {bx:Ab}
def Enters (P:Program)(f:FuncId):Prop:=∃fn,P.funcs[f]? = some fn∧(fn.name == "runtime.NumGoroutine")=false∧fn.body.isNone=false
def Cd (P:Program)(f:FuncId)(args:List SV)(pre:Ab)(r:SV)(E:Ab):Prop :=
 Enters P f∧∀(C:Ctx) (β:Names) (vs:List Value),Inv C C.S0 C.w0 β pre→Bm C.S0 C.w0 β args vs →
  Calls P f ⟨vs⟩ C.w0 (fun e w'=>∃v S' β',e=.returned v∧Inv C S' w' β' E∧Am S' w' β' r v)
def Ac (P:Program)(f:FuncId)(args:List SV)(r:SV):Prop:=Cd P f args [] r []
theorem Rn {f:FuncId} (E:Enters P f) {fo:Operand} {args:Array Operand} {Co:Array TypeId} (J:o.op=.call { callee:=.value fo,args:=args,argTypes:=Co }) {a:Act} {caps:Array Value} (O:a.eval fo=.func (.func f) #[] caps)(w:World) :
  (execOp a.eval o).run P w=.ok (.enter f (args.map a.eval++caps)) w:=by
 obtain⟨fn,R,I,L⟩:=E;simp only [execOp,J,resolve,Deferred.ofValue,O,invoke,callFunc,Hu,Kp,H8,run_program,R,I,L,Hh,Et,Array.empty_append]
def D.flat:D→Bool
 |.int _ _| .bool _| .str _| .nil| .Lb| .M6| .J3| .Kz=>true
 |_=>false
def SV.scalar:SV→Bool
 |.d x=>x.flat
 |.undef=>true
 |.tuple xs=>xs.all fun x=>match x with| .d y=>y.flat| .undef=>true| _=>false
 |_=>false
theorem Br.scalar {S S':Nat→Prop} {w w':World} {x:D} {v:Value} (h:Br S w x v)(hs:x.flat=true):Br S' w' x v:=by cases h <;> simp [D.flat] at hs <;> constructor;assumption
theorem Am.scalar {S S':Nat→Prop} {w w':World} {β β':Names} {x:SV} {v:Value} (h:Am S w β x v)(hs:x.scalar=true):Am S' w' β' x v:=by
 cases h with
 |undef=>exact .undef _
 |d x v h=>exact .d _ _ (h.scalar (by simpa [SV.scalar] using hs))
 |tuple cells vs O I =>
  refine .tuple cells vs O ?_;intro j c v E L;have J:=I j c v E L;simp only [SV.scalar] at hs;have:=Cf.1 hs c (Bx E);cases J with
  |d x v h=>exact .d _ _ (h.scalar (by simpa using this))
  |undef=>exact .undef _
  |_=>simp at this
 |_=>simp [SV.scalar] at hs
def A7 (bx:Ab)(k:Nat):Option Ar :=
 match bx with
 |[]=>none
 |(j,c)::r=>if j=k then some c else A7 r k
theorem G0 {k:Nat} {c:Ar} :∀{bx:Ab},A7 bx k=some c→(k,c)∈bx
 |[],h=>by simp [A7] at h
 |(j,x)::r,h=>by
  simp only [A7] at h;split at h
  ·simp only [Av] at h;subst_vars;simp
  ·simp [G0 h]
mutual
def coerce (bx:Ab):SV→Option SV
 |.d .nil=>some (.d (.slice []))
 |.d .emp=>some (.d (.slice []))
 |.d x=>some (.d x)
 |.undef=>some .undef
 |.Fm l=>some (.Fm l)
 |.Ag c off=>some (.Ag c off)
 |.agg cs=>match Gy bx cs with
  |some l=>if l.all SV.one then some (.agg l) else none
  |none=>none
 |.tuple cs=>match Gy bx cs with
  |some l=>some (.tuple l)
  |none=>none
 |.Bf f cs=>match Gy bx cs with
  |some l=>some (.Bf f l)
  |none=>none
 |.acc k=>match A7 bx k with
  |some (.rows _ rs)=>some (.d (.slice rs))
  |_=>none
 |.mp k=>match A7 bx k with
  |some (.map kvs)=>some (.d (.map kvs))
  |_=>none
 |.box _ _=>none
 |.Eb _ _ _=>none
 |.Fh cs off=>if SV.Jb cs then some (.Fh cs off) else none
def Gy (bx:Ab):List SV→Option (List SV)
 |[]=>some []
 |c::cs=>match coerce bx c with
  |some x=>match Gy bx cs with
   |some l=>some (x::l)
   |none=>none
  |none=>none
end
variable {C:Ctx} {S:Nat→Prop} {w:World}
theorem Inv.bd {β:Names} (h:Inv C S w β bx):Bo S w (fun b=>b < w.heap.size) w:=⟨fun b E=>h.Bi b E,fun _ _=>rfl⟩
abbrev all (w:World):Nat→Prop:=fun b=>b < w.heap.size
mutual
theorem A5e {C:Ctx} {S S1:Nat→Prop} {w:World} {β:Names} (hi:Inv C S w β bx)(J:Bo S w S1 w)(W:∀k c,(k,c)∈bx→∀b,(β k).base=some b→S1 b):∀{x y:SV} {v:Value},coerce bx x=some y→Am S w β x v→Am S1 w β y v∧y.closed=true
 |.undef,y,v,h,E=>by simp only [coerce,Av] at h;subst h;exact⟨.undef v,rfl⟩
 |.Ag c off,y,v,h,E=>by simp only [coerce,Av] at h;subst h;exact⟨E.ext J (fun _ _=>rfl),rfl⟩
 |.d x,y,v,h,E=>by
  have O:Am S1 w β (.d x) v:=E.ext J (fun _ _=>rfl);cases x <;> simp only [coerce,Av] at h <;> subst h <;> first
   |exact⟨O,rfl⟩
   |exact⟨.d _ _ O.Gp.of_nil,rfl⟩
   |exact⟨.d _ _ O.Gp.C2t,rfl⟩
 |.agg cs,y,v,h,E=>by
  simp only [coerce] at h;cases I:Gy bx cs with
  |none=>simp [I] at h
  |some l =>
   simp only [I] at h;split at h
   ·rename_i a2;simp only [Av] at h;subst h;cases E with
    |agg _ vs Z h2 h3 =>obtain⟨R,g2⟩:=Ua hi J W I ⟨Z,h3⟩;exact⟨Am.A9t R a2,by simp only [SV.closed];exact g2⟩
   ·simp at h
 |.tuple cs,y,v,h,E=>by
  simp only [coerce] at h;cases I:Gy bx cs with
  |none=>simp [I] at h
  |some l =>
   simp only [I,Av] at h;subst h;cases E with
   |tuple _ vs Z h3 =>obtain⟨R,g2⟩:=Ua hi J W I ⟨Z,h3⟩;exact⟨.tuple _ _ R.1 R.2,by simp only [SV.closed];exact g2⟩
 |.Bf f cs,y,v,h,E=>by
  simp only [coerce] at h;cases I:Gy bx cs with
  |none=>simp [I] at h
  |some l =>
   simp only [I,Av] at h;subst h;cases E with
   |Bf _ _ vs Z h3 =>obtain⟨R,g2⟩:=Ua hi J W I ⟨Z,h3⟩;exact⟨.Bf _ _ _ R.1 R.2,by simp only [SV.closed];exact g2⟩
 |.acc k,y,v,h,E=>by
  simp only [coerce] at h;cases V:A7 bx k with
  |none=>simp [V] at h
  |some c =>
   cases c <;> simp [V] at h;subst h;cases E with
   |acc _ =>refine⟨.d _ _ ?_,rfl⟩;exact (Dh.ext (hi.box k _ (G0 V)) J (fun _ _=>rfl) (fun _ _=>rfl)).A9y fun b a3=>W k _ (G0 V) b a3
 |.mp k,y,v,h,E=>by
  simp only [coerce] at h;cases V:A7 bx k with
  |none=>simp [V] at h
  |some c =>
   cases c <;> simp [V] at h;subst h;cases E with
   |mp _ b L =>
    obtain⟨b',es,a0,Z,h2,h3,h4⟩:=hi.box k _ (G0 V);rw [L] at Z;cases Z;refine⟨.d _ _ (.map _ b es a0 (W k _ (G0 V) b L) h2 h3 ?_ ?_),rfl⟩
    ·intro i kv e hk a1;exact (h4 i kv e hk a1).1.ext J
    ·intro i kv e hk a1;exact (h4 i kv e hk a1).2.ext J
 |.box _ _,y,v,h,E=>by simp [coerce] at h
 |.Eb _ _ _,y,v,h,E=>by simp [coerce] at h
 |.Fm l,y,v,h,E=>by simp only [coerce,Av] at h;subst h;cases E;exact⟨.Fm l,rfl⟩
 |.Fh cs off,y,v,h,E=>by
  simp only [coerce] at h;split at h
  ·rename_i a4;simp only [Av] at h;subst h;have U:(SV.Fh cs off).closed=true:=by simpa [SV.closed] using a4
   exact⟨E.ext J fun k hk=>absurd hk (by rw [SV.C3v k U];simp),U⟩
  ·simp at h
theorem Ua {C:Ctx} {S S1:Nat→Prop} {w:World} {β:Names} (hi:Inv C S w β bx)(J:Bo S w S1 w)(W:∀k c,(k,c)∈bx→∀b,(β k).base=some b→S1 b):∀{cs l:List SV} {vs:List Value},Gy bx cs=some l→Bm S w β cs vs→Bm S1 w β l vs∧SV.Jb l=true
 |[],l,vs,h,E=>by simp only [Gy,Av] at h;subst h;exact⟨⟨E.1,by simp⟩,rfl⟩
 |c::cs,l,vs,h,E=>by
  simp only [Gy] at h;cases U:coerce bx c with
  |none=>simp [U] at h
  |some x =>
   cases I:Gy bx cs with
   |none=>simp [U,I] at h
   |some m =>
    simp only [U,I,Av] at h;subst h;cases vs with
    |nil=>have:=E.1;simp at this
    |cons v vs =>obtain⟨R,g2⟩:=A5e hi J W U (E.2 0 c v rfl rfl);obtain⟨q1,q2⟩:=Ua hi J W I ⟨by have:=E.1;simpa using this,fun j c v U O=>E.2 (j+1) c v (by simpa using U) (by simpa using O)⟩;exact⟨.cons R q1,by simp only [SV.Jb,g2,q2,Bool.and_self]⟩
end
theorem Bm.Tk {β:Names} {a:Act} :∀(xs:List Operand),(∀x,x∈xs→Am S w β (ρ x) (a.eval x))→Bm S w β (xs.map ρ) (xs.map a.eval)
 |[],_=>.nil
 |x::xs,E=>.cons (E x (by simp)) (Bm.Tk xs fun y I=>E y (by simp [I]))
theorem Inv.begin {S E:Nat→Prop} {β J:Names} (h:Inv C S w β bx)(L:∀b,E b→b < w.heap.size)(I:∀b,S b→E b):Inv ⟨w,E,fun _=>False,fun _ _=>False,C.G⟩ E w J [] where
 Ek _ hb:=hb
 Dx _ hb:=.inl hb
 Bi:=L
 kept _ _ _:=rfl
 os:=rfl
 tape:=rfl
 output:=rfl
 size:=Cq _
 box k c hk:=by simp at hk
 B8 k c hk:=by simp at hk
 inj k c k' c' hk:=by simp at hk
 fix _ _ h:=h.elim
 D9 b cs hv:=⟨I b (h.D9 b cs hv).1,(h.D9 b cs hv).2⟩
 one k Y st k' Y' st' hk:=by simp at hk
 Ez k Y st hk:=by simp at hk
theorem Inv.back {S I S':Nat→Prop} {w w':World} {β β':Names} (h:Inv C S w β bx)(E:Inv ⟨w,I,fun _=>False,fun _ _=>False,C.G⟩ S' w' β' []) :
  Inv C (fun b=>S b∨(S' b∧w.heap.size≤b)) w' β bx∧Bo S w (fun b=>S b∨(S' b∧w.heap.size≤b)) w':=by
 refine h.grow (fun b hb=>.inl hb) ?_ ?_ (fun b hb=>E.kept b hb (by simp)) E.os E.tape E.output E.size
 ·intro b hb;rcases hb with hb| hb
  ·exact .inl hb
  ·exact .inr hb.2
 ·intro b hb;rcases hb with hb| hb
  ·have:=h.Bi b hb;have:=E.size;simp at this;omega
  ·exact E.Bi b hb.1
variable {fo:Operand}
theorem F9m {f:FuncId} {args:Array Operand} {Co:Array TypeId} (W:o.op=.call { callee:=.value fo,args:=args,argTypes:=Co }) {caps E:List SV} {r:SV}
  (hf:ρ fo=.Bf f caps) (O:Gy [] (args.toList.map ρ++caps)=some E) (hc:Ac P f E r) (hr:r.closed=true):Bt P o ρ bx r bx []:=by
 intro C S w β a V ha;have J:=(ha fo (mC W));rw [hf] at J;generalize Z:a.eval fo=v at J;cases J with
 |Bf _ _ cs h1 h2 =>
  have R:Bm S w β (args.toList.map ρ++caps) (args.toList.map a.eval++cs):=(Bm.Tk _ fun x hx=>ha x (mo W (by simp [Op.operands,Call.operands];simp at hx;exact .inr hx))).append ⟨h1,h2⟩;have U:Inv ⟨w,S,fun _=>False,fun _ _=>False,C.G⟩ S w β []:=V.begin V.Bi (fun _ h=>h);obtain⟨g1,g2⟩:=Ua U (Bo.refl S w) (by simp) O R;have L:=hc.2 ⟨w,S,fun _=>False,fun _ _=>False,C.G⟩ β _ U g1;refine He ?_;unfold Oper.wp;rw [Rn hc.1 W Z,R0];have I:args.map a.eval++(⟨cs⟩:Array Value)=⟨args.toList.map a.eval++cs⟩:=by apply I6;simp
  rw [I];refine L.mono ?_;rintro e w' ⟨v,S',β',rfl,hk,hv⟩;obtain⟨q1,q2⟩:=V.back hk;have e':Bo S' w' (fun b=>S b∨(S' b∧w.heap.size≤b)) w':=⟨fun b hb=>by
   rcases hk.Dx b hb with h| h| h
   ·exact .inl h
   ·exact h.elim
   ·exact .inr ⟨hb,h⟩,fun _ _=>rfl⟩
  exact⟨v,_,β,rfl,q1,q2,(hv.ext e' (fun _ _=>rfl)).closed hr,fun _ _=>rfl⟩
theorem E6m {f:FuncId} {args:Array Operand} {Co:Array TypeId} (V:o.op=.call { callee:=.value fo,args:=args,argTypes:=Co }) {caps E:List SV} {r:SV}
  (hf:ρ fo=.Bf f caps) (O:Gy bx (args.toList.map ρ++caps)=some E) (hc:Ac P f E r) (hr:r.scalar=true):Bt P o ρ bx r bx []:=by
 intro C S w β a R ha;have J:=(ha fo (mC V));rw [hf] at J;generalize Z:a.eval fo=v at J;cases J with
 |Bf _ _ cs h1 h2 =>
  have U:Bm S w β (args.toList.map ρ++caps) (args.toList.map a.eval++cs):=(Bm.Tk _ fun x hx=>ha x (mo V (by simp [Op.operands,Call.operands];simp at hx;exact .inr hx))).append ⟨h1,h2⟩;have a0:Inv ⟨w,all w,fun _=>False,fun _ _=>False,C.G⟩ (all w) w β []:=R.begin (fun _ hb=>hb) R.Bi;obtain⟨g1,g2⟩:=Ua R R.bd (fun k c W b hb=>(R.B8 k c W b hb).2.1) O U;have L:=hc.2 ⟨w,all w,fun _=>False,fun _ _=>False,C.G⟩ β _ a0 g1;refine He ?_;unfold Oper.wp;rw [Rn hc.1 V Z,R0];have I:args.map a.eval++(⟨cs⟩:Array Value)=⟨args.toList.map a.eval++cs⟩:=by apply I6;simp
  rw [I];refine L.mono ?_;rintro e w' ⟨v,S',β',rfl,W,hv⟩;obtain⟨q1,q2⟩:=R.back W;exact⟨v,_,β,rfl,q1,q2,hv.scalar hr,fun _ _=>rfl⟩
def A3i (q k:Nat):SV→SV
 |.acc j=>if j=q then .acc k else .undef
 |.tuple [.acc j,x]=>if j=q then (if x.closed then .tuple [.acc k,x] else .undef) else .undef
 |_=>.undef
theorem G1y {β J:Names} {q k:Nat} {i:BI} {r:SV} {v:Value} (h:Am S w J r v)(V:J q=i):Am S w (E3 β k i) (A3i q k r) v:=by
 have I:∀u,Am S w J (.acc q) u→Am S w (E3 β k i) (.acc k) u:=fun u R=>by cases R;rw [V];have:=Am.acc (S:=S) (w:=w) (β:=E3 β k i) k;rw [G8] at this;exact this
 unfold A3i;split
 ·split
  ·subst_vars;exact I _ h
  ·exact .undef _
 ·split
  ·split
   ·rename_i U
    subst_vars
    cases h with
    |tuple _ vs W L =>
     refine .tuple _ vs W fun n c v E O=>?_
     match n,E with
     | 0,E=>simp only [Iz,Av] at E;subst E;exact I _ (L 0 _ v rfl O)
     | 1,E=>simp only [Ny,Iz,Av] at E;subst E;exact (L 1 _ v rfl O).closed U
     |n+2,E=>simp at E
   ·exact .undef _
  ·exact .undef _
 ·exact .undef _
theorem G2v {f:FuncId} {args:Array Operand} {Co:Array TypeId} {k:Nat} (Z:k≤999999)(ho:o.op=.call { callee:=.value fo,args:=args,argTypes:=Co }) {caps E:List SV} {q sz:Nat} {rows:List (List D)} {r:SV}
  (hf:ρ fo=.Bf f caps) (U:Gy [] (args.toList.map ρ++caps)=some E) (hc:Cd P f E [] r [(q,.rows sz rows)]) :
  Bt P o ρ bx (A3i q k r) ((k,.rows sz rows)::H7 k (C3 k bx)) [k]:=by
 intro C S w β a hi ha;have L:=(ha fo (mC ho));rw [hf] at L;generalize a1:a.eval fo=v at L;cases L with
 |Bf _ _ cs h1 h2 =>
  have V:Bm S w β (args.toList.map ρ++caps) (args.toList.map a.eval++cs):=(Bm.Tk _ fun x hx=>ha x (mo ho (by simp [Op.operands,Call.operands];simp at hx;exact .inr hx))).append ⟨h1,h2⟩;have W:Inv ⟨w,S,fun _=>False,fun _ _=>False,C.G⟩ S w β []:=hi.begin hi.Bi (fun _ h=>h);obtain⟨g1,g2⟩:=Ua W (Bo.refl S w) (by simp) U V;have O:=hc.2 ⟨w,S,fun _=>False,fun _ _=>False,C.G⟩ β _ W g1;refine He ?_;unfold Oper.wp;rw [Rn hc.1 ho a1,R0];have I:args.map a.eval++(⟨cs⟩:Array Value)=⟨args.toList.map a.eval++cs⟩:=by apply I6;simp
  rw [I];refine O.mono ?_;rintro e w' ⟨v,S',β',rfl,J,hv⟩;have a0:∀b,S' b→S b∨w.heap.size≤b:=fun b R=>by
   rcases J.Dx b R with h| h| h
   ·exact .inl h
   ·exact h.elim
   ·exact .inr h
  obtain⟨p1,p2⟩:=hi.D2f (k:=k) (w':=w') (S':=S') (c:=.rows sz rows) (β' q) Z (fun b R=>J.Ek b R) a0 J.Bi (by
    intro b R;obtain⟨g1,g2,g3⟩:=J.B8 q (.rows sz rows) (by simp) b R;exact⟨g1,g2,.inl (g3.resolve_left (by simp))⟩)
   (fun b R _=>J.kept b R (by simp)) J.os J.tape J.output J.size (fun _=>Dh.ext (c:=.rows sz rows) (J.box q (.rows sz rows) (by simp)) (Bo.refl _ _) (fun _ _=>rfl) (by simp [Ar.has]))
  exact⟨v,_,_,rfl,p1,p2,G1y hv rfl,fun j hj=>Jk (by simpa using hj)⟩
end Go.Abs
namespace Go.Abs
open Go
variable {P:Program}
def Ao (sl:SL):Operand→SV
 |.tmp t=>Ae sl t
 |.const v=>Kc v
 |.func f=>.Bf f []
 |.global _=>.undef
def Fi (sl:SL)(dst:Option Nat)(r:SV):SL :=
 match dst with
 |some t=>(t,r)::sl
 |none=>sl
def Fb:List Nat→SL→SL
 |[],sl=>sl
 |k::ks,sl=>Fb ks (Ub k sl)
def A2f (o:Oper):Bool:=match o.op with| .defer _=>false| _=>true
variable {o:Oper}
theorem G0r (h:A2f o=true):∀c,o.op≠.defer c:=by intro c E;simp [A2f,E] at h
def Xo (n:Nat)(dst:Option Nat):Prop :=
 match dst with
 |some t=>t < n
 |none=>True
def Marks (C:Ctx)(S:Nat→Prop)(w:World)(ds:List Deferred):Prop :=
 ∃Ds:List Nat,ds=Ds.map (fun D=>({ target:=.collected D,args:=#[] }:Deferred))∧Ds.Nodup∧∀D,D∈Ds→S D∧C.w0.heap.size≤D∧w.heap[D]? = some (.deferred (some []))
variable {C:Ctx} {S:Nat→Prop} {w:World}
theorem Marks.nil :Marks C S w []:=⟨[],rfl,by simp,by simp⟩
theorem Marks.ext {S S':Nat→Prop} {w w':World} {ds:List Deferred} (h:Marks C S w ds)(e:Bo S w S' w'):Marks C S' w' ds:=by obtain⟨Ds,L,J,I⟩:=h;exact⟨Ds,L,J,fun D E=>⟨e.sub D (I D E).1,(I D E).2.1,(e.same D (I D E).1).trans (I D E).2.2⟩⟩
variable {a:Act}
theorem Marks.put {S S':Nat→Prop} {w w':World} {dst:Option Tmp} {v:Value} (h:Marks C S w a.defers)(e:Bo S w S' w'):Marks C S' w' (a.put dst v).defers:=by
 have:(a.put dst v).defers=a.defers:=by cases dst <;> rfl
 rw [this];exact h.ext e
structure St (C:Ctx)(n:Nat)(S:Nat→Prop)(w:World) (β:Names)(a:Act)(sl:SL)(bx:Ab):Prop where
 inv:Inv C S w β bx
 size:a.tmps.size=n
 defers:Marks C S w a.defers
 slot:∀t,Am S w β (Ae sl t) (a.tmps.getD t undef)
variable {β:Names}
theorem St.Ao {n:Nat} {sl:SL} {bx:Ab} (h:St C n S w β a sl bx)(x:Operand):Am S w β (Ao sl x) (a.eval x):=by
 cases x with
 |tmp t=>exact h.slot t
 |const v=>exact A3c S w β v
 |global g=>exact .undef _
 |func f=>exact .Bf f [] [] rfl (by simp)
theorem F7z {t u:Nat} {v:Value} (h:t < a.tmps.size):(a.put (some t) v).tmps.getD u undef=if t=u then v else a.tmps.getD u undef:=by
 simp only [Act.put,Ao5,Array.getElem?_setIfInBounds];split
 ·subst_vars;simp [h]
 ·rfl
theorem St.put {n:Nat} {S S':Nat→Prop} {w w':World} {β β':Names} {sl:SL} {bx bx':Ab} {dst:Option Nat} {v:Value} {r:SV} {pg:List Nat} (h:St C n S w β a sl bx)(hd:Xo n dst)
  (W:Inv C S' w' β' bx') (L:Bo S w S' w') (hr:Am S' w' β' r v) (hb:∀k,k ∉ pg→β' k = β k):St C n S' w' β' (a.put dst v) (Fi (Fb pg sl) dst r) bx':=by
 have U:∀(ks:List Nat) (sl:SL) (t:Nat) (u:Value),Am S w β (Ae sl t) u→(∀k,(Ae (Fb ks sl) t).has k=true→k ∉ ks∧(Ae sl t).has k=true)∧Am S w β (Ae (Fb ks sl) t) u:=by
  intro ks
  induction ks with
  |nil=>intro sl t u O;exact⟨fun k J=>⟨by simp,J⟩,O⟩
  |cons k ks ih =>
   intro sl t u O;have Z:Am S w β (Ae (Ub k sl) t) u:=by
    rw [A5j];unfold L6;split
    ·exact .undef _
    ·exact O
   obtain⟨V,R⟩:=ih (Ub k sl) t u Z;refine⟨fun j hj=>?_,R⟩;obtain⟨g1,I⟩:=V j hj;rw [A5j] at I;unfold L6 at I;split at I
   ·simp [SV.has] at I
   ·rename_i J;refine⟨?_,I⟩;simp only [As,Nb];refine⟨?_,g1⟩;intro L;subst L;exact J I
 have E:∀t,Am S' w' β' (Ae (Fb pg sl) t) (a.tmps.getD t undef):=by intro t;obtain⟨V,R⟩:=U pg sl t _ (h.slot t);exact R.ext L fun k J=>hb k (V k J).1
 cases dst with
 |none=>exact⟨W,h.size,h.defers.ext L,E⟩
 |some d =>
  refine⟨W,by simp [Act.put,h.size],h.defers.put L,?_⟩;intro t;rw [F7z (by rw [h.size];exact hd)];simp only [Fi,Ae];split
  ·exact hr
  ·exact E t
def FW (ro:Option Nat):Fence:={ Fence.wide with round:=ro }
def A0 (ro:Option Nat)(P:Program)(n:Nat)(c:Code)(Q:Exit→SL→Ab→Prop)(sl:SL)(bx:Ab):Prop :=
 ∀(C:Ctx) (S:Nat→Prop) (w:World) (β:Names) (a:Act),St C n S w β a sl bx →
  c.wpIn (FW ro) 0 P (fun e E w'=>∃sl' bx' S' β',Q e sl' bx'∧St C n S' w' β' E sl' bx') a w
variable {ro:Option Nat} {n:Nat} {Q:Exit→SL→Ab→Prop} {sl:SL} {bx:Ab}
variable {c:Code}
theorem A0.mono {E:Exit→SL→Ab→Prop} (h:A0 ro P n c Q sl bx)(I:∀e sl bx,Q e sl bx→E e sl bx):A0 ro P n c E sl bx :=
 fun C S w β a hs=>At5 (h C S w β a hs) fun _ _ _ ⟨sl',bx',S',β',q,r⟩=>⟨sl',bx',S',β',I _ _ _ q,r⟩
theorem A0.kk (h:Q .normal sl bx):A0 ro P n .skip Q sl bx:=fun _ S _ β _ hs=>wpIn_skip ⟨sl,bx,S,β,h,hs⟩
theorem A0.ret (h:Q .ret sl bx):A0 ro P n .ret Q sl bx:=fun _ S _ β _ hs=>wpIn_ret ⟨sl,bx,S,β,h,hs⟩
theorem A0.xx {id:Nat} (h:Q (.exit id) sl bx):A0 ro P n (.exit id) Q sl bx:=fun _ S _ β _ hs=>wpIn_exit ⟨sl,bx,S,β,h,hs⟩
def A4 (K:SL→Ab→Prop)(Q:Exit→SL→Ab→Prop):Exit→SL→Ab→Prop
 |.normal,sl,bx=>K sl bx
 |e,sl,bx=>Q e sl bx
def Aa (id:Nat)(Q:Exit→SL→Ab→Prop):Exit→SL→Ab→Prop
 |.exit E,sl,bx=>if E=id then Q .normal sl bx else Q (.exit E) sl bx
 |e,sl,bx=>Q e sl bx
theorem A0.seq {x y:Code} (h:A0 ro P n x (A4 (A0 ro P n y Q) Q) sl bx):A0 ro P n (.seq x y) Q sl bx:=by
 intro C S w β a hs;refine wpIn_seq (At5 (h C S w β a hs) ?_);rintro e E w' ⟨sl',bx',S',β',q,r⟩;cases e with
 |normal=>exact q C S' w' β' E r
 |_=>exact⟨sl',bx',S',β',q,r⟩
theorem A0.bb {id:Nat} (h:A0 ro P n c (Aa id Q) sl bx):A0 ro P n (.block id c) Q sl bx:=by
 intro C S w β a hs;refine wpIn_block (At5 (h C S w β a hs) ?_);rintro e I w' ⟨sl',bx',S',β',q,r⟩;cases e with
 |exit E =>
  simp only [Aa] at q;simp only [Exit.inBlock];split
  ·rw [A8 (by assumption)] at q;exact⟨sl',bx',S',β',q,r⟩
  ·rw [A6 (by assumption)] at q;exact⟨sl',bx',S',β',q,r⟩
 |_=>exact⟨sl',bx',S',β',q,r⟩
theorem A0.cond {c:Operand} {x y:Code} {t:Bool} (J:Ao sl c=.d (.bool t))(L:t=true→A0 ro P n x Q sl bx)(I:t=false→A0 ro P n y Q sl bx):A0 ro P n (.cond c x y) Q sl bx:=by intro C S w β a hs;have E:=hs.Ao c;rw [J] at E;exact wpIn_cond_split E.Vz (fun h=>L h C S w β a hs) (fun h=>I h C S w β a hs)
def Aw (x y:SV):Prop:=y=.undef∨x=y∨(y=.d (.slice [])∧(x=.d .nil∨x=.d .emp))
def sle (sl:SL):SL→Prop
 |[]=>True
 |(t,y)::r=>Aw (Ae sl t) y∧sle sl r
theorem G3x {x y:SV} {v:Value} (h:Aw x y)(hr:Am S w β x v):Am S w β y v:=by
 rcases h with rfl| rfl| ⟨rfl,rfl| rfl⟩
 ·exact .undef _
 ·exact hr
 ·exact .d _ _ hr.Gp.of_nil
 ·exact .d _ _ hr.Gp.C2t
theorem D5q :∀{sl':SL},sle sl sl'→∀{t:Nat} {v:Value},Am S w β (Ae sl t) v→Am S w β (Ae sl' t) v
 |[],_,t,v,_=>.undef _
 |(u,y)::r,h,t,v,hr=>by
  simp only [Ae];split
  ·subst_vars;exact G3x h.1 hr
  ·exact D5q h.2 hr
def ble (bx:Ab):Ab→Prop
 |[]=>True
 |(k,c)::r=>A7 bx k=some c∧ble bx r
theorem A5z:∀{bx':Ab},ble bx bx'→∀k c,(k,c)∈bx'→(k,c)∈bx
 |[],_,k,c,h=>by simp at h
 |(j,x)::r,h,k,c,hm=>by
  simp only [As,Df] at hm;rcases hm with ⟨rfl,rfl⟩| hm
  ·exact G0 h.1
  ·exact A5z h.2 k c hm
theorem St.weaken {sl':SL} {bx':Ab} (h:St C n S w β a sl bx)(I:sle sl sl')(E:ble bx bx'):St C n S w β a sl' bx' :=
 ⟨h.inv.sub (A5z E),h.size,h.defers,fun t=>D5q I (h.slot t)⟩
theorem A0.ww {sl':SL} {bx':Ab} (I:sle sl sl')(E:ble bx bx')(h:A0 ro P n c Q sl' bx'):A0 ro P n c Q sl bx :=
 fun C S w β a hs=>h C S w β a (hs.weaken I E)
theorem A0.loop {X:Type} (mk:X→SL)(mb:X→Ab)(I:X→Prop) (μ:X→Nat) {c:Code} (J:X)(U:I J)(O:sle sl (mk J))(L:ble bx (mb J))
  (h:∀x,I x→A0 ro P n c (A4 (fun sl' bx'=>∃E,I E∧μ E < μ x∧sle sl' (mk E)∧ble bx' (mb E)) Q) (mk x) (mb x)):A0 ro P n (.loop c) Q sl bx:=by
 intro C S w β a hs;refine wpIn_loop_ghost (fun m a w=>∃x S β,I x∧μ x=m∧St C n S w β a (mk x) (mb x)) (μ J) ⟨J,S,β,U,rfl,hs.weaken O L⟩ ?_;rintro m a w ⟨x,S,β,R,rfl,hs⟩;refine At5 (h x R C S w β a hs) ?_;rintro e Z w' ⟨sl',bx',S',β',q,r⟩;cases e with
 |normal =>obtain⟨E,O,L,V,W⟩:=q;exact⟨μ E,L,E,S',β',O,rfl,r.weaken V W⟩
 |_=>exact⟨sl',bx',S',β',q,r⟩
theorem A0.bd (t:Nat) {d:D} (hd:Ae sl t=.d d)(h:d.Bd→A0 ro P n c Q sl bx):A0 ro P n c Q sl bx:=by intro C S w β a hs;have hr:=hs.slot t;rw [hd] at hr;exact h hr.Gp.bd C S w β a hs
def M1 (ops:Array Oper)(j:Nat):Option Nat:=(ops[j]?).bind (·.dst)
def Qn (ops:Array Oper)(sl:SL)(o:Oper):Option Bool :=
 match o.guard with
 |none=>some true
 |some (j,E)=>match M1 ops j with
  |some t=>match Ae sl t with
   |.d (.bool b)=>some (b == E)
   |.tuple []=>some false
   |_=>none
  |none=>none
variable {ops:Array Oper}
theorem B4f {b:Bool} (hs:∀t,(∃j E,o.guard=some (j,E)∧M1 ops j=some t)→Am S w β (Ae sl t) (a.tmps.getD t undef)∧t < a.tmps.size)
  (h:Qn ops sl o=some b):Region.wanted o (yielded ops a.tmps)=b:=by
 unfold Qn at h;unfold Region.wanted;cases O:o.guard with
 |none=>simp [O] at h;simp [h]
 |some Z =>
  obtain⟨j,E⟩:=Z;simp only [O] at h ⊢;cases J:M1 ops j with
  |none=>simp [J] at h
  |some t =>
   simp only [J] at h;obtain⟨I,W⟩:=hs t ⟨j,E,O,J⟩;have V:yielded ops a.tmps j=match a.tmps.getD t undef with| .bool b=>some b| _=>none:=by unfold yielded;rw [show (ops[j]?).bind (·.dst)=some t from J];have R:t < a.tmps.size:=W;simp only [Ao7,Rj R,Ao5,Dc];split <;> split <;> simp_all
   rw [V];generalize a.tmps.getD t undef=v at I;split at h
   ·rename_i x L;rw [L] at I;rw [I.Vz];simp only [Av] at h;rw [←h];cases x <;> cases E <;> rfl
   ·rename_i L;rw [L] at I;have:v=.tuple ⟨[]⟩:=by cases I with| tuple _ vs U _=>cases vs with| nil=>rfl| cons=>simp at U
    subst this;simp only [Av] at h;subst h;rfl
   ·simp at h
def Xh (P:Program)(n:Nat)(ops:Array Oper):List Oper→SL→Ab→(SL→Ab→Prop)→Prop
 |[],sl,bx,K=>K sl bx
 |o::os,sl,bx,K=>∃g,Qn ops sl o=some g∧Xo n o.dst ∧
   (g=true→∃r bx' pg,Bt P o (Ao sl) bx r bx' pg∧Xh P n ops os (Fi (Fb pg sl) o.dst r) bx' K) ∧
   (g=false→Xh P n ops os (Fi sl o.dst (.tuple [])) bx K)
theorem B7i (hd:∀o,o∈ops.toList→Xo n o.dst) {j t:Nat} (h:M1 ops j=some t):t < n:=by
 unfold M1 at h;cases E:ops[j]? with
 |none=>simp [E] at h
 |some o =>simp only [E,Ao7] at h;have:=hd o (by have:=Array.mem_of_getElem? E;simpa using this);rw [h] at this;exact this
theorem Oper.F0q {K J:Act→World→Prop} {R:Exit→Act→World→Prop} (E:o.wp P a w K (fun _ _ _=>False))(h:∀a w,K a w→J a w):o.wp P a w J R:=by
 unfold Oper.wp at *;generalize (execOp a.eval o).run P w=r at *;cases r with
 |ok n w' =>
  cases n <;> simp only [Oper.upon] at E ⊢ <;>
   first
    |exact h _ _ E
    |exact Calls.mono E (fun e L I=>by cases e <;> first| exact h _ _ I| exact I.elim| (obtain⟨_,_,O⟩:=I;exact O.elim))
    |exact Rows.mono E (fun _ _ I=>h _ _ I)
 |halt x w'=>cases x <;> simp only [Oper.upon] at E ⊢
theorem Oper.C2j {K J:Act→World→Prop} (I:o.wpx P a w K)(h:∀a w,K a w→J a w):o.wpx P a w J:=by
 rcases I with I| ⟨l,f,tmps,E,body,w',hr,I⟩
 ·exact .inl (Oper.F0q I h)
 ·refine .inr ⟨l,f,tmps,E,body,w',hr,I.mono ?_⟩;intro e O L;cases e with
  |returned v=>exact h _ _ L
  |_=>exact L.elim
theorem D0o {ro:Option Nat} {m:Nat} {f:FuncId} {args:Array Value} {R:Ending→World→Prop} (h:Calls P f args w R):CallsIn (FW ro) m P f args w R :=
 (callsIn_wide (n:=m)).2 h
theorem E3w {ro:Option Nat} {m:Nat} {row:String} {args:Array Value} {R:Value→World→Prop} (h:Rows P row args w R):RowsIn (FW ro) m P row args w R:=by intro c cs _;obtain⟨v,w',r,s⟩:=h c cs;exact⟨v,w',r,(stepsIn_wide (P:=P)).2 s⟩
theorem Oper.B3r {ro:Option Nat} {K U:Act→World→Prop} {V:Exit→Act→World→Prop} (R:A2f o=true)(E:o.wpx P a w K)(h:∀a w,K a w→U a w):o.wpIn (FW ro) 0 P a w U V:=by
 refine⟨fun _ _=>trivial,?_⟩;rw [Oper.semAt_eq _ _ _ (G0r R)];rcases E with E| ⟨l,f,tmps,L,body,w',hr,E⟩
 ·unfold Oper.wp at E;generalize (execOp a.eval o).run P w=r at *;cases r with
  |ok n w' =>
   cases n <;> simp only [Oper.upon] at E ⊢ <;> simp only [Oper.uponIn] <;>
    first
     |exact h _ _ E
     |exact⟨fun J=>by simp [FW,Fence.wide] at J,D0o (Calls.mono E (fun e O I=>by cases e <;> first| exact h _ _ I| exact I.elim| (obtain⟨_,_,W⟩:=I;exact W.elim)))⟩
     |exact⟨fun J=>by simp [FW,Fence.wide] at J,E3w (Rows.mono E (fun _ _ I=>h _ _ I))⟩
  |halt x w'=>cases x <;> simp only [Oper.upon] at E
 ·rw [hr];simp only [Oper.uponIn];refine⟨fun J=>by simp [FW,Fence.wide] at J,RoundIn.mono (F:=FW ro) E ?_⟩;intro e O I;cases e with
  |returned v=>exact h _ _ I
  |_=>exact I.elim
theorem B2r {V:Exit→Act→World→Prop} (hd:∀o,o∈ops.toList→Xo n o.dst)(E:∀o,o∈ops.toList→A2f o=true) {K:SL→Ab→Prop}
  (L:∀sl bx S w β a,K sl bx→St C n S w β a sl bx→V .normal a w):∀(k i:Nat) (sl:SL) (bx:Ab) (S:Nat→Prop) (w:World) (β:Names) (a:Act),i+k=ops.size→Xh P n ops (ops.toList.drop i) sl bx K →
  St C n S w β a sl bx→wpOpsIn (FW ro) 0 P ops V (List.range' i k) a w
 | 0,i,sl,bx,S,w,β,a,U,hr,hs=>by have:ops.toList.drop i=[]:=Ig (by simp;omega);rw [this] at hr;exact L sl bx S w β a hr hs
 |k+1,i,sl,bx,S,w,β,a,U,hr,hs=>by
  have W:i < ops.size:=by omega
  have dp:ops.toList.drop i=ops[i]::ops.toList.drop (i+1):=by rw [Fy (by simpa using W)];simp
  rw [dp] at hr;obtain⟨g,hg,I,h1,h2⟩:=hr;simp only [Au0,wpOpsIn,Rj W];have hw:=B4f (a:=a) (S:=S) (w:=w) (β:=β) (fun t ht=>by obtain⟨j,Z,_,hj⟩:=ht;exact⟨hs.slot t,by rw [hs.size];exact B7i hd hj⟩) hg
  rw [hw];cases g with
  |true =>simp only [Af];obtain⟨r,bx',pg,R,J⟩:=h1 rfl;refine Oper.B3r (E _ (by simp)) (R C S w β a hs.inv fun x _=>hs.Ao x) ?_;rintro a' w' ⟨v,S',β',rfl,O,he,hv,hb⟩;exact B2r hd E L k (i+1) _ bx' S' w' β' _ (by omega) J (hs.put I O he hv hb)
  |false =>simp only [Hh,Et];refine⟨fun _ _=>trivial,?_⟩;exact B2r hd E L k (i+1) _ bx S w β _ (by omega) (h2 rfl) (hs.put (pg:=[]) I hs.inv (Bo.refl S w) (.tuple [] [] rfl (by simp)) (fun _ _=>rfl))
end Go.Abs
namespace Go.Abs
open Go
variable {ro:Option Nat} {P:Program} {n:Nat} {Q:Exit→SL→Ab→Prop} {sl:SL} {bx:Ab}
def E4 (n:Nat)(ops:List Oper):Bool:=ops.all fun o=>(match o.dst with| some t=>decide (t < n)| none=>true) && A2f o
theorem Vm {ops:List Oper} (h:E4 n ops=true):∀o,o∈ops→Xo n o.dst:=by intro o E;have:=Cf.1 h o E;simp only [B1] at this;unfold Xo;cases hd:o.dst <;> simp_all
theorem A3q {ops:List Oper} (h:E4 n ops=true):∀o,o∈ops→A2f o=true:=by intro o E;have:=Cf.1 h o E;simp only [B1] at this;exact this.2
def V4 (ks:List Nat)(sl:SL):SL :=
 match ks with
 |[]=>[]
 |k::r=>(k,Ae sl k)::V4 r sl
def Re (ks:List Nat)(bx:Ab):Ab :=
 match ks with
 |[]=>[]
 |k::r=>match A7 bx k with
  |some c=>(k,c)::Re r bx
  |none=>Re r bx
theorem C9u (sl:SL):∀(ks:List Nat)(t:Nat),Ae (V4 ks sl) t=Ae sl t∨Ae (V4 ks sl) t=.undef
 |[],t=>.inr rfl
 |k::r,t=>by
  simp only [V4,Ae];split
  ·subst_vars;exact .inl rfl
  ·exact C9u sl r t
theorem C4n {k:Nat} {c:Ar} :∀{ks:List Nat},(k,c)∈Re ks bx→(k,c)∈bx
 |[],h=>by simp [Re] at h
 |j::r,h=>by
  simp only [Re] at h;split at h
  ·rename_i x E;simp only [As,Df] at h;rcases h with ⟨rfl,rfl⟩| h
   ·exact G0 E
   ·exact C4n h
  ·exact C4n h
theorem St.Sf {C:Ctx} {S:Nat→Prop} {w:World} {β:Names} {a:Act} (h:St C n S w β a sl bx)(ks E:List Nat):St C n S w β a (V4 ks sl) (Re E bx) :=
 ⟨h.inv.sub fun _ _ I=>C4n I,h.size,h.defers,fun t=>by
  rcases C9u sl ks t with e| e <;> rw [e]
  ·exact h.slot t
  ·exact .undef _⟩
variable {ops:Array Oper}
theorem A0.region {id:Nat} (ks I:List Nat)(hd:E4 n ops.toList=true)(h:Xh P n ops ops.toList sl bx fun sl' bx'=>Q .normal (V4 ks sl') (Re I bx')):A0 ro P n (.region id ops false) Q sl bx:=by intro C S w β a hs;refine wpIn_region ?_;rw [List.range_eq_range'];exact B2r (Vm hd) (A3q hd) (fun sl' bx' S' w' β' L J E=>⟨_,_,S',β',J,E.Sf ks I⟩) ops.size 0 sl bx S w β a (by simp) (by simpa using h) hs
def A8i (ops:Array Oper)(o:Oper):List Nat:=o.looksAt ops
def left (size:Nat)(E:Array Bool):Nat:=(List.range size).countP fun i=>!(E.getD i false)
theorem E4r {size i:Nat} {E:Array Bool} (hs:E.size=size)(W:i < size)(h:E.getD i false=false):left size (E.setIfInBounds i true) < left size E:=by
 unfold left;have R:i < E.size:=by omega
 have h1:∀j,(!(E.setIfInBounds i true).getD j false)=(!(decide (j=i)) && !(E.getD j false)):=by
  intro j;by_cases O:i=j
  ·subst O;simp [R]
  ·rw [getD_set_ne false O];simp [Pp O]
 simp only [h1];have:∀l:List Nat,i∈l→(l.countP fun j=>!(decide (j=i)) && !(E.getD j false)) < l.countP fun j=>!(E.getD j false):=by
  intro l
  induction l with
  |nil=>simp
  |cons a l Z =>
   intro J;have V:(l.countP fun j=>!(decide (j=i)) && !(E.getD j false))≤l.countP fun j=>!(E.getD j false):=List.countP_mono_left (by intro x _ U;simp at U;simp [U.2]);simp only [List.countP_cons];by_cases L:a=i
   ·subst L;simp only [Tq,As7,Bv,Hh,Et,h,Ar7,Af];omega
   ·have I:i∈l:=by simpa [Pp L] using J
    have:=Z I;simp only [L,Aq6,Ar7,Ca];omega
 exact this _ (Xs.2 W)
variable {o:Oper}
theorem F0h {s I:SL} (h:∀j E t,o.guard=some (j,E)→M1 ops j=some t→Ae s t=Ae I t):Qn ops s o=Qn ops I o:=by
 unfold Qn;cases J:o.guard with
 |none=>rfl
 |some O =>
  obtain⟨j,E⟩:=O;simp only;cases L:M1 ops j with
  |none=>rfl
  |some t=>simp only [h j E t J L]
theorem G3z {j t:Nat} {E:Bool} (J:o.guard=some (j,E))(I:M1 ops j=some t):t∈o.looksAt ops:=by unfold Oper.looksAt;simp only [Bw];right;unfold M1 at I;rw [J];simp [I]
theorem F8b {t:Nat} (h:Operand.tmp t∈o.op.operands):t∈o.looksAt ops:=by unfold Oper.looksAt;simp only [Bw,Aq3];left;exact⟨.tmp t,by simpa using h,rfl⟩
end Go.Abs
