/- expr.All, visit: the nodes of an expression in order, for a range over a function; expr.Value; step.first -/
import Derived.Test.YtaneedhchnaniaaGreatDoorKAb7
import Derived.Test.YtaneedhchnaniaaGreatDoorKS25
namespace Go.Abs
set_option linter.all false
open Go Go.Proofs Tryz
set_option maxRecDepth 100000
set_option maxHeartbeats 1000000
structure Fits (Y:Hj)(j:Nat)(l:List Ex):Prop where
 P:Y.P=prog
 N:j+l.length≤Y.N
 at_:∀i e,l[i]? = some e→Y.xs (j+i)=Di e∧Y.go (j+i)=decide (e.kind=3)
theorem Fits.left {Y:Hj} {j:Nat} {l m:List Ex} (h:Fits Y j (l++m)):Fits Y j l where
 P:=h.P
 N:=by have:=h.N;rw [B3] at this;omega
 at_:=fun i e E=>h.at_ i e (by rw [J6 (Ay.1 E).1];exact E)
theorem Fits.right {Y:Hj} {j:Nat} {l m:List Ex} (h:Fits Y j (l++m)):Fits Y (j+l.length) m where
 P:=h.P
 N:=by have:=h.N;rw [B3] at this;omega
 at_:=fun i e E=>by have:=h.at_ (l.length+i) e (by rw [Jh (by omega)];simpa using E);rw [Mh];exact this
theorem E2h {vars:List A3} {args:List Ty} (L:∀u,u∈args→u.Sm):∀t:Ty,t.Sm→(t.subst vars args).Sm:=by
 intro t
 induction t using Ty.induct with
 |h t O =>
 intro h;rw [Uq];split
 ·rename_i R;have E:(Cy t.name vars 0).toNat < args.length:=by omega
  rw [Ba E,Dc];have:=L _ (F7 E);exact .mk _ _ _ this.name this.len this.arg
 ·refine .mk _ _ _ h.name (by rw [B6];exact h.len) fun u J=>?_;obtain⟨x,I,rfl⟩:=Ax.1 J;exact O x I (h.arg x I)
theorem Ex.Sm.subst {vars:List A3} {args:List Ty} (J:∀u,u∈args→u.Sm)(e:Ex):e.Sm→(e.subst vars args).Sm:=by
 induction e using Ex.induct with
 |h e L =>
 intro h;unfold Ex.subst;rw [A1b];refine .mk _ _ _ _ _ _ h.name (E2h J _ h.type) ?_ ?_ ?_ ?_
 ·show (e.targs.map (Ty.subst vars args)).length≤sm;rw [B6];exact h.targs.1
 ·intro t ht;have ht:t∈e.targs.map (Ty.subst vars args):=ht;obtain⟨u,E,rfl⟩:=Ax.1 ht;exact E2h J _ (h.targs.2 u E)
 ·show (e.kids.map _).length≤sm;rw [B6];exact h.kids.1
 ·intro k I;have I:k∈e.kids.map (Ex.mapped (Ex.A1u vars args)):=I;obtain⟨u,E,rfl⟩:=Ax.1 I;exact L u E (h.kids.2 u E)
def B1h (vars:List A3)(E:List Ex)(e:Ex):Ex:=if e.kind=1∧0≤Cy e.name vars 0∧Cy e.name vars 0 < E.length then (E[(Cy e.name vars 0).toNat]?).getD e else e
def Ex.Qi (vars:List A3)(E:List Ex):Ex→Ex:=Ex.mapped (B1h vars E)
abbrev q1M:List Nat:=[0,1,2,3,6,7,8,30,67]
theorem F9v (vars:List A3)(args:List Ty)(R:∀u,u∈args→u.Sm)(e:Ex):e.Sm→Ac prog 237 [Di e,Ct vars,Cg args] (Di (e.subst vars args)):=by
 induction e using Ex.induct with
 |h e W =>
 intro E;have V:=E.kids.1;have h1:=Ur vars args R e.type E.type;have U:=E9c vars args R e.targs E.targs.1 E.targs.2;have J:e.subst vars args=.mk e.kind e.name (e.type.subst vars args) (e.targs.map (Ty.subst vars args)) (e.kids.map (Ex.subst vars args)) e.pos:=by unfold Ex.subst;rw [A1b];rfl
 rw [J];generalize e.type.subst vars args=T at *;generalize e.targs.map (Ty.subst vars args)=A at *;refine cB func237 ?_;refine sR q1M ?_
 (refine sG q1M [] 18 [⟨[],[],[7],[7]⟩,⟨[],[],[7],[7]⟩,⟨[],[],[7],[7]⟩,⟨[],[],[7],[7]⟩,⟨[],[],[7],[7]⟩,⟨[],[],[7],[7]⟩,⟨[],[],[7],[7]⟩,⟨[],[],[7],[7]⟩,⟨[],[],[7],[7]⟩,⟨[],[],[7],[7]⟩,⟨[],[],[7],[7]⟩,⟨[],[],[7],[7]⟩,⟨[],[],[7],[7]⟩,⟨[],[],[7],[7]⟩,⟨[],[],[7],[7]⟩,⟨[],[],[7],[7]⟩,⟨[],[],[7],[7]⟩,⟨[7],[7],[],[]⟩] fun K z=>?_;refine ev ?_;refine cc h1 ?_;refine cc U ?_;apply z;clear z K)
 refine A0.No 67 8 7 6 rfl rfl (by decide) ?_;refine kR q1M fun K1 u1=>?_;refine A0.bb (A0.ii e.kids (X:=Unit) (fun j _=>[(1,Ct vars),(2,Cg args),(3,.box 3 0),(6,.box 6 0),(7,.box 7 0),(8,A9 j)])
  (fun j _=>[(3,.cells (exS e)),(6,.cells [.d (.int .i64 0),.d (.str []),.d (.str []),.d .nil,.d (.int .i64 0),.d .nil,.d .nil,.d (.int .i64 0)]),(7,.cells [.d (.int .i64 e.kind),.d (.str e.name),.d (.str T.name),.d (.slice (Aq T.args)),.d (.int .i64 T.pos),.d (.slice (Aq A)),.acc 67,.d (.int .i64 e.pos)]),(67,.rows 8 (Db ((e.kids.take j).map (Ex.subst vars args))))])
  (fun j _=>True) () trivial sS (by simp [ble,A7,Lp,exS]) ?_ ?_)
 ·intro _ _;rw [Cs];refine Ai B4 q1M fun L u2=>?_;refine A0.ss rfl ?_;simp only [A4,Aa,Af];refine u1 _ _ ?_;refine sR q1M ?_;exact aR
 ·intro j _ d hd I dp Z O _;rw [Z];refine Ai O q1M fun L u2=>?_;refine gI u2 ?_;clear u2 L;refine sK fun L u2=>?_;refine A0.bb ?_
  (refine lG q1M [] 11 [] fun K z=>?_;refine ev ?_;refine ci (Ed hd) ?_;refine cc (W d I (E.kids.2 d I)) ?_;refine⟨by simp,by simp only [B6,Cw];unfold lim sm at *;omega,?_⟩;(try refine ev ?_);apply z;clear z K;try simp only [A4,Aa])
  refine u2 _ _ ?_;clear u2 L;refine lT q1M ?_;exact⟨(),trivial,sS,by simp [ble,A7,Lp,Ce,exS]⟩
def fieldsD (d:Decl)(x:Ty):List Param:=d.fields.map (Param.subst (Ad d.A1) x.args)
def C5 (p:Prog)(x:Ty):List Param:=if Bz p x 1=true then fieldsD ((Gb p x.name).getD default) x else []
abbrev Q9:List Nat:=[0,1,3,4,5,6,7,8,10,18,20,21,22,23]
theorem E9q (p:Prog)(h:p.Sm)(x:Ty)(Z:x.Sm):Ac prog 116 [.Ag (Fu p) 0,Be x] (.tuple [.d (.slice (B5 (C5 p x))),B0 (Bz p x 1)]):=by
 have I:=B8h p h x 1 (by decide);unfold C5;rcases Fg (Bz p x 1) with hi| hi
 ·obtain⟨E,L,_⟩:=Lo (by decide) hi;rw [hi,A8 rfl];rw [L,Dc,hi] at I;rw [L,Dc];have J:=h.decls.2 E (Nh L);have W:=J.fields.1;have hn:=A9z E.A1 J.A1.1;unfold fieldsD;refine cB func116 ?_;refine sR Q9 ?_;refine sC I Q9 ?_;refine kR Q9 fun V u1=>?_;refine kI u1 ?_;clear u1 V;refine sR Q9 ?_;refine A0.pp 8 5 8 rfl ?_;refine kR Q9 fun V u1=>?_;refine A0.bb (A0.ii E.fields (X:=Unit) (fun j _=>[(3,.box 3 0),(6,.box 6 0),(8,.acc 8),(20,.d (.slice (B5 E.fields))),(21,A9 E.fields.length),(22,A9 j)])
   (fun j _=>[(3,.cells [.d (.str x.name),Cg x.args,A9 x.pos]),(6,.cells ((Bc E).map .d)),(8,.rows 5 (B5 ((E.fields.take j).map (Param.subst (Ad E.A1) x.args))))])
   (fun j _=>True) () trivial sS (by simp [ble,A7,B5,Bc]) ?_ ?_)
  ·intro _ _;rw [Cs];refine Ah B4 Q9 ?_;refine A0.stop rfl ?_;simp only [A4,Aa,Af];refine u1 _ _ ?_;refine sR Q9 ?_;exact aR
  ·intro j _ d hd O dp tk U _;rw [tk];have R:=B1m (Ad E.A1) x.args Z.arg d.type (J.fields.2 d O).type;refine Ah U Q9 ?_;refine A0.E5 rfl ?_;refine sK fun K2 u2=>?_;refine A0.bb ?_
   (refine sV Q9 fun K z=>?_;refine ci (E7 hd) ?_;apply z;clear z K)
   (refine lG Q9 [] 15 [] fun K z=>?_;refine ev ?_;refine cc hn ?_;refine cc R ?_;refine⟨by simp,by simp only [B6,Cw];unfold lim sm at *;omega,?_⟩;(try refine ev ?_);apply z;clear z K;try simp only [A4,Aa])
   refine u2 _ _ ?_;clear u2 K2;refine lT Q9 ?_;exact⟨(),trivial,sS,by simp [ble,A7,B5,Bc,Gc,Param.subst]⟩
 ·rw [hi] at I ⊢;rw [A6 (by decide)];generalize (Gb p x.name).getD default=E at *;refine cB func116 ?_;refine sR Q9 ?_;refine sC I Q9 ?_;refine kR Q9 fun V u1=>?_;refine tI ?_;refine sR Q9 ?_;exact aR
def Pm (E:List (List Ty)):List (List D):=E.map fun l=>[.slice (Aq l)]
theorem B8d {E:List (List Ty)} {j:Nat} {l:List Ty} (h:E[j]? = some l):(Pm E)[j]? = some [.slice (Aq l)]:=by simp [Pm,h]
abbrev Nc:List Nat:=[0,2,3,5,6,8,9,10,11,12,20,24,25,26,27,28]
theorem C4i (E:List (List Ty))(hl:E.length≤sm)(W:(E.map List.length).sum≤2*sm):Ac prog 97 [.d (.slice (Pm E))] (.d (.slice (Aq E.flatten))):=by
 refine cB func97 ?_;refine sR Nc ?_;refine sR Nc ?_;refine kR Nc fun V u1=>?_;refine A0.bb (A0.ii E (X:=Unit) (fun j _=>[(0,.d (.slice (Pm E))),(3,A9 (((E.take j).map List.length).sum:Nat)),(9,.d (.slice (Pm E))),(10,A9 E.length),(11,A9 j)]) (fun _ _=>[])
  (fun j _=>True) () trivial (by simp [sle,Aw,Ae,Pm]) sB ?_ ?_)
 ·intro _ _;rw [Cs];refine Ah B4 Nc ?_;refine A0.stop rfl ?_;simp only [A4,Aa,Af];refine u1 _ _ ?_;clear u1 V
  (refine A0.F6 Nc [800024] (by decide +kernel) fun K z=>?_;refine ev ?_;refine⟨_,_,_,C3w 24 rfl rfl rfl (D8a _ (by unfold sm at W;omega)) rfl (by decide) rfl,?_⟩;simp only [SV.Eg,A8w,Af];(try refine ev ?_);apply z;clear z K)
  refine kR Nc fun V u1=>?_;refine A0.bb (A0.ii E (X:=Unit) (fun j _=>[(6,.acc 24),(25,.d (.slice (Pm E))),(26,A9 E.length),(27,A9 j)]) (fun j _=>[(24,.rows 3 (Aq (E.take j).flatten))])
   (fun j _=>True) () trivial (by simp [sle,Aw,Ae,Pm]) (by simp [ble,A7,Cc]) ?_ ?_)
  ·intro _ _;rw [Cs];refine Ah B4 Nc ?_;refine A0.stop rfl ?_;simp only [A4,Aa,Af];refine u1 _ _ ?_;clear u1 V;refine sR Nc ?_;exact aR
  ·intro j _ d hd O dp L J Z;have I:=B7x E (j+1);rw [L,Fz,Ap9] at I;simp only [Cz,Hr,Kr,List.sum_nil,Q6] at I;rw [L,List.flatten_append,Aq0,List.flatten_nil,Ge];refine Ah J Nc ?_;refine A0.E5 rfl ?_;refine sK fun U u2=>?_;refine A0.bb ?_
   (refine sV Nc fun K z=>?_;refine ci (B8d hd) ?_;apply z;clear z K)
   (refine lV Nc fun K z=>?_;refine⟨Rz _,by rw [List.length_flatten];unfold lim sm at *;omega,?_⟩;(try refine ev ?_);apply z;clear z K;try simp only [A4,Aa])
   refine u2 _ _ ?_;clear u2 U;refine lT Nc ?_;exact⟨(),trivial,sS,by simp [ble,A7,Cc]⟩
 ·intro j _ d hd O dp L J Z;have I:=B7x E (j+1);rw [L,Fz,Ap9] at I;simp only [Cz,Hr,Kr,List.sum_nil,Q6] at I;have R:¬(((((E.take j).map List.length).sum:Nat):Int)+(d.length:Int) < 0):=by omega
  rw [L,Fz,Ap9];simp only [Cz,Hr,Kr,List.sum_nil,Q6];refine Ah J Nc ?_;refine A0.E5 rfl ?_;refine sK fun U u2=>?_;refine A0.bb ?_
  (refine sV Nc fun K z=>?_;refine ci (B8d hd) ?_;apply z;clear z K)
  (refine sV Nc fun K z=>?_;refine ca ?_;apply z;clear z K)
  refine Ah R Nc ?_;refine A0.ff rfl (A0.kk (u2 _ _ ?_));clear u2 U;refine lT Nc ?_;exact⟨(),trivial,sS,sB⟩
theorem Br.B9r {S:Nat→Prop} {w:World} {v:Value} (h:Br S w (.slice []) v):Br S w .nil v∨Br S w .emp v:=by
 cases h with
 |Ja a cap E =>
  cases a with
  |none=>rw [E rfl];exact .inl .nil
  |some a=>exact .inr (.emp a cap)
 |slice rows b off cap sz _ _ _ _ _ _ _=>exact .inr (.emp _ cap)
theorem Cd.B9r {P:Program} {f:FuncId} {r:SV} {bx:Ab} (R:Cd P f [.d .nil] [] r bx)(V:Cd P f [.d .emp] [] r bx):Cd P f [.d (.slice [])] [] r bx:=by
 refine⟨R.1,fun C β vs L O=>?_⟩;obtain⟨v,J,I⟩:=O.get (j:=0) (c:=.d (.slice [])) rfl;have E:vs=[v]:=by
  have U:=O.1
  match vs,U with
  |[u],_=>simpa using J
 subst E;rcases I.Gp.B9r with h| h
 ·exact R.2 C β _ L (.cons (.d _ _ h) .nil)
 ·exact V.2 C β _ L (.cons (.d _ _ h) .nil)
theorem F3h (l:List A3)(I:l.length≤sm):Cd prog 217 [Ct l] [] (.acc 5) [(5,.rows 1 (C6 l))]:=by
 cases l with
 |nil =>
  rw [show C6 []=[] from rfl];refine Cd.B9r ?_ ?_
  ·refine bB func217 ?_;refine sR [0,2,4] ?_;refine kR [0,2,4] fun E u1=>?_;refine tI ?_;refine sR [0,2,4] ?_;refine A0.pp 5 1 2 rfl ?_;exact A0.ret ⟨_,by rw [results217];rfl,.inl rfl,by simp [ble,A7]⟩
  ·refine bB func217 ?_;refine sR [0,2,4] ?_;refine kR [0,2,4] fun E u1=>?_;refine kI u1 ?_;clear u1 E
   (refine A0.F6 [0,2,4,5] [5] (by decide +kernel) fun K z=>?_;refine ev ?_;apply z;clear z K)
   exact A0.ret ⟨_,by rw [results217];rfl,.inl rfl,by simp [ble,A7]⟩
 |cons x xs =>
  refine bB func217 ?_;refine sR [0,2,4] ?_;refine kR [0,2,4] fun E u1=>?_;refine kI u1 ?_;clear u1 E
  (refine A0.F6 [0,2,4,5] [5] (by decide +kernel) fun K z=>?_;refine ev ?_;refine⟨A4g _,by have:=I;simp only [Bg] at this;unfold lim sm at *;omega,?_⟩;(try refine ev ?_);apply z;clear z K)
  exact A0.ret ⟨_,by rw [results217];rfl,.inl rfl,by simp [ble,A7]⟩
def Jm (p:Prog)(x:Ty)(m:A3):Option Decl:=if Bz p x 1=true then (match p.decls.find? (J7 x.name m) with
 |some d=>if d.vars.length=x.args.length then some d else none
 |none=>none) else none
theorem F6x (p:Prog)(E m:A3):A2p p (Gw E (46::m))=p.decls.find? (J7 E m):=by unfold A2p;rw [←D9w];rfl
def Tj:Ex:=.mk 0 [] (.mk [] [] 0) [] [] 0
theorem C6o:Tj.Sm:=.mk _ _ _ _ _ _ (by simp) (.mk _ _ _ (by simp) (by simp) (by simp)) (by simp) (by simp) (by simp) (by simp)
theorem F8o (d:Decl)(h:d.Sm):Ac prog 280 [Iy d] (Iy d):=by
 have E:=E0k ⟨[d],.mk 0 [] (.mk [] [] 0) [] [] 0⟩ ⟨⟨show 1≤sm by decide,fun t ht=>by rw [Qt.1 ht];exact h⟩,C6o⟩;have I:=E2 (l:=[d]) (i:=0) rfl;refine cB func280 ?_;refine sR [0,1,2] ?_
 (refine sV [0,1,2] fun K z=>?_;refine cc E ?_;refine cj I ?_;apply z;clear z K)
 exact aR
abbrev Jv:List Nat:=[0,1,2,4,6,7,8,9,11,42]
theorem C7v (p:Prog)(h:p.Sm)(x:Ty)(Z:x.Sm)(m:A3)(hm:m.length≤sm):Ac prog 216 [.Ag (Fu p) 0,Be x,C8 m] (.tuple [Iy ((Jm p x m).getD default),B0 (Jm p x m).isSome]):=by
 have J:=D6g p h x.name (46::m);rw [F6x] at J;have I:=B8h p h x 1 (by decide);unfold Jm;generalize (Gb p x.name).getD default=dd at *;cases V:p.decls.find? (J7 x.name m) with
 |none =>
  rw [V] at J;simp only [Mj,L7] at J;have e:(if Bz p x 1=true then (none:Option Decl) else none)=none:=by split <;> rfl
  simp only [e,Mj,L7];generalize Bz p x 1=bb at *;refine cB func216 ?_;refine sR Jv ?_
  (refine sV Jv fun K z=>?_;refine⟨by unfold lim sm at *;omega,?_⟩;(try refine ev ?_);refine cc J ?_;apply z;clear z K)
  refine kC I Jv fun O u1=>?_;cases bb
  ·refine sR Jv ?_;refine tI ?_;refine sR Jv ?_;exact aR
  ·refine sR Jv ?_;refine tI ?_;refine sR Jv ?_;exact aR
 |some d =>
  rw [V] at J;simp only [Dc,Am2] at J;have U:=An1 V;have R:=F8o d (h.decls.2 d U);cases W:Bz p x 1 with
  |false =>
   rw [W] at I;simp only [Hh,Et,Mj,L7];refine cB func216 ?_;refine sR Jv ?_
   (refine sV Jv fun K z=>?_;refine⟨by unfold lim sm at *;omega,?_⟩;(try refine ev ?_);refine cc J ?_;apply z;clear z K)
   refine kC I Jv fun O u1=>?_;refine sR Jv ?_;refine tI ?_;refine sR Jv ?_;exact aR
  |true =>
   rw [W] at I;by_cases L:d.vars.length=x.args.length
   ·have E:(d.vars.length:Int)=x.args.length:=by omega
    simp only [Af,A8 L,Dc,Am2];refine cB func216 ?_;refine sR Jv ?_
    (refine sV Jv fun K z=>?_;refine⟨by unfold lim sm at *;omega,?_⟩;(try refine ev ?_);refine cc J ?_;apply z;clear z K)
    refine kC I Jv fun O u1=>?_;refine Ah E Jv ?_;refine kI u1 ?_;clear u1 O;refine sC R Jv ?_;exact aR
   ·have E:¬(d.vars.length:Int)=x.args.length:=by omega
    simp only [Af,A6 L,Mj,L7];refine cB func216 ?_;refine sR Jv ?_
    (refine sV Jv fun K z=>?_;refine⟨by unfold lim sm at *;omega,?_⟩;(try refine ev ?_);refine cc J ?_;apply z;clear z K)
    refine kC I Jv fun O u1=>?_;refine Ah E Jv ?_;refine tI ?_;refine sR Jv ?_;exact aR
abbrev Vy:List Nat:=[0,1,2,3,4,5,6,7,8,21]
theorem C5d (p:Prog)(h:p.Sm)(x:Ty)(hx:x.Sm)(hi:Bz p x 1=true):Ac prog 152 [Cv p,Be x] (.d (.slice (B5 (C5 p x)))):=by
 obtain⟨I,E,_⟩:=Lo (by decide) hi;unfold C5;rw [A8 hi,E,Dc];have J:=h.decls.2 I (Nh E);have a0:=J.fields.1;have hn:=To I.A1 J.A1.1;have O:=A5t p x.name;obtain⟨k,hk,W⟩:∃k:Nat,p.decls[k]? = some I∧findD x.name p.decls 0=(k:Int):=by
  rcases A7z x.name p.decls 0 with ⟨_,V⟩| ⟨k,e,h1,V,h3⟩
  ·have:Gb p x.name=none:=V;rw [E] at this;cases this
  ·have:Gb p x.name=some e:=h3;rw [E] at this;obtain rfl:=As5 this;exact⟨k,h1,by rw [V];simp⟩
 rw [W] at O;unfold fieldsD;refine cB func152 ?_;refine sR Vy ?_
 (refine sG Vy [] 9 [⟨[],[],[5],[5]⟩,⟨[],[],[5],[5]⟩,⟨[],[],[5],[5]⟩,⟨[],[],[5],[5]⟩,⟨[],[],[5],[5]⟩,⟨[],[],[5],[5]⟩,⟨[],[],[5],[5]⟩,⟨[],[],[5],[5]⟩,⟨[5],[5],[],[]⟩] fun K z=>?_;refine ev ?_;refine cc O ?_;refine ci (E2 hk) ?_;apply z;clear z K)
 refine sR Vy ?_;refine A0.pp 6 5 6 rfl ?_;refine kR Vy fun K1 u1=>?_;refine A0.bb (A0.ii I.fields (X:=Unit) (fun j _=>[(3,.box 3 0),(5,.box 5 0),(6,.acc 6),(7,A9 j)])
  (fun j _=>[(3,.cells [.d (.str x.name),Cg x.args,A9 x.pos]),(5,.cells ((Bc I).map .d)),(6,.rows 5 (B5 ((I.fields.take j).map (Param.subst (Ad I.A1) x.args))))])
  (fun j _=>True) () trivial sS (by simp [ble,A7,B5,Bc]) ?_ ?_)
 ·intro _ _;rw [Cs];refine Ai B4 Vy fun U u2=>?_;refine A0.ss rfl ?_;simp only [A4,Aa,Af];refine u1 _ _ ?_;refine sR Vy ?_;exact aR
 ·intro j _ d hd R dp tk Z _;rw [tk];have L:=Ur (Ad I.A1) x.args hx.arg d.type (J.fields.2 d R).type;refine Ai Z Vy fun U u2=>?_;refine gI u2 ?_;clear u2 U;refine sK fun U u2=>?_;refine A0.bb ?_
  (refine sV Vy fun K z=>?_;refine ci (E7 hd) ?_;apply z;clear z K)
  (refine sG Vy [] 7 [] fun K z=>?_;refine ev ?_;refine cc hn ?_;refine cc L ?_;apply z;clear z K)
  (refine lV Vy fun K z=>?_;refine⟨by simp,by simp only [B6,Cw];unfold lim sm at *;omega,?_⟩;(try refine ev ?_);apply z;clear z K;try simp only [A4,Aa])
  refine u2 _ _ ?_;clear u2 U;refine lT Vy ?_;exact⟨(),trivial,sS,by simp [ble,A7,B5,Bc,Gc,Param.subst]⟩
def G3e (p:Prog)(e v:Ex):Ex × Int :=
 if Bz p v.type 1=true∧0≤Dy (fun f:Param=>decide (f.name=e.name)) (C5 p v.type)∧Dy (fun f:Param=>decide (f.name=e.name)) (C5 p v.type) < v.kids.length then
  ((v.kids[(Dy (fun f:Param=>decide (f.name=e.name)) (C5 p v.type)).toNat]?).getD v,1) else (e,4)
def G2m (p:Prog)(e v:Ex):Ex × Int:=if Dj p [] v.type e.type=true then (v,1) else (e,3)
def G2z (e v:Ex)(d:Decl):Ex:=(d.body.subst (d.vars++Ad d.sig.A1) (v.type.args++e.targs)).Qi (d.recv::d.sig.params.map (·.name)) e.kids
def F0o (p:Prog)(e v:Ex):Ex × Int:=match Jm p v.type e.name with
 |none=>(e,4)
 |some d=>if d.sig.A1.length=e.targs.length∧d.sig.params.length+1=e.kids.length then (G2z e v d,1) else (e,4)
theorem C1w {p:Prog} (h:p.Sm)(x:Ty):(C5 p x).length≤sm:=by
 unfold C5;split
 ·rename_i E;obtain⟨d,hd,_⟩:=Lo (by decide) E;rw [hd,Dc];unfold fieldsD;rw [B6];exact (h.decls.2 d (Nh hd)).fields.1
 ·simp
end Go.Abs
