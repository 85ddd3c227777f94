/- slices.Contains of strings, ContainsFunc with closures kept as data; declare.when, first, each -/
import Derived.Test.YtcmlfpcaeflleaaGreatDoorGS58
set_option linter.all false
set_option maxHeartbeats 4000000
set_option maxRecDepth 100000
namespace Go.Abs
open Go Go.Proofs Tryz
theorem D5j{α:Type}(p:α->Bool)(l:List α):decide (Dq p l >= 0)=l.any p:=by
 unfold Dq;cases h:l.findIdx? p with
 |none =>rw[Ao2]at h;simp only;rw[Ce (by decide)];symm;rw[List.any_eq_false];intro x I;rw[h x I];decide
 |some i =>obtain⟨E,hp,_⟩:=Ai3.1 h;simp only;rw[Bo (by omega)];symm;rw[List.any_eq_true];exact⟨_,Fa E,hp⟩
abbrev Ny:List Nat:=[0,1,3,4,5,6,7,9,10,11,19,20,21,22,35,36,37]
def F5r(p:Prog)(h:p.Sm)(d:Decl)(hd:d.Sm):Ac prog 287 [.Ah (Ep p) 0,Ma d] (.d (.slice (Ar (Ga p d)))):=by
 have I:=B2m h d.name;have hf:=D4i p h d.name;have a0:=A4d (Ey p d.name) I.1;have a1:=hd.vars.1;have U:∀u,u∈E5 d.vars->u.Sm:=by intro u hu;obtain⟨v,hv,rfl⟩:=B1.1 hu;exact .mk _ _ _ (hd.vars.2 v hv) (by simp) (by simp)
 unfold Ga;generalize hL:Ey p d.name=L at*;have a2:=I.1;refine cB func287 ?_;refine sR Ny ?_
 (refine A0.zz 3 rfl rfl (wk [(0,.Ah (Ep p) 0),(3,.Ah (Bb d) 0),(4,.d .nil)] [] ?_))
 refine sC hf Ny ?_;refine sC a0 Ny ?_;refine sR Ny ?_;refine A0.pp 7 3 7 rfl<|kR Ny λV u1=>?_;refine A0.bb (A0.ii d.vars (X:=Unit) (λj _=>[(3,.Ah (Bb d) 0),(5,.d (.slice (Ar L))),(6,.d (.slice (C5 (L.map (·.name))))),(7,.acc 7),(19,.d (.slice (C5 d.vars))),(20,A8 d.vars.length),(21,A8 j)]) (λj _=>[(7,.rows 3 (Au (E5 (d.vars.take j))))])
  (λj _=>True) () trivial (by simp[sle,Ax,Ag,Bb]) (by simp[ble,A7,Cz,E5]) ?_ ?_)
 rotate_left
 .intro j _ s hs E dp Z J _;rw[Z];refine Aq J Ny ?_;refine A0.Fk rfl<|sK λW u2=>A0.bb ?_
  (refine sV Ny λK z=>?_;refine ci (Ku hs) ?_;apply z;clear z K)
  (refine lV Ny λK z=>?_;refine⟨by simp,by simp only[E5,Bn,Dx];unfold lim sm at*;omega,?_⟩;(try refine ev ?_);apply z;clear z K;try simp only[A4,Ab])
  refine u2 _ _ ?_;clear u2 W;refine lT Ny ?_;exact⟨(),trivial,(by simp[sle,Ax,Ag,Bb]),by simp[ble,A7,Cz,E5,Be,Ty.name,Ty.args,Ty.pos]⟩
 intro _ _;rw[Dm];refine Aq B3 Ny ?_;refine A0.stop rfl ?_;simp only[A4,Ab,Ae];refine u1 _ _ ?_;clear u1 V
 (refine A0.Jq 7 rfl (wk [(3,.Ah (Bb d) 0),(5,.d (.slice (Ar L))),(6,.d (.slice (C5 (L.map (·.name))))),(7,.d (.slice (Au (E5 d.vars))))] [] ?_))
 refine sR Ny ?_;refine A0.pp 10 5 10 rfl ?_;have O:∀z,z∈L.zip d.vars->Ac prog 98 [B6 z.1.bound,Cy (L.map (·.name)),Cd (E5 d.vars)] (B6 (z.1.bound.subst (Af L) (E5 d.vars))):=λz hz =>A1v (L.map (·.name)) (E5 d.vars) U z.1.bound (I.2 z.1 (As3 hz).1).bound
 have M:(if((E5 d.vars).length:Int)<(L.length:Int)then((E5 d.vars).length:Int)else(L.length:Int))=((L.zip d.vars).length:Int):=by rw[Ao3];simp only[E5,Bn];split <;> omega
 have a3:(L.zip d.vars).length<=sm:=by rw[Ao3];omega
 refine sK λV u1=>?_
 (refine sV Ny λK z=>?_;refine⟨_,F3n rfl rfl,?_⟩;(try refine ev ?_);apply z;clear z K)
 rw[M];refine A0.bb (A0.ii (L.zip d.vars) (X:=Unit) (λj _=>[(3,.Ah (Bb d) 0),(5,.d (.slice (Ar L))),(6,.d (.slice (C5 (L.map (·.name))))),(7,.d (.slice (Au (E5 d.vars)))),(10,.acc 10),(35,A8 (L.zip d.vars).length),(36,A8 j)])
  (λj _=>[(10,.rows 5 (Ar (((L.zip d.vars).take j).map λz=>⟨z.2,z.1.bound.subst (Af L) (E5 d.vars),z.1.pos⟩)))])
  (λj _=>True) () trivial (by simp[sle,Ax,Ag,Bb]) (by simp[ble,A7,Ar]) ?_ ?_)
 rotate_left
 .intro j _ z hz E dp Z J _;obtain⟨f,v⟩:=z;rw[Am5]at hz;have hs:=O (f,v) E;simp only at hs;rw[Z];refine Aq J Ny ?_;refine A0.Fk rfl<|sK λW u2=>A0.bb<|sR Ny ?_
  (refine lG Ny [] 21 [] λK z=>?_;refine ev ?_;refine ci (Ku hz.2) ?_;refine ci (F5 hz.1) ?_;refine cc hs ?_;refine ci (F5 hz.1) ?_;refine⟨by simp,by simp only[Bn,Dx];unfold lim sm at*;omega,?_⟩;(try refine ev ?_);apply z;clear z K;try simp only[A4,Ab])
  refine u2 _ _ ?_;clear u2 W;refine lT Ny ?_;exact⟨(),trivial,(by simp[sle,Ax,Ag,Bb]),by simp[ble,A7,Ar,Jy]⟩
 intro _ _;rw[Dm];refine Aq B3 Ny ?_;refine A0.stop rfl ?_;simp only[A4,Ab,Ae];refine u1 _ _ ?_;clear u1 V
 (refine A0.Jq 10 rfl (wk [(10,.d (.slice (Ar ((L.zip d.vars).map λz=>⟨z.2,z.1.bound.subst (Af L) (E5 d.vars),z.1.pos⟩))))] [] ?_))
 refine sR Ny ?_;exact aR
abbrev Xh:List Nat:=[0,1,3,4,5,6,8,9,12,17,18,19,20,35,900]
def F2b(p:Prog)(h:p.Sm)(d:Decl)(I:d.Sm)(M:d.Two)(Z:d.sig.params.length+1<=sm)(k3:d.kind=3):Bj prog 260 [.Ah (Ep p) 0,Ma d] [] (.tuple [.d (.slice (Ar (H3 p false d).env)),.acc 35]) [(35,.rows 5 (B9 (H3 p false d).vars))]:=by
 have E:=F5r p h d I;have a0:=C2d p d;have V:=I.vars.1;have a1:=M.sig;have U:=C8j (Ga p d) d.sig.A1 (by omega) (by have:=M.sig;omega) (C4z h I) I.sig.A1.2;have e1:(H3 p false d).env=Ga p d++d.sig.A1:=rfl;have e2:B9 (H3 p false d).vars=[[.str d.recv,.str d.name,.slice (Au (E5 d.vars)),.int .i64 0,.int .i64 0]]++B9 d.sig.params:=rfl;rw[e1,e2];generalize Ga p d++d.sig.A1=EN at*;have d3:=Bo k3;refine bB func260 ?_;refine sR Xh<|sK λJ u1=>?_
 (refine sQ Xh λK z=>?_;simp -implicitDefEqProofs only[EV,Nat.reduceEqDiff,reduceCtorEq,J3,Y0,Mr,d3];apply z;clear z K)
 refine kI u1 ?_;clear u1 J;refine sR Xh ?_;refine A0.U7 900 3 6 1 rfl rfl (by decide)<|kR Xh λJ u1=>?_;refine A0.bb (A0.ii d.vars (X:=Unit) (λj _=>[(0,.Ah (Ep p) 0),(3,.box 3 0),(6,.box 6 0),(17,Cy d.vars),(18,A8 d.vars.length),(19,A8 j)]) (λj _=>[(3,.cells (Uo d)),(6,.cells [.d (.str d.name),.acc 900,.d (.int .i64 0)]),(900,.rows 3 (Au (E5 (d.vars.take j))))])
  (λ_ _=>True) () trivial sS (by simp[ble,A7,Cz,E5]) ?_ ?_)
 rotate_left
 .intro j _ s hs O dp tk L _;rw[tk];refine Aq L Xh ?_;refine A0.Fk rfl<|sK λW u2=>A0.bb ?_
  (refine sV Xh λK z=>?_;refine ci (Ku hs) ?_;apply z;clear z K)
  (refine lV Xh λK z=>?_;refine⟨by simp,by(try simp only[E5,Bn,Dx]);unfold lim sm at*;omega,?_⟩;(try refine ev ?_);apply z;clear z K;try simp only[A4,Ab])
  refine u2 _ _ ?_;clear u2 W;refine lT Xh ?_;exact⟨(),trivial,sS,by simp[ble,A7,Cz,E5,Be,Ty.name,Ty.args,Ty.pos]⟩
 intro _ _;rw[Dm];refine Aq B3 Xh ?_;refine A0.stop rfl ?_;simp only[A4,Ab,Ae];refine u1 _ _ ?_;clear u1 J
 (refine A0.Jq 900 rfl (wk [(0,.Ah (Ep p) 0),(3,.box 3 0),(6,.box 6 0)] [(3,.cells (Uo d)),(6,.cells [.d (.str d.name),.d (.slice (Au (E5 d.vars))),.d (.int .i64 0)])] ?_))
 (refine A0.Ef Xh [35] (by decide +kernel) λK z=>?_;refine ev ?_;refine⟨D7j _,by unfold lim sm at*;omega,?_⟩;(try refine ev ?_);apply z;clear z K)
 (refine sG Xh [] 9 [] λK z=>?_;refine ev ?_;refine cc E ?_;refine cc U ?_;apply z;clear z K)
 exact A0.ret ⟨_,by rw[results260];rfl,.inl rfl,by simp[ble,A7]⟩
abbrev A0u:List Nat:=[0,1,2,3,4,5,6,7,8,9,17,18,19,20,35]
def G1q(p:Prog)(h:p.Sm)(d:Decl)(hd:d.Sm)(h2:d.Two)(W:d.sig.params.length+1<=sm)(k3:d.kind=3):Ac prog 215 [D7 p,Ma d] (.tuple [.d (.slice (Ar (H3 p false d).env)),.d (.slice (B9 (H3 p false d).vars))]):=by
 have J:=C7m p h;have hS:=F2b p h d hd h2 W k3;have I:=A6p h false hd h2 W;have a1:(H3 p false d).vars.length<=sm:=I.vl;have Z:∀f,f∈(H3 p false d).vars->f.type.Sm:=λf hf=>(I.vars f hf).type;generalize(H3 p false d).vars=L at*;generalize(H3 p false d).env=EN at*;refine cB func215 ?_;refine sR A0u ?_
 (refine sG A0u [800014] 8 [⟨[],[],[],[]⟩,⟨[],[],[],[]⟩,⟨[],[],[],[]⟩,⟨[35],[35],[],[]⟩] λK z=>?_;refine ev ?_;refine cc J ?_;refine⟨_,_,_,C6q 35 rfl rfl rfl hS rfl (by decide) rfl,?_⟩;simp only[SV.Dt,SV.Pg,X4,Ae];(try refine ev ?_);apply z;clear z K)
 refine kR A0u λK1 u1=>?_;refine A0.bb (A0.ii L (X:=Unit) (λj _=>[(6,.d (.slice (Ar EN))),(7,.acc 35),(17,.acc 35),(18,A8 L.length),(19,A8 j)]) (λ_ _=>[(35,.rows 5 (B9 L))])
  (λ_ _=>True) () trivial sS sB ?_ ?_)
 .intro _ _;refine Aq B3 A0u ?_;refine A0.stop rfl ?_;simp only[A4,Ab,Ae];refine u1 _ _ ?_;clear u1 K1
  (refine A0.Jq 35 rfl (wk [(6,.d (.slice (Ar EN))),(7,.d (.slice (B9 L)))] [] ?_))
  refine sR A0u ?_;exact aR
 .intro j _ q hq O dp tk a0 _;have hc:=We q.type (Z q O);have E:(B9 L)[j]?=some (Ha q):=E9 hq;have V:j<(B9 L).length:=(B5.1 E).1;have U:B9 L=(B9 L).set j (Hc (Ha q) 1 [.str q.type.name,.slice (Au q.type.args),.int .i64 q.type.pos]):=by
   rw[show Hc (Ha q) 1 [.str q.type.name,.slice (Au q.type.args),.int .i64 q.type.pos]=Ha q by rfl];refine(M3 λi=>?_);rw[Ao8];split
   .rename_i e;subst e;rw[E]
   .rfl
  have M:j<=sm:=by have:=(B5.1 hq).1;omega
  unfold sm at M;generalize B9 L=PR at*;refine Aq a0 A0u ?_;refine A0.Fk rfl<|sK λK2 u2=>A0.bb ?_
  (refine sQ A0u λK z=>?_;simp -implicitDefEqProofs only[EV,Nat.reduceAdd,Nat.reduceEqDiff,Nat.reduceBEq,Nat.reduceLeDiff,reduceCtorEq,Vi,C8u,E,Ha];refine⟨by omega,V,?_⟩;apply z;clear z K)
  (refine lV A0u λK z=>?_;refine cc hc ?_;refine⟨by omega,V,Ha q,[.str q.type.name,.slice (Au q.type.args),.int .i64 q.type.pos],E,rfl,by simp[Ha],?_⟩;(try refine ev ?_);apply z;clear z K;try simp only[A4,Ab])
  refine u2 _ _ ?_;clear u2 K2
  (refine lV A0u λK z=>?_;refine cl ?_;apply z;clear z K;try simp only[A4,])
  exact⟨(),trivial,sS,by simp[ble,A7];exact U.symm⟩
end Go.Abs
