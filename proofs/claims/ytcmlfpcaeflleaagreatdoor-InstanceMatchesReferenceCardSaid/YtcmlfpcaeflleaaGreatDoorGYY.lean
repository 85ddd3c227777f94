/- texts -/
import Derived.Test.YtcmlfpcaeflleaaGreatDoorGU06
set_option linter.all false
set_option maxHeartbeats 4000000
set_option maxRecDepth 100000
namespace Go.Abs
open Go Go.Proofs Tryz
def C7y(t:Ty)(h:t.Sm)(u:Ty):Ac prog 50 [B6 t,B6 u] (A8 (Cs t u)):=D8h t h.lm u
abbrev A3q:List Nat:=[0,1,2,6,7,8,12]
def F5f(vars:List A3)(args:List Ty)(L:∀u,u∈args->u.Sm)(l:List Ty)(W:l.length<=sm)(hs:∀t,t∈l->t.Sm) :
  Ac prog 193 [Cd l,Cy vars,Cd args] (Cd (l.map (Ty.subst vars args))):=by
 refine cB func193 ?_;refine sR A3q ?_;refine sR A3q ?_;refine A0.pp 7 3 7 rfl<|kR A3q λV u1=>?_;refine A0.bb (A0.ii l (X:=Unit) (λj _=>[(0,Cd l),(1,Cy vars),(2,Cd args),(7,.acc 7),(8,A8 j)]) (λj _=>[(7,.rows 3 (Au ((l.take j).map (Ty.subst vars args))))])
  (λj _=>True) () trivial sS (by simp[ble,A7,Cz]) ?_ ?_)
 .intro _ O;rw[Dm];refine Ai B3 A3q λI u2=>?_;refine A0.ss rfl ?_;simp only[A4,Ab,Ae];refine u1 _ _<|sR A3q ?_;exact aR
 .intro j _ d M E Z U J O;rw[U];refine Ai J A3q λI u2=>?_;refine gI u2 ?_;clear u2 I;refine sK λI u2=>A0.bb ?_
  (refine lV A3q λK z=>?_;refine ci (Dv M) ?_;refine cc (Vy vars args L d (hs d E)) ?_;refine⟨by simp,by simp only[Bn,Dx];unfold lim sm at*;omega,?_⟩;(try refine ev ?_);apply z;clear z K;try simp only[A4,Ab])
  refine u2 _ _ ?_;clear u2 I;refine lT A3q ?_;exact⟨(),trivial,sS,by simp[ble,A7,Cz,Be]⟩
abbrev A5d:List Nat:=[0,1,2,3,6,7,8,30,67]
def G6y(vars:List A3)(args:List Ty)(O:∀u,u∈args->u.Sm)(e:Ex):e.Sm->Ac prog 135 [D0 e,Cy vars,Cd args] (D0 (e.subst vars args)):=by
 induction e using Ex.induct with
 |h e ih =>
 intro E;have W:=E.kids.1;have V:=Vy vars args O e.type E.type;have Z:=F5f vars args O e.targs E.targs.1 E.targs.2;have J:e.subst vars args=.mk e.kind e.name (e.type.subst vars args) (e.targs.map (Ty.subst vars args)) (e.kids.map (Ex.subst vars args)) e.pos:=by unfold Ex.subst;rw[A5f];rfl
 rw[J];generalize e.type.subst vars args=T at*;generalize e.targs.map (Ty.subst vars args)=A at*;refine cB func135 ?_;refine sR A5d ?_
 (refine sG A5d [] 18 [⟨[],[],[7],[7]⟩,⟨[],[],[7],[7]⟩,⟨[],[],[7],[7]⟩,⟨[],[],[7],[7]⟩,⟨[],[],[7],[7]⟩,⟨[],[],[7],[7]⟩,⟨[],[],[7],[7]⟩,⟨[],[],[7],[7]⟩,⟨[],[],[7],[7]⟩,⟨[],[],[7],[7]⟩,⟨[],[],[7],[7]⟩,⟨[],[],[7],[7]⟩,⟨[],[],[7],[7]⟩,⟨[],[],[7],[7]⟩,⟨[],[],[7],[7]⟩,⟨[],[],[7],[7]⟩,⟨[],[],[7],[7]⟩,⟨[7],[7],[],[]⟩] λK z=>?_;refine ev ?_;refine cc V ?_;refine cc Z ?_;apply z;clear z K)
 refine A0.U7 67 8 7 6 rfl rfl (by decide)<|kR A5d λK1 u1=>?_;refine A0.bb (A0.ii e.kids (X:=Unit) (λj _=>[(1,Cy vars),(2,Cd args),(3,.box 3 0),(6,.box 6 0),(7,.box 7 0),(8,A8 j)])
  (λj _=>[(3,.cells (exS e)),(6,.cells [.d (.int .i64 0),.d (.str []),.d (.str []),.d .nil,.d (.int .i64 0),.d .nil,.d .nil,.d (.int .i64 0)]),(7,.cells [.d (.int .i64 e.kind),.d (.str e.name),.d (.str T.name),.d (.slice (Au T.args)),.d (.int .i64 T.pos),.d (.slice (Au A)),.acc 67,.d (.int .i64 e.pos)]),(67,.rows 8 (Ew ((e.kids.take j).map (Ex.subst vars args))))])
  (λj _=>True) () trivial sS (by simp[ble,A7,S6,exS]) ?_ ?_)
 .intro _ _;rw[Dm];refine Ai B3 A5d λL u2=>?_;refine A0.ss rfl ?_;simp only[A4,Ab,Ae];refine u1 _ _<|sR A5d ?_;exact aR
 .intro j _ d U I dp tk M _;rw[tk];refine Ai M A5d λL u2=>?_;refine gI u2 ?_;clear u2 L;refine sK λL u2=>A0.bb ?_
  (refine lG A5d [] 11 [] λK z=>?_;refine ev ?_;refine ci (Dn U) ?_;refine cc (ih d I (E.kids.2 d I)) ?_;refine⟨by simp,by simp only[Bn,Dx];unfold lim sm at*;omega,?_⟩;(try refine ev ?_);apply z;clear z K;try simp only[A4,Ab])
  refine u2 _ _ ?_;clear u2 L;refine lT A5d ?_;exact⟨(),trivial,sS,by simp[ble,A7,S6,Bu,exS]⟩
abbrev Fx(s:Aj):List SV:=[.d (.slice (Au s.types)),.d (.slice (C7 s.calls)),.d (.bool s.Cv)]
abbrev I1(s:Aj):SV:=.agg (Fx s)
def B1b(l:List Ad):C7 l=l.map Du:=rfl
abbrev P0:List Nat:=[0,1,2,3,4,5,12,19]
def B2o(a:Ad)(J:a.Sm)(b:Ad):Ac prog 18 [Nj a,Nj b] (A8 (Ba a b)):=by
 have L:=C7y a.on J.on b.on;have O:=B4i a.name b.name;have U:=C7y (.mk [] a.targs 0) (.mk _ _ _ (by simp[sm]) J.targs.1 J.targs.2) (.mk [] b.targs 0);unfold Ba;generalize Cs (.mk [] a.targs 0) (.mk [] b.targs 0)=z at*;generalize Cs a.on b.on=x at*;generalize Bs a.name b.name=y at*;by_cases I:x=0
 .subst I;rw[A9 rfl];by_cases M:y=0
  .subst M;rw[A9 rfl];refine cB func18 ?_;refine sR P0 ?_;refine sC L P0 ?_;refine kR P0 λE u1=>?_;refine A0.tt rfl ?_
   (refine lV P0 λK z=>?_;refine cc O ?_;apply z;clear z K;try simp only[A4,])
   refine u1 _ _ ?_;clear u1 E;refine kR P0 λE u1=>?_;refine A0.tt rfl ?_
   (refine lV P0 λK z=>?_;refine cc U ?_;apply z;clear z K;try simp only[A4,])
   refine u1 _ _<|sR P0 ?_;exact aR
  .rw[A6 M];refine cB func18 ?_;refine sR P0 ?_;refine sC L P0 ?_;refine kR P0 λE u1=>?_;refine A0.tt rfl ?_
   (refine lV P0 λK z=>?_;refine cc O ?_;apply z;clear z K;try simp only[A4,])
   refine u1 _ _ ?_;clear u1 E;refine Ai M P0 λE u1=>?_;refine A0.ff rfl (A0.kk (u1 _ _ ?_));refine sR P0 ?_;exact aR
 .rw[A6 I];refine cB func18 ?_;refine sR P0 ?_;refine sC L P0 ?_;refine Ai I P0 λE u1=>?_;refine A0.ff rfl (A0.kk (u1 _ _ ?_));clear u1 E;refine Ai I P0 λE u1=>?_;refine A0.ff rfl (A0.kk (u1 _ _ ?_));refine sR P0 ?_;exact aR
abbrev Gf:List Nat:=[0,1,2,3,4,5,6,7,8,12,19,30,37,51]
def F9r(s:Aj)(hs:s.Sm)(x:Ty)(hx:x.Sm)(W:∀t,Ac prog 50 [.agg (Jk x),.agg (Jk t)] (A8 (Cs x t))):Ac prog 74 [I1 s,.agg (Jk x)] (I1 (Dz s x)):=by
 unfold Dz;have a6:=hs.types.1;by_cases M:100<s.types.length
 .rw[A9 M];have hb:(s.types.length:Int) > 100:=by omega
  refine cB func74 ?_;refine sR Gf ?_;refine Ai hb Gf λO u1=>?_;refine A0.tt rfl<|sR Gf ?_;refine sR Gf ?_;exact aR
 rw[A6 M];have hb:¬(s.types.length:Int) > 100:=by omega
 have hR:∃R,G3 Cs x s.types false []=R:=⟨_,rfl⟩;obtain⟨R,hR⟩:=hR;have Z:J8 Cs s.types x=R.getD s.types:=by unfold J8;rw[hR]
 rw[Z];refine cB func74 ?_;refine sR Gf ?_;refine Ai hb Gf λO u1=>?_;refine A0.ff rfl (A0.kk (u1 _ _ ?_));clear u1 O;refine sR Gf ?_;refine A0.pp 5 3 5 rfl<|sR Gf ?_;refine kR Gf λO u1=>?_;refine A0.bb (A0.loop (X:=Nat × Bool × List Ty) (λz=>[(2,.box 2 0),(3,.box 3 0),(4,.box 4 0),(5,.acc 5),(6,Ay z.2.1),(7,A8 z.1)])
  (λz=>[(2,.cells (Fx s)),(3,.cells (Jk x)),(4,.cells [.d .nil,.d .nil,.d (.bool false)]),(5,.rows 3 (Au z.2.2))])
  (λz=>z.1<=s.types.length/\G3 Cs x (s.types.drop z.1) z.2.1 z.2.2=R/\z.2.2.length<=z.1+1/\(z.2.1=false->z.2.2.length<=z.1)) (λz=>s.types.length - z.1) (0,false,[])
  ⟨As4 _,hR,by simp,by simp⟩ sS (by simp[ble,A7,Cz]) ?_)
 rintro⟨i,done,out⟩ ⟨hi,E,a3,U⟩;simp only at hi E a3 U |-;have a7:True:=trivial;by_cases a1:i=s.types.length
 .have a0:¬(i:Int)<(s.types.length:Int):=by omega
  rw[a1,De,G3]at E;refine Ai a0 Gf λL u2=>?_;refine A0.ss rfl ?_;simp only[A4,Ab,Ae];refine u1 _ _ ?_;clear u2 L u1 O;refine sK λO u1=>?_;cases done with
  |true =>simp only[Ae]at E;subst E;refine sR Gf ?_;refine A0.ff rfl (A0.kk (u1 _ _ ?_));clear u1 O;refine sR Gf ?_;refine sR Gf ?_;exact aR
  |false =>
   simp only[I6,Fy]at E;subst E;refine sR Gf ?_;refine A0.tt rfl ?_
   (refine lV Gf λK z=>?_;refine⟨by simp,by unfold lim sm at*;omega,?_⟩;apply z;clear z K;try simp only[A4,])
   refine u1 _ _ ?_;clear u1 O;refine sR Gf ?_;refine sR Gf ?_;have a4:I1 { s with types:=(some (out++[x])).getD s.types }=.agg [.d (.slice (Au out++[Be x])),.d (.slice (C7 s.calls)),.d (.bool s.Cv)]:=by simp[Cz]
   rw[a4];exact aR
 .have a5:(i:Int)<(s.types.length:Int):=by omega
  obtain⟨t,ht⟩:∃t,s.types[i]?=some t:=⟨_,B8 (by omega)⟩;have hd:s.types.drop i=t::s.types.drop (i+1):=by
   rw[Ge (by omega)]
   congr 1
   have:=B5.1 ht;exact this.2
  rw[hd,G3]at E;have hc:=W t;generalize Cs x t=c at*;refine Ai a5 Gf λL u2=>?_;refine gI u2 ?_;clear u2 L;refine sK λL u2=>A0.bb ?_
  (refine sG Gf [] 6 [] λK z=>?_;refine ev ?_;refine⟨by omega,_,Dv ht,rfl,?_⟩;(try simp -implicitDefEqProofs only[EV,Nat.reduceAdd,Nat.reduceEqDiff,reduceCtorEq,Be]);refine cc hc ?_;apply z;clear z K)
  refine sK λV J=>?_;by_cases h0:c=0
  .subst h0;rw[A9 rfl]at E;subst E;refine sR Gf ?_;refine A0.tt rfl<|sR Gf ?_;exact aR
  rw[A6 h0]at E;refine Aq h0 Gf ?_;refine A0.ff rfl (A0.kk (J _ _ ?_));clear J V;refine sK λV J=>?_;by_cases hn:c<0/\done=false
  .obtain⟨I,rfl⟩:=hn;rw[A9 ⟨I,rfl⟩]at E;refine Aq I Gf ?_;refine A0.tt rfl ?_
   (refine sV Gf λK z=>?_;refine⟨by simp,by unfold lim sm at*;omega,?_⟩;apply z;clear z K)
   (refine lV Gf λK z=>?_;apply z;clear z K;try simp only[A4,])
   refine J _ _ ?_;clear J V
   (refine lV Gf λK z=>?_;refine⟨by omega,_,Dv ht,rfl,?_⟩;(try simp -implicitDefEqProofs only[EV,Nat.reduceAdd,Nat.reduceEqDiff,Nat.reduceBEq,Nat.reduceLeDiff,Nat.reduceMul,reduceCtorEq,Lq,I3,Be,Bz,]);refine⟨by simp,by unfold lim sm at*;omega,?_⟩;apply z;clear z K;try simp only[A4,Ab])
   refine u2 _ _ ?_;clear u2 L
   (refine lV Gf λK z=>?_;refine cl ?_;apply z;clear z K;try simp only[A4,])
   exact⟨(i+1,true,out++[x,t]),⟨by simp only;omega,E,by have:=U rfl;simp;omega,by simp⟩,by simp only;omega,sS,by simp[ble,A7,Cz,Be]⟩
  .rw[A6 hn]at E;have a2:(decide (c<0) && !done)=false:=by
    cases done <;> simp_all
   cases done with
   |true =>
    by_cases I:c<0
    .refine Aq I Gf ?_;refine A0.ff rfl (A0.kk (J _ _ ?_));clear J V
     (refine lV Gf λK z=>?_;refine⟨by omega,_,Dv ht,rfl,?_⟩;(try simp -implicitDefEqProofs only[EV,Nat.reduceAdd,Nat.reduceEqDiff,Nat.reduceBEq,Nat.reduceLeDiff,Nat.reduceMul,reduceCtorEq,Lq,I3,Be,]);refine⟨by simp,by unfold lim sm at*;omega,?_⟩;apply z;clear z K;try simp only[A4,Ab])
     refine u2 _ _ ?_;clear u2 L
     (refine lV Gf λK z=>?_;refine cl ?_;apply z;clear z K;try simp only[A4,])
     exact⟨(i+1,true,out++[t]),⟨by simp only;omega,E,by simp;omega,by simp⟩,by simp only;omega,sS,by simp[ble,A7,Cz,Be]⟩
    .refine Aq I Gf ?_;refine A0.ff rfl (A0.kk (J _ _ ?_));clear J V
     (refine lV Gf λK z=>?_;refine⟨by omega,_,Dv ht,rfl,?_⟩;(try simp -implicitDefEqProofs only[EV,Nat.reduceAdd,Nat.reduceEqDiff,Nat.reduceBEq,Nat.reduceLeDiff,Nat.reduceMul,reduceCtorEq,Lq,I3,Be,]);refine⟨by simp,by unfold lim sm at*;omega,?_⟩;apply z;clear z K;try simp only[A4,Ab])
     refine u2 _ _ ?_;clear u2 L
     (refine lV Gf λK z=>?_;refine cl ?_;apply z;clear z K;try simp only[A4,])
     exact⟨(i+1,true,out++[t]),⟨by simp only;omega,E,by simp;omega,by simp⟩,by simp only;omega,sS,by simp[ble,A7,Cz,Be]⟩
   |false =>
    have I:¬c<0:=λh=>hn ⟨h,rfl⟩;refine Aq I Gf ?_;refine A0.ff rfl (A0.kk (J _ _ ?_));clear J V
    (refine lV Gf λK z=>?_;refine⟨by omega,_,Dv ht,rfl,?_⟩;(try simp -implicitDefEqProofs only[EV,Nat.reduceAdd,Nat.reduceEqDiff,Nat.reduceBEq,Nat.reduceLeDiff,Nat.reduceMul,reduceCtorEq,Lq,I3,Be,]);refine⟨by simp,by unfold lim sm at*;omega,?_⟩;apply z;clear z K;try simp only[A4,Ab])
    refine u2 _ _ ?_;clear u2 L
    (refine lV Gf λK z=>?_;refine cl ?_;apply z;clear z K;try simp only[A4,])
    exact⟨(i+1,false,out++[t]),⟨by simp only;omega,E,by simp;omega,λ_=>by have:=U rfl;simp;omega⟩,by simp only;omega,sS,by simp[ble,A7,Cz,Be]⟩
abbrev Gn:List Nat:=[0,1,2,3,4,5,6,7,8,12,19,30,37,51]
def G8x(s:Aj)(hs:s.Sm)(x:Ad)(hx:x.Sm)(W:∀t,Ac prog 18 [.agg (U3 x),.agg (U3 t)] (A8 (Ba x t))):Ac prog 49 [I1 s,.agg (U3 x)] (I1 (Fh s x)):=by
 unfold Fh;have a6:=hs.calls.1;by_cases M:100<s.calls.length
 .rw[A9 M];have hb:(s.calls.length:Int) > 100:=by omega
  refine cB func49 ?_;refine sR Gn<|sK λO u1=>?_
  (refine sQ Gn λK z=>?_;simp -implicitDefEqProofs only[EV,Nat.reduceEqDiff,reduceCtorEq,Gb,Hr,hb,Er];apply z;clear z K)
  refine A0.tt rfl<|sR Gn ?_;refine sR Gn ?_;exact aR
 rw[A6 M];have hb:¬(s.calls.length:Int) > 100:=by omega
 have hR:∃R,G3 Ba x s.calls false []=R:=⟨_,rfl⟩;obtain⟨R,hR⟩:=hR;have Z:J8 Ba s.calls x=R.getD s.calls:=by unfold J8;rw[hR]
 rw[Z];refine cB func49 ?_;refine sR Gn<|sK λO u1=>?_
 (refine sQ Gn λK z=>?_;simp -implicitDefEqProofs only[EV,Nat.reduceEqDiff,reduceCtorEq,Gb,Hr,hb,Er];apply z;clear z K)
 refine A0.ff rfl (A0.kk (u1 _ _ ?_));clear u1 O;refine sR Gn ?_;refine A0.pp 5 5 5 rfl<|sR Gn ?_;refine kR Gn λO u1=>?_;refine A0.bb (A0.loop (X:=Nat × Bool × List Ad) (λz=>[(2,.box 2 0),(3,.box 3 0),(4,.box 4 0),(5,.acc 5),(6,Ay z.2.1),(7,A8 z.1)])
  (λz=>[(2,.cells (Fx s)),(3,.cells (U3 x)),(4,.cells [.d .nil,.d .nil,.d (.bool false)]),(5,.rows 5 (C7 z.2.2))])
  (λz=>z.1<=s.calls.length/\G3 Ba x (s.calls.drop z.1) z.2.1 z.2.2=R/\z.2.2.length<=z.1+1/\(z.2.1=false->z.2.2.length<=z.1)) (λz=>s.calls.length - z.1) (0,false,[])
  ⟨As4 _,hR,by simp,by simp⟩ sS (by simp[ble,A7,B1b]) ?_)
 rintro⟨i,done,out⟩ ⟨hi,E,a3,U⟩;simp only at hi E a3 U |-;have a7:True:=trivial;by_cases a1:i=s.calls.length
 .have a0:¬(i:Int)<(s.calls.length:Int):=by omega
  rw[a1,De,G3]at E;refine sK λL u2=>?_
  (refine sQ Gn λK z=>?_;simp -implicitDefEqProofs only[EV,Nat.reduceEqDiff,reduceCtorEq,Gb,Hr,a0,Er];apply z;clear z K)
  refine A0.ss rfl ?_;simp only[A4,Ab,Ae];refine u1 _ _ ?_;clear u2 L u1 O;refine sK λO u1=>?_;cases done with
  |true =>simp only[Ae]at E;subst E;refine sR Gn ?_;refine A0.ff rfl (A0.kk (u1 _ _ ?_));clear u1 O;refine sR Gn ?_;refine sR Gn ?_;exact aR
  |false =>
   simp only[I6,Fy]at E;subst E;refine sR Gn ?_;refine A0.tt rfl ?_
   (refine lQ Gn λK z=>?_;simp -implicitDefEqProofs only[EV,Nat.reduceAdd,Nat.reduceEqDiff,Nat.reduceBEq,Nat.reduceLeDiff,Nat.reduceMul,reduceCtorEq,Gb,Nb,Er];refine⟨by simp,by unfold lim sm at*;omega,?_⟩;apply z;clear z K;try simp only[A4,])
   refine u1 _ _ ?_;clear u1 O;refine sR Gn ?_;refine sR Gn ?_;have a4:I1 { s with calls:=(some (out++[x])).getD s.calls }=.agg [.d (.slice (Au s.types)),.d (.slice (C7 out++[Du x])),.d (.bool s.Cv)]:=by simp[B1b]
   rw[a4];exact aR
 .have a5:(i:Int)<(s.calls.length:Int):=by omega
  obtain⟨t,ht⟩:∃t,s.calls[i]?=some t:=⟨_,B8 (by omega)⟩;have hd:s.calls.drop i=t::s.calls.drop (i+1):=by
   rw[Ge (by omega)]
   congr 1
   have:=B5.1 ht;exact this.2
  rw[hd,G3]at E;have hc:=W t;generalize Ba x t=c at*;refine sK λL u2=>?_
  (refine sQ Gn λK z=>?_;simp -implicitDefEqProofs only[EV,Nat.reduceEqDiff,reduceCtorEq,Gb,Hr,a5,Er];apply z;clear z K)
  refine gI u2 ?_;clear u2 L;refine sK λL u2=>A0.bb ?_
  (refine sG Gn [] 6 [] λK z=>?_;refine ev ?_;refine⟨by omega,_,I0 ht,rfl,?_⟩;(try simp -implicitDefEqProofs only[EV,Nat.reduceAdd,Nat.reduceEqDiff,reduceCtorEq,Du]);refine cc hc ?_;apply z;clear z K)
  refine sK λV J=>?_;by_cases h0:c=0
  .subst h0;rw[A9 rfl]at E;subst E;refine sR Gn ?_;refine A0.tt rfl<|sR Gn ?_;exact aR
  rw[A6 h0]at E;refine Aq h0 Gn ?_;refine A0.ff rfl (A0.kk (J _ _ ?_));clear J V;refine sK λV J=>?_;by_cases hn:c<0/\done=false
  .obtain⟨I,rfl⟩:=hn;rw[A9 ⟨I,rfl⟩]at E;refine Aq I Gn ?_;refine A0.tt rfl ?_
   (refine sQ Gn λK z=>?_;simp -implicitDefEqProofs only[EV,Nat.reduceAdd,Nat.reduceEqDiff,Nat.reduceBEq,Nat.reduceLeDiff,Nat.reduceMul,reduceCtorEq,Gb,Nb,Er];refine⟨by simp,by unfold lim sm at*;omega,?_⟩;apply z;clear z K)
   (refine lV Gn λK z=>?_;apply z;clear z K;try simp only[A4,])
   refine J _ _ ?_;clear J V
   (refine lV Gn λK z=>?_;refine⟨by omega,_,I0 ht,rfl,?_⟩;(try simp -implicitDefEqProofs only[EV,Nat.reduceAdd,Nat.reduceEqDiff,Nat.reduceBEq,Nat.reduceLeDiff,Nat.reduceMul,reduceCtorEq,Gb,Nb,Du,Er,Bz,]);refine⟨by simp,by unfold lim sm at*;omega,?_⟩;apply z;clear z K;try simp only[A4,Ab])
   refine u2 _ _ ?_;clear u2 L
   (refine lV Gn λK z=>?_;refine cl ?_;apply z;clear z K;try simp only[A4,])
   exact⟨(i+1,true,out++[x,t]),⟨by simp only;omega,E,by have:=U rfl;simp;omega,by simp⟩,by simp only;omega,sS,by simp[ble,A7,B1b,Du]⟩
  .rw[A6 hn]at E;have a2:(decide (c<0) && !done)=false:=by
    cases done <;> simp_all
   cases done with
   |true =>
    by_cases I:c<0
    .refine Aq I Gn ?_;refine A0.ff rfl (A0.kk (J _ _ ?_));clear J V
     (refine lV Gn λK z=>?_;refine⟨by omega,_,I0 ht,rfl,?_⟩;(try simp -implicitDefEqProofs only[EV,Nat.reduceAdd,Nat.reduceEqDiff,Nat.reduceBEq,Nat.reduceLeDiff,Nat.reduceMul,reduceCtorEq,Gb,Nb,Du,Er,]);refine⟨by simp,by unfold lim sm at*;omega,?_⟩;apply z;clear z K;try simp only[A4,Ab])
     refine u2 _ _ ?_;clear u2 L
     (refine lV Gn λK z=>?_;refine cl ?_;apply z;clear z K;try simp only[A4,])
     exact⟨(i+1,true,out++[t]),⟨by simp only;omega,E,by simp;omega,by simp⟩,by simp only;omega,sS,by simp[ble,A7,B1b,Du]⟩
    .refine Aq I Gn ?_;refine A0.ff rfl (A0.kk (J _ _ ?_));clear J V
     (refine lV Gn λK z=>?_;refine⟨by omega,_,I0 ht,rfl,?_⟩;(try simp -implicitDefEqProofs only[EV,Nat.reduceAdd,Nat.reduceEqDiff,Nat.reduceBEq,Nat.reduceLeDiff,Nat.reduceMul,reduceCtorEq,Gb,Nb,Du,Er,]);refine⟨by simp,by unfold lim sm at*;omega,?_⟩;apply z;clear z K;try simp only[A4,Ab])
     refine u2 _ _ ?_;clear u2 L
     (refine lV Gn λK z=>?_;refine cl ?_;apply z;clear z K;try simp only[A4,])
     exact⟨(i+1,true,out++[t]),⟨by simp only;omega,E,by simp;omega,by simp⟩,by simp only;omega,sS,by simp[ble,A7,B1b,Du]⟩
   |false =>
    have I:¬c<0:=λh=>hn ⟨h,rfl⟩;refine Aq I Gn ?_;refine A0.ff rfl (A0.kk (J _ _ ?_));clear J V
    (refine lV Gn λK z=>?_;refine⟨by omega,_,I0 ht,rfl,?_⟩;(try simp -implicitDefEqProofs only[EV,Nat.reduceAdd,Nat.reduceEqDiff,Nat.reduceBEq,Nat.reduceLeDiff,Nat.reduceMul,reduceCtorEq,Gb,Nb,Du,Er,]);refine⟨by simp,by unfold lim sm at*;omega,?_⟩;apply z;clear z K;try simp only[A4,Ab])
    refine u2 _ _ ?_;clear u2 L
    (refine lV Gn λK z=>?_;refine cl ?_;apply z;clear z K;try simp only[A4,])
    exact⟨(i+1,false,out++[t]),⟨by simp only;omega,E,by simp;omega,λ_=>by have:=U rfl;simp;omega⟩,by simp only;omega,sS,by simp[ble,A7,B1b,Du]⟩
def A9e(s:Aj)(hs:s.Sm)(x:Ty)(E:x.Sm):Ac prog 74 [I1 s,B6 x] (I1 (Dz s x)):=F9r s hs x E (λt=>C7y x E t)
def E4a(s:Aj)(hs:s.Sm)(x:Ad)(E:x.Sm):Ac prog 49 [I1 s,Nj x] (I1 (Fh s x)):=G8x s hs x E (λt=>B2o x E t)
def C2e(s:Aj)(hs:s.Sm):Ac prog 12 [I1 s] (A8 (E7 s)):=by
 have I:=hs.types.1;have E:=hs.calls.1;have hz:((E7 s:Nat):Int)=(s.types.length:Int)+s.calls.length:=by unfold E7;omega
 rw[hz];refine cB func12 ?_;refine sR [0,1,2] ?_
 (refine sQ [0,1,2] λK z=>?_;simp -implicitDefEqProofs only[EV,Nat.reduceEqDiff,reduceCtorEq,Lq,Gb,Hr,Er];refine⟨by first| (unfold Az;omega)| (simp only[Az,sm]at*;omega),?_⟩;apply z;clear z K)
 exact aR
abbrev Nk:List Nat:=[0,1,2,3,4,9,18,23,34]
def F4u(s:Aj)(hs:s.Sm):Ac prog 29 [I1 s] (Ay (Sq s)):=by
 have h1:=hs.types.1;have h2:=hs.calls.1;have hz:=C2e s hs;unfold Sq;generalize E7 s=z at*;refine cB func29 ?_;refine sR Nk ?_;refine kR Nk λK1 u1=>?_;refine A0.bb (A0.ii s.types (X:=Unit) (λj _=>[(1,.box 1 0),(3,A8 j)]) (λj _=>[(1,.cells (Fx s))])
  (λj _=>s.types.any (λt=>decide (60<t.count 0))=(s.types.drop j).any (λt=>decide (60<t.count 0))) () rfl sS sB ?_ ?_)
 rotate_left
 .intro j _ u Z U dp tk O I;have V:=Zt u 0 (by decide) (by decide);rw[dp,List.any_cons]at I;generalize u.count 0=k at*;refine Ai O Nk λL u2=>?_;refine gI u2 ?_;clear u2 L;refine sK λL u2=>A0.bb ?_;by_cases J:60<k
  .have E:k > 60:=J;rw[I,Bo J,Up,Up]
   (refine sV Nk λK z=>?_;refine ci (Dv Z) ?_;refine⟨_,.inl ⟨_,rfl,V,rfl⟩,?_⟩;(try refine As E ?_);apply z;clear z K)
   refine A0.tt rfl<|sR Nk ?_;exact aR
  .have E:¬k > 60:=J;rw[Ce J,Ws]at I
   (refine sV Nk λK z=>?_;refine ci (Dv Z) ?_;refine⟨_,.inl ⟨_,rfl,V,rfl⟩,?_⟩;(try refine As E ?_);apply z;clear z K)
   refine A0.ff rfl (A0.kk (u2 _ _ ?_));clear u2 L;refine lT Nk ?_;exact⟨(),I,sS,by simp[ble,A7]⟩
 intro _ I;rw[De,List.any_nil]at I;rw[I,Ws]at u1 |-;clear I;refine Ai B3 Nk λL u2=>?_;refine A0.ss rfl ?_;simp only[A4,Ab,Ae];refine u1 _ _ ?_;clear u1 K1 u2 L;refine kR Nk λK1 u1=>?_;refine A0.bb (A0.ii s.calls (X:=Unit) (λj _=>[(1,.box 1 0),(4,A8 j)]) (λj _=>[(1,.cells (Fx s))])
  (λj _=>s.calls.any (λc=>decide (60<(Ty.mk [] c.targs 0).count 0))=(s.calls.drop j).any (λc=>decide (60<(Ty.mk [] c.targs 0).count 0))) () rfl sS sB ?_ ?_)
 rotate_left
 .intro j _ u Z U dp tk O I;have V:=Zt (.mk [] u.targs 0) 0 (by decide) (by decide);rw[dp,List.any_cons]at I;generalize(Ty.mk [] u.targs 0).count 0=k at*;refine sK λL u2=>?_
  (refine sQ Nk λK z=>?_;simp -implicitDefEqProofs only[EV,Nat.reduceEqDiff,reduceCtorEq,Gb,Hr,O,Er];apply z;clear z K)
  refine gI u2 ?_;clear u2 L;refine sK λL u2=>A0.bb ?_;by_cases J:60<k
  .have E:k > 60:=J;rw[I,Bo J,Up,Up]
   (refine sV Nk λK z=>?_;refine⟨by omega,_,I0 Z,rfl,?_⟩;(try simp -implicitDefEqProofs only[EV,Nat.reduceAdd,Nat.reduceEqDiff,Nat.reduceLeDiff,reduceCtorEq,I3,Du]);refine⟨_,.inl ⟨_,rfl,V,rfl⟩,?_⟩;(try refine As E ?_);apply z;clear z K)
   refine A0.tt rfl<|sR Nk ?_;exact aR
  .have E:¬k > 60:=J;rw[Ce J,Ws]at I
   (refine sV Nk λK z=>?_;refine⟨by omega,_,I0 Z,rfl,?_⟩;(try simp -implicitDefEqProofs only[EV,Nat.reduceAdd,Nat.reduceEqDiff,Nat.reduceLeDiff,reduceCtorEq,I3,Du]);refine⟨_,.inl ⟨_,rfl,V,rfl⟩,?_⟩;(try refine As E ?_);apply z;clear z K)
   refine A0.ff rfl (A0.kk (u2 _ _ ?_));clear u2 L;refine lT Nk ?_;exact⟨(),I,sS,by simp[ble,A7]⟩
 intro _ I;rw[De,List.any_nil]at I;rw[I,Ws]at u1 |-;clear I;refine sK λL u2=>?_
 (refine sQ Nk λK z=>?_;simp -implicitDefEqProofs only[EV,Nat.reduceEqDiff,reduceCtorEq,Gb,Hr,B3,Er];apply z;clear z K)
 refine A0.ss rfl ?_;simp only[A4,Ab,Ae];refine u1 _ _ ?_;clear u1 K1 u2 L;have a0:s=⟨s.types,s.calls,s.Cv⟩:=rfl;cases M:s.Cv with
 |true =>rw[Up];refine Aq M Nk ?_;exact aR
 |false =>
  rw[Ws];have W:Ac prog 12 [.agg [.d (.slice (Au s.types)),.d (.slice (C7 s.calls)),.d (.bool false)]] (A8 z):=by rw[<-M];exact hz
  by_cases J:60<z
  .have E:(z:Int) > 60:=by omega
   rw[Bo J]
   (refine sQ Nk λK z=>?_;refine As M ?_;refine⟨_,.inl ⟨_,rfl,W,rfl⟩,?_⟩;(try refine As E ?_);apply z;clear z K)
   exact aR
  .have E:¬(z:Int) > 60:=by omega
   rw[Ce J]
   (refine sQ Nk λK z=>?_;refine As M ?_;refine⟨_,.inl ⟨_,rfl,W,rfl⟩,?_⟩;(try refine As E ?_);apply z;clear z K)
   exact aR
abbrev Jj:List Nat:=[0,1,2,3,4,5,6,8,9,10,11,12,18,34,47,71]
def D2u(p:Prog)(vars:List Param)(hc:C3.Sm ⟨p,false,[],vars⟩)(s:Aj)(hs:s.Sm)(e:Ex)(he:e.Sm)(a8:e.H0)(hl:(Bg e).length<=sm) :
  Ac prog 28 [D7 p,I1 s,D0 e,.d (.slice (B9 vars))] (I1 (Md p s e vars)):=by
 have h1:=C0g e hl;have a4:=A8s (Q:=λx=>x.Sm/\x.H0) (λe h x hx=>⟨h.1.kids.2 x hx,h.2.kids x hx⟩) e ⟨he,a8⟩;have hR:∃R,Md p s e vars=R:=⟨_,rfl⟩;obtain⟨R,hR⟩:=hR;rw[hR];unfold Md at hR;generalize Bg e=l at*;refine cB func28 ?_;refine sR Jj ?_;refine sC h1 Jj ?_;refine kR Jj λK1 u1=>?_;refine A0.bb (A0.ii l (X:=Aj) (λj s=>[(3,.d (.slice (B9 vars))),(4,.box 4 0),(5,.box 5 0),(6,.box 6 0),(8,.box 8 0),(9,.d (.slice (Ew l))),(10,A8 j)])
  (λj s=>[(4,.cells ((An p).map .d)),(5,.cells (Fx s)),(6,.cells (exS e)),(8,.cells [.d .nil,.d .nil,.d (.bool false)])])
  (λj s=>(l.drop j).foldl (Jh p vars) s=R/\s.Sm) s ⟨hR,hs⟩ sS (by simp[ble,A7,An]) ?_ ?_)
 rotate_left
 .intro j s u J a3 dp tk a9 I;obtain⟨I,L⟩:=I;obtain⟨M,a5⟩:=a4 u a3;have E:=D6q hc L M;rw[dp,Jp]at I;refine Ai a9 Jj λW u2=>?_;refine gI u2 ?_;clear u2 W;refine sK λW u2=>A0.bb<|sK λK3 u3=>?_;by_cases k3:u.kind=3
  .have d3:decide (u.kind=3)=true:=Bo k3;have n2:¬u.kind=2:=by omega
   have O:=A9e s L u.type M.type;have U:Jh p vars s u=Dz s u.type:=by unfold Jh;rw[A9 (.inl k3)]
   rw[U]at I E;clear U;generalize Dz s u.type=s2 at*
   (refine sV Jj λK z=>?_;refine⟨by omega,_,Dn J,rfl,?_⟩;(try refine As d3 ?_);apply z;clear z K)
   refine A0.tt rfl ?_
   (refine lG Jj [] 6 [] λK z=>?_;refine ev ?_;refine ci (Dn J) ?_;refine cc O ?_;apply z;clear z K;try simp only[A4,])
   refine u3 _ _ ?_;clear u3 K3
   (refine sV Jj λK z=>?_;refine⟨by omega,_,Dn J,rfl,?_⟩;(try refine As n2 ?_);apply z;clear z K)
   refine A0.ff rfl (A0.kk (u2 _ _ ?_));clear u2 W;refine lT Jj ?_;exact⟨s2,⟨I,E⟩,sS,by simp[ble,A7,An]⟩
  by_cases k5:u.kind=5
  .have d5:decide (u.kind=5)=true:=Bo k5;have n2:¬u.kind=2:=by omega
   have O:=A9e s L u.type M.type;have U:Jh p vars s u=Dz s u.type:=by unfold Jh;rw[A9 (.inr k5)]
   rw[U]at I E;clear U;generalize Dz s u.type=s2 at*
   (refine sV Jj λK z=>?_;refine⟨by omega,_,Dn J,rfl,?_⟩;(try refine As k3 ?_);refine⟨by omega,_,Dn J,rfl,?_⟩;(try refine As d5 ?_);apply z;clear z K)
   refine A0.tt rfl ?_
   (refine lG Jj [] 6 [] λK z=>?_;refine ev ?_;refine ci (Dn J) ?_;refine cc O ?_;apply z;clear z K;try simp only[A4,])
   refine u3 _ _ ?_;clear u3 K3
   (refine sV Jj λK z=>?_;refine⟨by omega,_,Dn J,rfl,?_⟩;(try refine As n2 ?_);apply z;clear z K)
   refine A0.ff rfl (A0.kk (u2 _ _ ?_));clear u2 W;refine lT Jj ?_;exact⟨s2,⟨I,E⟩,sS,by simp[ble,A7,An]⟩
  (refine sV Jj λK z=>?_;refine⟨by omega,_,Dn J,rfl,?_⟩;(try refine As k3 ?_);refine⟨by omega,_,Dn J,rfl,?_⟩;(try refine As k5 ?_);apply z;clear z K)
  refine A0.ff rfl (A0.kk (u3 _ _ ?_));clear u3 K3;by_cases k2:u.kind=2;rotate_left
  .have U:Jh p vars s u=s:=by unfold Jh;rw[A6 (by omega),A6 k2]
   rw[U]at I
   (refine sV Jj λK z=>?_;refine⟨by omega,_,Dn J,rfl,?_⟩;(try refine As k2 ?_);apply z;clear z K)
   refine A0.ff rfl (A0.kk (u2 _ _ ?_));clear u2 W;refine lT Jj ?_;exact⟨s,⟨I,L⟩,sS,by simp[ble,A7,An]⟩
  have d2:decide (u.kind=2)=true:=Bo k2;obtain⟨v,hv⟩:=a5.some (.inl k2);have a0:=M.kids.2 v (Br hv);have hT:=C6i ⟨p,false,[],vars⟩ hc v a0;have V:=B4h hc v a0;have U:Jh p vars s u=P8 s u (Di ⟨p,false,[],vars⟩ v):=by
   unfold Jh;rw[A6 (by omega),A9 k2];cases hk:u.kids with
   |nil=>rw[hk]at hv;cases hv
   |cons y r=>rw[hk]at hv;cases hv;rfl
  rw[U]at I E;clear U;generalize Di ⟨p,false,[],vars⟩ v=z at*;obtain⟨x,⟨q,b,lg⟩⟩:=z;simp only at V;obtain⟨ts,cs,Z⟩:=s;have a7:Aj.Sm ⟨ts,cs,Z ||lg⟩:=⟨L.types,L.calls⟩;have a1:=A9e _ a7 x V;have a6:=A3g a7 V;have a2:=E4a _ a6 ⟨x,u.name,u.targs⟩ ⟨V,M.name,M.targs⟩;unfold P8 at I E;simp only at I E
  (refine sV Jj λK z=>?_;refine⟨by omega,_,Dn J,rfl,?_⟩;(try refine As d2 ?_);apply z;clear z K)
  refine A0.tt rfl ?_
  (refine sG Jj [] 17 [⟨[],[],[11,12],[11,12]⟩,⟨[],[],[11,12],[11,12]⟩,⟨[],[],[11,12],[11,12]⟩,⟨[],[],[11,12],[11,12]⟩,⟨[],[],[11,12],[11,12]⟩,⟨[],[],[11,12],[11,12]⟩,⟨[],[],[11,12],[11,12]⟩,⟨[],[],[11,12],[11,12]⟩,⟨[],[],[11,12],[11,12]⟩,⟨[],[],[11,12],[11,12]⟩,⟨[],[],[11,12],[11,12]⟩,⟨[],[],[11,12],[11,12]⟩,⟨[],[],[11,12],[11,12]⟩,⟨[],[],[11,12],[11,12]⟩,⟨[11],[11],[12],[12]⟩,⟨[12],[12],[11],[11]⟩,⟨[11],[],[],[]⟩] λK z=>?_;refine ev ?_;refine ci (Dn J) ?_;refine cj (Dn hv) ?_;refine cc hT ?_;apply z;clear z K)
  cases b with
  |true =>
   rw[A9 rfl]at I E;cases Z <;> (
    refine sR Jj ?_;refine sR Jj ?_;refine A0.ff rfl (A0.kk (u2 _ _ ?_));clear u2 W;refine lT Jj ?_;exact⟨_,⟨I,E⟩,sS,by simp[ble,A7,An]⟩)
  |false =>
   rw[A6 (by simp)]at I E;cases Z <;> (
    simp only[Up,Ws]at I E a1 a2;generalize Dz _ x=s3 at*;generalize Fh s3 _=s4 at*;refine sR Jj ?_;refine sR Jj ?_;refine A0.tt rfl ?_
    (refine lG Jj [] 15 [] λK z=>?_;refine ev ?_;refine cc a1 ?_;refine ci (Dn J) ?_;refine ci (Dn J) ?_;refine cc a2 ?_;apply z;clear z K;try simp only[A4,Ab])
    refine u2 _ _ ?_;clear u2 W;refine lT Jj ?_;exact⟨_,⟨I,E⟩,sS,by simp[ble,A7,An]⟩)
 intro s' I;obtain⟨I,_⟩:=I;rw[De,Q3]at I;subst I;refine Ai B3 Jj λW u2=>?_;refine A0.ss rfl ?_;simp only[A4,Ab,Ae];refine u1 _ _<|sR Jj ?_;exact aR
def Ex.E2b:∀e:Ex,e.right=true->e.H0:=by
 intro e
 induction e using Ex.induct with|_ e W=>?_
 intro h;rw[Ex.B9f,Bc,Bc]at h;have E:e.Uj=true:=by have:=h.2.2;unfold Ex.Y3 at this;split at this <;> (simp only[Bc]at this;exact this.2)
 have U:e.kind=5->e.name=[]:=λV=>by
  have:=h.2.2;have ht:e.typed=true:=by unfold Ex.typed;rw[V];rfl
  unfold Ex.Y3 at this;rw[A9 ht]at this;simp only[Bc,Da]at this;exact this.1.2
 refine .of ?_ (λZ hz=>?_) U λx O=>W x O (B8e h.1 x O)
 .unfold Ex.Uj at E;by_cases J:e.kind=1
  .exact .inl J
  .by_cases I:e.kind=2
   .exact .inr (.inl I)
   .by_cases M:e.kind=3
    .exact .inr (.inr (.inl M))
    .rw[A6 J,A6 I,A6 M]at E;by_cases L:e.kind=4\/e.kind=5
     .exact .inr (.inr (.inr L))
     .rw[A6 L]at E;cases E
 .unfold Ex.Uj at E;have hl:e.kids.length=0:=by rw[hz];rfl
  by_cases I:e.kind=2
  .rw[A6 (by omega),A9 I,Da]at E;omega
  .rw[A6 (by omega),A6 I,A6 (by omega),A9 (by omega),Da]at E;omega
def B9w{p:Prog}(hr:p.right=true):∀d,d∈p.decls->d.kind=3->d.body.H0:=λd E I=>by unfold Prog.right at hr;simp only[Bc,Dr]at hr;have:=hr.1 d E;unfold Decl.right Decl.A2y at this;rw[A9 I]at this;simp only[Bc]at this;exact Ex.E2b _ this.2.2.2.2.2.2.2.2
def B7g{p:Prog}(hr:p.right=true):p.main.H0:=by unfold Prog.right at hr;simp only[Bc]at hr;exact Ex.E2b _ hr.2
mutual
theorem E6k(v:List A3)(a:List Ty):∀e:Ex,(Bg (e.subst v a)).length=(Bg e).length
 |.mk k n t l ks q=>by rw[B4a,Bg,Bg];have:(Ex.mk k n t l ks q).kids=ks:=rfl;rw[this,C6,C6,E3u v a ks]
theorem E3u(v:List A3)(a:List Ty):∀l:List Ex,(D4 (l.map (Ex.subst v a))).length=(D4 l).length
 |[]=>rfl
 |e::l=>by rw[Ck,D4,D4,Bz,Bz,E6k v a e,E3u v a l]
end
abbrev Mf:List Nat:=[0,1,2,3,4,5,6,7,8,9,10,11,12,13,14,15,16,23,30,39,53]
def G4s(p:Prog)(h:p.Fit)(a5:p.Le)(a8:∀d,d∈p.decls->d.kind=3->d.body.H0)(s:Aj)(hs:s.Sm)(x:Ty)(V:x.Sm)(c:Ad)(W:c.Sm) :
  Ac prog 77 [D7 p,I1 s,B6 x,Nj c] (I1 (No p s x c)):=by
 have a7:=h.sm.decls.1;have hm:=D3q p a7 x c.name;have J:=D7i p x c.name;unfold No;by_cases M:Lw p x c.name<0
 .rw[A9 M];generalize Lw p x c.name=i at*;refine cB func77 ?_;refine sR Mf ?_;refine sC hm Mf ?_;refine Ai M Mf λZ u1=>?_;refine tI ?_;refine sR Mf ?_;exact aR
 .rw[A6 M];obtain⟨j,d,hj,hd,hk⟩:=J.resolve_left M;have E:=Br hd;have I:=h.sm.decls.2 d E;rw[hj]at hm M |-;rw[Hs,hd];simp only;have aa:=I.vars.1;have a1:=I.sig.A1.1;have ae:=V.len;have ac:=W.targs.1;have hn:=Vq d.sig.A1 a1;have a3:=D8z p h.sm false d I (h.two d E) (h.par d E);have L:=A6p h.sm false I (h.two d E) (h.par d E);have hS:=λt ht=>Vy (Ii d) (J9 x c) (Zr V W) t ht;have hb:=G6y (Ii d) (J9 x c) (Zr V W) d.body I.body;have hN:=D2u p (Ue p d x c) (E5j h E V W) s hs (Nw d x c) (Ex.Sm.subst (Zr V W) _ I.body) ((a8 d E hk).subst _ _) (by
   unfold Nw;rw[E6k];have:=(a5.decls d E).body.list;unfold sm;omega)
  have a2:C5 (Ii d)=C5 d.vars++C5 (d.sig.A1.map (·.name)):=by simp[Ii,C5,Af]
  have a4:Au (J9 x c)=Au x.args++Au c.targs:=by simp[J9,Cz]
  have a':=L.vl;have a0:=L.vars;unfold Ue Nw at*;generalize Md p s (d.body.subst (Ii d) (J9 x c)) ((H3 p false d).vars.map (Param.subst (Ii d) (J9 x c)))=R at*;generalize ad:Ii d=NN at*;generalize ab:J9 x c=AA at*;generalize H3 p false d=sc at*;refine cB func77 ?_;refine sR Mf ?_;refine sC hm Mf ?_;refine Ai M Mf λZ u1=>?_;refine kI u1 ?_;clear u1 Z
  (refine sV Mf λK z=>?_;refine ci (Ev hd) ?_;apply z;clear z K)
  (refine sG Mf [30] 7 [⟨[30],[30],[],[]⟩,⟨[],[],[30],[30]⟩,⟨[],[],[30],[30]⟩,⟨[30],[30],[],[]⟩,⟨[],[],[30],[30]⟩,⟨[],[],[30],[30]⟩,⟨[],[],[30],[30]⟩] λK z=>?_;refine ev ?_;refine⟨A5n _,by(try simp only[C5,Bn,Dy]);unfold lim sm at*;omega,?_⟩;(try refine ev ?_);refine cc hn ?_;refine⟨A5n _,by(try simp only[Bn]);unfold lim sm at*;omega,?_⟩;(try refine ev ?_);apply z;clear z K)
  (refine sG Mf [39] 6 [⟨[39],[39],[],[]⟩,⟨[],[],[39],[39]⟩,⟨[],[],[39],[39]⟩,⟨[39],[39],[],[]⟩,⟨[],[],[39],[39]⟩,⟨[],[],[39],[39]⟩] λK z=>?_;refine ev ?_;refine⟨A0j _,by(try simp only[Cz,Bn,Dy]);unfold lim sm at*;omega,?_⟩;(try refine ev ?_);refine⟨A0j _,by(try simp only[Cz,Bz,Bn,Dy]);unfold lim sm at*;omega,?_⟩;(try refine ev ?_);apply z;clear z K)
  rw[<-a2,<-a4]
  (refine A0.Jq 30 rfl ?_;refine A0.Jq 39 rfl (wk [(4,.box 4 0),(5,.box 5 0),(8,.box 8 0),(10,.box 10 0),(11,Cy NN),(12,Cd AA)] [(4,.cells ((An p).map .d)),(5,.cells (Fx s)),(8,.cells [.d .nil,.d .nil,.d (.bool false)]),(10,.cells (Uo d))] ?_))
  refine sC a3 Mf ?_;refine sR Mf ?_;refine A0.pp 14 5 14 rfl<|kR Mf λZ u1=>?_;refine A0.bb (A0.ii sc.vars (X:=Unit) (λj _=>[(4,.box 4 0),(5,.box 5 0),(8,.box 8 0),(10,.box 10 0),(11,Cy NN),(12,Cd AA),(13,.box 13 0),(14,.acc 14),(15,A8 j)])
   (λj _=>[(4,.cells ((An p).map .d)),(5,.cells (Fx s)),(8,.cells [.d .nil,.d .nil,.d (.bool false)]),(10,.cells (Uo d)),(13,.cells ((G6 sc).map .d)),(14,.rows 5 (B9 ((sc.vars.take j).map (Param.subst NN AA))))])
   (λ_ _=>True) () trivial sS (by simp[ble,A7,An,G6,B9]) ?_ ?_)
  rotate_left
  .intro j _ v hv U dp tk a9 _;have af:=(B5.1 hv).1;have a6:=hS v.type (a0 v U).type;rw[tk];refine sK λO u2=>?_
   (refine sQ Mf λK z=>?_;simp -implicitDefEqProofs only[EV,Nat.reduceEqDiff,reduceCtorEq,Vi,A7v,a9,G6];apply z;clear z K)
   refine gI u2 ?_;clear u2 O;refine sK λO u2=>A0.bb ?_
   (refine sV Mf λK z=>?_;refine ci (E9 hv) ?_;apply z;clear z K)
   refine sC a6 Mf ?_
   (refine lV Mf λK z=>?_;refine⟨by simp,by(try simp only[Bn,Dx]);unfold lim sm at*;omega,?_⟩;(try refine ev ?_);apply z;clear z K;try simp only[A4,Ab])
   refine u2 _ _ ?_;clear u2 O;refine lT Mf ?_;exact⟨(),trivial,sS,by simp[ble,A7,An,G6,B9,Ha,Param.subst]⟩
  intro _ _;rw[Dm];refine sK λO u2=>?_
  (refine sQ Mf λK z=>?_;simp -implicitDefEqProofs only[EV,Nat.reduceEqDiff,reduceCtorEq,Vi,A7v,B3,G6];apply z;clear z K)
  refine A0.ss rfl ?_;simp only[A4,Ab,Ae];refine u1 _ _ ?_;clear u2 O u1 Z
  (refine A0.Jq 14 rfl (wk [(4,.box 4 0),(5,.box 5 0),(8,.box 8 0),(10,.box 10 0),(11,Cy NN),(12,Cd AA),(14,.d (.slice (B9 (sc.vars.map (Param.subst NN AA)))))] [(4,.cells ((An p).map .d)),(5,.cells (Fx s)),(8,.cells [.d .nil,.d .nil,.d (.bool false)]),(10,.cells (Uo d))] ?_))
  (refine sG Mf [] 8 [] λK z=>?_;refine ev ?_;refine cc hb ?_;refine cc hN ?_;apply z;clear z K)
  exact aR
abbrev z38:Ap:=.cells [.d .nil,.d .nil,.d (.bool false)]
abbrev Fz:List Nat:=[0,1,2,3,4,5,6,7,8,9,10,11,12,13,14,15,21,31,38,55,88,102]
def F0y(p:Prog)(h:p.Fit)(aw:p.Le)(b3:∀d,d∈p.decls->d.kind=3->d.body.H0)(s:Aj)(hs:s.Sm):Ac prog 30 [D7 p,I1 s] (I1 (Kw p s)):=by
 have b6:=hs.types.1;have b5:=hs.calls.1;generalize hR:Kw p s=R;unfold Kw at hR;refine cB func30 ?_;refine sR Fz ?_;refine sR Fz ?_;refine kR Fz λK1 u1=>?_;refine A0.bb (A0.ii s.types (X:=Aj) (λj out=>[(2,.box 2 0),(3,.box 3 0),(4,.box 4 0),(5,.box 5 0),(6,A8 j)]) (λj out=>[(2,.cells ((An p).map .d)),(3,.cells (Fx s)),(4,z38),(5,.cells (Fx out))])
  (λj out=>(s.types.drop j).foldl (Rf p s) out=R/\out.Sm) s ⟨hR,hs⟩ sS (by simp[ble,A7,An]) ?_ ?_)
 rotate_left
 .intro j out x ay af dp tk b0 hI;obtain⟨hI,ho⟩:=hI;have hx:=hs.types.2 x af;have b2:=D4u h hs hx ho;rw[dp,Jp]at hI;have a7:=A5q p x 1;have a9:=B9a p h.sm [] (by simp) (by simp) x hx;simp only[show Ar ([]:List Am)=[] from rfl]at a9;have aq:=A4h h.sm [] x;have ar:=Ya h.sm (env:=[]) (by simp) hx;refine Ai b0 Fz λK2 u2=>?_;refine gI u2 ?_;clear u2 K2;refine sK λK2 u2=>A0.bb ?_
  (refine sV Fz λK z=>?_;refine ci (Dv ay) ?_;apply z;clear z K)
  refine A0.C4y λK3 u3 ac=>?_;have key:∀o1:Aj,o1.Sm->s.calls.foldl (Ju p x) o1=Rf p s out x->K3 [(2,.box 2 0),(3,.box 3 0),(4,.box 4 0),(5,.box 5 0),(6,A8 j),(7,.box 7 0)] [(2,.cells ((An p).map .d)),(3,.cells (Fx s)),(4,z38),(5,.cells (Fx o1)),(7,.cells (Jk x))]:=by
   intro o1 ap hT;refine u3 _ _ ?_;clear ac u3 K3;refine sC a9 Fz ?_;generalize ai:D8 p [] x=set at*;refine sR Fz ?_;refine A0.bb (A0.ii s.calls (X:=Aj) (λk o=>[(2,.box 2 0),(3,.box 3 0),(4,.box 4 0),(5,.box 5 0),(6,A8 j),(7,.box 7 0),(10,.d (.slice (C1 set))),(11,A8 k)])
    (λk o=>[(2,.cells ((An p).map .d)),(3,.cells (Fx s)),(4,z38),(5,.cells (Fx o)),(7,.cells (Jk x))])
    (λk o=>(s.calls.drop k).foldl (Ju p x) o=Rf p s out x/\o.Sm) o1 ⟨hT,ap⟩ sS (by simp[ble,A7,An]) ?_ ?_)
   .intro o I;obtain⟨I,ad⟩:=I;rw[De,Q3]at I;subst I;refine sK λK4 u4=>?_
    (refine sQ Fz λK z=>?_;simp -implicitDefEqProofs only[EV,Nat.reduceEqDiff,reduceCtorEq,Gb,Hr,B3,Er];apply z;clear z K)
    refine A0.ss rfl ?_;simp only[A4,Ab,Ae];refine u2 _ _ ?_;clear u4 K4 u2 K2;refine lT Fz ?_;exact⟨_,⟨hI,b2⟩,sS,by simp[ble,A7,An]⟩
   .intro k o c ao aa a3 am ag I;obtain⟨I,ad⟩:=I;rw[a3,Jp]at I;have hc:=hs.calls.2 c aa;have U:=E1b h hx ad hc;have hf:=C6p set c.name aq;have a2:=A8r p h.sm [] (by simp) (by simp) x c.on hx hc.on;simp only[show Ar ([]:List Am)=[] from rfl]at a2;have J:Km p x c=if Gj set c.name<0 then none else match set[(Gj set c.name).toNat]? with
     |none=>none
     |some g=>if g.A1.length=c.targs.length/\Dd p [] x c.on=true then some g else none:=by unfold Km;rw[ai];rfl
    refine sK λK4 u4=>?_
    (refine sQ Fz λK z=>?_;simp -implicitDefEqProofs only[EV,Nat.reduceEqDiff,reduceCtorEq,Gb,Hr,ag,Er];apply z;clear z K)
    refine gI u4 ?_;clear u4 K4;refine A0.C4y λK4 u4 a5=>A0.bb ?_
    (refine sV Fz λK z=>?_;refine⟨by omega,_,I0 ao,rfl,?_⟩;(try simp -implicitDefEqProofs only[EV,Nat.reduceAdd,Nat.reduceEqDiff,Nat.reduceBEq,Nat.reduceLeDiff,reduceCtorEq,Nb,Du]);apply z;clear z K)
    have skip:Km p x c=none->K4 [(2,.box 2 0),(3,.box 3 0),(4,.box 4 0),(5,.box 5 0),(6,A8 j),(7,.box 7 0),(10,.d (.slice (C1 set))),(11,A8 k)] [(2,.cells ((An p).map .d)),(3,.cells (Fx s)),(4,z38),(5,.cells (Fx o)),(7,.cells (Jk x))]:=by
     intro hn;have ae:Ju p x o c=o:=by unfold Ju;rw[hn]
     rw[ae]at I U;refine u4 _ _<|lT Fz ?_;exact⟨o,⟨I,U⟩,sS,by simp[ble,A7,An]⟩
    unfold Gj at J;rcases M9 (λs:A5=>decide (s.name=c.name)) set with⟨h1,_⟩|⟨n,g,h1,h2,_⟩
    .rw[h1]at J hf;rw[A9 (by decide)]at J;refine sC hf Fz<|sK λK5 u5=>?_;refine dR Fz 19 ?_;refine A0.tt rfl (A0.xx ?_);simp only[A4,Ab,Ae];exact a5 sS (by simp[ble,A7,An]) (skip J)
    have a6:¬(n:Int)<0:=by omega
    have a1:=ar g (Br h2);rw[h1]at J hf;rw[A6 a6,Hs,h2]at J;simp only at J;by_cases aj:g.A1.length=c.targs.length;rotate_left
    .rw[A6 λhh=>aj hh.1]at J;have V:¬(g.A1.length:Int)=(c.targs.length:Int):=by omega
     refine sC hf Fz<|sK λK5 u5=>?_
     (refine sG Fz [] 19 [] λK z=>?_;refine As a6 ?_;refine⟨by omega,_,F6 h2,rfl,?_⟩;(try refine As V ?_);apply z;clear z K)
     refine A0.tt rfl (A0.xx ?_);simp only[A4,Ab,Ae];exact a5 sS (by simp[ble,A7,An]) (skip J)
    have V:(g.A1.length:Int)=(c.targs.length:Int):=by omega
    cases hb:Dd p [] x c.on with
    |false =>
     rw[hb]at a2;rw[A6 λhh=>by rw[hb]at hh;cases hh.2]at J;refine sC hf Fz<|sK λK5 u5=>?_
     (refine sG Fz [] 19 [] λK z=>?_;refine As a6 ?_;refine⟨by omega,_,F6 h2,rfl,?_⟩;(try refine As V ?_);refine cc a2 ?_;apply z;clear z K)
     refine A0.tt rfl (A0.xx ?_);simp only[A4,Ab,Ae];exact a5 sS (by simp[ble,A7,An]) (skip J)
    |true =>
     rw[hb]at a2;rw[A9 ⟨aj,hb⟩]at J;clear skip;have ae:Ju p x o c=No p (Dz (Jg o (Ks g c)) (Lg g c)) x c:=by unfold Ju;rw[J]
     rw[ae]at I U;have ak:=Vq g.A1 a1.A1.1;rw[show g.A1.map (λx=>x.name)=Af g.A1 from rfl]at ak;have b4:=a1.params.1;have a':=λt ht=>Vy (Af g.A1) c.targs hc.targs.2 t ht;have a8:=a1.result.subst (vars:=Af g.A1) hc.targs.2;refine sC hf Fz<|sK λK5 u5=>?_
     (refine sG Fz [] 19 [] λK z=>?_;refine As a6 ?_;refine⟨by omega,_,F6 h2,rfl,?_⟩;(try refine As V ?_);refine cc a2 ?_;apply z;clear z K)
     refine kI u5 ?_;clear u5 K5
     (refine sV Fz λK z=>?_;refine ci (F6 h2) ?_;refine cc ak ?_;apply z;clear z K)
     refine kR Fz λK5 u5=>?_;refine A0.bb (A0.ii g.params (X:=Aj) (λi q=>[(2,.box 2 0),(3,.box 3 0),(4,.box 4 0),(5,.box 5 0),(6,A8 j),(7,.box 7 0),(10,.d (.slice (C1 set))),(11,A8 k),(12,.box 12 0),(13,A8 n),(14,Cy (Af g.A1)),(15,A8 i)])
      (λi q=>[(2,.cells ((An p).map .d)),(3,.cells (Fx s)),(4,z38),(5,.cells (Fx q)),(7,.cells (Jk x)),(12,.cells (U3 c))])
      (λi q=>Jg q ((g.params.drop i).map λq=>q.type.subst (Af g.A1) c.targs)=Jg o (Ks g c)/\q.Sm) o ⟨rfl,ad⟩ sS (by simp[ble,A7,An]) ?_ ?_)
     rotate_left
     .intro i q v ab O L a4 Z E;obtain⟨E,hq⟩:=E;have hv:=a1.params.2 v O;have az:=a' v.type hv.type;have ah:=hv.type.subst (vars:=Af g.A1) hc.targs.2;have M:=A9e q hq _ ah;have a0:=A3g hq ah;rw[L,Ck]at E;unfold Jg at E;rw[Jp]at E;generalize v.type.subst (Af g.A1) c.targs=vt at*;generalize Dz q vt=q2 at*;refine sK λK6 W=>?_
      (refine sV Fz λK z=>?_;refine⟨by omega,_,F6 h2,rfl,?_⟩;(try refine As Z ?_);apply z;clear z K)
      refine gI W ?_;clear W K6;refine sK λK6 W=>A0.bb ?_
      (refine lG Fz [] 14 [] λK z=>?_;refine ev ?_;refine ci (F6 h2) ?_;refine ci (E9 ab) ?_;refine cc az ?_;refine cc M ?_;apply z;clear z K;try simp only[A4,Ab])
      refine W _ _ ?_;clear W K6;refine lT Fz ?_;exact⟨q2,⟨E,a0⟩,sS,by simp[ble,A7,An]⟩
     intro q E;obtain⟨E,hq⟩:=E;rw[De,Hy]at E;rw[<-E]at I U;rw[show Jg q []=q from rfl]at I U;have M:=A9e q hq _ a8;have a0:=A3g hq a8;have au:=a' g.result a1.result;unfold Lg at I U;generalize g.result.subst (Af g.A1) c.targs=rt at*;have ax:=G4s p h aw b3 _ a0 x hx c hc;generalize Dz q rt=q2 at*;generalize No p q2 x c=q3 at*;refine sK λK6 W=>?_
     (refine sV Fz λK z=>?_;refine⟨by omega,_,F6 h2,rfl,?_⟩;(try refine As B3 ?_);apply z;clear z K)
     refine A0.ss rfl ?_;simp only[A4,Ab,Ae];refine u5 _ _ ?_;clear W K6 u5 K5
     (refine sG Fz [] 10 [] λK z=>?_;refine ev ?_;refine ci (F6 h2) ?_;refine cc au ?_;refine cc M ?_;apply z;clear z K)
     (refine lV Fz λK z=>?_;refine cc ax ?_;apply z;clear z K;try simp only[A4,Ab])
     refine u4 _ _ ?_;clear a5 u4 K4;refine lT Fz ?_;exact⟨q3,⟨I,U⟩,sS,by simp[ble,A7,An]⟩
  cases hi:Ch p x 1 with
  |false =>
   rw[hi]at a7;have hT:s.calls.foldl (Ju p x) out=Rf p s out x:=by unfold Rf;rw[hi];rfl
   refine sC a7 Fz ?_;refine A0.ff rfl (A0.kk (ac sS (by simp[ble,A7,An]) (key out ho hT)))
  |true =>
   rw[hi]at a7;have hT:s.calls.foldl (Ju p x) (Jg out ((Bh p x).map (·.type)))=Rf p s out x:=by unfold Rf;rw[hi];rfl
   have b1:=C0f p h.sm x hx hi;have b7:=B1z h.sm x;have av:=A9p h.sm hx;generalize Bh p x=fl at*;refine sC a7 Fz ?_;refine A0.tt rfl<|sC b1 Fz ?_;refine sR Fz ?_;refine A0.bb (A0.ii fl (X:=Aj) (λi q=>[(2,.box 2 0),(3,.box 3 0),(4,.box 4 0),(5,.box 5 0),(6,A8 j),(7,.box 7 0),(8,.d (.slice (B9 fl))),(9,A8 i)])
    (λi q=>[(2,.cells ((An p).map .d)),(3,.cells (Fx s)),(4,z38),(5,.cells (Fx q)),(7,.cells (Jk x))])
    (λi q=>Jg q ((fl.drop i).map (·.type))=Jg out (fl.map (·.type))/\q.Sm) out ⟨rfl,ho⟩ sS (by simp[ble,A7,An]) ?_ ?_)
   rotate_left
   .intro i q v ab O L a4 Z E;obtain⟨E,hq⟩:=E;have hv:=(av v O).type;have M:=A9e q hq _ hv;have a0:=A3g hq hv;rw[L,Ck]at E;unfold Jg at E;rw[Jp]at E;generalize Dz q v.type=q2 at*;refine Ai Z Fz λK6 W=>?_;refine gI W ?_;clear W K6;refine sK λK6 W=>A0.bb ?_
    (refine lG Fz [] 6 [] λK z=>?_;refine ev ?_;refine ci (E9 ab) ?_;refine cc M ?_;apply z;clear z K;try simp only[A4,Ab])
    refine W _ _ ?_;clear W K6;refine lT Fz ?_;exact⟨q2,⟨E,a0⟩,sS,by simp[ble,A7,An]⟩
   intro q E;obtain⟨E,hq⟩:=E;rw[De,Hy]at E;rw[<-E]at hT;refine Ai B3 Fz λK6 W=>?_;refine A0.ss rfl ?_;simp only[A4,Ab,Ae];exact ac sS (by simp[ble,A7,An]) (key q hq hT)
 intro out hI;obtain⟨hI,_⟩:=hI;rw[De,Q3]at hI;subst hI;refine Ai B3 Fz λK2 u2=>?_;refine A0.ss rfl ?_;simp only[A4,Ab,Ae];refine u1 _ _<|sR Fz ?_;exact aR
def B5o{α:Type}{f:Aj->α->Aj}(h:∀s a,E7 s<=E7 (f s a)):∀(l:List α)(s:Aj),E7 s<=E7 (l.foldl f s)
 |[],_=>Bi _
 |a::l,s=>D3 (h s a) (B5o h l _)
def E9p(p:Prog)(s:Aj)(e:Ex)(vars:List Param):E7 s<=E7 (Md p s e vars):=by
 refine B5o (λs e=>?_) _ _;have E:∀z,E7 s<=E7 (P8 s e z):=λz=>by
  unfold P8;split
  .exact Bi _
  .exact D3 (show E7 s<=_ from B5a { s with Cv:=s.Cv ||z.2.Cv } z.1) (E1r _ _)
 unfold Jh;split
 .exact B5a _ _
 split
 .split
  .exact Bi _
  .exact E _
 .exact Bi _
def D1n(s:Aj)(l:List Ty):E7 s<=E7 (Jg s l):=B5o B5a _ _
def G0e(p:Prog)(s:Aj):E7 s<=E7 (Kw p s):=by
 refine B5o (λo x=>?_) _ _;have E:E7 o<=E7 (if Ch p x 1=true then Jg o ((Bh p x).map (·.type))else o):=by
  split
  .exact D1n _ _
  .exact Bi _
 refine D3 E (B5o (λo c=>?_) _ _);unfold Ju;split
 .exact Bi _
 .rename_i g _;refine D3 (D3 (D1n o (Ks g c)) (B5a _ (Lg g c))) ?_;unfold No;split
  .exact Bi _
  split
  .exact Bi _
  .exact E9p _ _ _ _
abbrev fiV(z:Aj × Bool):SV:=.tuple [I1 z.1,Ay z.2]
abbrev T5:List Nat:=[0,1,2,3,4,5,14,16,24]
def C0o(p:Prog)(h:p.Fit)(L:p.Le)(a3:∀d,d∈p.decls->d.kind=3->d.body.H0)(Z:p.main.H0):Ac prog 10 [D7 p] (fiV (Cp p)):=by
 have a1:=D8u h;have hN:=D2u p [] ⟨h.sm,by simp,by simp,by simp,by simp⟩ Q9 ⟨by simp,by simp⟩ p.main h.sm.main Z (by have:=L.main.list;unfold sm;omega);simp only[show B9 ([]:List Param)=[] from rfl]at hN;generalize hR:Cp p=R;unfold Cp at hR;generalize Md p Q9 p.main []=s0 at*;refine cB func10 ?_;refine sR T5 ?_;refine sC hN T5 ?_;refine kR T5 λV u1=>?_;refine A0.bb (A0.loop (X:=Nat × Aj × Int) (λz=>[(1,.box 1 0),(2,.box 2 0),(3,Ay false),(4,.box 4 0),(5,A8 z.2.2)]) (λz=>[(1,.cells ((An p).map .d)),(2,z38),(4,.cells (Fx z.2.1))])
  (λz=>Gm p z.1 z.2.1 z.2.2=R/\z.2.1.Sm/\z.2.2<=60/\(63:Int)<=z.1+z.2.2/\z.2.2<=E7 z.2.1) (λz=>z.1) (64,s0,-1)
  ⟨hR,a1,by simp only;omega,by simp only;omega,by simp only;omega⟩ sS (by simp[ble,A7,An]) ?_)
 rintro⟨k,s,n⟩ ⟨E,hs,a4,W,a0⟩;simp only at E hs a4 W a0 |-;have hz:=C2e s hs;have I:=F4u s hs;have a2:=F0y p h L a3 s hs;have U:=E3t h hs;have a5:=G0e p s;obtain⟨k',rfl⟩:∃k',k=k'+1:=⟨k - 1,by omega⟩;rw[Gm]at E;generalize a7:(E7 s:Nat)=zz at*;refine sK λM u2=>?_;by_cases O:n=(zz:Int)
 .rw[A9 O]at E;subst O;refine sC hz T5 ?_;refine A0.ss rfl ?_;simp only[A4,Ab,Ae];refine u1 _ _ ?_;clear u1 V u2 M;refine sK λV u1=>?_;cases J:Sq s with
  |true =>rw[J]at I E;rw[A9 rfl]at E;subst E;refine sC I T5 ?_;refine tI ?_;refine sR T5 ?_;exact aR
  |false =>rw[J]at I E;rw[A6 (by simp)]at E;subst E;refine sC I T5 ?_;refine kI u1 ?_;clear u1 V;refine sR T5 ?_;exact aR
 .rw[A6 O]at E
  (refine sV T5 λK z=>?_;refine⟨_,.inl ⟨_,rfl,hz,rfl⟩,?_⟩;(try refine As O ?_);apply z;clear z K)
  refine gI u2 ?_;clear u2 M;refine A0.bb<|sK λM u2=>?_;cases J:Sq s with
  |true =>rw[J]at I E;rw[A9 rfl]at E;subst E;refine sC I T5 ?_;refine tI ?_;refine sR T5 ?_;exact aR
  |false =>
   have a6:=D7n J;rw[J]at I E;rw[A6 (by simp)]at E;generalize Kw p s=s2 at*;refine sC I T5 ?_;refine kI u2 ?_;clear u2 M;refine sC hz T5 ?_
   (refine lV T5 λK z=>?_;refine cc a2 ?_;apply z;clear z K;try simp only[A4,Ab])
   exact⟨(k',s2,(zz:Int)),⟨E,U,by simp only;omega,by simp only;omega,by simp only;omega⟩,by simp only;omega,sS,by simp[ble,A7,An]⟩
end Go.Abs
