/- castingsref21: sets of types and calls: Compare, PutType, PutCall, Size, large -/
import Derived.Test.YtieakoebgfiniaaGreatDoorZV05
set_option linter.all false
set_option maxHeartbeats 1000000
set_option maxRecDepth 100000
namespace Go.Abs
open Go Go.Proofs Tryz
structure B9 where
 on:Ty
 name:A2
 targs:List Ty
structure An where
 types:List Ty
 calls:List B9
 D9:Bool
def H3(c:B9):List D:=[.str c.on.name,.slice (Ax c.on.args),.int .i64 c.on.pos,.str c.name,.slice (Ax c.targs)]
def Mn(l:List B9):List (List D):=l.map H3
abbrev caS(c:B9):List SV:=[.d (.str c.on.name),.d (.slice (Ax c.on.args)),.d (.int .i64 c.on.pos),.d (.str c.name),.d (.slice (Ax c.targs))]
abbrev caV(c:B9):SV:=.agg (caS c)
abbrev J1(s:An):List SV:=[.d (.slice (Ax s.types)),.d (.slice (Mn s.calls)),.d (.bool s.D9)]
abbrev Jh(s:An):SV:=.agg (J1 s)
def L9(l:List B9):(Mn l).length=l.length:=by simp[Mn]
def J4{l:List B9}{i:Nat}{c:B9}(h:l[i]?=some c):(Mn l)[i]?=some (H3 c):=by simp[Mn,h]
def A9x(l:List B9):Mn l=l.map H3:=rfl
structure B9.Sm(c:B9):Prop where
 on:c.on.Sm
 name:c.name.length<=60000000*sm
 targs:c.targs.length<=sm/\∀t,t∈c.targs->t.Sm
structure An.Sm(s:An):Prop where
 types:s.types.length<=sm/\∀t,t∈s.types->t.Sm
 calls:s.calls.length<=sm/\∀t,t∈s.calls->t.Sm
def Dn(a b:B9):Int:=if E6 a.on b.on=0 then(if Bt a.name b.name=0 then E6 (.mk [] a.targs 0) (.mk [] b.targs 0)else Bt a.name b.name)else E6 a.on b.on
abbrev N8:List Nat:=[0,1,2,3,4,5,12,19]
def H5n(a:B9)(O:a.Sm)(b:B9):Aa prog 137 [caV a,caV b] (A5 (Dn a b)):=by
 have J:=C9j a.on O.on b.on;have U:=B2w a.name b.name;have V:=C9j (.mk [] a.targs 0) (.mk _ _ _ (by simp[sm]) O.targs.1 O.targs.2) (.mk [] b.targs 0);unfold Dn;generalize E6 (.mk [] a.targs 0) (.mk [] b.targs 0)=z at*;generalize E6 a.on b.on=x at*;generalize Bt a.name b.name=y at*;by_cases I:x=0
 .subst I;rw[A8 rfl];by_cases L:y=0
  .subst L;rw[A8 rfl];refine cB func137 ?_;refine sR N8 ?_;refine sC J N8 ?_;refine kR N8 λE u1=>?_;refine A0.tt rfl ?_
   (refine lV N8 λK z=>?_;refine cc U ?_;apply z;clear z K;try simp only[A4,])
   refine u1 _ _ ?_;clear u1 E;refine kR N8 λE u1=>?_;refine A0.tt rfl ?_
   (refine lV N8 λK z=>?_;refine cc V ?_;apply z;clear z K;try simp only[A4,])
   refine u1 _ _<|sR N8 ?_;exact aR
  .rw[A6 L];refine cB func137 ?_;refine sR N8 ?_;refine sC J N8 ?_;refine kR N8 λE u1=>?_;refine A0.tt rfl ?_
   (refine lV N8 λK z=>?_;refine cc U ?_;apply z;clear z K;try simp only[A4,])
   refine u1 _ _ ?_;clear u1 E;refine Ai L N8 λE u1=>?_;refine A0.ff rfl (A0.kk (u1 _ _ ?_));refine sR N8 ?_;exact aR
 .rw[A6 I];refine cB func137 ?_;refine sR N8 ?_;refine sC J N8 ?_;refine Ai I N8 λE u1=>?_;refine A0.ff rfl (A0.kk (u1 _ _ ?_));clear u1 E;refine Ai I N8 λE u1=>?_;refine A0.ff rfl (A0.kk (u1 _ _ ?_));refine sR N8 ?_;exact aR
def Fu{α:Type}(cmp:α->α->Int)(x:α):List α->Bool->List α->Option (List α)
 |[],done,out=>some (if done then out else out++[x])
 |t::ts,done,out=>if cmp x t=0 then none else if cmp x t<0/\done=false then Fu cmp x ts true (out++[x,t])else Fu cmp x ts done (out++[t])
def I6{α:Type}(cmp:α->α->Int)(l:List α)(x:α):List α:=(Fu cmp x l false []).getD l
def Gp(s:An)(x:Ty):An:=if 100<s.types.length then{ s with D9:=true } else{ s with types:=I6 E6 s.types x }
def Gj(s:An)(x:B9):An:=if 100<s.calls.length then{ s with D9:=true } else{ s with calls:=I6 Dn s.calls x }
abbrev G5:List Nat:=[0,1,2,3,4,5,6,7,8,12,19,30,37,51]
def F1p(s:An)(hs:s.Sm)(x:Ty)(hx:x.Sm)(Z:∀t,Aa prog 96 [.agg (Pa x),.agg (Pa t)] (A5 (E6 x t))):Aa prog 57 [Jh s,.agg (Pa x)] (Jh (Gp s x)):=by
 unfold Gp;have a7:=hs.types.1;by_cases L:100<s.types.length
 .rw[A8 L];have hb:(s.types.length:Int) > 100:=by omega
  refine cB func57 ?_;refine sR G5 ?_;refine Ai hb G5 λV u1=>?_;refine A0.tt rfl<|sR G5 ?_;refine sR G5 ?_;exact aR
 rw[A6 L];have hb:¬(s.types.length:Int) > 100:=by omega
 have hR:∃R,Fu E6 x s.types false []=R:=⟨_,rfl⟩;obtain⟨R,hR⟩:=hR;have a0:I6 E6 s.types x=R.getD s.types:=by unfold I6;rw[hR]
 rw[a0];refine cB func57 ?_;refine sR G5 ?_;refine Ai hb G5 λV u1=>?_;refine A0.ff rfl (A0.kk (u1 _ _ ?_));clear u1 V;refine sR G5 ?_;refine A0.pp 5 3 5 rfl<|sR G5 ?_;refine kR G5 λV u1=>?_;refine A0.bb (A0.loop (X:=Nat × Bool × List Ty) (λz=>[(2,.box 2 0),(3,.box 3 0),(4,.box 4 0),(5,.acc 5),(6,Aw z.2.1),(7,A5 z.1)])
  (λz=>[(2,.cells (J1 s)),(3,.cells (Pa x)),(4,.cells [.d .nil,.d .nil,.d (.bool false)]),(5,.rows 3 (Ax z.2.2))])
  (λz=>z.1<=s.types.length/\Fu E6 x (s.types.drop z.1) z.2.1 z.2.2=R/\z.2.2.length<=z.1+1/\(z.2.1=false->z.2.2.length<=z.1)) (λz=>s.types.length - z.1) (0,false,[])
  ⟨Ap6 _,hR,by simp,by simp⟩ sS (by simp[ble,A7,Dj]) ?_)
 rintro⟨i,done,out⟩ ⟨hi,E,a6,U⟩;simp only at hi E a6 U |-;have a8:True:=trivial;by_cases a1:i=s.types.length
 .have a2:¬(i:Int)<(s.types.length:Int):=by omega
  rw[a1,Db,Fu]at E;refine Ai a2 G5 λO u2=>?_;refine A0.ss rfl ?_;simp only[A4,Ac,Af];refine u1 _ _ ?_;clear u2 O u1 V;refine sK λV u1=>?_;cases done with
  |true =>simp only[Af]at E;subst E;refine sR G5 ?_;refine A0.ff rfl (A0.kk (u1 _ _ ?_));clear u1 V;refine sR G5 ?_;refine sR G5 ?_;exact aR
  |false =>
   simp only[I0,Fx]at E;subst E;refine sR G5 ?_;refine A0.tt rfl ?_
   (refine lV G5 λK z=>?_;refine⟨by simp,by unfold lim sm at*;omega,?_⟩;apply z;clear z K;try simp only[A4,])
   refine u1 _ _ ?_;clear u1 V;refine sR G5 ?_;refine sR G5 ?_;have a5:Jh { s with types:=(some (out++[x])).getD s.types }=.agg [.d (.slice (Ax out++[Bo x])),.d (.slice (Mn s.calls)),.d (.bool s.D9)]:=by simp[Dj]
   rw[a5];exact aR
 .have a4:(i:Int)<(s.types.length:Int):=by omega
  obtain⟨t,ht⟩:∃t,s.types[i]?=some t:=⟨_,Bi (by omega)⟩;have hd:s.types.drop i=t::s.types.drop (i+1):=by
   rw[Gb (by omega)]
   congr 1
   have:=Az.1 ht;exact this.2
  rw[hd,Fu]at E;have hc:=Z t;generalize E6 x t=c at*;refine Ai a4 G5 λO u2=>?_;refine gI u2 ?_;clear u2 O;refine sK λO u2=>A0.bb ?_
  (refine sG G5 [] 6 [] λK z=>?_;refine ev ?_;refine⟨by omega,_,Et ht,rfl,?_⟩;(try simp -implicitDefEqProofs only[EV,Nat.reduceAdd,Nat.reduceEqDiff,reduceCtorEq,Bo]);refine cc hc ?_;apply z;clear z K)
  refine sK λW J=>?_;by_cases h0:c=0
  .subst h0;rw[A8 rfl]at E;subst E;refine sR G5 ?_;refine A0.tt rfl<|sR G5 ?_;exact aR
  rw[A6 h0]at E;refine Ak h0 G5 ?_;refine A0.ff rfl (A0.kk (J _ _ ?_));clear J W;refine sK λW J=>?_;by_cases hn:c<0/\done=false
  .obtain⟨I,rfl⟩:=hn;rw[A8 ⟨I,rfl⟩]at E;refine Ak I G5 ?_;refine A0.tt rfl ?_
   (refine sV G5 λK z=>?_;refine⟨by simp,by unfold lim sm at*;omega,?_⟩;apply z;clear z K)
   (refine lV G5 λK z=>?_;apply z;clear z K;try simp only[A4,])
   refine J _ _ ?_;clear J W
   (refine lV G5 λK z=>?_;refine⟨by omega,_,Et ht,rfl,?_⟩;(try simp -implicitDefEqProofs only[EV,Nat.reduceAdd,Nat.reduceEqDiff,Nat.reduceBEq,Nat.reduceLeDiff,Nat.reduceMul,reduceCtorEq,M1,Iw,Bo,B6,]);refine⟨by simp,by unfold lim sm at*;omega,?_⟩;apply z;clear z K;try simp only[A4,Ac])
   refine u2 _ _ ?_;clear u2 O
   (refine lV G5 λK z=>?_;refine cl ?_;apply z;clear z K;try simp only[A4,])
   exact⟨(i+1,true,out++[x,t]),⟨by simp only;omega,E,by have:=U rfl;simp;omega,by simp⟩,by simp only;omega,sS,by simp[ble,A7,Dj,Bo]⟩
  .rw[A6 hn]at E;have a3:(decide (c<0) && !done)=false:=by
    cases done <;> simp_all
   cases done with
   |true =>
    by_cases I:c<0
    .refine Ak I G5 ?_;refine A0.ff rfl (A0.kk (J _ _ ?_));clear J W
     (refine lV G5 λK z=>?_;refine⟨by omega,_,Et ht,rfl,?_⟩;(try simp -implicitDefEqProofs only[EV,Nat.reduceAdd,Nat.reduceEqDiff,Nat.reduceBEq,Nat.reduceLeDiff,Nat.reduceMul,reduceCtorEq,M1,Iw,Bo,]);refine⟨by simp,by unfold lim sm at*;omega,?_⟩;apply z;clear z K;try simp only[A4,Ac])
     refine u2 _ _ ?_;clear u2 O
     (refine lV G5 λK z=>?_;refine cl ?_;apply z;clear z K;try simp only[A4,])
     exact⟨(i+1,true,out++[t]),⟨by simp only;omega,E,by simp;omega,by simp⟩,by simp only;omega,sS,by simp[ble,A7,Dj,Bo]⟩
    .refine Ak I G5 ?_;refine A0.ff rfl (A0.kk (J _ _ ?_));clear J W
     (refine lV G5 λK z=>?_;refine⟨by omega,_,Et ht,rfl,?_⟩;(try simp -implicitDefEqProofs only[EV,Nat.reduceAdd,Nat.reduceEqDiff,Nat.reduceBEq,Nat.reduceLeDiff,Nat.reduceMul,reduceCtorEq,M1,Iw,Bo,]);refine⟨by simp,by unfold lim sm at*;omega,?_⟩;apply z;clear z K;try simp only[A4,Ac])
     refine u2 _ _ ?_;clear u2 O
     (refine lV G5 λK z=>?_;refine cl ?_;apply z;clear z K;try simp only[A4,])
     exact⟨(i+1,true,out++[t]),⟨by simp only;omega,E,by simp;omega,by simp⟩,by simp only;omega,sS,by simp[ble,A7,Dj,Bo]⟩
   |false =>
    have I:¬c<0:=λh=>hn ⟨h,rfl⟩;refine Ak I G5 ?_;refine A0.ff rfl (A0.kk (J _ _ ?_));clear J W
    (refine lV G5 λK z=>?_;refine⟨by omega,_,Et ht,rfl,?_⟩;(try simp -implicitDefEqProofs only[EV,Nat.reduceAdd,Nat.reduceEqDiff,Nat.reduceBEq,Nat.reduceLeDiff,Nat.reduceMul,reduceCtorEq,M1,Iw,Bo,]);refine⟨by simp,by unfold lim sm at*;omega,?_⟩;apply z;clear z K;try simp only[A4,Ac])
    refine u2 _ _ ?_;clear u2 O
    (refine lV G5 λK z=>?_;refine cl ?_;apply z;clear z K;try simp only[A4,])
    exact⟨(i+1,false,out++[t]),⟨by simp only;omega,E,by simp;omega,λ_=>by have:=U rfl;simp;omega⟩,by simp only;omega,sS,by simp[ble,A7,Dj,Bo]⟩
abbrev Gc:List Nat:=[0,1,2,3,4,5,6,7,8,12,19,30,37,51]
def G7r(s:An)(hs:s.Sm)(x:B9)(hx:x.Sm)(Z:∀t,Aa prog 137 [.agg (caS x),.agg (caS t)] (A5 (Dn x t))):Aa prog 58 [Jh s,.agg (caS x)] (Jh (Gj s x)):=by
 unfold Gj;have a7:=hs.calls.1;by_cases L:100<s.calls.length
 .rw[A8 L];have hb:(s.calls.length:Int) > 100:=by omega
  refine cB func58 ?_;refine sR Gc<|sK λV u1=>?_
  (refine sQ Gc λK z=>?_;simp -implicitDefEqProofs only[EV,Nat.reduceEqDiff,reduceCtorEq,Jd,Pw,hb,L9];apply z;clear z K)
  refine A0.tt rfl<|sR Gc ?_;refine sR Gc ?_;exact aR
 rw[A6 L];have hb:¬(s.calls.length:Int) > 100:=by omega
 have hR:∃R,Fu Dn x s.calls false []=R:=⟨_,rfl⟩;obtain⟨R,hR⟩:=hR;have a0:I6 Dn s.calls x=R.getD s.calls:=by unfold I6;rw[hR]
 rw[a0];refine cB func58 ?_;refine sR Gc<|sK λV u1=>?_
 (refine sQ Gc λK z=>?_;simp -implicitDefEqProofs only[EV,Nat.reduceEqDiff,reduceCtorEq,Jd,Pw,hb,L9];apply z;clear z K)
 refine A0.ff rfl (A0.kk (u1 _ _ ?_));clear u1 V;refine sR Gc ?_;refine A0.pp 5 5 5 rfl<|sR Gc ?_;refine kR Gc λV u1=>?_;refine A0.bb (A0.loop (X:=Nat × Bool × List B9) (λz=>[(2,.box 2 0),(3,.box 3 0),(4,.box 4 0),(5,.acc 5),(6,Aw z.2.1),(7,A5 z.1)])
  (λz=>[(2,.cells (J1 s)),(3,.cells (caS x)),(4,.cells [.d .nil,.d .nil,.d (.bool false)]),(5,.rows 5 (Mn z.2.2))])
  (λz=>z.1<=s.calls.length/\Fu Dn x (s.calls.drop z.1) z.2.1 z.2.2=R/\z.2.2.length<=z.1+1/\(z.2.1=false->z.2.2.length<=z.1)) (λz=>s.calls.length - z.1) (0,false,[])
  ⟨Ap6 _,hR,by simp,by simp⟩ sS (by simp[ble,A7,A9x]) ?_)
 rintro⟨i,done,out⟩ ⟨hi,E,a6,U⟩;simp only at hi E a6 U |-;have a8:True:=trivial;by_cases a1:i=s.calls.length
 .have a2:¬(i:Int)<(s.calls.length:Int):=by omega
  rw[a1,Db,Fu]at E;refine sK λO u2=>?_
  (refine sQ Gc λK z=>?_;simp -implicitDefEqProofs only[EV,Nat.reduceEqDiff,reduceCtorEq,Jd,Pw,a2,L9];apply z;clear z K)
  refine A0.ss rfl ?_;simp only[A4,Ac,Af];refine u1 _ _ ?_;clear u2 O u1 V;refine sK λV u1=>?_;cases done with
  |true =>simp only[Af]at E;subst E;refine sR Gc ?_;refine A0.ff rfl (A0.kk (u1 _ _ ?_));clear u1 V;refine sR Gc ?_;refine sR Gc ?_;exact aR
  |false =>
   simp only[I0,Fx]at E;subst E;refine sR Gc ?_;refine A0.tt rfl ?_
   (refine lQ Gc λK z=>?_;simp -implicitDefEqProofs only[EV,Nat.reduceAdd,Nat.reduceEqDiff,Nat.reduceBEq,Nat.reduceLeDiff,Nat.reduceMul,reduceCtorEq,Jd,Sf,L9];refine⟨by simp,by unfold lim sm at*;omega,?_⟩;apply z;clear z K;try simp only[A4,])
   refine u1 _ _ ?_;clear u1 V;refine sR Gc ?_;refine sR Gc ?_;have a5:Jh { s with calls:=(some (out++[x])).getD s.calls }=.agg [.d (.slice (Ax s.types)),.d (.slice (Mn out++[H3 x])),.d (.bool s.D9)]:=by simp[A9x]
   rw[a5];exact aR
 .have a4:(i:Int)<(s.calls.length:Int):=by omega
  obtain⟨t,ht⟩:∃t,s.calls[i]?=some t:=⟨_,Bi (by omega)⟩;have hd:s.calls.drop i=t::s.calls.drop (i+1):=by
   rw[Gb (by omega)]
   congr 1
   have:=Az.1 ht;exact this.2
  rw[hd,Fu]at E;have hc:=Z t;generalize Dn x t=c at*;refine sK λO u2=>?_
  (refine sQ Gc λK z=>?_;simp -implicitDefEqProofs only[EV,Nat.reduceEqDiff,reduceCtorEq,Jd,Pw,a4,L9];apply z;clear z K)
  refine gI u2 ?_;clear u2 O;refine sK λO u2=>A0.bb ?_
  (refine sG Gc [] 6 [] λK z=>?_;refine ev ?_;refine⟨by omega,_,J4 ht,rfl,?_⟩;(try simp -implicitDefEqProofs only[EV,Nat.reduceAdd,Nat.reduceEqDiff,reduceCtorEq,H3]);refine cc hc ?_;apply z;clear z K)
  refine sK λW J=>?_;by_cases h0:c=0
  .subst h0;rw[A8 rfl]at E;subst E;refine sR Gc ?_;refine A0.tt rfl<|sR Gc ?_;exact aR
  rw[A6 h0]at E;refine Ak h0 Gc ?_;refine A0.ff rfl (A0.kk (J _ _ ?_));clear J W;refine sK λW J=>?_;by_cases hn:c<0/\done=false
  .obtain⟨I,rfl⟩:=hn;rw[A8 ⟨I,rfl⟩]at E;refine Ak I Gc ?_;refine A0.tt rfl ?_
   (refine sQ Gc λK z=>?_;simp -implicitDefEqProofs only[EV,Nat.reduceAdd,Nat.reduceEqDiff,Nat.reduceBEq,Nat.reduceLeDiff,Nat.reduceMul,reduceCtorEq,Jd,Sf,L9];refine⟨by simp,by unfold lim sm at*;omega,?_⟩;apply z;clear z K)
   (refine lV Gc λK z=>?_;apply z;clear z K;try simp only[A4,])
   refine J _ _ ?_;clear J W
   (refine lV Gc λK z=>?_;refine⟨by omega,_,J4 ht,rfl,?_⟩;(try simp -implicitDefEqProofs only[EV,Nat.reduceAdd,Nat.reduceEqDiff,Nat.reduceBEq,Nat.reduceLeDiff,Nat.reduceMul,reduceCtorEq,Jd,Sf,H3,L9,B6,]);refine⟨by simp,by unfold lim sm at*;omega,?_⟩;apply z;clear z K;try simp only[A4,Ac])
   refine u2 _ _ ?_;clear u2 O
   (refine lV Gc λK z=>?_;refine cl ?_;apply z;clear z K;try simp only[A4,])
   exact⟨(i+1,true,out++[x,t]),⟨by simp only;omega,E,by have:=U rfl;simp;omega,by simp⟩,by simp only;omega,sS,by simp[ble,A7,A9x,H3]⟩
  .rw[A6 hn]at E;have a3:(decide (c<0) && !done)=false:=by
    cases done <;> simp_all
   cases done with
   |true =>
    by_cases I:c<0
    .refine Ak I Gc ?_;refine A0.ff rfl (A0.kk (J _ _ ?_));clear J W
     (refine lV Gc λK z=>?_;refine⟨by omega,_,J4 ht,rfl,?_⟩;(try simp -implicitDefEqProofs only[EV,Nat.reduceAdd,Nat.reduceEqDiff,Nat.reduceBEq,Nat.reduceLeDiff,Nat.reduceMul,reduceCtorEq,Jd,Sf,H3,L9,]);refine⟨by simp,by unfold lim sm at*;omega,?_⟩;apply z;clear z K;try simp only[A4,Ac])
     refine u2 _ _ ?_;clear u2 O
     (refine lV Gc λK z=>?_;refine cl ?_;apply z;clear z K;try simp only[A4,])
     exact⟨(i+1,true,out++[t]),⟨by simp only;omega,E,by simp;omega,by simp⟩,by simp only;omega,sS,by simp[ble,A7,A9x,H3]⟩
    .refine Ak I Gc ?_;refine A0.ff rfl (A0.kk (J _ _ ?_));clear J W
     (refine lV Gc λK z=>?_;refine⟨by omega,_,J4 ht,rfl,?_⟩;(try simp -implicitDefEqProofs only[EV,Nat.reduceAdd,Nat.reduceEqDiff,Nat.reduceBEq,Nat.reduceLeDiff,Nat.reduceMul,reduceCtorEq,Jd,Sf,H3,L9,]);refine⟨by simp,by unfold lim sm at*;omega,?_⟩;apply z;clear z K;try simp only[A4,Ac])
     refine u2 _ _ ?_;clear u2 O
     (refine lV Gc λK z=>?_;refine cl ?_;apply z;clear z K;try simp only[A4,])
     exact⟨(i+1,true,out++[t]),⟨by simp only;omega,E,by simp;omega,by simp⟩,by simp only;omega,sS,by simp[ble,A7,A9x,H3]⟩
   |false =>
    have I:¬c<0:=λh=>hn ⟨h,rfl⟩;refine Ak I Gc ?_;refine A0.ff rfl (A0.kk (J _ _ ?_));clear J W
    (refine lV Gc λK z=>?_;refine⟨by omega,_,J4 ht,rfl,?_⟩;(try simp -implicitDefEqProofs only[EV,Nat.reduceAdd,Nat.reduceEqDiff,Nat.reduceBEq,Nat.reduceLeDiff,Nat.reduceMul,reduceCtorEq,Jd,Sf,H3,L9,]);refine⟨by simp,by unfold lim sm at*;omega,?_⟩;apply z;clear z K;try simp only[A4,Ac])
    refine u2 _ _ ?_;clear u2 O
    (refine lV Gc λK z=>?_;refine cl ?_;apply z;clear z K;try simp only[A4,])
    exact⟨(i+1,false,out++[t]),⟨by simp only;omega,E,by simp;omega,λ_=>by have:=U rfl;simp;omega⟩,by simp only;omega,sS,by simp[ble,A7,A9x,H3]⟩
def B0t(s:An)(hs:s.Sm)(x:Ty)(E:x.Sm):Aa prog 57 [Jh s,B7 x] (Jh (Gp s x)):=F1p s hs x E (λt=>C9j x E t)
def E5n(s:An)(hs:s.Sm)(x:B9)(E:x.Sm):Aa prog 58 [Jh s,caV x] (Jh (Gj s x)):=G7r s hs x E (λt=>H5n x E t)
end Go.Abs
