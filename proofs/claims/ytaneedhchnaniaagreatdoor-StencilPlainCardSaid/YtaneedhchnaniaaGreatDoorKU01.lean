/- castingsref05.List -/
import Derived.Test.YtaneedhchnaniaaGreatDoorKS58
namespace Go.Abs
set_option linter.all false
open Go Go.Proofs Tryz
set_option maxRecDepth 100000
set_option maxHeartbeats 1000000
abbrev Rw (t:Ty):List SV:=[.d (.str t.name),.d (.slice (Aq t.args)),.d (.int .i64 t.pos)]
abbrev Vk (d:Decl):List SV:=[.d (.int .i64 d.kind),.d (.str d.name),.d (.slice (Az d.A1)),.d (.slice (B5 d.fields)),.d (.slice (B9 d.sigs)),.d (.str d.recv),.d (.slice (C6 d.vars)),.d (.str d.sig.name),.d (.slice (Az d.sig.A1)),.d (.slice (B5 d.sig.params)),.d (.str d.sig.result.name),.d (.slice (Aq d.sig.result.args)),.d (.int .i64 d.sig.result.pos),.d (.int .i64 d.sig.pos),.d (.int .i64 d.body.kind),.d (.str d.body.name),.d (.str d.body.type.name),.d (.slice (Aq d.body.type.args)),.d (.int .i64 d.body.type.pos),.d (.slice (Aq d.body.targs)),.d (.slice (Db d.body.kids)),.d (.int .i64 d.body.pos),.d (.int .i64 d.pos)]
mutual
def Bb:Ex→List Ex
 |.mk k n t a ks q=>.mk k n t a ks q::Cr ks
def Cr:List Ex→List Ex
 |[]=>[]
 |e::E=>Bb e++Cr E
end
theorem Sd (e:Ex):Bb e=e::Cr e.kids:=by cases e;rw [Bb];rfl
theorem Zq:∀a b:List Ex,Cr (a++b)=Cr a++Cr b
 |[],_=>rfl
 |x::a,b=>by simp only [S9,Cr,Zq a b,Pg]
theorem D9h:∀{l:List Ex} {x:Ex},x∈l→(Bb x).length≤(Cr l).length
 |[],_,h=>by simp at h
 |y::l,x,h=>by
  rw [Cr,B3];rcases As.1 h with rfl| h
  ·omega
  ·have:=D9h h;omega
theorem D5y:∀l:List Ex,l.length≤(Cr l).length
 |[]=>Cq _
 |y::l=>by have:=D5y l;rw [Cr,B3,Sd];simp only [Bg];omega
theorem D0t (l:List Ex)(j:Nat):(Cr (l.take j)).length≤(Cr l).length:=by
 conv=>rhs;rw [←Sw j l,Zq,B3]
 omega
theorem B2a {Q:Ex→Prop} (O:∀e:Ex,Q e→∀x,x∈e.kids→Q x):∀e:Ex,Q e→∀x,x∈Bb e→Q x:=by
 intro e
 induction e using Ex.induct with| _ e L=>?_
 intro J x hx;rw [Sd,As] at hx;rcases hx with rfl| hx
 ·exact J
 have:∀l:List Ex,(∀y,y∈l→y∈e.kids)→x∈Cr l→Q x:=fun l=>by
  induction l with
  |nil=>intro _ h;simp [Cr] at h
  |cons y l I =>
   intro E h;rw [Cr,Bw] at h;rcases h with h| h
   ·exact L y (E y (by simp)) (O e J y (E y (by simp))) x h
   ·exact I (fun z R=>E z (by simp [R])) h
 exact this e.kids (fun _ h=>h) hx
abbrev A0j:List Nat:=[0,1,2,3,4,6,11]
theorem B7q:∀e:Ex,(Bb e).length≤sm→Ac Tryz.prog 96 [Di e] (.d (.slice (Db (Bb e)))):=by
 intro e
 induction e using Ex.induct with
 |h e ih =>
 intro O;rw [Sd] at O ⊢;simp only [Bg] at O;have a0:=D5y e.kids;refine cB func96 ?_;refine sR A0j ?_
 (refine A0.F6 A0j [6] (by decide +kernel) fun K z=>?_;refine ev ?_;apply z;clear z K)
 refine kR A0j fun K1 u1=>?_;refine A0.bb (A0.ii e.kids (X:=Unit) (fun j _=>[(1,.box 1 0),(3,.acc 6),(4,A9 j)]) (fun j _=>[(1,.cells (exS e)),(6,.rows 8 (Db (e::Cr (e.kids.take j))))])
  (fun j _=>True) () trivial sS (by simp [ble,A7,Cr,Lp,Ce]) ?_ ?_)
 rotate_left
 ·intro j _ u U E dp R L _;have W:=D9h E;have V:=ih u E (by omega);have Z:=D0t e.kids j;have I:=D0t e.kids (j+1);rw [R,Zq] at I;simp only [Cr,Ge,B3] at I;rw [R,Zq];simp only [Cr,Ge];generalize Cr (e.kids.take j)=A at *;generalize Bb u=B at *;refine Ai L A0j fun J u2=>?_;refine gI u2 ?_;clear u2 J;refine sK fun J u2=>?_;refine A0.bb ?_
  (refine lV A0j fun K z=>?_;refine ci (Ed U) ?_;refine cc V ?_;refine⟨D6r _,by unfold lim sm at *;omega,?_⟩;(try refine ev ?_);apply z;clear z K;try simp only [A4,Aa])
  refine u2 _ _ ?_;clear u2 J;refine lT A0j ?_;exact⟨(),trivial,sS,by simp [ble,A7,Lp,Ce]⟩
 intro _ _;rw [Cs];refine Ai B4 A0j fun J u2=>?_;refine A0.ss rfl ?_;simp only [A4,Aa,Af];refine u1 _ _ ?_;refine sR A0j ?_;exact aR
open Go
def Vp (x:Ex):List Ty:=x.targs++if x.kind=3∨x.kind=5 then [x.type] else []
def Hx (l:List Ex):List Ty:=l.flatMap Vp
def Mx (e:Ex):List Ty:=Hx (Bb e)
def Fs (l:List Ak):List Ty:=l.map (·.bound)
def Gq (l:List Param):List Ty:=l.map (·.type)
def M4 (s:A5):List Ty:=Fs s.A1++Gq s.params++[s.result]
def Ko (l:List A5):List Ty:=l.flatMap M4
def Sq (d:Decl):List Ty:=if d.kind=3 then M4 d.sig++Mx d.body else []
def A4i (d:Decl):List Ty:=Fs d.A1++Gq d.fields++Ko d.sigs++Sq d
def Mo (l:List Decl):List Ty:=l.flatMap A4i
def M9 (p:Prog):List Ty:=Mo p.decls++Mx p.main
def Jz (e:Ex):Bool:=(Bb e).all fun x=>decide (x.targs.length=0)
def Rb (l:List A5):Bool:=l.all fun s=>decide (s.A1.length=0)
def Pb (d:Decl):Bool:=decide (d.A1.length+d.vars.length+d.sig.A1.length=0) && (Jz d.body && Rb d.sigs)
def Px (l:List Ty):Bool:=l.all fun t=>decide (t.args.length=0)
def A4d (p:Prog):Bool:=Px (M9 p) && (p.decls.all Pb && Jz p.main)
def ExQ (Q:Ty→Prop)(e:Ex):Prop:=(e.kind=3∨e.kind=5→Q e.type)∧∀t,t∈e.targs→Q t
structure B3u (Q:Ty→Prop)(s:A5):Prop where
 A1:∀f,f∈s.A1→Q f.bound
 params:∀f,f∈s.params→Q f.type
 result:Q s.result
structure D0u (Q:Ty→Prop)(d:Decl):Prop where
 A1:∀f,f∈d.A1→Q f.bound
 fields:∀f,f∈d.fields→Q f.type
 sigs:∀s,s∈d.sigs→B3u Q s
 sig:d.kind=3→B3u Q d.sig
 body:d.kind=3→∀x,x∈Bb d.body→ExQ Q x
theorem F2c {Q:Ty→Prop} {p:Prog} (hd:∀d,d∈p.decls→D0u Q d)(W:∀x,x∈Bb p.main→ExQ Q x):∀t,t∈M9 p→Q t:=by
 have J:∀e:Ex,(∀x,x∈Bb e→ExQ Q x)→∀t,t∈Mx e→Q t:=by
  intro e Z t ht;unfold Mx Hx at ht;obtain⟨x,V,ht⟩:=An9.1 ht;obtain⟨h1,U⟩:=Z x V;unfold Vp at ht;rcases Bw.1 ht with ht| ht
  ·exact U t ht
  ·split at ht
   ·rename_i O;simp only [As,Dt,Du] at ht;rw [ht];exact h1 O
   ·simp at ht
 have L:∀s:A5,B3u Q s→∀t,t∈M4 s→Q t:=by
  intro s hs t ht;simp only [M4,Fs,Gq,Bw,Ax,As,Dt,Du] at ht;rcases ht with (⟨f,I,rfl⟩| ⟨f,I,rfl⟩)| rfl
  ·exact hs.A1 f I
  ·exact hs.params f I
  ·exact hs.result
 intro t ht;unfold M9 Mo at ht;rcases Bw.1 ht with ht| ht
 ·obtain⟨d,R,ht⟩:=An9.1 ht;have E:=hd d R;unfold A4i at ht;simp only [Bw] at ht;rcases ht with ((ht| ht)| ht)| ht
  ·obtain⟨f,I,rfl⟩:=Ax.1 ht;exact E.A1 f I
  ·obtain⟨f,I,rfl⟩:=Ax.1 ht;exact E.fields f I
  ·unfold Ko at ht;obtain⟨s,hs,ht⟩:=An9.1 ht;exact L s (E.sigs s hs) t ht
  ·unfold Sq at ht;split at ht
   ·rename_i O;rcases Bw.1 ht with ht| ht
    ·exact L d.sig (E.sig O) t ht
    ·exact J d.body (E.body O) t ht
   ·simp at ht
 ·exact J p.main W t ht
open Go Go.Proofs Tryz
structure Au where
 on:Ty
 name:A3
 targs:List Ty
structure Ap where
 types:List Ty
 calls:List Au
 D7:Bool
def H5 (c:Au):List D:=[.str c.on.name,.slice (Aq c.on.args),.int .i64 c.on.pos,.str c.name,.slice (Aq c.targs)]
def Dn (l:List Au):List (List D):=l.map H5
abbrev caS (c:Au):List SV:=[.d (.str c.on.name),.d (.slice (Aq c.on.args)),.d (.int .i64 c.on.pos),.d (.str c.name),.d (.slice (Aq c.targs))]
abbrev N6 (c:Au):SV:=.agg (caS c)
abbrev Jc (s:Ap):List SV:=[.d (.slice (Aq s.types)),.d (.slice (Dn s.calls)),.d (.bool s.D7)]
abbrev Lj (s:Ap):SV:=.agg (Jc s)
theorem Jx (l:List Au):(Dn l).length=l.length:=by simp [Dn]
theorem Qd {l:List Au} {i:Nat} {c:Au} (h:l[i]? = some c):(Dn l)[i]? = some (H5 c):=by simp [Dn,h]
theorem A8c (l:List Au):Dn l=l.map H5:=rfl
structure Au.Sm (c:Au):Prop where
 on:c.on.Sm
 name:c.name.length≤sm
 targs:c.targs.length≤sm∧∀t,t∈c.targs→t.Sm
structure Ap.Sm (s:Ap):Prop where
 types:s.types.length≤sm∧∀t,t∈s.types→t.Sm
 calls:s.calls.length≤sm∧∀t,t∈s.calls→t.Sm
def Bj (a b:Au):Int:=if Dz a.on b.on=0 then (if Bp a.name b.name=0 then Dz (.mk [] a.targs 0) (.mk [] b.targs 0) else Bp a.name b.name) else Dz a.on b.on
abbrev Mp:List Nat:=[0,1,2,3,4,5,12,19]
theorem F8f (a:Au)(L:a.Sm)(b:Au):Ac Tryz.prog 9 [N6 a,N6 b] (A9 (Bj a b)):=by
 have O:=C0b a.on L.on b.on;have R:=A9n a.name b.name;have U:=C0b (.mk [] a.targs 0) (.mk _ _ _ (by simp [sm]) L.targs.1 L.targs.2) (.mk [] b.targs 0);unfold Bj;generalize Dz (.mk [] a.targs 0) (.mk [] b.targs 0)=z at *;generalize Dz a.on b.on=x at *;generalize Bp a.name b.name=y at *;by_cases I:x=0
 ·subst I;rw [A8 rfl];by_cases J:y=0
  ·subst J;rw [A8 rfl];refine cB func9 ?_;refine sR Mp ?_;refine sC O Mp ?_;refine kR Mp fun E u1=>?_;refine A0.tt rfl ?_
   (refine lV Mp fun K z=>?_;refine cc R ?_;apply z;clear z K;try simp only [A4,])
   refine u1 _ _ ?_;clear u1 E;refine kR Mp fun E u1=>?_;refine A0.tt rfl ?_
   (refine lV Mp fun K z=>?_;refine cc U ?_;apply z;clear z K;try simp only [A4,])
   refine u1 _ _ ?_;refine sR Mp ?_;exact aR
  ·rw [A6 J];refine cB func9 ?_;refine sR Mp ?_;refine sC O Mp ?_;refine kR Mp fun E u1=>?_;refine A0.tt rfl ?_
   (refine lV Mp fun K z=>?_;refine cc R ?_;apply z;clear z K;try simp only [A4,])
   refine u1 _ _ ?_;clear u1 E;refine Ai J Mp fun E u1=>?_;refine A0.ff rfl (A0.kk (u1 _ _ ?_));refine sR Mp ?_;exact aR
 ·rw [A6 I];refine cB func9 ?_;refine sR Mp ?_;refine sC O Mp ?_;refine Ai I Mp fun E u1=>?_;refine A0.ff rfl (A0.kk (u1 _ _ ?_));clear u1 E;refine Ai I Mp fun E u1=>?_;refine A0.ff rfl (A0.kk (u1 _ _ ?_));refine sR Mp ?_;exact aR
def Fe {α:Type} (cmp:α→α→Int)(x:α):List α→Bool→List α→Option (List α)
 |[],done,out=>some (if done then out else out++[x])
 |t::ts,done,out=>if cmp x t=0 then none else if cmp x t < 0∧done=false then Fe cmp x ts true (out++[x,t]) else Fe cmp x ts done (out++[t])
def I1 {α:Type} (cmp:α→α→Int)(l:List α)(x:α):List α:=(Fe cmp x l false []).getD l
def G9 (s:Ap)(x:Ty):Ap:=if 100 < s.types.length then { s with D7:=true } else { s with types:=I1 Dz s.types x }
def Gz (s:Ap)(x:Au):Ap:=if 100 < s.calls.length then { s with D7:=true } else { s with calls:=I1 Bj s.calls x }
abbrev G5:List Nat:=[0,1,2,3,4,5,6,7,8,12,19,30,37,51]
theorem G4x (s:Ap)(hs:s.Sm)(x:Ty)(hx:x.Sm)(Z:∀t,Ac Tryz.prog 23 [.agg (Rw x),.agg (Rw t)] (A9 (Dz x t))):Ac Tryz.prog 161 [Lj s,.agg (Rw x)] (Lj (G9 s x)):=by
 unfold G9;have a7:=hs.types.1;by_cases L:100 < s.types.length
 ·rw [A8 L];have hb:(s.types.length:Int) > 100:=by omega
  refine cB func161 ?_;refine sR G5 ?_;refine Ai hb G5 fun U u1=>?_;refine A0.tt rfl ?_;refine sR G5 ?_;refine sR G5 ?_;exact aR
 rw [A6 L];have hb:¬(s.types.length:Int) > 100:=by omega
 have hR:∃R,Fe Dz x s.types false []=R:=⟨_,rfl⟩;obtain⟨R,hR⟩:=hR;have a0:I1 Dz s.types x=R.getD s.types:=by unfold I1;rw [hR]
 rw [a0];refine cB func161 ?_;refine sR G5 ?_;refine Ai hb G5 fun U u1=>?_;refine A0.ff rfl (A0.kk (u1 _ _ ?_));clear u1 U;refine sR G5 ?_;refine A0.pp 5 3 5 rfl ?_;refine sR G5 ?_;refine kR G5 fun U u1=>?_;refine A0.bb (A0.loop (X:=Nat × Bool × List Ty) (fun z=>[(2,.box 2 0),(3,.box 3 0),(4,.box 4 0),(5,.acc 5),(6,B0 z.2.1),(7,A9 z.1)])
  (fun z=>[(2,.cells (Jc s)),(3,.cells (Rw x)),(4,.cells [.d .nil,.d .nil,.d (.bool false)]),(5,.rows 3 (Aq z.2.2))])
  (fun z=>z.1≤s.types.length∧Fe Dz x (s.types.drop z.1) z.2.1 z.2.2=R∧z.2.2.length≤z.1+1∧(z.2.1=false→z.2.2.length≤z.1)) (fun z=>s.types.length - z.1) (0,false,[])
  ⟨Uf _,hR,by simp,by simp⟩ sS (by simp [ble,A7,Cc]) ?_)
 rintro⟨i,done,out⟩ ⟨hi,E,a4,V⟩;simp only at hi E a4 V ⊢;have a8:True:=trivial;by_cases a5:i=s.types.length
 ·have a3:¬(i:Int) < (s.types.length:Int):=by omega
  rw [a5,D6,Fe] at E;refine Ai a3 G5 fun O u2=>?_;refine A0.ss rfl ?_;simp only [A4,Aa,Af];refine u1 _ _ ?_;clear u2 O u1 U;refine sK fun U u1=>?_;cases done with
  |true =>simp only [Af] at E;subst E;refine sR G5 ?_;refine A0.ff rfl (A0.kk (u1 _ _ ?_));clear u1 U;refine sR G5 ?_;refine sR G5 ?_;exact aR
  |false =>
   simp only [Hh,Et] at E;subst E;refine sR G5 ?_;refine A0.tt rfl ?_
   (refine lV G5 fun K z=>?_;refine⟨by simp,by unfold lim sm at *;omega,?_⟩;apply z;clear z K;try simp only [A4,])
   refine u1 _ _ ?_;clear u1 U;refine sR G5 ?_;refine sR G5 ?_;have a1:Lj { s with types:=(some (out++[x])).getD s.types }=.agg [.d (.slice (Aq out++[Bh x])),.d (.slice (Dn s.calls)),.d (.bool s.D7)]:=by simp [Cc]
   rw [a1];exact aR
 ·have a6:(i:Int) < (s.types.length:Int):=by omega
  obtain⟨t,ht⟩:∃t,s.types[i]? = some t:=⟨_,Ba (by omega)⟩;have hd:s.types.drop i=t::s.types.drop (i+1):=by
   rw [Fy (by omega)]
   congr 1
   have:=Ay.1 ht;exact this.2
  rw [hd,Fe] at E;have hc:=Z t;generalize Dz x t=c at *;refine Ai a6 G5 fun O u2=>?_;refine gI u2 ?_;clear u2 O;refine sK fun O u2=>?_;refine A0.bb ?_
  (refine sG G5 [] 6 [] fun K z=>?_;refine ev ?_;refine⟨by omega,_,F5 ht,rfl,?_⟩;(try simp -implicitDefEqProofs only [EV,Nat.reduceAdd,Nat.reduceEqDiff,reduceCtorEq,Bh]);refine cc hc ?_;apply z;clear z K)
  refine sK fun W J=>?_;by_cases h0:c=0
  ·subst h0;rw [A8 rfl] at E;subst E;refine sR G5 ?_;refine A0.tt rfl ?_;refine sR G5 ?_;exact aR
  rw [A6 h0] at E;refine Ah h0 G5 ?_;refine A0.ff rfl (A0.kk (J _ _ ?_));clear J W;refine sK fun W J=>?_;by_cases hn:c < 0∧done=false
  ·obtain⟨I,rfl⟩:=hn;rw [A8 ⟨I,rfl⟩] at E;refine Ah I G5 ?_;refine A0.tt rfl ?_
   (refine sV G5 fun K z=>?_;refine⟨by simp,by unfold lim sm at *;omega,?_⟩;apply z;clear z K)
   (refine lV G5 fun K z=>?_;apply z;clear z K;try simp only [A4,])
   refine J _ _ ?_;clear J W
   (refine lV G5 fun K z=>?_;refine⟨by omega,_,F5 ht,rfl,?_⟩;(try simp -implicitDefEqProofs only [EV,Nat.reduceAdd,Nat.reduceEqDiff,Nat.reduceBEq,Nat.reduceLeDiff,Nat.reduceMul,reduceCtorEq,Mr,I9,Bh,B3,]);refine⟨by simp,by unfold lim sm at *;omega,?_⟩;apply z;clear z K;try simp only [A4,Aa])
   refine u2 _ _ ?_;clear u2 O
   (refine lV G5 fun K z=>?_;refine cl ?_;apply z;clear z K;try simp only [A4,])
   exact⟨(i+1,true,out++[x,t]),⟨by simp only;omega,E,by have:=V rfl;simp;omega,by simp⟩,by simp only;omega,sS,by simp [ble,A7,Cc,Bh]⟩
  ·rw [A6 hn] at E;have a2:(decide (c < 0) && !done)=false:=by
    cases done <;> simp_all
   cases done with
   |true =>
    by_cases I:c < 0
    ·refine Ah I G5 ?_;refine A0.ff rfl (A0.kk (J _ _ ?_));clear J W
     (refine lV G5 fun K z=>?_;refine⟨by omega,_,F5 ht,rfl,?_⟩;(try simp -implicitDefEqProofs only [EV,Nat.reduceAdd,Nat.reduceEqDiff,Nat.reduceBEq,Nat.reduceLeDiff,Nat.reduceMul,reduceCtorEq,Mr,I9,Bh,]);refine⟨by simp,by unfold lim sm at *;omega,?_⟩;apply z;clear z K;try simp only [A4,Aa])
     refine u2 _ _ ?_;clear u2 O
     (refine lV G5 fun K z=>?_;refine cl ?_;apply z;clear z K;try simp only [A4,])
     exact⟨(i+1,true,out++[t]),⟨by simp only;omega,E,by simp;omega,by simp⟩,by simp only;omega,sS,by simp [ble,A7,Cc,Bh]⟩
    ·refine Ah I G5 ?_;refine A0.ff rfl (A0.kk (J _ _ ?_));clear J W
     (refine lV G5 fun K z=>?_;refine⟨by omega,_,F5 ht,rfl,?_⟩;(try simp -implicitDefEqProofs only [EV,Nat.reduceAdd,Nat.reduceEqDiff,Nat.reduceBEq,Nat.reduceLeDiff,Nat.reduceMul,reduceCtorEq,Mr,I9,Bh,]);refine⟨by simp,by unfold lim sm at *;omega,?_⟩;apply z;clear z K;try simp only [A4,Aa])
     refine u2 _ _ ?_;clear u2 O
     (refine lV G5 fun K z=>?_;refine cl ?_;apply z;clear z K;try simp only [A4,])
     exact⟨(i+1,true,out++[t]),⟨by simp only;omega,E,by simp;omega,by simp⟩,by simp only;omega,sS,by simp [ble,A7,Cc,Bh]⟩
   |false =>
    have I:¬c < 0:=fun h=>hn ⟨h,rfl⟩;refine Ah I G5 ?_;refine A0.ff rfl (A0.kk (J _ _ ?_));clear J W
    (refine lV G5 fun K z=>?_;refine⟨by omega,_,F5 ht,rfl,?_⟩;(try simp -implicitDefEqProofs only [EV,Nat.reduceAdd,Nat.reduceEqDiff,Nat.reduceBEq,Nat.reduceLeDiff,Nat.reduceMul,reduceCtorEq,Mr,I9,Bh,]);refine⟨by simp,by unfold lim sm at *;omega,?_⟩;apply z;clear z K;try simp only [A4,Aa])
    refine u2 _ _ ?_;clear u2 O
    (refine lV G5 fun K z=>?_;refine cl ?_;apply z;clear z K;try simp only [A4,])
    exact⟨(i+1,false,out++[t]),⟨by simp only;omega,E,by simp;omega,fun _=>by have:=V rfl;simp;omega⟩,by simp only;omega,sS,by simp [ble,A7,Cc,Bh]⟩
abbrev G4:List Nat:=[0,1,2,3,4,5,6,7,8,12,19,30,37,51]
theorem F6y (s:Ap)(hs:s.Sm)(x:Au)(hx:x.Sm)(Z:∀t,Ac Tryz.prog 9 [.agg (caS x),.agg (caS t)] (A9 (Bj x t))):Ac Tryz.prog 162 [Lj s,.agg (caS x)] (Lj (Gz s x)):=by
 unfold Gz;have a7:=hs.calls.1;by_cases L:100 < s.calls.length
 ·rw [A8 L];have hb:(s.calls.length:Int) > 100:=by omega
  refine cB func162 ?_;refine sR G4 ?_;refine sK fun U u1=>?_
  (refine sQ G4 fun K z=>?_;simp -implicitDefEqProofs only [EV,Nat.reduceEqDiff,reduceCtorEq,Mw,U6,hb,Jx];apply z;clear z K)
  refine A0.tt rfl ?_;refine sR G4 ?_;refine sR G4 ?_;exact aR
 rw [A6 L];have hb:¬(s.calls.length:Int) > 100:=by omega
 have hR:∃R,Fe Bj x s.calls false []=R:=⟨_,rfl⟩;obtain⟨R,hR⟩:=hR;have a0:I1 Bj s.calls x=R.getD s.calls:=by unfold I1;rw [hR]
 rw [a0];refine cB func162 ?_;refine sR G4 ?_;refine sK fun U u1=>?_
 (refine sQ G4 fun K z=>?_;simp -implicitDefEqProofs only [EV,Nat.reduceEqDiff,reduceCtorEq,Mw,U6,hb,Jx];apply z;clear z K)
 refine A0.ff rfl (A0.kk (u1 _ _ ?_));clear u1 U;refine sR G4 ?_;refine A0.pp 5 5 5 rfl ?_;refine sR G4 ?_;refine kR G4 fun U u1=>?_;refine A0.bb (A0.loop (X:=Nat × Bool × List Au) (fun z=>[(2,.box 2 0),(3,.box 3 0),(4,.box 4 0),(5,.acc 5),(6,B0 z.2.1),(7,A9 z.1)])
  (fun z=>[(2,.cells (Jc s)),(3,.cells (caS x)),(4,.cells [.d .nil,.d .nil,.d (.bool false)]),(5,.rows 5 (Dn z.2.2))])
  (fun z=>z.1≤s.calls.length∧Fe Bj x (s.calls.drop z.1) z.2.1 z.2.2=R∧z.2.2.length≤z.1+1∧(z.2.1=false→z.2.2.length≤z.1)) (fun z=>s.calls.length - z.1) (0,false,[])
  ⟨Uf _,hR,by simp,by simp⟩ sS (by simp [ble,A7,A8c]) ?_)
 rintro⟨i,done,out⟩ ⟨hi,E,a4,V⟩;simp only at hi E a4 V ⊢;have a8:True:=trivial;by_cases a5:i=s.calls.length
 ·have a3:¬(i:Int) < (s.calls.length:Int):=by omega
  rw [a5,D6,Fe] at E;refine sK fun O u2=>?_
  (refine sQ G4 fun K z=>?_;simp -implicitDefEqProofs only [EV,Nat.reduceEqDiff,reduceCtorEq,Mw,U6,a3,Jx];apply z;clear z K)
  refine A0.ss rfl ?_;simp only [A4,Aa,Af];refine u1 _ _ ?_;clear u2 O u1 U;refine sK fun U u1=>?_;cases done with
  |true =>simp only [Af] at E;subst E;refine sR G4 ?_;refine A0.ff rfl (A0.kk (u1 _ _ ?_));clear u1 U;refine sR G4 ?_;refine sR G4 ?_;exact aR
  |false =>
   simp only [Hh,Et] at E;subst E;refine sR G4 ?_;refine A0.tt rfl ?_
   (refine lQ G4 fun K z=>?_;simp -implicitDefEqProofs only [EV,Nat.reduceAdd,Nat.reduceEqDiff,Nat.reduceBEq,Nat.reduceLeDiff,Nat.reduceMul,reduceCtorEq,A0y,Mw,Jx];refine⟨by simp,by unfold lim sm at *;omega,?_⟩;apply z;clear z K;try simp only [A4,])
   refine u1 _ _ ?_;clear u1 U;refine sR G4 ?_;refine sR G4 ?_;have a1:Lj { s with calls:=(some (out++[x])).getD s.calls }=.agg [.d (.slice (Aq s.types)),.d (.slice (Dn out++[H5 x])),.d (.bool s.D7)]:=by simp [A8c]
   rw [a1];exact aR
 ·have a6:(i:Int) < (s.calls.length:Int):=by omega
  obtain⟨t,ht⟩:∃t,s.calls[i]? = some t:=⟨_,Ba (by omega)⟩;have hd:s.calls.drop i=t::s.calls.drop (i+1):=by
   rw [Fy (by omega)]
   congr 1
   have:=Ay.1 ht;exact this.2
  rw [hd,Fe] at E;have hc:=Z t;generalize Bj x t=c at *;refine sK fun O u2=>?_
  (refine sQ G4 fun K z=>?_;simp -implicitDefEqProofs only [EV,Nat.reduceEqDiff,reduceCtorEq,Mw,U6,a6,Jx];apply z;clear z K)
  refine gI u2 ?_;clear u2 O;refine sK fun O u2=>?_;refine A0.bb ?_
  (refine sG G4 [] 6 [] fun K z=>?_;refine ev ?_;refine⟨by omega,_,Qd ht,rfl,?_⟩;(try simp -implicitDefEqProofs only [EV,Nat.reduceAdd,Nat.reduceEqDiff,reduceCtorEq,H5]);refine cc hc ?_;apply z;clear z K)
  refine sK fun W J=>?_;by_cases h0:c=0
  ·subst h0;rw [A8 rfl] at E;subst E;refine sR G4 ?_;refine A0.tt rfl ?_;refine sR G4 ?_;exact aR
  rw [A6 h0] at E;refine Ah h0 G4 ?_;refine A0.ff rfl (A0.kk (J _ _ ?_));clear J W;refine sK fun W J=>?_;by_cases hn:c < 0∧done=false
  ·obtain⟨I,rfl⟩:=hn;rw [A8 ⟨I,rfl⟩] at E;refine Ah I G4 ?_;refine A0.tt rfl ?_
   (refine sQ G4 fun K z=>?_;simp -implicitDefEqProofs only [EV,Nat.reduceAdd,Nat.reduceEqDiff,Nat.reduceBEq,Nat.reduceLeDiff,Nat.reduceMul,reduceCtorEq,A0y,Mw,Jx];refine⟨by simp,by unfold lim sm at *;omega,?_⟩;apply z;clear z K)
   (refine lV G4 fun K z=>?_;apply z;clear z K;try simp only [A4,])
   refine J _ _ ?_;clear J W
   (refine lV G4 fun K z=>?_;refine⟨by omega,_,Qd ht,rfl,?_⟩;(try simp -implicitDefEqProofs only [EV,Nat.reduceAdd,Nat.reduceEqDiff,Nat.reduceBEq,Nat.reduceLeDiff,Nat.reduceMul,reduceCtorEq,A0y,Mw,H5,Jx,B3,]);refine⟨by simp,by unfold lim sm at *;omega,?_⟩;apply z;clear z K;try simp only [A4,Aa])
   refine u2 _ _ ?_;clear u2 O
   (refine lV G4 fun K z=>?_;refine cl ?_;apply z;clear z K;try simp only [A4,])
   exact⟨(i+1,true,out++[x,t]),⟨by simp only;omega,E,by have:=V rfl;simp;omega,by simp⟩,by simp only;omega,sS,by simp [ble,A7,A8c,H5]⟩
  ·rw [A6 hn] at E;have a2:(decide (c < 0) && !done)=false:=by
    cases done <;> simp_all
   cases done with
   |true =>
    by_cases I:c < 0
    ·refine Ah I G4 ?_;refine A0.ff rfl (A0.kk (J _ _ ?_));clear J W
     (refine lV G4 fun K z=>?_;refine⟨by omega,_,Qd ht,rfl,?_⟩;(try simp -implicitDefEqProofs only [EV,Nat.reduceAdd,Nat.reduceEqDiff,Nat.reduceBEq,Nat.reduceLeDiff,Nat.reduceMul,reduceCtorEq,A0y,Mw,H5,Jx,]);refine⟨by simp,by unfold lim sm at *;omega,?_⟩;apply z;clear z K;try simp only [A4,Aa])
     refine u2 _ _ ?_;clear u2 O
     (refine lV G4 fun K z=>?_;refine cl ?_;apply z;clear z K;try simp only [A4,])
     exact⟨(i+1,true,out++[t]),⟨by simp only;omega,E,by simp;omega,by simp⟩,by simp only;omega,sS,by simp [ble,A7,A8c,H5]⟩
    ·refine Ah I G4 ?_;refine A0.ff rfl (A0.kk (J _ _ ?_));clear J W
     (refine lV G4 fun K z=>?_;refine⟨by omega,_,Qd ht,rfl,?_⟩;(try simp -implicitDefEqProofs only [EV,Nat.reduceAdd,Nat.reduceEqDiff,Nat.reduceBEq,Nat.reduceLeDiff,Nat.reduceMul,reduceCtorEq,A0y,Mw,H5,Jx,]);refine⟨by simp,by unfold lim sm at *;omega,?_⟩;apply z;clear z K;try simp only [A4,Aa])
     refine u2 _ _ ?_;clear u2 O
     (refine lV G4 fun K z=>?_;refine cl ?_;apply z;clear z K;try simp only [A4,])
     exact⟨(i+1,true,out++[t]),⟨by simp only;omega,E,by simp;omega,by simp⟩,by simp only;omega,sS,by simp [ble,A7,A8c,H5]⟩
   |false =>
    have I:¬c < 0:=fun h=>hn ⟨h,rfl⟩;refine Ah I G4 ?_;refine A0.ff rfl (A0.kk (J _ _ ?_));clear J W
    (refine lV G4 fun K z=>?_;refine⟨by omega,_,Qd ht,rfl,?_⟩;(try simp -implicitDefEqProofs only [EV,Nat.reduceAdd,Nat.reduceEqDiff,Nat.reduceBEq,Nat.reduceLeDiff,Nat.reduceMul,reduceCtorEq,A0y,Mw,H5,Jx,]);refine⟨by simp,by unfold lim sm at *;omega,?_⟩;apply z;clear z K;try simp only [A4,Aa])
    refine u2 _ _ ?_;clear u2 O
    (refine lV G4 fun K z=>?_;refine cl ?_;apply z;clear z K;try simp only [A4,])
    exact⟨(i+1,false,out++[t]),⟨by simp only;omega,E,by simp;omega,fun _=>by have:=V rfl;simp;omega⟩,by simp only;omega,sS,by simp [ble,A7,A8c,H5]⟩
theorem A8p (s:Ap)(hs:s.Sm)(x:Ty)(E:x.Sm):Ac Tryz.prog 161 [Lj s,Be x] (Lj (G9 s x)):=G4x s hs x E (fun t=>C0b x E t)
theorem F3s (s:Ap)(hs:s.Sm)(x:Au)(E:x.Sm):Ac Tryz.prog 162 [Lj s,N6 x] (Lj (Gz s x)):=F6y s hs x E (fun t=>F8f x E t)
end Go.Abs
