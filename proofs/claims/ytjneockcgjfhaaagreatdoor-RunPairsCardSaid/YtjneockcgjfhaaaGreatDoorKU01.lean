/- the types of a program, as castingsref06 lists them; what has no type parameters -/
import Derived.Test.YtjneockcgjfhaaaGreatDoorKS58
set_option linter.all false
set_option maxHeartbeats 4000000
set_option maxRecDepth 100000
namespace Go.Abs
open Go
def B7g(x:Ex):List Ty:=x.targs++if x.kind=3\/x.kind=5 then[x.type]else[]
def Yw(l:List Ex):List Ty:=l.flatMap B7g
def B5d(e:Ex):List Ty:=Yw (Cj e)
def A3v(e:Ex):Bool:=(Cj e).all λx=>decide (x.targs.length=0)
def B0r(l:List A4):Bool:=l.all λs=>decide (s.A1.length=0)
def G0i(d:Decl):Bool:=decide (d.A1.length+d.vars.length+d.sig.A1.length=0) && (A3v d.body && B0r d.sigs)
def ExQ(Q:Ty->Prop)(e:Ex):Prop:=(e.kind=3\/e.kind=5->Q e.type)/\∀t,t∈e.targs->Q t
structure C7r(Q:Ty->Prop)(s:A4):Prop where
 A1:∀f,f∈s.A1->Q f.bound
 params:∀f,f∈s.params->Q f.type
 result:Q s.result
structure G0g(Q:Ty->Prop)(d:Decl):Prop where
 A1:∀f,f∈d.A1->Q f.bound
 fields:∀f,f∈d.fields->Q f.type
 sigs:∀s,s∈d.sigs->C7r Q s
 sig:d.kind=3->C7r Q d.sig
 body:d.kind=3->∀x,x∈Cj d.body->ExQ Q x
open Go Go.Proofs Tryz
def Ty.D4s:∀(l:List Ty)(k:Int),Ty.Cf l k<=2000->k+(l.length:Int)<=Ty.Cf l k
 |[],k,_=>by simp[Ty.Cf]
 |t::I,k,h=>by
  simp only[Ty.Cf]at h |-;split at h
  rename_i E;rw[A6 E];have J:=Ty.D4s I _ h;have L:=Ty.F7 t k;simp only[Ar];omega;omega
def F8y(e:Ex)(l:List Ex):Yw (e::l)=B7g e++Yw l:=rfl
def G1r(a b:List Ex):Yw (a++b)=Yw a++Yw b:=by simp[Yw]
def G3v(x:Ex):(B7g x).length<=x.targs.length+1:=by unfold B7g;rw[As];split <;> simp
mutual
theorem Ex.E2e:∀(e:Ex)(k:Int),e.count k<=2000->k+((Cj e).length:Int)<=e.count k/\k+((B5d e).length:Int)<=e.count k
 |.mk E n t a ks p,k,h=>by simp only[Ex.count]at h |-;have J:=Ty.F7 t (k+((n.length / 50:Nat):Int));have W:=Ty.L1 a (t.count (k+((n.length / 50:Nat):Int)));have L:=Ex.L1 ks (Ty.Cf a (t.count (k+((n.length / 50:Nat):Int))));have Z:=Ty.D4s a (t.count (k+((n.length / 50:Nat):Int))) (by omega);obtain⟨g3,g4⟩:=Ex.D2m ks (Ty.Cf a (t.count (k+((n.length / 50:Nat):Int)))) h;have U:=G3v (.mk E n t a ks p);rw[show(Ex.mk E n t a ks p).targs=a from rfl]at U;unfold B5d;rw[Cj,F8y];simp only[Ar,As];omega
theorem Ex.D2m:∀(l:List Ex)(k:Int),Ex.Cf l k<=2000->k+((Em l).length:Int)<=Ex.Cf l k/\k+((Yw (Em l)).length:Int)<=Ex.Cf l k
 |[],k,_=>by simp[Ex.Cf,Em,Yw]
 |t::I,k,h=>by
  simp only[Ex.Cf]at h |-;split at h
  rename_i V;rw[A6 V];have J:=Ex.L1 I (t.count k);obtain⟨W,L⟩:=Ex.D2m I (t.count k) h;obtain⟨h4,O⟩:=Ex.E2e t k (by omega);unfold B5d at O;rw[Em,G1r];simp only[As];omega;omega
end
structure Ex.Le(e:Ex):Prop where
 list:(Cj e).length<=2000
 E2:(B5d e).length<=2000
def Ex.Y3(e:Ex)(k:Int)(E:0<=k)(h:e.count k<=2000):e.Le:=by have:=Ex.E2e e k h;exact⟨by omega,by omega⟩
structure A4.Le(s:A4):Prop where
 A1:s.A1.length<=2000
 params:s.params.length<=2000
structure Decl.Le(d:Decl):Prop where
 A1:d.A1.length<=2000
 fields:d.fields.length<=2000
 F6d:d.sigs.length<=3000
 sigs:∀s,s∈d.sigs->s.Le
 sig:d.sig.Le
 body:d.body.Le
structure Prog.Le(p:Prog):Prop where
 H1k:p.decls.length<=200000
 decls:∀d,d∈p.decls->d.Le
 main:p.main.Le
def A4.Y3(s:A4)(n:Int)(L:0<=n)(h:s.count n<=2000):s.Le:=by unfold A4.count at h;obtain⟨V,E⟩:=A5n s.A1 (n+((s.name.length / 50:Nat):Int));obtain⟨J,I⟩:=A6d s.params (Ca s.A1 (n+((s.name.length / 50:Nat):Int)));have O:=Ty.F7 s.result (D4 s.params (Ca s.A1 (n+((s.name.length / 50:Nat):Int))));have W:=(E (by omega) (by omega)).1;have U:=(I (by omega) (by omega)).1;exact⟨by omega,by omega⟩
def F4b:Ps Eh A4.Le:=P0 Eh A4.count A4.Le (λ_=>rfl) (λ_ _ _=>rfl) (λx k=>(A4.G3 x k).1) (λx k E h=>A4.Y3 x k E h)
def Decl.Y3(d:Decl)(n:Int)(Z:0<=n)(h:d.count n<=2000):d.Le:=by unfold Decl.count at h;generalize W:n+1+((d.name.length / 50:Nat):Int)+((d.recv.length / 50:Nat):Int)=m at h;obtain⟨a1,I⟩:=A5n d.A1 m;obtain⟨O,J⟩:=A6d d.fields (Ca d.A1 m);obtain⟨c1,E⟩:=F4b d.sigs (D4 d.fields (Ca d.A1 m));obtain⟨e1,e2⟩:=A2x d.vars (Eh d.sigs (D4 d.fields (Ca d.A1 m)));generalize V:Ja d.vars (Eh d.sigs (D4 d.fields (Ca d.A1 m)))=z at*;unfold Decl.Si at h;obtain⟨f1,_⟩:=A4.G3 d.sig z;have U:=Ex.F7 d.body (d.sig.count z);split at h;have a3:=(I (by omega) (by omega)).1;have b3:=(J (by omega) (by omega)).1;have L:=(E (by omega) (by omega)).1;exact⟨by omega,by omega,by omega,(E (by omega) (by omega)).2,A4.Y3 d.sig z (by omega) (by omega),Ex.Y3 d.body (d.sig.count z) (by omega) h⟩;omega
def F3o:Ps Jt Decl.Le:=P0 Jt Decl.count Decl.Le (λ_=>rfl) (λ_ _ _=>rfl) (λx k=>(Decl.G3 x k).1) (λx k E h=>Decl.Y3 x k E h)
def Prog.Y3(p:Prog)(h:p.count<=600):p.Le:=by unfold Prog.count at h;have I:=Ex.F7 p.main 0;obtain⟨J,E⟩:=F3o p.decls (p.main.count 0);have:=(E (by omega) (by omega)).1;exact⟨by omega,(E (by omega) (by omega)).2,Ex.Y3 p.main 0 (by omega) (by omega)⟩
def E0j{α β:Type}(f:α->List β)(c:Nat):∀l:List α,(∀x,x∈l->(f x).length<=c)->(l.flatMap f).length<=l.length*c
 |[],_=>by simp
 |a::l,h=>by rw[Aj9,As,Ar,Nat.succ_mul];have:=E0j f c l λx E=>h x (by simp[E]);have:=h a (by simp);omega
structure B8 where
 on:Ty
 name:A2
 targs:List Ty
structure Am where
 types:List Ty
 calls:List B8
 D9:Bool
def G6(c:B8):List D:=[.str c.on.name,.slice (Ag c.on.args),.int .i64 c.on.pos,.str c.name,.slice (Ag c.targs)]
def N8(l:List B8):List (List D):=l.map G6
abbrev caS(c:B8):List SV:=[.d (.str c.on.name),.d (.slice (Ag c.on.args)),.d (.int .i64 c.on.pos),.d (.str c.name),.d (.slice (Ag c.targs))]
abbrev caV(c:B8):SV:=.agg (caS c)
abbrev Jg(s:Am):List SV:=[.d (.slice (Ag s.types)),.d (.slice (N8 s.calls)),.d (.bool s.D9)]
abbrev Ke(s:Am):SV:=.agg (Jg s)
def Gn(l:List B8):(N8 l).length=l.length:=by simp[N8]
def Jq{l:List B8}{i:Nat}{c:B8}(h:l[i]?=some c):(N8 l)[i]?=some (G6 c):=by simp[N8,h]
def A9b(l:List B8):N8 l=l.map G6:=rfl
structure B8.Sm(c:B8):Prop where
 on:c.on.Sm
 name:c.name.length<=60000000*sm
 targs:c.targs.length<=sm/\∀t,t∈c.targs->t.Sm
structure Am.Sm(s:Am):Prop where
 types:s.types.length<=sm/\∀t,t∈s.types->t.Sm
 calls:s.calls.length<=sm/\∀t,t∈s.calls->t.Sm
def Dk(a b:B8):Int:=if E6 a.on b.on=0 then(if Bw a.name b.name=0 then E6 (.mk [] a.targs 0) (.mk [] b.targs 0)else Bw a.name b.name)else E6 a.on b.on
abbrev Nu:List Nat:=[0,1,2,3,4,5,12,19]
def E8r(a:B8)(O:a.Sm)(b:B8):Ab Tryz.prog 103 [caV a,caV b] (A7 (Dk a b)):=by
 have J:=C1h a.on O.on b.on;have U:=B4z a.name b.name;have V:=C1h (.mk [] a.targs 0) (.mk _ _ _ (by simp) O.targs.1 O.targs.2) (.mk [] b.targs 0);unfold Dk;generalize E6 (.mk [] a.targs 0) (.mk [] b.targs 0)=z at*;generalize E6 a.on b.on=x at*;generalize Bw a.name b.name=y at*;by_cases I:x=0
 .subst I;rw[A6 rfl];by_cases L:y=0;subst L;rw[A6 rfl];refine cB func103 ?_;refine sR Nu ?_;refine sC J Nu ?_;refine kR Nu λE u1=>?_;refine A0.tt rfl ?_;(refine lV Nu λK z=>?_;refine cc U ?_;apply z;clear z K;try simp only[A5,A9,Ac]);refine u1 _ _ ?_;clear u1 E;refine kR Nu λE u1=>?_;refine A0.tt rfl ?_;(refine lV Nu λK z=>?_;refine cc V ?_;apply z;clear z K;try simp only[A5,A9,Ac]);refine u1 _ _<|sR Nu ?_;exact aR
  rw[A3 L];refine cB func103 ?_;refine sR Nu ?_;refine sC J Nu ?_;refine kR Nu λE u1=>?_;refine A0.tt rfl ?_;(refine lV Nu λK z=>?_;refine cc U ?_;apply z;clear z K;try simp only[A5,A9,Ac]);refine u1 _ _ ?_;clear u1 E;refine Ae L Nu λE u1=>?_;refine A0.ff rfl (A0.kk (u1 _ _ ?_));refine sR Nu ?_;exact aR
 rw[A3 I];refine cB func103 ?_;refine sR Nu ?_;refine sC J Nu ?_;refine Ae I Nu λE u1=>?_;refine A0.ff rfl (A0.kk (u1 _ _ ?_));clear u1 E;refine Ae I Nu λE u1=>?_;refine A0.ff rfl (A0.kk (u1 _ _ ?_));refine sR Nu ?_;exact aR
def Fy{α:Type}(cmp:α->α->Int)(x:α):List α->Bool->List α->Option (List α)
 |[],done,out=>some (if done then out else out++[x])
 |t::ts,done,out=>if cmp x t=0 then none else if cmp x t<0/\done=false then Fy cmp x ts true (out++[x,t])else Fy cmp x ts done (out++[t])
def Iu{α:Type}(cmp:α->α->Int)(l:List α)(x:α):List α:=(Fy cmp x l false []).getD l
def Gr(s:Am)(x:Ty):Am:=if 100<s.types.length then{ s with D9:=true } else{ s with types:=Iu E6 s.types x }
def Gp(s:Am)(x:B8):Am:=if 100<s.calls.length then{ s with D9:=true } else{ s with calls:=Iu Dk s.calls x }
abbrev Ge:List Nat:=[0,1,2,3,4,5,6,7,8,12,19,30,37,51]
def G3k(s:Am)(hs:s.Sm)(x:Ty)(hx:x.Sm)(Z:∀t,Ab Tryz.prog 102 [.agg (Q9 x),.agg (Q9 t)] (A7 (E6 x t))):Ab Tryz.prog 40 [Ke s,.agg (Q9 x)] (Ke (Gr s x)):=by
 unfold Gr;have a7:=hs.types.1;by_cases L:100<s.types.length
 .rw[A6 L];have hb:(s.types.length:Int) > 100:=by omega
  refine cB func40 ?_;refine sR Ge<|sK λU u1=>?_
  refine sQ Ge λK z=>?_;simp -implicitDefEqProofs only[EV,G0,G2,Nat.reduceAdd,Nat.reduceEqDiff,Nat.reduceBEq,Nat.reduceLeDiff,Nat.reduceSub,Nat.reduceMul,Int.reduceEq,Int.reduceLT,Int.reduceLE,Int.reduceSub,Int.reduceAdd,Int.reduceToNat,reduceCtorEq,Int.reduceNeg,TFA,hb,Gn];apply z;clear z K;refine A0.tt rfl<|sR Ge ?_;refine sR Ge ?_;exact aR
 rw[A3 L];have hb:¬(s.types.length:Int) > 100:=by omega
 have hR:∃R,Fy E6 x s.types false []=R:=⟨_,rfl⟩;obtain⟨R,hR⟩:=hR;have W:Iu E6 s.types x=R.getD s.types:=by unfold Iu;rw[hR]
 rw[W];refine cB func40 ?_;refine sR Ge<|sK λU u1=>?_
 refine sQ Ge λK z=>?_;simp -implicitDefEqProofs only[EV,G0,G2,Nat.reduceAdd,Nat.reduceEqDiff,Nat.reduceBEq,Nat.reduceLeDiff,Nat.reduceSub,Nat.reduceMul,Int.reduceEq,Int.reduceLT,Int.reduceLE,Int.reduceSub,Int.reduceAdd,Int.reduceToNat,reduceCtorEq,Int.reduceNeg,TFA,hb,Gn];apply z;clear z K;refine A0.ff rfl (A0.kk (u1 _ _ ?_));clear u1 U;refine sR Ge ?_;refine A0.pp 5 3 5 rfl<|sR Ge ?_;refine kR Ge λU u1=>?_;refine A0.bb (A0.loop (X:=Nat × Bool × List Ty) (λz=>[(2,.box 2 0),(3,.box 3 0),(4,.box 4 0),(5,.acc 5),(6,B1 z.2.1),(7,A7 z.1)]) (λz=>[(2,.cells (Jg s)),(3,.cells (Q9 x)),(4,.cells [.d .nil,.d .nil,.d (.bool false)]),(5,.rows 3 (Ag z.2.2))]) (λz=>z.1<=s.types.length/\Fy E6 x (s.types.drop z.1) z.2.1 z.2.2=R/\z.2.2.length<=z.1+1/\(z.2.1=false->z.2.2.length<=z.1)) (λz=>s.types.length - z.1) (0,false,[]) ⟨Tf _,hR,by simp,by simp⟩ sS (by simp[ble,A8,H3]) ?_)
 rintro⟨i,done,out⟩ ⟨hi,E,a0,a4⟩;simp only at hi E a0 a4 |-;have a8:True:=trivial;by_cases a3:i=s.types.length
 .have a5:¬(i:Int)<(s.types.length:Int):=by omega
  rw[a3,D3,Fy]at E;refine sK λO u2=>?_
  (refine sQ Ge λK z=>?_;simp -implicitDefEqProofs only[EV,G0,G2,Nat.reduceAdd,Nat.reduceEqDiff,Nat.reduceBEq,Nat.reduceLeDiff,Nat.reduceSub,Nat.reduceMul,Int.reduceEq,Int.reduceLT,Int.reduceLE,Int.reduceSub,Int.reduceAdd,Int.reduceToNat,reduceCtorEq,Int.reduceNeg,TFA,a5,Gn];apply z;clear z K)
  refine A0.ss rfl ?_;simp only[A5,A9,Ac];refine u1 _ _ ?_;clear u2 O u1 U;refine sK λU u1=>?_;cases done with
  |true =>simp at E;subst E;refine sR Ge ?_;refine A0.ff rfl (A0.kk (u1 _ _ ?_));clear u1 U;refine sR Ge ?_;refine sR Ge ?_;exact aR
  |false =>
   simp at E;subst E;refine sR Ge ?_;refine A0.tt rfl ?_;(refine lQ Ge λK z=>?_;simp -implicitDefEqProofs only[EV,G0,G2,Nat.reduceAdd,Nat.reduceEqDiff,Nat.reduceBEq,Nat.reduceLeDiff,Nat.reduceSub,Nat.reduceMul,Int.reduceEq,Int.reduceLT,Int.reduceLE,Int.reduceSub,Int.reduceAdd,Int.reduceToNat,reduceCtorEq,Int.reduceNeg,TFA,Gn];refine⟨by simp,by unfold lim sm at*;omega,?_⟩;(try simp -implicitDefEqProofs only[EV,G0,G2,Nat.reduceAdd,Nat.reduceEqDiff,Nat.reduceBEq,Nat.reduceLeDiff,Nat.reduceSub,Nat.reduceMul,Int.reduceEq,Int.reduceLT,Int.reduceLE,Int.reduceSub,Int.reduceAdd,Int.reduceToNat,reduceCtorEq,Int.reduceNeg,TFA,Gn]);apply z;clear z K;try simp only[A5,A9,Ac]);refine u1 _ _ ?_;clear u1 U;refine sR Ge ?_;refine sR Ge ?_;have a1:Ke { s with types:=(some (out++[x])).getD s.types }=.agg [.d (.slice (Ag out++[Bs x])),.d (.slice (N8 s.calls)),.d (.bool s.D9)]:=by simp[H3]
   rw[a1];exact aR
 .have a6:(i:Int)<(s.types.length:Int):=by omega
  obtain⟨t,ht⟩:∃t,s.types[i]?=some t:=⟨_,Br (by omega)⟩;have hd:s.types.drop i=t::s.types.drop (i+1):=by
   rw[Gv (by omega)]
   congr 1
   have:=Aw.1 ht;exact this.2
  rw[hd,Fy]at E;have hc:=Z t;generalize E6 x t=c at*;refine sK λO u2=>?_;refine sQ Ge λK z=>?_;simp -implicitDefEqProofs only[EV,G0,G2,Nat.reduceAdd,Nat.reduceEqDiff,Nat.reduceBEq,Nat.reduceLeDiff,Nat.reduceSub,Nat.reduceMul,Int.reduceEq,Int.reduceLT,Int.reduceLE,Int.reduceSub,Int.reduceAdd,Int.reduceToNat,reduceCtorEq,Int.reduceNeg,TFA,a6,Gn];apply z;clear z K;refine gI u2 ?_;clear u2 O;refine sK λO u2=>A0.bb ?_;refine sG Ge [] 6 [] λK z=>?_;simp -implicitDefEqProofs only[EV,G0,G2,Nat.reduceAdd,Nat.reduceEqDiff,Nat.reduceBEq,Nat.reduceLeDiff,Nat.reduceSub,Nat.reduceMul,Int.reduceEq,Int.reduceLT,Int.reduceLE,Int.reduceSub,Int.reduceAdd,Int.reduceToNat,reduceCtorEq,Int.reduceNeg,TFA,Bs];refine⟨by omega,_,Ev ht,rfl,?_⟩;(try simp -implicitDefEqProofs only[EV,G0,G2,Nat.reduceAdd,Nat.reduceEqDiff,Nat.reduceBEq,Nat.reduceLeDiff,Nat.reduceSub,Nat.reduceMul,Int.reduceEq,Int.reduceLT,Int.reduceLE,Int.reduceSub,Int.reduceAdd,Int.reduceToNat,reduceCtorEq,Int.reduceNeg,TFA,Bs]);refine⟨_,.inl ⟨_,rfl,hc,rfl⟩,?_⟩;(try simp -implicitDefEqProofs only[EV,G0,G2,Nat.reduceAdd,Nat.reduceEqDiff,Nat.reduceBEq,Nat.reduceLeDiff,Nat.reduceSub,Nat.reduceMul,Int.reduceEq,Int.reduceLT,Int.reduceLE,Int.reduceSub,Int.reduceAdd,Int.reduceToNat,reduceCtorEq,Int.reduceNeg,TFA,Bs]);apply z;clear z K;refine sK λV J=>?_;by_cases h0:c=0;subst h0;rw[A6 rfl]at E;subst E;refine sR Ge ?_;refine A0.tt rfl<|sR Ge ?_;exact aR
  rw[A3 h0]at E;refine Ap h0 Ge ?_;refine A0.ff rfl (A0.kk (J _ _ ?_));clear J V;refine sK λV J=>?_;by_cases hn:c<0/\done=false;obtain⟨I,rfl⟩:=hn;rw[A6 ⟨I,rfl⟩]at E;refine Ap I Ge ?_;refine A0.tt rfl ?_;refine sQ Ge λK z=>?_;simp -implicitDefEqProofs only[EV,G0,G2,Nat.reduceAdd,Nat.reduceEqDiff,Nat.reduceBEq,Nat.reduceLeDiff,Nat.reduceSub,Nat.reduceMul,Int.reduceEq,Int.reduceLT,Int.reduceLE,Int.reduceSub,Int.reduceAdd,Int.reduceToNat,reduceCtorEq,Int.reduceNeg,TFA,Gn];refine⟨by simp,by unfold lim sm at*;omega,?_⟩;(try simp -implicitDefEqProofs only[EV,G0,G2,Nat.reduceAdd,Nat.reduceEqDiff,Nat.reduceBEq,Nat.reduceLeDiff,Nat.reduceSub,Nat.reduceMul,Int.reduceEq,Int.reduceLT,Int.reduceLE,Int.reduceSub,Int.reduceAdd,Int.reduceToNat,reduceCtorEq,Int.reduceNeg,TFA,Gn]);apply z;clear z K;(refine lV Ge λK z=>?_;apply z;clear z K;try simp only[A5,A9,Ac]);refine J _ _ ?_;clear J V;(refine lQ Ge λK z=>?_;simp -implicitDefEqProofs only[EV,G0,G2,Nat.reduceAdd,Nat.reduceEqDiff,Nat.reduceBEq,Nat.reduceLeDiff,Nat.reduceSub,Nat.reduceMul,Int.reduceEq,Int.reduceLT,Int.reduceLE,Int.reduceSub,Int.reduceAdd,Int.reduceToNat,reduceCtorEq,Int.reduceNeg,TFA,Bs,Gn,As,Ar,Az];refine⟨by omega,_,Ev ht,rfl,?_⟩;(try simp -implicitDefEqProofs only[EV,G0,G2,Nat.reduceAdd,Nat.reduceEqDiff,Nat.reduceBEq,Nat.reduceLeDiff,Nat.reduceSub,Nat.reduceMul,Int.reduceEq,Int.reduceLT,Int.reduceLE,Int.reduceSub,Int.reduceAdd,Int.reduceToNat,reduceCtorEq,Int.reduceNeg,TFA,Bs,Gn,As,Ar,Az]);refine⟨by simp,by unfold lim sm at*;omega,?_⟩;(try simp -implicitDefEqProofs only[EV,G0,G2,Nat.reduceAdd,Nat.reduceEqDiff,Nat.reduceBEq,Nat.reduceLeDiff,Nat.reduceSub,Nat.reduceMul,Int.reduceEq,Int.reduceLT,Int.reduceLE,Int.reduceSub,Int.reduceAdd,Int.reduceToNat,reduceCtorEq,Int.reduceNeg,TFA,Bs,Gn,As,Ar,Az]);apply z;clear z K;try simp only[A5,A9,Ac]);refine u2 _ _ ?_;clear u2 O;(refine lV Ge λK z=>?_;refine cl ?_;apply z;clear z K;try simp only[A5,A9,Ac]);exact⟨(i+1,true,out++[x,t]),⟨by simp only;omega,E,by grind,by simp⟩,by simp only;omega,sS,by simp[ble,A8,H3,Bs]⟩
  .rw[A3 hn]at E;have a2:(decide (c<0) && !done)=false:=by grind
   cases done with
   |true =>
    by_cases I:c<0;refine Ap I Ge ?_;refine A0.ff rfl (A0.kk (J _ _ ?_));clear J V;(refine lQ Ge λK z=>?_;simp -implicitDefEqProofs only[EV,G0,G2,Nat.reduceAdd,Nat.reduceEqDiff,Nat.reduceBEq,Nat.reduceLeDiff,Nat.reduceSub,Nat.reduceMul,Int.reduceEq,Int.reduceLT,Int.reduceLE,Int.reduceSub,Int.reduceAdd,Int.reduceToNat,reduceCtorEq,Int.reduceNeg,TFA,Bs,Gn,As,Ar,Az];refine⟨by omega,_,Ev ht,rfl,?_⟩;(try simp -implicitDefEqProofs only[EV,G0,G2,Nat.reduceAdd,Nat.reduceEqDiff,Nat.reduceBEq,Nat.reduceLeDiff,Nat.reduceSub,Nat.reduceMul,Int.reduceEq,Int.reduceLT,Int.reduceLE,Int.reduceSub,Int.reduceAdd,Int.reduceToNat,reduceCtorEq,Int.reduceNeg,TFA,Bs,Gn,As,Ar,Az]);refine⟨by simp,by unfold lim sm at*;omega,?_⟩;(try simp -implicitDefEqProofs only[EV,G0,G2,Nat.reduceAdd,Nat.reduceEqDiff,Nat.reduceBEq,Nat.reduceLeDiff,Nat.reduceSub,Nat.reduceMul,Int.reduceEq,Int.reduceLT,Int.reduceLE,Int.reduceSub,Int.reduceAdd,Int.reduceToNat,reduceCtorEq,Int.reduceNeg,TFA,Bs,Gn,As,Ar,Az]);apply z;clear z K;try simp only[A5,A9,Ac]);refine u2 _ _ ?_;clear u2 O;(refine lV Ge λK z=>?_;refine cl ?_;apply z;clear z K;try simp only[A5,A9,Ac]);exact⟨(i+1,true,out++[t]),⟨by simp only;omega,E,by simp;omega,by simp⟩,by simp only;omega,sS,by simp[ble,A8,H3,Bs]⟩;refine Ap I Ge ?_;refine A0.ff rfl (A0.kk (J _ _ ?_));clear J V;(refine lQ Ge λK z=>?_;simp -implicitDefEqProofs only[EV,G0,G2,Nat.reduceAdd,Nat.reduceEqDiff,Nat.reduceBEq,Nat.reduceLeDiff,Nat.reduceSub,Nat.reduceMul,Int.reduceEq,Int.reduceLT,Int.reduceLE,Int.reduceSub,Int.reduceAdd,Int.reduceToNat,reduceCtorEq,Int.reduceNeg,TFA,Bs,Gn,As,Ar,Az];refine⟨by omega,_,Ev ht,rfl,?_⟩;(try simp -implicitDefEqProofs only[EV,G0,G2,Nat.reduceAdd,Nat.reduceEqDiff,Nat.reduceBEq,Nat.reduceLeDiff,Nat.reduceSub,Nat.reduceMul,Int.reduceEq,Int.reduceLT,Int.reduceLE,Int.reduceSub,Int.reduceAdd,Int.reduceToNat,reduceCtorEq,Int.reduceNeg,TFA,Bs,Gn,As,Ar,Az]);refine⟨by simp,by unfold lim sm at*;omega,?_⟩;(try simp -implicitDefEqProofs only[EV,G0,G2,Nat.reduceAdd,Nat.reduceEqDiff,Nat.reduceBEq,Nat.reduceLeDiff,Nat.reduceSub,Nat.reduceMul,Int.reduceEq,Int.reduceLT,Int.reduceLE,Int.reduceSub,Int.reduceAdd,Int.reduceToNat,reduceCtorEq,Int.reduceNeg,TFA,Bs,Gn,As,Ar,Az]);apply z;clear z K;try simp only[A5,A9,Ac]);refine u2 _ _ ?_;clear u2 O;(refine lV Ge λK z=>?_;refine cl ?_;apply z;clear z K;try simp only[A5,A9,Ac]);exact⟨(i+1,true,out++[t]),⟨by simp only;omega,E,by simp;omega,by simp⟩,by simp only;omega,sS,by simp[ble,A8,H3,Bs]⟩
   |false =>
    have I:¬c<0:=λh=>hn ⟨h,rfl⟩;refine Ap I Ge ?_;refine A0.ff rfl (A0.kk (J _ _ ?_));clear J V;(refine lQ Ge λK z=>?_;simp -implicitDefEqProofs only[EV,G0,G2,Nat.reduceAdd,Nat.reduceEqDiff,Nat.reduceBEq,Nat.reduceLeDiff,Nat.reduceSub,Nat.reduceMul,Int.reduceEq,Int.reduceLT,Int.reduceLE,Int.reduceSub,Int.reduceAdd,Int.reduceToNat,reduceCtorEq,Int.reduceNeg,TFA,Bs,Gn,As,Ar,Az];refine⟨by omega,_,Ev ht,rfl,?_⟩;(try simp -implicitDefEqProofs only[EV,G0,G2,Nat.reduceAdd,Nat.reduceEqDiff,Nat.reduceBEq,Nat.reduceLeDiff,Nat.reduceSub,Nat.reduceMul,Int.reduceEq,Int.reduceLT,Int.reduceLE,Int.reduceSub,Int.reduceAdd,Int.reduceToNat,reduceCtorEq,Int.reduceNeg,TFA,Bs,Gn,As,Ar,Az]);refine⟨by simp,by unfold lim sm at*;omega,?_⟩;(try simp -implicitDefEqProofs only[EV,G0,G2,Nat.reduceAdd,Nat.reduceEqDiff,Nat.reduceBEq,Nat.reduceLeDiff,Nat.reduceSub,Nat.reduceMul,Int.reduceEq,Int.reduceLT,Int.reduceLE,Int.reduceSub,Int.reduceAdd,Int.reduceToNat,reduceCtorEq,Int.reduceNeg,TFA,Bs,Gn,As,Ar,Az]);apply z;clear z K;try simp only[A5,A9,Ac]);refine u2 _ _ ?_;clear u2 O;(refine lV Ge λK z=>?_;refine cl ?_;apply z;clear z K;try simp only[A5,A9,Ac]);exact⟨(i+1,false,out++[t]),⟨by simp only;omega,E,by grind,λ_=>by grind⟩,by simp only;omega,sS,by simp[ble,A8,H3,Bs]⟩
abbrev Gj:List Nat:=[0,1,2,3,4,5,6,7,8,12,19,30,37,51]
def G6z(s:Am)(hs:s.Sm)(x:B8)(hx:x.Sm)(Z:∀t,Ab Tryz.prog 103 [.agg (caS x),.agg (caS t)] (A7 (Dk x t))):Ab Tryz.prog 41 [Ke s,.agg (caS x)] (Ke (Gp s x)):=by
 unfold Gp;have a7:=hs.calls.1;by_cases L:100<s.calls.length
 .rw[A6 L];have hb:(s.calls.length:Int) > 100:=by omega
  refine cB func41 ?_;refine sR Gj<|sK λU u1=>?_
  refine sQ Gj λK z=>?_;simp -implicitDefEqProofs only[EV,G0,G2,Nat.reduceAdd,Nat.reduceEqDiff,Nat.reduceBEq,Nat.reduceLeDiff,Nat.reduceSub,Nat.reduceMul,Int.reduceEq,Int.reduceLT,Int.reduceLE,Int.reduceSub,Int.reduceAdd,Int.reduceToNat,reduceCtorEq,Int.reduceNeg,TFA,hb,Gn];apply z;clear z K;refine A0.tt rfl<|sR Gj ?_;refine sR Gj ?_;exact aR
 rw[A3 L];have hb:¬(s.calls.length:Int) > 100:=by omega
 have hR:∃R,Fy Dk x s.calls false []=R:=⟨_,rfl⟩;obtain⟨R,hR⟩:=hR;have W:Iu Dk s.calls x=R.getD s.calls:=by unfold Iu;rw[hR]
 rw[W];refine cB func41 ?_;refine sR Gj<|sK λU u1=>?_
 refine sQ Gj λK z=>?_;simp -implicitDefEqProofs only[EV,G0,G2,Nat.reduceAdd,Nat.reduceEqDiff,Nat.reduceBEq,Nat.reduceLeDiff,Nat.reduceSub,Nat.reduceMul,Int.reduceEq,Int.reduceLT,Int.reduceLE,Int.reduceSub,Int.reduceAdd,Int.reduceToNat,reduceCtorEq,Int.reduceNeg,TFA,hb,Gn];apply z;clear z K;refine A0.ff rfl (A0.kk (u1 _ _ ?_));clear u1 U;refine sR Gj ?_;refine A0.pp 5 5 5 rfl<|sR Gj ?_;refine kR Gj λU u1=>?_;refine A0.bb (A0.loop (X:=Nat × Bool × List B8) (λz=>[(2,.box 2 0),(3,.box 3 0),(4,.box 4 0),(5,.acc 5),(6,B1 z.2.1),(7,A7 z.1)]) (λz=>[(2,.cells (Jg s)),(3,.cells (caS x)),(4,.cells [.d .nil,.d .nil,.d (.bool false)]),(5,.rows 5 (N8 z.2.2))]) (λz=>z.1<=s.calls.length/\Fy Dk x (s.calls.drop z.1) z.2.1 z.2.2=R/\z.2.2.length<=z.1+1/\(z.2.1=false->z.2.2.length<=z.1)) (λz=>s.calls.length - z.1) (0,false,[]) ⟨Tf _,hR,by simp,by simp⟩ sS (by simp[ble,A8,A9b]) ?_)
 rintro⟨i,done,out⟩ ⟨hi,E,a0,a4⟩;simp only at hi E a0 a4 |-;have a8:True:=trivial;by_cases a3:i=s.calls.length
 .have a5:¬(i:Int)<(s.calls.length:Int):=by omega
  rw[a3,D3,Fy]at E;refine sK λO u2=>?_
  (refine sQ Gj λK z=>?_;simp -implicitDefEqProofs only[EV,G0,G2,Nat.reduceAdd,Nat.reduceEqDiff,Nat.reduceBEq,Nat.reduceLeDiff,Nat.reduceSub,Nat.reduceMul,Int.reduceEq,Int.reduceLT,Int.reduceLE,Int.reduceSub,Int.reduceAdd,Int.reduceToNat,reduceCtorEq,Int.reduceNeg,TFA,a5,Gn];apply z;clear z K)
  refine A0.ss rfl ?_;simp only[A5,A9,Ac];refine u1 _ _ ?_;clear u2 O u1 U;refine sK λU u1=>?_;cases done with
  |true =>simp at E;subst E;refine sR Gj ?_;refine A0.ff rfl (A0.kk (u1 _ _ ?_));clear u1 U;refine sR Gj ?_;refine sR Gj ?_;exact aR
  |false =>
   simp at E;subst E;refine sR Gj ?_;refine A0.tt rfl ?_;(refine lQ Gj λK z=>?_;simp -implicitDefEqProofs only[EV,G0,G2,Nat.reduceAdd,Nat.reduceEqDiff,Nat.reduceBEq,Nat.reduceLeDiff,Nat.reduceSub,Nat.reduceMul,Int.reduceEq,Int.reduceLT,Int.reduceLE,Int.reduceSub,Int.reduceAdd,Int.reduceToNat,reduceCtorEq,Int.reduceNeg,TFA,Gn];refine⟨by simp,by unfold lim sm at*;omega,?_⟩;(try simp -implicitDefEqProofs only[EV,G0,G2,Nat.reduceAdd,Nat.reduceEqDiff,Nat.reduceBEq,Nat.reduceLeDiff,Nat.reduceSub,Nat.reduceMul,Int.reduceEq,Int.reduceLT,Int.reduceLE,Int.reduceSub,Int.reduceAdd,Int.reduceToNat,reduceCtorEq,Int.reduceNeg,TFA,Gn]);apply z;clear z K;try simp only[A5,A9,Ac]);refine u1 _ _ ?_;clear u1 U;refine sR Gj ?_;refine sR Gj ?_;have a1:Ke { s with calls:=(some (out++[x])).getD s.calls }=.agg [.d (.slice (Ag s.types)),.d (.slice (N8 out++[G6 x])),.d (.bool s.D9)]:=by simp[A9b]
   rw[a1];exact aR
 .have a6:(i:Int)<(s.calls.length:Int):=by omega
  obtain⟨t,ht⟩:∃t,s.calls[i]?=some t:=⟨_,Br (by omega)⟩;have hd:s.calls.drop i=t::s.calls.drop (i+1):=by
   rw[Gv (by omega)]
   congr 1
   have:=Aw.1 ht;exact this.2
  rw[hd,Fy]at E;have hc:=Z t;generalize Dk x t=c at*;refine sK λO u2=>?_;refine sQ Gj λK z=>?_;simp -implicitDefEqProofs only[EV,G0,G2,Nat.reduceAdd,Nat.reduceEqDiff,Nat.reduceBEq,Nat.reduceLeDiff,Nat.reduceSub,Nat.reduceMul,Int.reduceEq,Int.reduceLT,Int.reduceLE,Int.reduceSub,Int.reduceAdd,Int.reduceToNat,reduceCtorEq,Int.reduceNeg,TFA,a6,Gn];apply z;clear z K;refine gI u2 ?_;clear u2 O;refine sK λO u2=>A0.bb ?_;refine sG Gj [] 6 [] λK z=>?_;simp -implicitDefEqProofs only[EV,G0,G2,Nat.reduceAdd,Nat.reduceEqDiff,Nat.reduceBEq,Nat.reduceLeDiff,Nat.reduceSub,Nat.reduceMul,Int.reduceEq,Int.reduceLT,Int.reduceLE,Int.reduceSub,Int.reduceAdd,Int.reduceToNat,reduceCtorEq,Int.reduceNeg,TFA,G6];refine⟨by omega,_,Jq ht,rfl,?_⟩;(try simp -implicitDefEqProofs only[EV,G0,G2,Nat.reduceAdd,Nat.reduceEqDiff,Nat.reduceBEq,Nat.reduceLeDiff,Nat.reduceSub,Nat.reduceMul,Int.reduceEq,Int.reduceLT,Int.reduceLE,Int.reduceSub,Int.reduceAdd,Int.reduceToNat,reduceCtorEq,Int.reduceNeg,TFA,G6]);refine⟨_,.inl ⟨_,rfl,hc,rfl⟩,?_⟩;apply z;clear z K;refine sK λV J=>?_;by_cases h0:c=0;subst h0;rw[A6 rfl]at E;subst E;refine sR Gj ?_;refine A0.tt rfl<|sR Gj ?_;exact aR
  rw[A3 h0]at E;refine Ap h0 Gj ?_;refine A0.ff rfl (A0.kk (J _ _ ?_));clear J V;refine sK λV J=>?_;by_cases hn:c<0/\done=false;obtain⟨I,rfl⟩:=hn;rw[A6 ⟨I,rfl⟩]at E;refine Ap I Gj ?_;refine A0.tt rfl ?_;refine sQ Gj λK z=>?_;simp -implicitDefEqProofs only[EV,G0,G2,Nat.reduceAdd,Nat.reduceEqDiff,Nat.reduceBEq,Nat.reduceLeDiff,Nat.reduceSub,Nat.reduceMul,Int.reduceEq,Int.reduceLT,Int.reduceLE,Int.reduceSub,Int.reduceAdd,Int.reduceToNat,reduceCtorEq,Int.reduceNeg,TFA,Gn];refine⟨by simp,by unfold lim sm at*;omega,?_⟩;(try simp -implicitDefEqProofs only[EV,G0,G2,Nat.reduceAdd,Nat.reduceEqDiff,Nat.reduceBEq,Nat.reduceLeDiff,Nat.reduceSub,Nat.reduceMul,Int.reduceEq,Int.reduceLT,Int.reduceLE,Int.reduceSub,Int.reduceAdd,Int.reduceToNat,reduceCtorEq,Int.reduceNeg,TFA,Gn]);apply z;clear z K;(refine lV Gj λK z=>?_;apply z;clear z K;try simp only[A5,A9,Ac]);refine J _ _ ?_;clear J V;(refine lQ Gj λK z=>?_;simp -implicitDefEqProofs only[EV,G0,G2,Nat.reduceAdd,Nat.reduceEqDiff,Nat.reduceBEq,Nat.reduceLeDiff,Nat.reduceSub,Nat.reduceMul,Int.reduceEq,Int.reduceLT,Int.reduceLE,Int.reduceSub,Int.reduceAdd,Int.reduceToNat,reduceCtorEq,Int.reduceNeg,TFA,G6,Gn,As,Ar,Az];refine⟨by omega,_,Jq ht,rfl,?_⟩;(try simp -implicitDefEqProofs only[EV,G0,G2,Nat.reduceAdd,Nat.reduceEqDiff,Nat.reduceBEq,Nat.reduceLeDiff,Nat.reduceSub,Nat.reduceMul,Int.reduceEq,Int.reduceLT,Int.reduceLE,Int.reduceSub,Int.reduceAdd,Int.reduceToNat,reduceCtorEq,Int.reduceNeg,TFA,G6,Gn,As,Ar,Az]);refine⟨by simp,by unfold lim sm at*;omega,?_⟩;apply z;clear z K;try simp only[A5,A9,Ac]);refine u2 _ _ ?_;clear u2 O;(refine lV Gj λK z=>?_;refine cl ?_;apply z;clear z K;try simp only[A5,A9,Ac]);exact⟨(i+1,true,out++[x,t]),⟨by simp only;omega,E,by grind,by simp⟩,by simp only;omega,sS,by simp[ble,A8,A9b,G6]⟩
  .rw[A3 hn]at E;have a2:(decide (c<0) && !done)=false:=by grind
   cases done with
   |true =>
    by_cases I:c<0;refine Ap I Gj ?_;refine A0.ff rfl (A0.kk (J _ _ ?_));clear J V;(refine lQ Gj λK z=>?_;simp -implicitDefEqProofs only[EV,G0,G2,Nat.reduceAdd,Nat.reduceEqDiff,Nat.reduceBEq,Nat.reduceLeDiff,Nat.reduceSub,Nat.reduceMul,Int.reduceEq,Int.reduceLT,Int.reduceLE,Int.reduceSub,Int.reduceAdd,Int.reduceToNat,reduceCtorEq,Int.reduceNeg,TFA,G6,Gn,As,Ar,Az];refine⟨by omega,_,Jq ht,rfl,?_⟩;(try simp -implicitDefEqProofs only[EV,G0,G2,Nat.reduceAdd,Nat.reduceEqDiff,Nat.reduceBEq,Nat.reduceLeDiff,Nat.reduceSub,Nat.reduceMul,Int.reduceEq,Int.reduceLT,Int.reduceLE,Int.reduceSub,Int.reduceAdd,Int.reduceToNat,reduceCtorEq,Int.reduceNeg,TFA,G6,Gn,As,Ar,Az]);refine⟨by simp,by unfold lim sm at*;omega,?_⟩;apply z;clear z K;try simp only[A5,A9,Ac]);refine u2 _ _ ?_;clear u2 O;(refine lV Gj λK z=>?_;refine cl ?_;apply z;clear z K;try simp only[A5,A9,Ac]);exact⟨(i+1,true,out++[t]),⟨by simp only;omega,E,by simp;omega,by simp⟩,by simp only;omega,sS,by simp[ble,A8,A9b,G6]⟩;refine Ap I Gj ?_;refine A0.ff rfl (A0.kk (J _ _ ?_));clear J V;(refine lQ Gj λK z=>?_;simp -implicitDefEqProofs only[EV,G0,G2,Nat.reduceAdd,Nat.reduceEqDiff,Nat.reduceBEq,Nat.reduceLeDiff,Nat.reduceSub,Nat.reduceMul,Int.reduceEq,Int.reduceLT,Int.reduceLE,Int.reduceSub,Int.reduceAdd,Int.reduceToNat,reduceCtorEq,Int.reduceNeg,TFA,G6,Gn,As,Ar,Az];refine⟨by omega,_,Jq ht,rfl,?_⟩;(try simp -implicitDefEqProofs only[EV,G0,G2,Nat.reduceAdd,Nat.reduceEqDiff,Nat.reduceBEq,Nat.reduceLeDiff,Nat.reduceSub,Nat.reduceMul,Int.reduceEq,Int.reduceLT,Int.reduceLE,Int.reduceSub,Int.reduceAdd,Int.reduceToNat,reduceCtorEq,Int.reduceNeg,TFA,G6,Gn,As,Ar,Az]);refine⟨by simp,by unfold lim sm at*;omega,?_⟩;apply z;clear z K;try simp only[A5,A9,Ac]);refine u2 _ _ ?_;clear u2 O;(refine lV Gj λK z=>?_;refine cl ?_;apply z;clear z K;try simp only[A5,A9,Ac]);exact⟨(i+1,true,out++[t]),⟨by simp only;omega,E,by simp;omega,by simp⟩,by simp only;omega,sS,by simp[ble,A8,A9b,G6]⟩
   |false =>
    have I:¬c<0:=λh=>hn ⟨h,rfl⟩;refine Ap I Gj ?_;refine A0.ff rfl (A0.kk (J _ _ ?_));clear J V;(refine lQ Gj λK z=>?_;simp -implicitDefEqProofs only[EV,G0,G2,Nat.reduceAdd,Nat.reduceEqDiff,Nat.reduceBEq,Nat.reduceLeDiff,Nat.reduceSub,Nat.reduceMul,Int.reduceEq,Int.reduceLT,Int.reduceLE,Int.reduceSub,Int.reduceAdd,Int.reduceToNat,reduceCtorEq,Int.reduceNeg,TFA,G6,Gn,As,Ar,Az];refine⟨by omega,_,Jq ht,rfl,?_⟩;(try simp -implicitDefEqProofs only[EV,G0,G2,Nat.reduceAdd,Nat.reduceEqDiff,Nat.reduceBEq,Nat.reduceLeDiff,Nat.reduceSub,Nat.reduceMul,Int.reduceEq,Int.reduceLT,Int.reduceLE,Int.reduceSub,Int.reduceAdd,Int.reduceToNat,reduceCtorEq,Int.reduceNeg,TFA,G6,Gn,As,Ar,Az]);refine⟨by simp,by unfold lim sm at*;omega,?_⟩;apply z;clear z K;try simp only[A5,A9,Ac]);refine u2 _ _ ?_;clear u2 O;(refine lV Gj λK z=>?_;refine cl ?_;apply z;clear z K;try simp only[A5,A9,Ac]);exact⟨(i+1,false,out++[t]),⟨by simp only;omega,E,by grind,λ_=>by grind⟩,by simp only;omega,sS,by simp[ble,A8,A9b,G6]⟩
def B0k(s:Am)(hs:s.Sm)(x:Ty)(E:x.Sm):Ab Tryz.prog 40 [Ke s,Be x] (Ke (Gr s x)):=G3k s hs x E (λt=>C1h x E t)
def D1b(s:Am)(hs:s.Sm)(x:B8)(E:x.Sm):Ab Tryz.prog 41 [Ke s,caV x] (Ke (Gp s x)):=G6z s hs x E (λt=>E8r x E t)
end Go.Abs
