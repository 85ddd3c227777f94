/- running: run.Expr, run.Main, run.Trace, run.Text; castingsref26.Expr; good, same of castingslaw26 -/
import Derived.Test.YtjneockcgjfhaaaGreatDoorKS95
import Derived.Test.YtjneockcgjfhaaaGreatDoorKS61
set_option linter.all false
set_option maxHeartbeats 1000000
set_option maxRecDepth 100000
namespace Go.Abs
open Go Go.Proofs Tryz
def A0u(o:Int):Int:=if o=1 then 5 else o
abbrev ruS(o n:Int)(e:Ex):List SV:=.d (.int .i64 o)::.d (.int .i64 n)::D5 e
abbrev ruV(o n:Int)(e:Ex):SV:=.agg (ruS o n e)
abbrev A0g:List Nat:=[0,1,2,3,4,6,7,8,9,20]
def G0y(p:Prog)(h:p.Sm)(n:Nat)(L:n<=1000000)(e:Ex)(hs:A6w p n e):Ab prog 30 [Cq p,Bg e,A7 n] (ruV (A0u (Hd p n e).2.2) (Hd p n e).2.1 (Hd p n e).1):=by
 have I:=G1n p h n L e hs;have E:¬(n:Int)<0:=by omega
 generalize Hd p n e=r at*;obtain⟨x,m,o⟩:=r;simp only;unfold A0u;by_cases J:o=1;subst J;rw[A6 rfl];refine cB func30 ?_;refine sR A0g ?_;refine sQ A0g λK z=>?_;refine Ah E ?_;refine⟨_,B2m rfl rfl,?_⟩;(try refine Ah E ?_);refine⟨_,.inl ⟨_,rfl,I,rfl⟩,?_⟩;(try refine Ah E ?_);apply z;clear z K;refine kR A0g λO u1=>?_;refine A0.tt rfl ?_;(refine lV A0g λK z=>?_;apply z;clear z K;try simp only[A5,A9,Ac]);refine u1 _ _<|sR A0g ?_;exact aR
 rw[A3 J];refine cB func30 ?_;refine sR A0g ?_;refine sQ A0g λK z=>?_;refine Ah E ?_;refine⟨_,B2m rfl rfl,?_⟩;(try refine Ah E ?_);refine⟨_,.inl ⟨_,rfl,I,rfl⟩,?_⟩;(try refine Ah E ?_);apply z;clear z K;refine Ae J A0g λO u1=>?_;refine A0.ff rfl (A0.kk (u1 _ _ ?_));refine sR A0g ?_;exact aR
def C6s(p:Prog)(h:p.Sm)(n:Nat)(I:n<=1000000)(hs:A6w p n p.main):Ab prog 12 [Cq p,A7 n] (ruV (A0u (Hd p n p.main).2.2) (Hd p n p.main).2.1 (Hd p n p.main).1):=by have E:=G0y p h n I p.main hs;generalize A0u (Hd p n p.main).2.2=o at*;generalize Hd p n p.main=r at*;refine cB func12 ?_;refine sR [0,1,2,4] ?_;refine sC E [0,1,2,4] ?_;exact aR
abbrev Yq:List Nat:=[0,1,2,3,4,6,7,8,9,10,11,23]
def G5v(p:Prog)(h:p.Sm)(n:Nat)(L:n<=1000000)(e:Ex):Ab prog 7 [Cq p,Bg e,A7 n] (.tuple [ruV (A0u (Hg p n e).2.2.1) (Hg p n e).2.1 (Hg p n e).1,B1 (Hg p n e).2.2.2]):=by
 have I:=E7q p h n L e;have E:¬(n:Int)<0:=by omega
 generalize Hg p n e=r at*;obtain⟨x,m,o,b⟩:=r;simp only;unfold A0u;by_cases J:o=1;subst J;rw[A6 rfl];refine cB func7 ?_;refine sR Yq ?_;refine sQ Yq λK z=>?_;refine Ah E ?_;refine⟨_,B2m rfl rfl,?_⟩;(try refine Ah E ?_);refine⟨_,.inl ⟨_,rfl,I,rfl⟩,?_⟩;(try refine Ah E ?_);apply z;clear z K;refine kR Yq λO u1=>?_;refine A0.tt rfl ?_;(refine lV Yq λK z=>?_;apply z;clear z K;try simp only[A5,A9,Ac]);refine u1 _ _<|sR Yq ?_;exact aR
 rw[A3 J];refine cB func7 ?_;refine sR Yq ?_;refine sQ Yq λK z=>?_;refine Ah E ?_;refine⟨_,B2m rfl rfl,?_⟩;(try refine Ah E ?_);refine⟨_,.inl ⟨_,rfl,I,rfl⟩,?_⟩;(try refine Ah E ?_);apply z;clear z K;refine Ae J Yq λO u1=>?_;refine A0.ff rfl (A0.kk (u1 _ _ ?_));refine sR Yq ?_;exact aR
def A4f:List D:=[.str [],.str [],.str [118,97,108,117,101],.str [112,97,110,105,99],.str [115,116,117,99,107],.str [102,117,101,108]]
def C0s(S:Nat->Prop)(w:World)(j:Nat)(d:D)(v:Value)(E:A4f[j]?=some d)(I:B2y[j]?=some v):C0 S w d v:=by
 match j with
 |0|1=>cases E;cases I;exact .str [] (by decide)
 |2=>cases E;cases I;exact .str [118,97,108,117,101] (by decide)
 |3=>cases E;cases I;exact .str [112,97,110,105,99] (by decide)
 |4=>cases E;cases I;exact .str [115,116,117,99,107] (by decide)
 |5=>cases E;cases I;exact .str [102,117,101,108] (by decide)
 |j+6=>simp[A4f]at E
def B7x:∀d,d∈A4f->d.one=true:=by decide
def B8p(sy ra:TypeId × Value):A2s sy ra 0 B2y:=.inr (.inr (.inl ⟨rfl,rfl,trivial⟩))
abbrev W6:A2:=[32]
abbrev A7i:List Nat:=[0,1,2,3,18,26,29]
def D6u(n:Nat)(I:n<=sm)(e:Ex)(hs:e.Ft)(U:e.M7<=sm):Ab prog 11 [ruV 2 n e] (B4 (Lib.join [[118,97,108,117,101],Lib.itoa n,e.D1] W6)):=by
 have W:=B5f n (by omega) (by unfold sm at I;omega);have O:=C1b e hs U;have Z:=Ex.A4z e;have h2:=Lib.itoa_length_le n (by omega) (by unfold sm at I;omega);have V:=A7p [[118,97,108,117,101],Lib.itoa n,e.D1] W6 (by simp[sm]) (by rw[Lib.join_cons];simp only[Lib.joinTail,Cp,It,Aq7,List.flatten_nil,As,Ar,Az];unfold lim sm at*;omega);have E:¬([118,97,108,117,101]:A2)=[]:=by decide
 generalize Lib.join [[118,97,108,117,101],Lib.itoa n,e.D1] W6=J at*;generalize Lib.itoa n=N at*;generalize e.D1=T at*;refine cB func11 ?_;refine sR A7i<|sK λL u1=>?_
 refine sQ A7i λK z=>?_;simp -implicitDefEqProofs only[EV,G0,G2,Nat.reduceAdd,Nat.reduceEqDiff,Nat.reduceBEq,Nat.reduceLeDiff,Nat.reduceSub,Nat.reduceMul,Int.reduceEq,Int.reduceLT,Int.reduceLE,Int.reduceSub,Int.reduceAdd,Int.reduceToNat,reduceCtorEq,Int.reduceNeg,Dn,G4,E1,J9,Xd,B2i,B3q,E,A4f];refine⟨_,B8j (j:=2) rfl rfl underlying74 (by kernel_rfl) (by decide) B8p B7x rfl C0s,?_⟩;(try simp -implicitDefEqProofs only[EV,G0,G2,Nat.reduceAdd,Nat.reduceEqDiff,Nat.reduceBEq,Nat.reduceLeDiff,Nat.reduceSub,Nat.reduceMul,Int.reduceEq,Int.reduceLT,Int.reduceLE,Int.reduceSub,Int.reduceAdd,Int.reduceToNat,reduceCtorEq,Int.reduceNeg,Dn,G4,E1,J9,Xd,B2i,B3q,E,A4f]);apply z;clear z K;refine kI u1 ?_;clear u1 L;refine sG A7i [26] 7 [] λK z=>?_;simp -implicitDefEqProofs only[EV,G0,G2,Nat.reduceAdd,Nat.reduceEqDiff,Nat.reduceBEq,Nat.reduceLeDiff,Nat.reduceSub,Nat.reduceMul,Int.reduceEq,Int.reduceLT,Int.reduceLE,Int.reduceSub,Int.reduceAdd,Int.reduceToNat,reduceCtorEq,Int.reduceNeg,Dn,G4,E1,J9,Xd,B2i,B3q,E,A4f];refine⟨_,B8j (j:=2) rfl rfl underlying74 (by kernel_rfl) (by decide) B8p B7x rfl C0s,?_⟩;(try simp -implicitDefEqProofs only[EV,G0,G2,Nat.reduceAdd,Nat.reduceEqDiff,Nat.reduceBEq,Nat.reduceLeDiff,Nat.reduceSub,Nat.reduceMul,Int.reduceEq,Int.reduceLT,Int.reduceLE,Int.reduceSub,Int.reduceAdd,Int.reduceToNat,reduceCtorEq,Int.reduceNeg,Dn,G4,E1,J9,Xd,B2i,B3q,E,A4f]);refine⟨_,.inl ⟨_,rfl,W,rfl⟩,?_⟩;(try simp -implicitDefEqProofs only[EV,G0,G2,Nat.reduceAdd,Nat.reduceEqDiff,Nat.reduceBEq,Nat.reduceLeDiff,Nat.reduceSub,Nat.reduceMul,Int.reduceEq,Int.reduceLT,Int.reduceLE,Int.reduceSub,Int.reduceAdd,Int.reduceToNat,reduceCtorEq,Int.reduceNeg,Dn,G4,E1,J9,Xd,B2i,B3q,E,A4f]);apply z;clear z K;refine kR A7i λL u1=>?_;refine A0.tt rfl ?_;(refine lV A7i λK z=>?_;refine cc O ?_;refine⟨by simp,?_⟩;(try refine ev ?_);apply z;clear z K;try simp only[A5,A9,Ac]);refine u1 _ _ ?_;refine sV A7i λK z=>?_;refine⟨_,.inr ⟨_,rfl,V,rfl⟩,?_⟩;(try refine ev ?_);apply z;clear z K;exact aR
abbrev B4p:List Nat:=[0,1,2,3,18,26,29]
def G2p(n:Nat)(I:n<=sm)(e:Ex):Ab prog 11 [ruV 5 n e] (B4 (Lib.join [[102,117,101,108],Lib.itoa n] W6)):=by
 have U:=B5f n (by omega) (by unfold sm at I;omega);have V:=Lib.itoa_length_le n (by omega) (by unfold sm at I;omega);have O:=A7p [[102,117,101,108],Lib.itoa n] W6 (by simp[sm]) (by rw[Lib.join_cons];simp only[Lib.joinTail,Cp,It,Aq7,List.flatten_nil,As,Ar,Az];unfold lim sm at*;omega);have E:¬([102,117,101,108]:A2)=[]:=by decide
 generalize Lib.join [[102,117,101,108],Lib.itoa n] W6=J at*;generalize Lib.itoa n=N at*;refine cB func11 ?_;refine sR B4p<|sK λL u1=>?_
 refine sQ B4p λK z=>?_;simp -implicitDefEqProofs only[EV,G0,G2,Nat.reduceAdd,Nat.reduceEqDiff,Nat.reduceBEq,Nat.reduceLeDiff,Nat.reduceSub,Nat.reduceMul,Int.reduceEq,Int.reduceLT,Int.reduceLE,Int.reduceSub,Int.reduceAdd,Int.reduceToNat,reduceCtorEq,Int.reduceNeg,Dn,G4,E1,J9,Xd,B2i,B3q,E,A4f];refine⟨_,B8j (j:=5) rfl rfl underlying74 (by kernel_rfl) (by decide) B8p B7x rfl C0s,?_⟩;(try simp -implicitDefEqProofs only[EV,G0,G2,Nat.reduceAdd,Nat.reduceEqDiff,Nat.reduceBEq,Nat.reduceLeDiff,Nat.reduceSub,Nat.reduceMul,Int.reduceEq,Int.reduceLT,Int.reduceLE,Int.reduceSub,Int.reduceAdd,Int.reduceToNat,reduceCtorEq,Int.reduceNeg,Dn,G4,E1,J9,Xd,B2i,B3q,E,A4f]);apply z;clear z K;refine kI u1 ?_;clear u1 L;refine sG B4p [26] 7 [] λK z=>?_;simp -implicitDefEqProofs only[EV,G0,G2,Nat.reduceAdd,Nat.reduceEqDiff,Nat.reduceBEq,Nat.reduceLeDiff,Nat.reduceSub,Nat.reduceMul,Int.reduceEq,Int.reduceLT,Int.reduceLE,Int.reduceSub,Int.reduceAdd,Int.reduceToNat,reduceCtorEq,Int.reduceNeg,Dn,G4,E1,J9,Xd,B2i,B3q,E,A4f];refine⟨_,B8j (j:=5) rfl rfl underlying74 (by kernel_rfl) (by decide) B8p B7x rfl C0s,?_⟩;(try simp -implicitDefEqProofs only[EV,G0,G2,Nat.reduceAdd,Nat.reduceEqDiff,Nat.reduceBEq,Nat.reduceLeDiff,Nat.reduceSub,Nat.reduceMul,Int.reduceEq,Int.reduceLT,Int.reduceLE,Int.reduceSub,Int.reduceAdd,Int.reduceToNat,reduceCtorEq,Int.reduceNeg,Dn,G4,E1,J9,Xd,B2i,B3q,E,A4f]);refine⟨_,.inl ⟨_,rfl,U,rfl⟩,?_⟩;(try simp -implicitDefEqProofs only[EV,G0,G2,Nat.reduceAdd,Nat.reduceEqDiff,Nat.reduceBEq,Nat.reduceLeDiff,Nat.reduceSub,Nat.reduceMul,Int.reduceEq,Int.reduceLT,Int.reduceLE,Int.reduceSub,Int.reduceAdd,Int.reduceToNat,reduceCtorEq,Int.reduceNeg,Dn,G4,E1,J9,Xd,B2i,B3q,E,A4f]);apply z;clear z K;refine kR B4p λL u1=>?_;refine A0.ff rfl (A0.kk (u1 _ _ ?_));refine sV B4p λK z=>?_;refine⟨_,.inr ⟨_,rfl,O,rfl⟩,?_⟩;(try refine ev ?_);apply z;clear z K;exact aR
def F7z(n:Int)(e:Ex):Ab prog 11 [ruV 9 n e] (B4 []):=by refine cB func11 ?_;refine sR [0,1,2,3,18,26,29] ?_;refine kR [0,1,2,3,18,26,29] λE u1=>?_;refine tI ?_;refine sR [0,1,2,3,18,26,29] ?_;exact aR
def A2j(p:Prog):Nat->Ex->List A2
 |0,_=>[]
 |n+1,e=>if(Bn p e).2=1 then(Bn p e).1.D1::A2j p n (Bn p e).1 else[]
def B2o(p:Prog):Nat->Ex->Prop
 |0,e=>e.Sm/\e.Ft/\e.M7<=sm
 |n+1,e=>(e.Sm/\e.Ft/\e.M7<=sm)/\((Bn p e).2=1->B2o p n (Bn p e).1)
def B2o.here{p:Prog}:∀{n:Nat} {e:Ex},B2o p n e->e.Sm/\e.Ft/\e.M7<=sm
 |0,_,h=>h
 |_+1,_,h=>h.1
abbrev Rb:List Nat:=[0,1,2,4,5,6,7,8,13,15,16,17,25]
def F5k(p:Prog)(h:p.Sm)(n:Nat)(hn:n<=1000)(ht:B2o p n p.main):Ab prog 10 [Cq p,A7 n] (.d (.slice (Ba (p.main.D1::A2j p n p.main)))):=by
 have a2:¬(n:Int)<0:=by omega
 have a4:=C1b p.main ht.here.2.1 ht.here.2.2;generalize hF:p.main.D1::A2j p n p.main=F;refine cB func10 ?_;refine sR Rb ?_;refine sR Rb ?_;refine A0.F9 Rb [13] (by decide +kernel) λK z=>?_;refine ev ?_;refine cc a4 ?_;apply z;clear z K;refine sK λK1 u1=>?_;refine sQ Rb λK z=>?_;refine Ah a2 ?_;refine⟨_,B2m rfl rfl,?_⟩;(try refine Ah a2 ?_);apply z;clear z K;refine A0.bb (A0.loop (X:=Nat × Ex × List A2) (λz=>[(2,.box 2 0),(5,.box 5 0),(6,.acc 13),(15,A7 n),(16,A7 z.1)]) (λz=>[(2,.cells ((Ai p).map .d)),(5,.cells (D5 z.2.1)),(13,.rows 1 (Ba z.2.2))]) (λz=>z.1<=n/\B2o p (n - z.1) z.2.1/\z.2.2++A2j p (n - z.1) z.2.1=F/\z.2.2.length=z.1+1) (λz=>n - z.1) (0,p.main,[p.main.D1]) ⟨Tf _,by rw[Qw];exact ht,by rw[Qw,<-hF];rfl,rfl⟩ sS (by simp[ble,A8,D5,Ai,Ba]) ?_);rintro⟨i,e,l⟩ ⟨hi,U,E,J⟩;simp only at hi U E J |-;by_cases a3:i=n
 subst a3;rw[Aq1,A2j,Gy]at E;subst E;refine Ap B6 Rb ?_;refine A0.stop rfl ?_;simp only[A5,A9,Ac];refine u1 _ _<|sR Rb ?_;exact aR
 .have a1:(i:Int)<(n:Int):=by omega
  obtain⟨k,hk⟩:∃k,n - i=k+1:=⟨n - i - 1,by omega⟩;have Z:n - (i+1)=k:=by omega
  rw[hk]at U E;obtain⟨⟨a0,a5,a6⟩,O⟩:=U;have W:=C3b h e a0;have V:=C8g p h e a0 W;rw[A2j]at E;refine Ap a1 Rb ?_;refine A0.Ha rfl<|sK λK2 u2=>A0.bb ?_;by_cases L:(Bn p e).2=1
  have I:=O L;rw[A6 L]at E;have hx:=C1b (Bn p e).1 I.here.2.1 I.here.2.2;generalize Bn p e=r at*;obtain⟨y,o⟩:=r;simp only at L I hx E W;subst L;generalize hY:y.D1=Y at*;refine sC V Rb ?_;refine kR Rb λK3 u3=>?_;refine A0.ff rfl (A0.kk (u3 _ _ ?_));clear u3 K3;refine sR Rb ?_;(refine lV Rb λK z=>?_;refine cc hx ?_;refine⟨by simp,by unfold lim;omega,?_⟩;(try refine ev ?_);apply z;clear z K;try simp only[A5,A9,Ac]);refine u2 _ _ ?_;clear u2 K2;(refine lV Rb λK z=>?_;refine cl ?_;apply z;clear z K;try simp only[A5,A9,Ac]);exact⟨(i+1,y,l++[Y]),⟨by simp only;omega,by simp only;rw[Z];exact I,by simp only;rw[Z];simpa using E,by simp[J]⟩,by simp only;omega,sS,by simp[ble,A8,D5,Ai,Ba]⟩;rw[A3 L,Gy]at E;subst E;generalize Bn p e=r at*;obtain⟨y,o⟩:=r;simp only at L;refine sC V Rb ?_;refine Ae L Rb λK3 u3=>?_;refine A0.tt rfl (A0.xx ?_);simp only[A5,A9,Ac];refine u1 _ _<|sR Rb ?_;exact aR
def To(p q:Prog)(g:Ex->Ex)(r:Int × Bool)(a b:Ex):Int × Bool:=if Sh (g a) b=true then(if(Bn p a).2=(Bn q b).2 then(if(Bn p a).2=1 then r else(0,true))else(0,false))else(0,false)
def Ls(p q:Prog)(g:Ex->Ex):Nat->Ex->Ex->Int × Bool
 |0,a,b=>To p q g (0,true) a b
 |k+1,a,b=>To p q g ((Ls p q g k (Bn p a).1 (Bn q b).1).1+1,(Ls p q g k (Bn p a).1 (Bn q b).1).2) a b
def A8d(p q:Prog)(mt:Ty->Ty)(E:A2->List Ty->A2):Nat->Ex->Ex->Prop
 |0,a,b=>a.Sm/\b.Sm/\Pk mt E a/\(Gg mt E a).Sm
 |k+1,a,b=>(a.Sm/\b.Sm/\Pk mt E a/\(Gg mt E a).Sm)/\(Sh (Gg mt E a) b=true->(Bn p a).2=1->(Bn q b).2=1->A8d p q mt E k (Bn p a).1 (Bn q b).1)
def A8d.here{p q:Prog}{mt:Ty->Ty}{E:A2->List Ty->A2}:∀{n:Nat} {a b:Ex},A8d p q mt E n a b->a.Sm/\b.Sm/\Pk mt E a/\(Gg mt E a).Sm
 |0,_,_,h=>h
 |_+1,_,_,h=>h.1
def F9q(p q:Prog)(g:Ex->Ex)(n:Nat)(a b:Ex):∃r,Ls p q g n a b=To p q g r a b:=by
 cases n with
 |zero=>exact⟨_,rfl⟩
 |succ n=>exact⟨_,rfl⟩
abbrev I6:List Nat:=[0,1,2,3,4,6,7,8,9,10,11,12,13,14,25,41,49]
def C3q(p q:Prog)(hp:p.Sm)(hq:q.Sm)(mt:Ty->Ty)(J:A2->List Ty->A2)(n:Nat)(hn:n<=1000000)(L:A8d p q mt J n p.main q.main) :Ab prog 9 [Cq p,Cq q,A7 n] (.tuple [A7 (Ls p q (Gg mt J) n p.main q.main).1,B1 (Ls p q (Gg mt J) n p.main q.main).2]):=by
 generalize hR:Ls p q (Gg mt J) n p.main q.main=R;refine cB func9 ?_;refine sR I6 ?_
 (refine sG I6 [] 7 [⟨[],[],[8,9],[8,9]⟩,⟨[],[],[8,9],[8,9]⟩,⟨[],[],[8,9],[8,9]⟩,⟨[],[],[8,9],[8,9]⟩,⟨[8],[8],[9],[9]⟩,⟨[9],[9],[8],[8]⟩,⟨[8],[],[],[]⟩] λK z=>?_;refine ev ?_;apply z;clear z K)
 refine sR I6 ?_;refine A0.bb (A0.loop (X:=Nat × Ex × Ex) (λz=>[(2,A7 n),(3,.box 3 0),(4,.box 4 0),(8,.box 8 0),(9,.box 9 0),(10,A7 z.1)]) (λz=>[(3,.cells ((Ai p).map .d)),(4,.cells ((Ai q).map .d)),(8,.cells (D5 z.2.1)),(9,.cells (D5 z.2.2))]) (λz=>z.1<=n/\A8d p q mt J (n - z.1) z.2.1 z.2.2/\(Ls p q (Gg mt J) (n - z.1) z.2.1 z.2.2).1+z.1=R.1/\(Ls p q (Gg mt J) (n - z.1) z.2.1 z.2.2).2=R.2) (λz=>n - z.1) (0,p.main,q.main) ⟨Tf _,L,by rw[Qw,hR];simp,by rw[Qw,hR]⟩ sS (by simp[ble,A8,D5,Ai]) ?_)
 rintro⟨i,a,b⟩ ⟨hi,L,r1,r2⟩;simp only at hi L r1 r2 |-;obtain⟨ha,hb,hm,hg⟩:=L.here;have c1:=G9u mt J a ha hm;have c2:=G4n (Gg mt J a) hg b;have c3:=C8g p hp a ha (C3b hp a ha);have c4:=C8g q hq b hb (C3b hq b hb);refine sK λK2 u2=>A0.bb ?_;obtain⟨rr,a3⟩:=F9q p q (Gg mt J) (n - i) a b;have O:∀z:Int × Bool,To p q (Gg mt J) rr a b=z->z.1=0->R=((i:Int),z.2):=λz W h0=>by rw[a3,W]at r1 r2;obtain⟨x,y⟩:=R;simp only at r1 r2;rw[h0,Int.zero_add]at r1;rw[<-r1,<-r2]
 cases hs:Sh (Gg mt J a) b with
 |false =>have W:=O (0,false) (by unfold To;rw[hs];rfl) rfl;rw[W];rw[hs]at c2;refine sK λI E=>?_;refine sG I6 [] 3 [] λK z=>?_;refine ev ?_;refine cc c1 ?_;refine cc c2 ?_;apply z;clear z K;refine tI ?_;refine sR I6 ?_;exact aR
 |true =>
  rw[hs]at c2;have a0:To p q (Gg mt J) rr a b=if(Bn p a).2=(Bn q b).2 then(if(Bn p a).2=1 then rr else(0,true))else(0,false):=by unfold To;rw[hs];rfl
  by_cases U:(Bn p a).2=(Bn q b).2;rotate_left;have W:=O (0,false) (by rw[a0,A3 U]) rfl;rw[W];generalize Bn p a=s1 at*;generalize Bn q b=s2 at*;obtain⟨y1,o1⟩:=s1;obtain⟨y2,o2⟩:=s2;simp only at U;refine sK λI E=>?_;refine sG I6 [] 3 [] λK z=>?_;refine ev ?_;refine cc c1 ?_;refine cc c2 ?_;apply z;clear z K;refine kI E ?_;clear E I;refine sC c3 I6 ?_;refine sC c4 I6 ?_;refine Ae U I6 λI E=>?_;refine tI ?_;refine sR I6 ?_;exact aR;by_cases V:(Bn p a).2=1;rotate_left;have W:=O (0,true) (by rw[a0,A6 U,A3 V]) rfl;rw[W];generalize Bn p a=s1 at*;generalize Bn q b=s2 at*;obtain⟨y1,o1⟩:=s1;obtain⟨y2,o2⟩:=s2;simp only at U V;subst U;refine sK λI E=>?_;refine sG I6 [] 3 [] λK z=>?_;refine ev ?_;refine cc c1 ?_;refine cc c2 ?_;apply z;clear z K;refine kI E ?_;clear E I;refine sC c3 I6 ?_;refine sC c4 I6 ?_;refine kR I6 λI E=>?_;refine kI E ?_;clear E I;refine Ae V I6 λI E=>?_;refine tI ?_;refine sR I6 ?_;exact aR;by_cases a4:i=n
  .subst a4;have a7:(i:Int) >= (i:Int):=Int.le_refl _;rw[Aq1]at r1 r2;have a5:Ls p q (Gg mt J) 0 a b=(0,true):=by rw[Ls];unfold To;rw[hs,A6 rfl,A6 U,A6 V]
   rw[a5]at r1 r2;have W:R=((i:Int),true):=by obtain⟨x,y⟩:=R;simp only at r1 r2;rw[Int.zero_add]at r1;rw[<-r1,<-r2]
   rw[W];generalize Bn p a=s1 at*;generalize Bn q b=s2 at*;obtain⟨y1,o1⟩:=s1;obtain⟨y2,o2⟩:=s2;simp only at U V;subst U;subst V;refine sK λI E=>?_;refine sG I6 [] 3 [] λK z=>?_;refine ev ?_;refine cc c1 ?_;refine cc c2 ?_;apply z;clear z K;refine kI E ?_;clear E I;refine sC c3 I6 ?_;refine sC c4 I6 ?_;refine kR I6 λI E=>?_;refine kI E ?_;clear E I;refine Ae a7 I6 λI E=>?_;refine tI ?_;refine sR I6 ?_;exact aR
  have a6:¬(i:Int) >= (n:Int):=by omega
  obtain⟨k,hk⟩:∃k,n - i=k+1:=⟨n - i - 1,by omega⟩;have a1:n - (i+1)=k:=by omega
  rw[hk]at L r1 r2;have Z:Ls p q (Gg mt J) (k+1) a b=((Ls p q (Gg mt J) k (Bn p a).1 (Bn q b).1).1+1,(Ls p q (Gg mt J) k (Bn p a).1 (Bn q b).1).2):=by rw[Ls];unfold To;rw[hs,A6 rfl,A6 U,A6 V]
  rw[Z]at r1 r2;have a2:=L.2 hs V (by rw[<-U];exact V);clear L a0 Z O a3;generalize Bn p a=s1 at*;generalize Bn q b=s2 at*;obtain⟨y1,o1⟩:=s1;obtain⟨y2,o2⟩:=s2;simp only at U V a2 r1 r2;subst U;subst V;refine sK λI E=>?_;refine sG I6 [] 3 [] λK z=>?_;refine ev ?_;refine cc c1 ?_;refine cc c2 ?_;apply z;clear z K;refine kI E ?_;clear E I;refine sC c3 I6 ?_;refine sC c4 I6 ?_;refine kR I6 λI E=>?_;refine kI E ?_;clear E I;refine Ae a6 I6 λI E=>?_;refine kI E ?_;clear E I;(refine lG I6 [] 3 [⟨[],[],[],[]⟩,⟨[],[],[8],[]⟩,⟨[8],[],[],[]⟩] λK z=>?_;refine ev ?_;apply z;clear z K;try simp only[A5,A9,Ac]);refine u2 _ _ ?_;clear u2 K2;(refine lV I6 λK z=>?_;refine cl ?_;apply z;clear z K;try simp only[A5,A9,Ac]);exact⟨(i+1,y1,y2),⟨by simp only;omega,by simp only;rw[a1];exact a2,by simp only;rw[a1];omega,by simp only;rw[a1];exact r2⟩,by simp only;omega,sS,by simp[ble,A8,D5,Ai]⟩
def vT:Ty:=.mk [84] [] 0
def vt:Ex:=.mk 3 [] vT [] [] 0
def va:Ex:=.mk 5 [] vT [] [vt] 0
def vEx:Ex:=.mk 0 [] (.mk [] [] 0) [] [] 0
def G7v:A4:=⟨[],[],[],.mk [] [] 0,0⟩
def vP(e:Ex):Prog:=⟨[⟨1,[84],[],[],[],[],[],G7v,vEx,0⟩],e⟩
def Zk:vt.Sm:=D9j _ (by decide +kernel)
def A3g:va.Sm:=D9j _ (by decide +kernel)
def D8u(e:Ex)(h:e.Sm):(vP e).Sm:=⟨((vP vt).G3 (by decide +kernel)).1.decls,h⟩
def D6z(e:Ex):Bn (vP e) vt=(vt,2):=by rw[S8,show Lp (vP e) vt.kids=none by rfl];simp only;unfold Nt;rw[A6 (by decide)]
def F9k:Bn (vP va) va=(vt,1):=by rw[S8,show Lp (vP va) va.kids=none by rfl];simp only;unfold Nt;rw[A3 (by decide),show va.kids[0]?=some vt from rfl];simp only;rw[A3 (by decide),A3 (by decide),A6 (by decide)];unfold Ug;rw[A6 (by decide +kernel)]
def B7v:vt.Ft:=.mk _ _ _ _ _ _ (.inr (.inr (.inl rfl))) (λh=>by omega) (λh=>by omega) (by simp)
def F9x:va.Ft:=.mk _ _ _ _ _ _ (.inr (.inr (.inr (.inr rfl)))) (λ_=>by simp) (λ_=>rfl) (by simp[B7v])
def E6k:C8t [84]:=⟨by decide,by decide,by decide +kernel,by decide +kernel⟩
def C5c:Pk id (λn _=>n) vt:=.mk _ _ _ _ _ _ (λ_=>D2p [84] 0 E6k) (λh=>by omega) (by simp)
def G6g:Pk id (λn _=>n) va:=.mk _ _ _ _ _ _ (λ_=>D2p [84] 0 E6k) (λh=>by omega) (by simp[C5c])
def B8a:Gg id (λn _=>n) vt=vt:=by rfl
def D5e:Gg id (λn _=>n) va=va:=by rfl
abbrev A1x:List Nat:=[0,1,2,3,4,5,7,8]
def H0c:Ab prog 4 [] (B1 true):=by
 have hp:=D8u vt Zk;have J:=D8u va A3g;have s1:=D6z vt;have O:=D6z va;have I:=F9k;have p1:=C3q (vP va) (vP va) J J id (λn _=>n) 3 (by decide) (by refine⟨⟨A3g,A3g,G6g,by rw[show(vP va).main=va from rfl,D5e];exact A3g⟩,λ_ _ _=>?_⟩;rw[show(vP va).main=va from rfl,I];refine⟨⟨Zk,Zk,C5c,by rw[B8a];exact Zk⟩,λ_ h=>?_⟩;rw[O]at h;exact absurd h (by decide));have e1:Ls (vP va) (vP va) (Gg id λn _=>n) 3 va va=(1,true):=by simp only[Ls,To,D5e,C4g,Ac,I,B8a,O];rfl
 have p2:=C3q (vP vt) (vP va) hp J id (λn _=>n) 3 (by decide) (by refine⟨⟨Zk,A3g,C5c,by rw[show(vP vt).main=vt from rfl,B8a];exact Zk⟩,λ_ h=>?_⟩;rw[show(vP vt).main=vt from rfl,s1]at h;exact absurd h (by decide))
 have e2:Ls (vP vt) (vP va) (Gg id λn _=>n) 3 vt va=(0,false):=by
  have:Sh vt va=false:=by rfl
  simp only[Ls,To,B8a,this,I5,Fm]
 rw[show(vP va).main=va from rfl,e1]at p1;rw[show(vP va).main=va from rfl,show(vP vt).main=vt from rfl,e2]at p2;have t1:=F5k (vP va) J 3 (by decide) (by refine⟨⟨A3g,F9x,by decide +kernel⟩,λ_=>?_⟩;rw[show(vP va).main=va from rfl,I];refine⟨⟨Zk,B7v,by decide +kernel⟩,λh=>?_⟩;rw[O]at h;exact absurd h (by decide));have e3:(vP va).main.D1::A2j (vP va) 3 (vP va).main=[[84,123,125,46,40,84,41],[84,123,125]]:=by rw[show(vP va).main=va from rfl];simp only[A2j,I,Ac,O];rfl
 rw[e3]at t1;obtain⟨L,U⟩:∃L:List A2,L=[[84,123,125,46,40,84,41],[84,123,125]]:=⟨_,rfl⟩;have E:(L.length:Int)=2:=by rw[U];rfl
 have h0:L[0]?=some [84,123,125,46,40,84,41]:=by rw[U];rfl
 rw[<-U]at t1;clear U e3;have V:=C6s (vP vt) hp 0 (by decide) Zk;have W:=C6s (vP va) J 0 (by decide) A3g;have Z:=C6s (vP va) J 1 (by decide) ⟨A3g,λ_=>by rw[show(vP va).main=va from rfl,I];exact Zk⟩;rw[show Hd (vP vt) 0 (vP vt).main=(vt,0,2) by rw[Hd,show(vP vt).main=vt from rfl,s1]]at V;rw[show Hd (vP va) 0 (vP va).main=(va,0,1) by rw[Hd,show(vP va).main=va from rfl,I]]at W;rw[show Hd (vP va) 1 (vP va).main=(vt,1,2) by rw[Hd,show(vP va).main=va from rfl,I,A6 rfl,Hd,O];rfl]at Z;have x1:=D6u 0 (by decide) vt B7v (by decide +kernel);have x2:=G2p 0 (by decide) va;have x3:=D6u 1 (by decide) vt B7v (by decide +kernel);have x4:=F7z 0 vEx;rw[show Lib.join [[118,97,108,117,101],Lib.itoa (0:Nat),vt.D1] W6=[118,97,108,117,101,32,48,32,84,123,125] by decide +kernel]at x1;rw[show Lib.join [[102,117,101,108],Lib.itoa (0:Nat)] W6=[102,117,101,108,32,48] by decide +kernel]at x2;rw[show Lib.join [[118,97,108,117,101],Lib.itoa (1:Nat),vt.D1] W6=[118,97,108,117,101,32,49,32,84,123,125] by decide +kernel]at x3;simp only[A0u]at V W Z;refine cB func4 ?_;refine sR A1x ?_;refine sR A1x ?_;refine sR A1x ?_;refine sR A1x ?_;refine sC p1 A1x ?_;refine sC p2 A1x ?_;refine sC t1 A1x ?_;refine sQ A1x λK z=>?_;refine Ah E ?_;refine⟨_,.inl ⟨_,rfl,V,rfl⟩,?_⟩;(try refine Ah E ?_);refine⟨_,.inl ⟨_,rfl,x1,rfl⟩,?_⟩;(try refine Ah E ?_);refine⟨_,.inl ⟨_,rfl,W,rfl⟩,?_⟩;(try refine Ah E ?_);refine⟨_,.inl ⟨_,rfl,x2,rfl⟩,?_⟩;(try refine Ah E ?_);refine⟨_,.inl ⟨_,rfl,Z,rfl⟩,?_⟩;(try refine Ah E ?_);refine⟨_,.inl ⟨_,rfl,x3,rfl⟩,?_⟩;(try refine Ah E ?_);refine⟨_,J7 h0,rfl,?_⟩;(try refine Ah E ?_);refine⟨_,.inl ⟨_,rfl,x4,rfl⟩,?_⟩;(try refine Ah E ?_);apply z;clear z K;exact aR
end Go.Abs
