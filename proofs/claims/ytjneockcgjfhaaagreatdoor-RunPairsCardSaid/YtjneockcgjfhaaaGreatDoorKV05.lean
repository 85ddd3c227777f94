/- step: selection, call, assertion; what a redex becomes -/
import Derived.Test.YtjneockcgjfhaaaGreatDoorKS25
import Derived.Test.YtjneockcgjfhaaaGreatDoorKS36
import Derived.Test.YtjneockcgjfhaaaGreatDoorKAb21
set_option linter.all false
set_option maxHeartbeats 1000000
set_option maxRecDepth 100000
namespace Go.Abs
open Go Go.Proofs Tryz
abbrev maV(p:Prog):SV:=.agg [.Aj (G1 p) 0]
def Vd(p:Prog)(e v:Ex):Ex × Int :=if Bb p v.type 1=true/\0<=Cw (λf:Param=>decide (f.name=e.name)) (Bo p v.type)/\Cw (λf:Param=>decide (f.name=e.name)) (Bo p v.type)<v.kids.length then
  ((v.kids[(Cw (λf:Param=>decide (f.name=e.name)) (Bo p v.type)).toNat]?).getD v,1)else(e,4)
def Ug(p:Prog)(e v:Ex):Ex × Int:=if Cg p [] v.type e.type=true then(v,1)else(e,3)
def A9d(e v:Ex)(d:Decl):Ex:=(d.body.subst (d.vars++Ad d.sig.A1) (v.type.args++e.targs)).Eo (d.recv::d.sig.params.map (·.name)) e.kids
def Wx(p:Prog)(e v:Ex):Ex × Int:=match Ga p v.type e.name with
 |none=>(e,4)
 |some d=>if d.sig.A1.length=e.targs.length/\d.sig.params.length+1=e.kids.length then(A9d e v d,1)else(e,4)
abbrev Kd(r:Ex × Int):SV:=.tuple [Bg r.1,A7 r.2]
def C3a{p:Prog}{x:Ty}{m:A2}{d:Decl}(h:Ga p x m=some d):d∈p.decls:=by unfold Ga at h;split at h;split at h;rename_i E;split at h;cases h;exact Aj0 E;cases h;cases h;cases h
abbrev q1Y:List Nat:=[0,1,2,3,4,5,6,18]
def G9h(p:Prog)(h:p.Sm)(e v:Ex)(J:e.Sm)(E:e.kids[0]?=some v):Ab prog 131 [maV p,Bg e] (Kd (Ug p e v)):=by have L:=J.kids.2 v (Bm E);have I:=H0e p h [] (by simp) (by simp) v.type e.type L.type J.type;unfold Ug;generalize Cg p [] v.type e.type=b at*;cases b;rw[A3 (by decide)];refine cB func131 ?_;refine sR q1Y ?_;refine sV q1Y λK z=>?_;refine cj (Ck E) ?_;apply z;clear z K;refine kC I q1Y λO u1=>?_;refine tI ?_;refine sR q1Y ?_;exact aR;rw[A6 rfl];refine cB func131 ?_;refine sR q1Y ?_;refine sV q1Y λK z=>?_;refine cj (Ck E) ?_;apply z;clear z K;refine kC I q1Y λO u1=>?_;refine kI u1 ?_;refine sR q1Y ?_;exact aR
def A5m{p:Prog}(h:p.Sm)(x:Ty):(Bo p x).length<=sm:=by unfold Bo;split;rename_i E;obtain⟨d,hd,_⟩:=N4 (by decide) E;rw[hd,Dh];unfold fieldsD;rw[Bc];exact(h.decls.2 d (Qb hd)).fields.1;simp
abbrev Jx:List Nat:=[0,1,2,3,4,5,6,7,8,9,37]
def F3p(p:Prog)(h:p.Sm)(e v:Ex)(he:e.Sm)(L:e.kids[0]?=some v):Ab prog 130 [maV p,Bg e] (Kd (Vd p e v)):=by
 have hv:=he.kids.2 v (Bm L);have V:=F2m p h v.type hv.type;have h1:∀f:Param,Ab prog 180 [Sy f,.Aj (Bp e) 0] (B1 (decide (f.name=e.name))):=λf=>by refine cB func180 ?_;refine sR [0,1,2,3] ?_;refine sR [0,1,2,3] ?_;exact aR
 have U:=F3r 180 [.Aj (Bp e) 0] (λ_=>rfl) (λf:Param=>decide (f.name=e.name)) (Bo p v.type) (A5m h v.type) (λt _=>h1 t);unfold Vd;generalize Cw (λf:Param=>decide (f.name=e.name)) (Bo p v.type)=k at*;generalize Bo p v.type=fs at*;generalize Bb p v.type 1=bb at*;cases bb;rw[A3 (λW=>by cases W.1)];refine cB func130 ?_;refine sR Jx ?_;refine sV Jx λK z=>?_;refine cj (Ck L) ?_;apply z;clear z K;refine sC V Jx ?_;refine A0.zz 3 rfl rfl (wk [(2,.box 2 0),(3,.Aj (Bp e) 0),(4,.box 4 0),(6,.box 6 0),(7,.d (.slice (Ay fs))),(8,.d (.bool _))] [(2,.cells [.Aj (G1 p) 0]),(4,.cells [.d (.int .i64 0),.d (.str []),.d (.str []),.d .nil,.d (.int .i64 0),.d .nil,.d .nil,.d (.int .i64 0)]),(6,.cells (D5 v))] ?_);refine sC U Jx ?_;refine kR Jx λZ u1=>?_;refine tI ?_;refine sR Jx ?_;exact aR
 .by_cases E:k<0;rw[A3 (λW=>by omega)];refine cB func130 ?_;refine sR Jx ?_;refine sV Jx λK z=>?_;refine cj (Ck L) ?_;apply z;clear z K;refine sC V Jx ?_;refine A0.zz 3 rfl rfl (wk [(2,.box 2 0),(3,.Aj (Bp e) 0),(4,.box 4 0),(6,.box 6 0),(7,.d (.slice (Ay fs))),(8,.d (.bool _))] [(2,.cells [.Aj (G1 p) 0]),(4,.cells [.d (.int .i64 0),.d (.str []),.d (.str []),.d .nil,.d (.int .i64 0),.d .nil,.d .nil,.d (.int .i64 0)]),(6,.cells (D5 v))] ?_);refine sC U Jx ?_;refine Ae E Jx λZ u1=>?_;refine tI ?_;refine sR Jx ?_;exact aR
  .by_cases J:k<v.kids.length
   .have I:¬k >= (v.kids.length:Int):=by omega
    have O:v.kids[k.toNat]?=some v.kids[k.toNat]:=Br (by omega);rw[A6 ⟨rfl,by omega,J⟩,O,Dh];generalize v.kids[k.toNat]=u at*;refine cB func130 ?_;refine sR Jx ?_;refine sV Jx λK z=>?_;refine cj (Ck L) ?_;apply z;clear z K;refine sC V Jx ?_;refine A0.zz 3 rfl rfl (wk [(2,.box 2 0),(3,.Aj (Bp e) 0),(4,.box 4 0),(6,.box 6 0),(7,.d (.slice (Ay fs))),(8,.d (.bool _))] [(2,.cells [.Aj (G1 p) 0]),(4,.cells [.d (.int .i64 0),.d (.str []),.d (.str []),.d .nil,.d (.int .i64 0),.d .nil,.d .nil,.d (.int .i64 0)]),(6,.cells (D5 v))] ?_);refine sC U Jx ?_;refine P4 E I Jx λZ u1=>?_;refine kI u1 ?_;clear u1 Z;refine sV Jx λK z=>?_;refine ci (Ck O) ?_;apply z;clear z K;exact aR
   .have I:k >= (v.kids.length:Int):=by omega
    rw[A3 (λW=>J W.2.2)];refine cB func130 ?_;refine sR Jx ?_;refine sV Jx λK z=>?_;refine cj (Ck L) ?_;apply z;clear z K;refine sC V Jx ?_;refine A0.zz 3 rfl rfl (wk [(2,.box 2 0),(3,.Aj (Bp e) 0),(4,.box 4 0),(6,.box 6 0),(7,.d (.slice (Ay fs))),(8,.d (.bool _))] [(2,.cells [.Aj (G1 p) 0]),(4,.cells [.d (.int .i64 0),.d (.str []),.d (.str []),.d .nil,.d (.int .i64 0),.d .nil,.d .nil,.d (.int .i64 0)]),(6,.cells (D5 v))] ?_);refine sC U Jx ?_;refine P4 E I Jx λZ u1=>?_;refine tI ?_;refine sR Jx ?_;exact aR
mutual
def Ty.er:Ty->Ty
 |.mk n a _=>.mk n (Ty.erL a) 0
def Ty.erL:List Ty->List Ty
 |[]=>[]
 |t::E=>t.er::Ty.erL E
end
def E2k:∀l:List Ty,Ty.erL l=l.map Ty.er
 |[]=>by rw[Ty.erL];rfl
 |t::l=>by rw[Ty.erL,E2k l];rfl
theorem Ia(t:Ty):t.er=.mk t.name (t.args.map Ty.er) 0:=by cases t with|mk n a p=>rw[Ty.er,E2k];rfl
theorem Ro(n:A2)(a:List Ty)(p:Int):(Ty.mk n a p).name=n:=rfl
theorem I8(n:A2)(a:List Ty)(p:Int):(Ty.mk n a p).args=a:=rfl
def mkQ(n:A2)(a:List Ty)(p:Int):(Ty.mk n a p).pos=p:=rfl
def A8q(t:Ty):t.er.name=t.name:=by rw[Ia];rfl
def B0g(t:Ty):t.er.args=t.args.map Ty.er:=by rw[Ia];rfl
def D6x:∀l m:List Ty,(∀t,t∈l->∀u,E6 t u=0↔t.er=u.er)->(E7 l m=0↔l.map Ty.er=m.map Ty.er)
 |[],[],_=>by simp[E7]
 |[],_::_,_=>by simp[E7]
 |_::_,[],_=>by simp[E7]
 |x::xs,y::O,h=>by have I:=h x (by simp) y;have L:=D6x xs O λt ht=>h t (by simp[ht]);rw[E7];by_cases E:E6 x y=0;rw[A3 (by simp[E]),L];simp[I.1 E];rw[A6 E];have:¬x.er=y.er:=λJ=>E (I.2 J);simp[E,this]
theorem Ud(t:Ty):∀u,E6 t u=0↔t.er=u.er:=by
 induction t using Ty.induct with
 |h t L =>
 intro u;have J:=D6x t.args u.args L;rw[A3r,Ia t,Ia u];by_cases E:t.name=u.name
 .rw[A3 (by simp[Tx.2 E]),J];simp[E]
 .have:¬Bw t.name u.name=0:=λI=>E (Tx.1 I);rw[A6 this];simp[this,E]
def Sw(t u:Ty):Ns t u=true↔t.er=u.er:=by unfold Ns;rw[E4];exact Ud t u
def Ak.er(f:Ak):Ak:=⟨f.name,f.bound.er,0⟩
def Param.er(f:Param):Param:=⟨f.name,f.type.er,0⟩
def A4.er(s:A4):A4:=⟨s.name,s.A1.map Ak.er,s.params.map Param.er,s.result.er,0⟩
def G6d(a b:Ak):Sd a b=true↔a.er=b.er:=by unfold Sd Ak.er;rw[Bi,Sw,E4,Ak.mk.injEq];simp
def G8o(a b:Param):Sq a b=true↔a.er=b.er:=by unfold Sq Param.er;rw[Bi,Sw,E4,Param.mk.injEq];simp
def C8b{α β:Type}{p:α->α->Bool}{e:α->β}(h:∀a b,p a b=true↔e a=e b):∀l m:List α,Fs p l m=true↔l.map e=m.map e
 |[],[]=>by simp[Fs]
 |[],_::_=>by simp[Fs]
 |_::_,[]=>by simp[Fs]
 |x::xs,y::E=>by rw[Fs,Bi,h,C8b h xs E];simp
def D1f(a b:A4):Pv a b=true↔a.er=b.er:=by unfold Pv A4.er;rw[Bi,Bi,Bi,Sw,E4,C8b G6d,C8b G8o,A4.mk.injEq];simp[and_assoc]
theorem Hq(vars:List A2)(args:List Ty)(t:Ty):(t.subst vars args).er=t.er.subst vars (args.map Ty.er):=by
 induction t using Ty.induct with
 |h t J =>
 rw[Uo,Uo vars (args.map Ty.er) t.er,A8q,B0g,Bc,Bc];by_cases E:t.args.length=0/\0<=Cb t.name vars 0/\Cb t.name vars 0<args.length
 .have I:(Cb t.name vars 0).toNat<args.length:=by omega
  rw[A6 E,A6 E,Ia,Ro,I8];rw[Db,Br I,Ef,Dh,Dh];generalize args[(Cb t.name vars 0).toNat]=u;rw[Ia u,Ia t];rfl
 .rw[A3 E,A3 E,Ia,Ro,I8,Dw,Dw];rw[Ia t,mkQ]
  congr 1
  refine Hb λu L=>?_;exact J u L
def G2o(vars:List A2)(args:List Ty)(f:Ak):(f.subst vars args).er=f.er.subst vars (args.map Ty.er):=by simp only[Ak.subst,Ak.er,Hq]
theorem D1i(vars:List A2)(args:List Ty)(f:Param):(f.subst vars args).er=f.er.subst vars (args.map Ty.er):=by simp only[Param.subst,Param.er,Hq]
theorem C6t(vars:List A2)(args:List Ty)(s:A4):(s.subst vars args).er=s.er.subst vars (args.map Ty.er):=by simp only[A4.subst,A4.er,Hq,Dw,A4.mk.injEq,T9,Qo];exact⟨Hb λu _=>G2o vars args u,Hb λu _=>D1i vars args u⟩
theorem Yk(l:List Ak):Ad (l.map Ak.er)=Ad l:=by simp only[Ad,Dw];rfl
def C7c(n:Nat):(D7 n).map Ty.er=D7 n:=by simp only[D7,Dw];refine Hb λi _=>?_;simp only[Function.comp,V4];rw[Ia];rfl
def B9s(s:A4):s.canon.er=s.er.canon:=by
 simp only[A4.canon,A4.er,A4.mk.injEq,Qo,T9];refine⟨?_,?_,?_⟩
 .refine Mm λi=>?_;simp only[H4,Db,S5,Yk,Bc];cases s.A1[i]? with
  |none=>rfl
  |some f=>simp only[Ef,Ak.er,Hq,C7c]
 .refine Mm λi=>?_;simp only[Hr,Db,S5,Yk,Bc];cases s.params[i]? with
  |none=>rfl
  |some f=>simp only[Ef,Param.er,Hq,C7c]
 rw[Hq,C7c,Yk,Bc]
theorem A3e{l:List A4}(E:(l.map (·.name)).Nodup){s t:A4}(hs:s∈l)(ht:t∈l)(h:s.name=t.name):s=t:=by
 induction l with
 |nil=>simp at hs
 |cons x l L =>rw[Cp,Ao7]at E;rcases B5.1 hs with J|hs1;rcases B5.1 ht with I|ht1;rw[J,I];exact absurd (show x.name∈l.map (·.name) from Au.2 ⟨t,ht1,by rw[<-h,J]⟩) E.1;rcases B5.1 ht with I|ht1;exact absurd (show x.name∈l.map (·.name) from Au.2 ⟨s,hs1,by rw[h,I]⟩) E.1;exact L E.2 hs1 ht1
def F1k{l:List A4}(U:(l.map (·.name)).Nodup)(w:A4):A8k l w=false↔∃s,s∈l/\s.name=w.name/\s.canon.er=w.canon.er:=by
 unfold A8k F5;rcases Lo (λs:A4=>decide (s.name=w.name)) l with⟨J,I⟩|⟨j,x,J,I,V⟩;rw[J,A6 (by decide)];constructor;intro h;cases h;rintro⟨s,hs,L,_⟩;have:=I s hs;simp[L]at this
 .rw[J,A3 (by omega),Hx,I,Dh];have O:=Bm I;have E:x.name=w.name:=by simpa using V
  constructor
  .intro h;refine⟨x,O,E,(D1f _ _).1 ?_⟩;cases Z:Pv x.canon w.canon with
   |true=>rfl
   |false=>rw[Z]at h;cases h
  rintro⟨s,hs,L,W⟩;obtain rfl:=A3e U hs O (L.trans E.symm);rw[(D1f _ _).2 W];rfl
def F1u{l:List A4}(E:(l.map (·.name)).Nodup)(m:List A4):J4 l m=[]↔∀w,w∈m->∃s,s∈l/\s.name=w.name/\s.canon.er=w.canon.er:=by unfold J4;rw[Ar3,List.filter_eq_nil_iff];refine forall_congr' λw=>forall_congr' λ_=>?_;rw[<-F1k E w];simp
def G1k{l m:List A4}(h:l.map A4.er=m.map A4.er):∀w,w∈m->∃s,s∈l/\s.name=w.name/\s.canon.er=w.canon.er:=by
 intro w I;have:w.er∈l.map A4.er:=by rw[h];exact Au.2 ⟨w,I,rfl⟩
 obtain⟨s,hs,E⟩:=Au.1 this;refine⟨s,hs,?_,by rw[B9s,B9s,E]⟩;have:s.er.name=w.er.name:=by rw[E]
 exact this
theorem A5o{x y:Ty}(h:x.er=y.er):x.name=y.name/\x.args.map Ty.er=y.args.map Ty.er/\x.args.length=y.args.length:=by
 have I:x.er.name=y.er.name:=by rw[h]
 have E:x.er.args=y.er.args:=by rw[h]
 rw[A8q,A8q]at I;rw[B0g,B0g]at E;exact⟨I,E,by have:=Gf List.length E;simpa using this⟩
def G0e{env:List Ak}{x y:Ty}(h:x.er=y.er):Fi env x=Fi env y:=by obtain⟨E,_,I⟩:=A5o h;unfold Fi;rw[E,I]
theorem B8o{env:List Ak}{x y:Ty}(h:x.er=y.er):Ct env x=Ct env y:=by unfold Ct;rw[G0e h]
theorem A2n{p:Prog}{x y:Ty}{k:Int}(h:x.er=y.er):Bb p x k=Bb p y k:=by obtain⟨E,_,I⟩:=A5o h;unfold Bb;rw[E,I]
def G7w{p:Prog}{env:List Ak}{x y:Ty}(h:x.er=y.er):isIface p env x=isIface p env y:=by unfold isIface;rw[A2n h,B8o h]
def F1f{vars:List A2}{a b:List Ty}(h:a.map Ty.er=b.map Ty.er)(l:List A4)(j:Nat):(Ic vars a l j).map A4.er=(Ic vars b l j).map A4.er:=by unfold Ic;rw[Dw,Dw];refine Hb λs _=>?_;simp only[Function.comp,C6t,h]
def F1g{p:Prog}{x y:Ty}(h:x.er=y.er):(H2 p x).map A4.er=(H2 p y).map A4.er:=by obtain⟨E,I,_⟩:=A5o h;unfold H2;rw[A2n h,E];split;exact F1f I _ _;rfl
def G1j{p:Prog}{x y:Ty}(h:x.er=y.er):J6 p x=J6 p y:=by obtain⟨E,_,I⟩:=A5o h;funext d i;unfold J6 J2;rw[A2n h,E,I]
def G1u{p:Prog}{x y:Ty}(h:x.er=y.er)(j:Nat):(Gw p x j).map A4.er=(Gw p y j).map A4.er:=by unfold Gw;rw[G1j h,Dw,Dw];refine Hb λs _=>?_;simp only[Function.comp,C6t,(A5o h).2.1]
def B8n{p:Prog}{env:List Ak}{x y:Ty}(h:x.er=y.er):(Cv p env x).map A4.er=(Cv p env y).map A4.er:=by
 unfold Cv;rw[B8o h];cases Ct env y with
 |some b=>rfl
 |none =>simp only[Rv,Nb,I5,Fm];rw[A2n h];split;exact F1g h;exact G1u h _
theorem A9x(p:Prog)(env:List Ak)(x:Ty):((Cv p env x).map (·.name)).Nodup:=by unfold Cv;split;exact B5g p _;split;simp;exact(B8b p _ _ (Bq _)).1
def C0m(p:Prog)(env:List Ak)(x:Ty):((Cd p env x).map (·.name)).Nodup :=(((Zf (Cv p env x)).map _).nodup_iff).2 (A9x p env x)
theorem Pd{p:Prog}{env:List Ak}{x:Ty}{s:A4}:s∈Cd p env x↔s∈Cv p env x:=(Zf _).mem_iff
def A6t{p:Prog}{env:List Ak}{x y:Ty}:J4 (Cd p env x) (Cd p env y)=[]↔∀w,w∈Cv p env y->∃s,s∈Cv p env x/\s.name=w.name/\s.canon.er=w.canon.er:=by rw[F1u (C0m p env x)];simp only[Pd]
theorem B7e(p:Prog)(env:List Ak)(x:Ty):Cg p env x x=true:=by unfold Cg;split;rw[E4,A6t];exact λw E=>⟨w,E,rfl,rfl⟩;exact(Sw x x).2 rfl
def R9{p:Prog}{env:List Ak}{x y z:Ty}(E:Cg p env x y=true)(I:Cg p env y z=true):Cg p env x z=true:=by
 unfold Cg at*;by_cases O:isIface p env z=true
 .rw[A6 O]at I |-;rw[E4,A6t]at I |-;have L:∀w,w∈Cv p env y->∃s,s∈Cv p env x/\s.name=w.name/\s.canon.er=w.canon.er:=by by_cases J:isIface p env y=true;rw[A6 J,E4,A6t]at E;exact E;rw[A3 J,Sw]at E;exact G1k (B8n E)
  intro w V;obtain⟨s,hs,e1,W⟩:=I w V;obtain⟨r,hr,Z,U⟩:=L s hs;exact⟨r,hr,Z.trans e1,U.trans W⟩
 .rw[A3 O,Sw]at I |-;have J:¬isIface p env y=true:=by rw[G7w I];exact O
  rw[A3 J,Sw]at E;exact E.trans I
theorem E1s(l:List Ak)(nm:A2):(Cb nm (Ad l) 0 = -1)\/∃(k:Nat)(f:Ak),l[k]?=some f/\f.name=nm/\Cb nm (Ad l) 0=(k:Int):=by rcases A3b nm (Ad l) 0 with⟨h,_⟩|⟨k,E,J⟩;exact .inl h;unfold Ad at E;rw[Db,P1]at E;obtain⟨f,L,I⟩:=E;exact .inr ⟨k,f,L,I,by rw[J];simp⟩
abbrev I7:List Nat:=[0,1,2,3,4,5,6,7,8,9,10,11,13,50,54,59,73,76,77,78,79]
def F1d(p:Prog)(h:p.Sm)(e v:Ex)(V:e.Sm)(h0:e.kids[0]?=some v):Ab prog 129 [maV p,Bg e] (Kd (Wx p e v)):=by
 have hv:=V.kids.2 v (Bm h0);have O:=G4s p h v.type hv.type e.name V.name;have aa:=V.kids.1;unfold Wx;cases hd:Ga p v.type e.name with
 |none =>
  rw[hd]at O;simp only[Rv,Nb]at O |-;refine cB func129 ?_;refine sR I7 ?_
  refine sV I7 λK z=>?_;refine cj (Ck h0) ?_;apply z;clear z K;refine sC O I7 ?_;refine kR I7 λK1 u1=>?_;refine tI ?_;refine sR I7 ?_;exact aR
 |some d =>
  rw[hd]at O;simp only[Dh,Ak5]at O |-;have J:=h.decls.2 d (C3a hd);by_cases W:d.sig.A1.length=e.targs.length
  .have E:(d.sig.A1.length:Int)=e.targs.length:=by omega
   by_cases a0:d.sig.params.length+1=e.kids.length
   .have I:(d.sig.params.length:Int)=e.kids.length - 1:=by omega
    rw[A6 ⟨W,a0⟩];refine cB func129 ?_;refine sR I7 ?_;refine sV I7 λK z=>?_;refine cj (Ck h0) ?_;apply z;clear z K;refine sC O I7<|sK λK1 u1=>?_
    refine sQ I7 λK z=>?_;refine Du E I ?_;refine⟨by first| (unfold B7;omega)| (simp only[B7,sm,lim]at*;omega),?_⟩;(try refine Du E I ?_);apply z;clear z K;refine kI u1 ?_;clear u1 K1;have a3:=F4h d.vars J.vars.1;have Z:=C0c d.sig.A1 J.sig.A1.1;have a2:=G2a [v.type.args,e.targs] (show 2<=sm by decide) (by simp only[Cp,It,Nf,List.sum_nil];have:=hv.type.len;have:=V.targs.1;omega);rw[show[v.type.args,e.targs].flatten=v.type.args++e.targs by simp]at a2;have L:∀u,u∈v.type.args++e.targs->u.Sm:=λu hu=>(C6.1 hu).elim (hv.type.arg u) (V.targs.2 u);have U:=E2o (d.vars++Ad d.sig.A1) (v.type.args++e.targs) L d.body J.body;have a4:=Ex.Sm.subst (vars:=d.vars++Ad d.sig.A1) L d.body J.body;unfold A9d;generalize d.body.subst (d.vars++Ad d.sig.A1) (v.type.args++e.targs)=body at*;have a1:=G3p (d.recv::d.sig.params.map (·.name)) e.kids V.kids.2 body a4;rw[Ce,D2j]at U;have a9:=J.vars.1;have a':=J.sig.A1.1;have a8:=J.sig.params.1;have a7:(Ad d.sig.A1).length=d.sig.A1.length:=by simp[Ad]
    rw[show d.sig.A1.map (λf=>f.name)=Ad d.sig.A1 from rfl]at Z;generalize Ad d.sig.A1=ns at*;refine sG I7 [54] 6 [⟨[],[],[],[]⟩,⟨[],[],[],[]⟩,⟨[54],[54],[],[]⟩,⟨[],[],[54],[54]⟩,⟨[],[],[54],[54]⟩,⟨[],[],[54],[54]⟩] λK z=>?_;refine ev ?_;refine⟨_,_,_,_,_,rfl,a3,?_⟩;(try refine ev ?_);refine cc Z ?_;refine⟨V0 _,by unfold lim sm at*;omega,?_⟩;(try refine ev ?_);apply z;clear z K;refine A0.Jh 54 rfl (A0.ww (sl':=[(3,.box 3 0),(4,.box 4 0),(6,.box 6 0),(7,.box 7 0),(9,.d (.slice (Ba d.vars++Ba ns)))]) (bx':=[(3,.cells (D5 e)),(4,.cells [.d (.int .i64 0),.d (.str []),.d (.str []),.d .nil,.d (.int .i64 0),.d .nil,.d .nil,.d (.int .i64 0)]),(6,.cells (D5 v)),(7,.cells ((B3 d).map .d))]) ⟨.inr (.inl rfl),.inr (.inl rfl),.inr (.inl rfl),.inr (.inl rfl),.inr (.inl rfl),trivial⟩ ⟨rfl,rfl,rfl,rfl,trivial⟩ ?_);refine sG I7 [] 12 [⟨[],[],[10],[10]⟩,⟨[],[],[10],[10]⟩,⟨[],[],[10],[10]⟩,⟨[],[],[10],[10]⟩,⟨[],[],[10],[10]⟩,⟨[],[],[10],[10]⟩,⟨[],[],[10],[10]⟩,⟨[],[],[10],[10]⟩,⟨[],[],[10],[10]⟩,⟨[],[],[10],[10]⟩,⟨[],[],[10],[10]⟩,⟨[10],[10],[],[]⟩] λK z=>?_;refine ev ?_;refine cc a2 ?_;refine cc U ?_;apply z;clear z K;refine A0.F9 I7 [73] (by decide +kernel) λK z=>?_;refine ev ?_;apply z;clear z K;refine kR I7 λK1 u1=>?_;refine A0.bb (A0.ii d.sig.params (X:=Unit) (λj _=>[(3,.box 3 0),(4,.box 4 0),(10,.box 10 0),(11,.acc 73),(76,.d (.slice (Ay d.sig.params))),(77,A7 d.sig.params.length),(78,A7 j)]) (λj _=>[(3,.cells (D5 e)),(4,.cells [.d (.int .i64 0),.d (.str []),.d (.str []),.d .nil,.d (.int .i64 0),.d .nil,.d .nil,.d (.int .i64 0)]),(10,.cells (D5 body)),(73,.rows 1 (Ba (d.recv::(d.sig.params.take j).map (·.name))))]) (λj _=>True) () trivial sS (by simp[ble,A8,Ba,D5]) ?_ ?_);intro _ _;rw[Cx];refine Ap B6 I7 ?_;refine A0.stop rfl ?_;simp only[A5,A9,Ac];refine u1 _ _ ?_;refine A0.Jh 73 rfl (A0.ww (sl':=[(3,.box 3 0),(4,.box 4 0),(10,.box 10 0),(11,.d (.slice (Ba (d.recv::d.sig.params.map (·.name)))))]) (bx':=[(3,.cells (D5 e)),(4,.cells [.d (.int .i64 0),.d (.str []),.d (.str []),.d .nil,.d (.int .i64 0),.d .nil,.d .nil,.d (.int .i64 0)]),(10,.cells (D5 body))]) ⟨.inr (.inl rfl),.inr (.inl rfl),.inr (.inl rfl),.inr (.inl rfl),trivial⟩ ⟨rfl,rfl,rfl,trivial⟩ ?_);refine sC a1 I7 ?_;exact aR
    .intro j _ f hf a6 dp tk a5 _;rw[tk];refine Ap a5 I7 ?_;refine A0.Ha rfl<|sK λK2 u2=>A0.bb ?_
     refine sV I7 λK z=>?_;refine ci (Dx hf) ?_;apply z;clear z K;(refine lV I7 λK z=>?_;refine⟨by simp,by simp only[Ar,Bc,D0];unfold lim sm at*;omega,?_⟩;(try refine ev ?_);apply z;clear z K;try simp only[A5,A9,Ac]);refine u2 _ _ ?_;clear u2 K2;(refine lV I7 λK z=>?_;refine cl ?_;apply z;clear z K;try simp only[A5,A9,Ac]);exact⟨(),trivial,sS,by simp[ble,A8,Ba,D5]⟩
   .have I:¬(d.sig.params.length:Int)=e.kids.length - 1:=by omega
    rw[A3 (λhh=>a0 hh.2)];refine cB func129 ?_;refine sR I7 ?_;refine sV I7 λK z=>?_;refine cj (Ck h0) ?_;apply z;clear z K;refine sC O I7<|sK λK1 u1=>?_
    refine sQ I7 λK z=>?_;refine Du E I ?_;refine⟨by first| (unfold B7;omega)| (simp only[B7,sm,lim]at*;omega),?_⟩;(try refine Du E I ?_);apply z;clear z K;refine tI ?_;refine sR I7 ?_;exact aR
  .have E:¬(d.sig.A1.length:Int)=e.targs.length:=by omega
   rw[A3 (λhh=>W hh.1)];refine cB func129 ?_;refine sR I7 ?_;refine sV I7 λK z=>?_;refine cj (Ck h0) ?_;apply z;clear z K;refine sC O I7 ?_;refine Ae E I7 λK1 u1=>?_;refine tI ?_;refine sR I7 ?_;exact aR
def Nt(p:Prog)(e:Ex):Ex × Int:=if e.kind=3 then(e,2)else match e.kids[0]? with
 |none=>(e,4)
 |some v=>if e.kind=2 then Wx p e v else if e.kind=4 then Vd p e v else if e.kind=5 then Ug p e v else(e,4)
mutual
def Bn(p:Prog):Ex->Ex × Int
 |.mk k n t a ks q=>match Lp p ks with
  |some (E,o)=>if o=1 then(.mk k n t a E q,1)else(.mk k n t a ks q,o)
  |none=>Nt p (.mk k n t a ks q)
def Lp(p:Prog):List Ex->Option (List Ex × Int)
 |[]=>none
 |k::ks=>if isVal k=true then(Lp p ks).map λr=>(k::r.1,r.2)else some ((Bn p k).1::ks,(Bn p k).2)
end
def S8(p:Prog)(e:Ex):Bn p e=match Lp p e.kids with
  |some (E,o)=>if o=1 then(e.Hz E,1)else(e,o)
  |none=>Nt p e:=by cases e with|mk k n t a ks q=>rw[Bn];rfl
def E1n{α:Type}(q:α->Bool)(x:α)(l:List α):Cw q (x::l)=if q x=true then 0 else if Cw q l<0 then -1 else Cw q l+1:=by
 unfold Cw;rw[List.findIdx?_cons];cases q x with
 |true=>rfl
 |false =>
  simp only[I5,Fm];cases l.findIdx? q with
  |none=>rfl
  |some i =>simp only[Ef];rw[A3 (by omega)];omega
def Z1(p:Prog):∀l:List Ex,(Cw (λk=>!isVal k) l = -1/\Lp p l=none)\/∃(i:Nat)(k:Ex),Cw (λk=>!isVal k) l=i/\l[i]?=some k/\isVal k=false/\(∀j x,j<i->l[j]?=some x->isVal x=true)/\Lp p l=some (l.set i (Bn p k).1,(Bn p k).2)
 |[]=>.inl ⟨rfl,by rw[Lp]⟩
 |x::l=>by
  rw[E1n,Lp];cases L:isVal x with
  |false=>exact .inr ⟨0,x,by simp,rfl,L,λj y V=>by omega,by simp⟩
  |true =>
   simp only[At6,I5,Fm,Ac];rcases Z1 p l with⟨I,J⟩|⟨i,k,I,J,O,W,U⟩;exact .inl ⟨by rw[I];rfl,by rw[J];rfl⟩
   .refine .inr ⟨i+1,k,by rw[I,A3 (by omega)];omega,by simpa using J,O,λj y V E=>?_,by rw[U];rfl⟩
    match j,E with
    |0,E=>simp only[Md,B0]at E;rw[<-E];exact L
    |j+1,E=>exact W j y (by omega) (by simpa using E)
def E0y(l:List Ex)(i:Nat)(e:Ex):(Bj l).set i (Bp e)=Bj (l.set i e):=by rw[I0,I0,List.map_set]
def A7f(n:Int)(h:(Lit.int .i64 n).wf=true):En prog 3 (.int .i64 n):=by have E:prog.underlying 3=some (.int .i64):=Dn.2.2.2.2.1;exact⟨rfl,by simp[D.kv,D.lit,Lit.value,Value.formed,E],by simp[D.kv,D.lit,D.lits,Lit.value,Value.cells,Program.keyLits,E,h]⟩
def T0(p:Prog)(f:FuncId):D:=.fn f [.agg [.ptr (G1 p)]]
def A0v(p:Prog):List (D × D):=[(.int .i64 2,T0 p 129),(.int .i64 4,T0 p 130),(.int .i64 5,T0 p 131)]
abbrev Hv:List Nat:=[0,1,2,3,4,5,6,7,8,9,10,11,12,16,28,34,48,50,72]
def E5u(p:Prog)(h:p.Sm)(e:Ex):e.Sm->Ab prog 69 [maV p,Bg e] (Kd (Bn p e)):=by
 induction e using Ex.induct with
 |h e ih =>
 intro he;have W:=E7r e he;have ab:=he.kids.1;rw[S8];rcases Z1 p e.kids with⟨h1,h2⟩|⟨i,k,h1,h2,h3,h4,h5⟩
 .have a1:B7r e = -1:=h1;rw[a1]at W;rw[h2];simp only;refine cB func69 ?_;refine sR Hv ?_;refine kC W Hv λU u1=>?_;refine sR Hv ?_;refine A0.ff rfl (A0.kk (u1 _ _ ?_));clear u1 U;unfold Nt;by_cases L:e.kind=3
  .rw[A6 L];have hx:Bg e=.agg [.d (.int .i64 3),.d (.str e.name),.d (.str e.type.name),.d (.slice (Ag e.type.args)),.d (.int .i64 e.type.pos),.d (.slice (Ag e.targs)),.d (.slice (Bj e.kids)),.d (.int .i64 e.pos)]:=by rw[<-L]
   have a7:Kd (e,2)=.tuple [.agg [.d (.int .i64 3),.d (.str e.name),.d (.str e.type.name),.d (.slice (Ag e.type.args)),.d (.int .i64 e.type.pos),.d (.slice (Ag e.targs)),.d (.slice (Bj e.kids)),.d (.int .i64 e.pos)],A7 2]:=by rw[<-hx]
   rw[a7];refine A0.ww (sl':=[(2,.box 2 0),(3,.box 3 0),(4,.box 4 0)]) (bx':=[(2,.cells [.Aj (G1 p) 0]),(3,.cells [.d (.int .i64 3),.d (.str e.name),.d (.str e.type.name),.d (.slice (Ag e.type.args)),.d (.int .i64 e.type.pos),.d (.slice (Ag e.targs)),.d (.slice (Bj e.kids)),.d (.int .i64 e.pos)]),(4,.cells [.d (.int .i64 0),.d (.str []),.d (.str []),.d .nil,.d (.int .i64 0),.d .nil,.d .nil,.d (.int .i64 0)])]) ⟨.inr (.inl rfl),.inr (.inl rfl),.inr (.inl rfl),trivial⟩ (by simp[ble,A8,L]) ?_
   refine kR Hv λU u1=>?_;refine tI ?_;refine sR Hv ?_;exact aR
  .rw[A3 L];refine Ae L Hv λU u1=>?_;refine kI u1 ?_;clear u1 U;refine A0.ww (sl':=[(2,.box 2 0),(3,.box 3 0),(4,.box 4 0)]) (bx':=[(2,.cells [.Aj (G1 p) 0]),(3,.cells (D5 e)),(4,.cells [.d (.int .i64 0),.d (.str []),.d (.str []),.d .nil,.d (.int .i64 0),.d .nil,.d .nil,.d (.int .i64 0)])]) ⟨.inr (.inl rfl),.inr (.inl rfl),.inr (.inl rfl),trivial⟩ ⟨rfl,rfl,rfl,trivial⟩ ?_
   have a2:D2 prog 121=some true:=by kernel_rfl
   have a3:C4 prog 121=some 1:=by kernel_rfl
   obtain⟨ft,Z,hz⟩:∃ft,prog.underlying 184=some (.map 3 ft)/\Z2 prog ft=some (.d .Lc):=⟨_,rfl,by kernel_rfl⟩;have a0:prog.underlying 3=some (.int .i64):=Dn.2.2.2.2.1;refine A0.seq (A0.region [2,3,4,10] [2,3,4,50] (by decide +kernel) ?_);refine⟨true,rfl,by simp[I1],λ_=>⟨_,_,_,D4j (k:=50) (by decide) rfl,?_⟩,λh=>by cases h⟩;refine⟨true,rfl,by simp[I1],λ_=>⟨_,_,_,C4p (k:=2) (off:=0) (n:=1) (cs:=[.Aj (G1 p) 0]) rfl rfl (by simp[G7,C5];rfl) a2 a3 (Bq 1) rfl,?_⟩,λh=>by cases h⟩;refine⟨true,rfl,by simp[I1],λ_=>⟨_,_,_,C4o rfl rfl,?_⟩,λh=>by cases h⟩;refine⟨true,rfl,by simp[I1],λ_=>⟨_,_,_,C3v (k:=50) (kn:=2) (kvs:=[]) rfl rfl (by simp[G7,C5]) Z a0 rfl rfl (by simp) rfl,?_⟩,λh=>by cases h⟩;refine⟨true,rfl,by simp[I1],λ_=>⟨_,_,_,C4p (k:=2) (off:=0) (n:=1) (cs:=[.Aj (G1 p) 0]) rfl rfl (by simp[G7,C5];rfl) a2 a3 (Bq 1) rfl,?_⟩,λh=>by cases h⟩;refine⟨true,rfl,by simp[I1],λ_=>⟨_,_,_,C4o rfl rfl,?_⟩,λh=>by cases h⟩;refine⟨true,rfl,by simp[I1],λ_=>⟨_,_,_,C3v (k:=50) (kn:=4) (kvs:=[(.int .i64 2,T0 p 129)]) rfl rfl (by simp[G7,C5,T0]) Z a0 (by simp[Ea,D.lits,D.lit]) rfl (by intro kv E;rw[Qp.1 E];exact A7f 2 (by decide)) rfl,?_⟩,λh=>by cases h⟩;refine⟨true,rfl,by simp[I1],λ_=>⟨_,_,_,C4p (k:=2) (off:=0) (n:=1) (cs:=[.Aj (G1 p) 0]) rfl rfl (by simp[G7,C5];rfl) a2 a3 (Bq 1) rfl,?_⟩,λh=>by cases h⟩;refine⟨true,rfl,by simp[I1],λ_=>⟨_,_,_,C4o rfl rfl,?_⟩,λh=>by cases h⟩;refine⟨true,rfl,by simp[I1],λ_=>⟨_,_,_,C3v (k:=50) (kn:=5) (kvs:=[(.int .i64 2,T0 p 129),(.int .i64 4,T0 p 130)]) rfl rfl (by simp[G7,C5,T0]) Z a0 (by simp[Ea,D.lits,D.lit]) rfl (by intro kv E;simp only[B5,Fb,Fg]at E;rcases E with rfl|rfl;exact A7f 2 (by decide);exact A7f 4 (by decide)) rfl,?_⟩,λh=>by cases h⟩;refine⟨true,rfl,by simp[I1],λ_=>⟨_,_,_,B5k rfl,?_⟩,λh=>by cases h⟩;refine⟨true,rfl,by simp[I1],λ_=>⟨_,_,_,B9x rfl,?_⟩,λh=>by cases h⟩;refine A0.ww (sl':=[(2,.box 2 0),(3,.box 3 0),(4,.box 4 0),(10,.mp 50)]) (bx':=[(2,.cells [.Aj (G1 p) 0]),(3,.cells (D5 e)),(4,.cells [.d (.int .i64 0),.d (.str []),.d (.str []),.d .nil,.d (.int .i64 0),.d .nil,.d .nil,.d (.int .i64 0)]),(50,.map (A0v p))])
    ⟨.inr (.inl rfl),.inr (.inl rfl),.inr (.inl rfl),.inr (.inl rfl),trivial⟩ ⟨rfl,rfl,rfl,rfl,trivial⟩ ?_
   have a9:Cm prog 28 0=some 0:=by kernel_rfl
   have a5:∀kv,kv∈A0v p->En prog 3 kv.1:=by
    intro kv E;simp only[A0v,B5,Fb,Fg]at E;rcases E with rfl|rfl|rfl
    .exact A7f 2 (by decide)
    .exact A7f 4 (by decide)
    .exact A7f 5 (by decide)
   obtain⟨v1,b,a4,I⟩:∃(v1:SV) (b:Bool),P8 true (.int .i64 e.kind) (A0v p) (.d .Lc)=.tuple [v1,B1 b] /\ ((b=false/\e.kind≠2/\e.kind≠4/\e.kind≠5)\/(b=true/\((e.kind=2/\v1=.d (T0 p 129))\/(e.kind=4/\v1=.d (T0 p 130))\/(e.kind=5/\v1=.d (T0 p 131))))):=by
    by_cases k2:e.kind=2
    .exact⟨_,true,by simp[P8,M8,A0v,Ea,D.lits,D.lit,Y8,T0,k2],.inr ⟨rfl,.inl ⟨k2,rfl⟩⟩⟩
    .by_cases k4:e.kind=4
     .exact⟨_,true,by simp[P8,M8,A0v,Ea,D.lits,D.lit,Y8,T0,k4],.inr ⟨rfl,.inr (.inl ⟨k4,rfl⟩)⟩⟩
     .by_cases k5:e.kind=5
      .exact⟨_,true,by simp[P8,M8,A0v,Ea,D.lits,D.lit,Y8,T0,k5],.inr ⟨rfl,.inr (.inr ⟨k5,rfl⟩)⟩⟩
      .exact⟨.d .Lc,false,by simp[P8,M8,A0v,Ea,D.lits,D.lit,k2,k4,k5],.inl ⟨rfl,k2,k4,k5⟩⟩
   refine A0.seq (A0.region [2,3,4,11,12] [2,3,4] (by decide +kernel) ?_);refine⟨true,rfl,by simp[I1],λ_=>⟨_,_,_,B5k rfl,?_⟩,λh=>by cases h⟩;refine⟨true,rfl,by simp[I1],λ_=>⟨_,_,_,D4o (k:=3) (off:=0) rfl rfl a9,?_⟩,λh=>by cases h⟩;refine⟨true,rfl,by simp[I1],λ_=>⟨_,_,_,G6v (k:=3) (off:=0) (cs:=D5 e) (c:=.d (.int .i64 e.kind)) rfl rfl (by simp) Dn.1 rfl,?_⟩,λh=>by cases h⟩;refine⟨true,rfl,by simp[I1],λ_=>⟨_,_,_,H0i (kn:=e.kind) (kvs:=A0v p) (z:=.d .Lc) rfl (.mp 50 _ (by simp)) Z a0 rfl a5 hz,?_⟩,λh=>by cases h⟩;rw[a4];refine⟨true,rfl,by simp[I1],λ_=>⟨_,_,_,B5k rfl,?_⟩,λh=>by cases h⟩;refine⟨true,rfl,by simp[I1],λ_=>⟨_,_,_,C4z (xs:=[v1,B1 b]) rfl rfl rfl,?_⟩,λh=>by cases h⟩;refine⟨true,rfl,by simp[I1],λ_=>⟨_,_,_,C4z (xs:=[v1,B1 b]) rfl rfl rfl,?_⟩,λh=>by cases h⟩;refine⟨true,rfl,by simp[I1],λ_=>⟨_,_,_,B9x rfl,?_⟩,λh=>by cases h⟩;refine⟨true,rfl,by simp[I1],λ_=>⟨_,_,_,B9x rfl,?_⟩,λh=>by cases h⟩;refine A0.ww (sl':=[(2,.box 2 0),(3,.box 3 0),(4,.box 4 0),(11,v1),(12,B1 b)]) (bx':=[(2,.cells [.Aj (G1 p) 0]),(3,.cells (D5 e)),(4,.cells [.d (.int .i64 0),.d (.str []),.d (.str []),.d .nil,.d (.int .i64 0),.d .nil,.d .nil,.d (.int .i64 0)])]) ⟨.inr (.inl rfl),.inr (.inl rfl),.inr (.inl rfl),.inr (.inl rfl),.inr (.inl rfl),trivial⟩ ⟨rfl,rfl,rfl,trivial⟩ ?_
   cases O:e.kids[0]? with
   |none =>
    have J:(e.kids.length:Int)=0:=by have:=List.getElem?_eq_none_iff.1 O;omega
    simp only;cases b
    .refine Ae J Hv λU u1=>?_;refine tI ?_;refine sR Hv ?_;exact aR
    .refine Ae J Hv λU u1=>?_;refine tI ?_;refine sR Hv ?_;exact aR
   |some v =>
    have J:¬(e.kids.length:Int)=0:=by have:=(Aw.1 O).1;omega
    simp only;rcases I with⟨rfl,k2,k4,k5⟩|⟨rfl,I⟩
    .rw[A3 k2,A3 k4,A3 k5];refine Ae J Hv λU u1=>?_;refine tI ?_;refine sR Hv ?_;exact aR
    .rcases I with hv1|hv1|hv1
     .obtain⟨hk,rfl⟩:=hv1;have hc:=F1d p h e v he O;rw[A6 hk];generalize Wx p e v=r at*;obtain⟨a,o⟩:=r;refine Ae J Hv λU u1=>?_;refine kI u1 ?_
      (refine A0.F9 Hv [800076] (by decide +kernel) λK z=>?_;refine ev ?_;refine⟨_,_,_,λo V _=>C3o (cells:=G1 p) (args:=[.tmp 75]) rfl rfl hc rfl o V,?_⟩;(try refine ev ?_);apply z;clear z K)
      exact aR
     .obtain⟨hk,rfl⟩:=hv1;have hc:=F3p p h e v he O;rw[A3 (by omega),A6 hk];generalize Vd p e v=r at*;obtain⟨a,o⟩:=r;refine Ae J Hv λU u1=>?_;refine kI u1 ?_
      (refine A0.F9 Hv [800076] (by decide +kernel) λK z=>?_;refine ev ?_;refine⟨_,_,_,λo V _=>C3o (cells:=G1 p) (args:=[.tmp 75]) rfl rfl hc rfl o V,?_⟩;(try refine ev ?_);apply z;clear z K)
      exact aR
     .obtain⟨hk,rfl⟩:=hv1;have hc:=G9h p h e v he O;rw[A3 (by omega),A3 (by omega),A6 hk];generalize Ug p e v=r at*;obtain⟨a,o⟩:=r;refine Ae J Hv λU u1=>?_;refine kI u1 ?_
      (refine A0.F9 Hv [800076] (by decide +kernel) λK z=>?_;refine ev ?_;refine⟨_,_,_,λo V _=>C3o (cells:=G1 p) (args:=[.tmp 75]) rfl rfl hc rfl o V,?_⟩;(try refine ev ?_);apply z;clear z K)
      exact aR
 .have a1:B7r e=i:=h1;rw[a1]at W;rw[h5];simp only;have a8:=Bm h2;have a6:=ih k a8 (he.kids.2 k a8);have a':=(Aw.1 h2).1;have aa:(i:Int) >= 0:=by omega
  generalize Bn p k=r at*;obtain⟨k',o⟩:=r;simp only at a6 |-;refine cB func69 ?_;refine sR Hv ?_;refine kC W Hv λU u1=>?_;refine Ap aa Hv ?_;refine A0.tt rfl ?_
  (refine sG Hv [7] 12 gk λK z=>?_;refine ev ?_;refine ci (Ck h2) ?_;refine cc a6 ?_;apply z;clear z K)
  by_cases V:o=1
  .rw[A6 V];refine Ae V Hv λK2 u2=>?_;refine kI u2 ?_;clear u2 K2
   (refine A0.F9 Hv [34] (by decide +kernel) λK z=>?_;refine ev ?_;refine⟨by omega,by omega,by unfold lim sm at*;omega,?_⟩;(try refine ev ?_);apply z;clear z K)
   (refine sV Hv λK z=>?_;refine⟨Z5 _,by simp[Wt],?_⟩;(try refine ev ?_);apply z;clear z K)
   refine A0.ww (sl':=[(3,.box 3 0),(4,.box 4 0),(6,A7 i),(7,.box 7 0),(9,.acc 34)]) (bx':=[(3,.cells (D5 e)),(4,.cells [.d (.int .i64 0),.d (.str []),.d (.str []),.d .nil,.d (.int .i64 0),.d .nil,.d .nil,.d (.int .i64 0)]),(7,.cells (D5 k')),(34,.rows 8 (Bj e.kids))]) ⟨.inr (.inl rfl),.inr (.inl rfl),.inr (.inl rfl),.inr (.inl rfl),.inr (.inl rfl),trivial⟩ (by simp[ble,A8,C5,Wt,D5]) ?_
   (refine sV Hv λK z=>?_;refine⟨by omega,a',_,Bp k',Ck h2,rfl,Bq 8,?_⟩;(try refine ev ?_);apply z;clear z K)
   refine A0.ww (sl':=[(3,.box 3 0),(4,.box 4 0),(9,.acc 34)]) (bx':=[(3,.cells (D5 e)),(4,.cells [.d (.int .i64 0),.d (.str []),.d (.str []),.d .nil,.d (.int .i64 0),.d .nil,.d .nil,.d (.int .i64 0)]),(34,.rows 8 (Bj (e.kids.set i k')))]) ⟨.inr (.inl rfl),.inr (.inl rfl),.inr (.inl rfl),trivial⟩ ⟨rfl,rfl,by rw[<-E0y];rfl,trivial⟩ ?_
   refine A0.Jh 34 rfl (A0.ww (sl':=[(3,.box 3 0),(4,.box 4 0),(9,.d (.slice (Bj (e.kids.set i k'))))]) (bx':=[(3,.cells (D5 e)),(4,.cells [.d (.int .i64 0),.d (.str []),.d (.str []),.d .nil,.d (.int .i64 0),.d .nil,.d .nil,.d (.int .i64 0)])]) ⟨.inr (.inl rfl),.inr (.inl rfl),.inr (.inl rfl),trivial⟩ ⟨rfl,rfl,trivial⟩ ?_)
   refine sR Hv ?_;refine sR Hv ?_;exact aR
  .rw[A3 V];refine Ae V Hv λK2 u2=>?_;refine tI ?_;refine sR Hv ?_;exact aR
mutual
def D7u:Ex->Ex × Bool
 |.mk k n t a ks q=>match E6s ks with
  |some r=>r
  |none=>(.mk k n t a ks q,!decide (k=3))
def E6s:List Ex->Option (Ex × Bool)
 |[]=>none
 |k::ks=>if isVal k=true then E6s ks else some (D7u k)
end
def C1e:∀l:List Ex,Te l=true↔∀x,x∈l->isVal x=true
 |[]=>by simp[Te]
 |x::l=>by rw[Te,Bi,C1e l];simp
def F0w{p:Prog}{l:List Ex}{j:Nat}{k:Ex}(O:∀x,x∈l.take j->isVal x=true)(L:l[j]?=some k)(V:isVal k=false):Lp p l=some (l.set j (Bn p k).1,(Bn p k).2):=by
 have J:Cw (λk=>!isVal k) l=(j:Int):=Sc L (by rw[V];rfl) λy U=>by rw[O y U];rfl
 rcases Z1 p l with⟨I,_⟩|⟨i,Z,I,E,_,_,W⟩;rw[J]at I;omega
 .have:i=j:=by rw[J]at I;omega
  subst this;rw[L]at E;simp only[B0]at E;subst E;exact W
def F8v{p:Prog}{l:List Ex}(J:∀x,x∈l->isVal x=true):Lp p l=none:=by rcases Z1 p l with⟨_,E⟩|⟨i,L,_,E,I,_⟩;exact E;rw[J L (Bm E)]at I;cases I
abbrev R7:List Nat:=[0,1,2,3,4,5,6,7,8,9,14,22,34,38]
def G0v(p:Prog)(hr:∀e:Ex,e.Sm->(∀x,x∈e.kids->isVal x=true)->Ab prog 114 [Cq p,Bg e] (Kd (Nt p e)))(e:Ex):e.Sm->Ab prog 52 [Cq p,Bg e] (Kd (Bn p e)):=by
 induction e using Ex.induct with
 |h e ih =>
 intro he;have O:=he.kids.1;refine cB func52 ?_;refine sR R7 ?_;refine kR R7 λK1 u1=>?_;refine A0.bb (A0.ii e.kids (X:=Unit) (λj _=>[(2,.box 2 0),(3,.box 3 0),(4,.box 4 0),(6,A7 j)]) (λj _=>[(2,.cells ((Ai p).map .d)),(3,.cells (D5 e)),(4,.cells [.d (.int .i64 0),.d (.str []),.d (.str []),.d .nil,.d (.int .i64 0),.d .nil,.d .nil,.d (.int .i64 0)])]) (λj _=>∀x,x∈e.kids.take j->isVal x=true) () (by simp) sS (by simp[ble,A8,D5,Ai]) ?_ ?_)
 .intro _ V;rw[Cx]at V;have a2:=hr e he V;refine Ae B6 R7 λW u2=>?_;refine A0.ss rfl ?_;simp only[A5,A9,Ac];refine u1 _ _ ?_;clear u1 K1 u2 W;rw[S8,F8v V];generalize Nt p e=r at*;obtain⟨k',o⟩:=r;refine sC a2 R7 ?_;exact aR
 .intro j _ d hd I dp tk a0 V;have Z:=F2t d (he.kids.2 d I);have a1:=(Aw.1 hd).1;refine Ae a0 R7 λW u2=>?_;refine gI u2 ?_;clear u2 W;refine sK λW u2=>A0.bb ?_;cases E:isVal d with
  |true =>rw[E]at Z;refine sK λU J=>?_;refine sV R7 λK z=>?_;refine ci (Ck hd) ?_;refine cc Z ?_;apply z;clear z K;refine A0.tt rfl (A0.xx ?_);simp only[A5,A9,Ac];refine u2 _ _ ?_;clear J U u2 W;(refine lV R7 λK z=>?_;refine cl ?_;apply z;clear z K;try simp only[A5,A9,Ac]);refine⟨(),?_,sS,by simp[ble,A8,D5,Ai]⟩;rw[tk];intro x hx;rcases C6.1 hx with hx|hx;exact V x hx;rw[Qp.1 hx];exact E
  |false =>
   rw[E]at Z;have hid:=ih d I (he.kids.2 d I);rw[S8,F0w V hd E];simp only;generalize Bn p d=r at*;obtain⟨k',o⟩:=r;refine sK λU J=>?_;refine sV R7 λK z=>?_;refine ci (Ck hd) ?_;refine cc Z ?_;apply z;clear z K;refine kI J ?_;clear J U;refine sG R7 [7] 12 gk λK z=>?_;refine ev ?_;refine ci (Ck hd) ?_;refine cc hid ?_;apply z;clear z K;by_cases ho:o=1
   .rw[A6 ho];refine Ae ho R7 λU J=>?_;refine kI J ?_;clear J U;refine sR R7 ?_;refine sG R7 [38] 14 [⟨[38],[38],[],[]⟩,⟨[],[],[38],[38]⟩,⟨[],[],[38],[38]⟩,⟨[],[],[38],[38]⟩,⟨[],[],[38],[38]⟩,⟨[38],[38],[],[]⟩,⟨[],[],[38],[38]⟩,⟨[],[],[38],[38]⟩,⟨[38],[38],[],[]⟩,⟨[],[],[38],[38]⟩,⟨[],[],[38],[38]⟩,⟨[],[],[38],[38]⟩,⟨[],[],[38],[38]⟩,⟨[],[],[38],[38]⟩] λK z=>?_;refine ev ?_;refine⟨Z5 _,by omega,by omega,?_⟩;(try refine ev ?_);refine⟨λrow h=>Z5 _ row (Mt h),by simp only[D0,Wt];unfold lim;have:=O;unfold sm at this;omega,?_⟩;(try refine ev ?_);refine⟨by simp,by simp only[D0,Wt];unfold lim;have:=O;unfold sm at this;omega,?_⟩;(try refine ev ?_);refine cl ?_;refine⟨Z5 _,by omega,by omega,by omega,?_⟩;(try refine ev ?_);refine⟨λrow h=>Z5 _ row (Mt (Aj6 h)),by simp only[As,D0,An9,Ar,Az,Wt];unfold lim;have:=O;unfold sm at this;omega,?_⟩;(try refine ev ?_);apply z;clear z K;have L:(Bj e.kids).take j++[Bp k']++((Bj e.kids).take e.kids.length).drop (((j:Int)+1).toNat)=Bj (e.kids.set j k'):=by rw[show((j:Int)+1).toNat=j+1 by omega,<-Wt e.kids,Cx,<-E0y,List.set_eq_take_append_cons_drop,A6 (by rw[Wt];exact a1),H8];rfl
    refine A0.ww (sl':=[(4,.box 4 0),(9,.box 9 0)]) (bx':=[(4,.cells [.d (.int .i64 0),.d (.str []),.d (.str []),.d .nil,.d (.int .i64 0),.d .nil,.d .nil,.d (.int .i64 0)]),(9,.cells [.d (.int .i64 e.kind),.d (.str e.name),.d (.str e.type.name),.d (.slice (Ag e.type.args)),.d (.int .i64 e.type.pos),.d (.slice (Ag e.targs)),.acc 38,.d (.int .i64 e.pos)]),(38,.rows 8 (Bj (e.kids.set j k')))]) ⟨.inr (.inl rfl),.inr (.inl rfl),trivial⟩ ⟨rfl,rfl,by rw[<-L];rfl,trivial⟩ ?_;refine sR R7 ?_;exact aR
   rw[A3 ho];refine Ae ho R7 λU J=>?_;refine tI ?_;refine sR R7 ?_;exact aR
def E3h{α:Type}(q:α->Bool):∀l:List α,(Cw q l = -1/\l.find? q=none)\/∃(j:Nat)(x:α),Cw q l=j/\l[j]?=some x/\l.find? q=some x
 |[]=>.inl ⟨rfl,rfl⟩
 |x::l=>by
  rw[E1n,Xc];cases L:q x with
  |true=>exact .inr ⟨0,x,by simp,rfl,rfl⟩
  |false =>
   simp only[I5,Fm];rcases E3h q l with⟨I,E⟩|⟨j,y,I,E,J⟩;exact .inl ⟨by rw[I];rfl,E⟩;exact .inr ⟨j+1,y,by rw[I,A3 (by omega)];omega,by simpa using E,J⟩
def E7n(p:Prog)(x:Ty)(m:A2):(J2 p x m<0/\Ga p x m=none)\/∃(j:Nat)(d:Decl),J2 p x m=j/\p.decls[j]?=some d/\Ga p x m=some d:=by unfold J2 Ga N9;by_cases I:Bb p x 1=true;rw[A6 I,A6 I];rcases E3h (Ez x.name m) p.decls with⟨L,J⟩|⟨j,d,L,J,O⟩;rw[L,J];left;refine⟨?_,rfl⟩;split;rw[A3 (by omega)];omega;omega;rw[L,Hx,J,O];simp only;by_cases E:d.vars.length=x.args.length;right;exact⟨j,d,by rw[A6 ⟨by omega,E⟩],J,by rw[A6 E]⟩;left;exact⟨by rw[A3 (λh=>E h.2)];omega,by rw[A3 E]⟩;rw[A3 I,A3 I];exact .inl ⟨by omega,rfl⟩
abbrev Zm(k:Int)(e:Ex):List SV:=[.d (.int .i64 k),.d (.str e.name),.d (.str e.type.name),.d (.slice (Ag e.type.args)),.d (.int .i64 e.type.pos),.d (.slice (Ag e.targs)),.d (.slice (Bj e.kids)),.d (.int .i64 e.pos)]
abbrev Ir:List Nat:=[0,1,2,3,4,5,6,7,8,9,10,11,12,13,14,17,32,46,54,64,69,78,84,89,98,123,125,134,144,150]
def G0w(p:Prog)(h:p.Sm)(e v:Ex)(he:e.Sm)(h0:e.kids[0]?=some v)(hk:e.kind=4):Ab prog 114 [Cq p,Bg e] (Kd (Vd p e v)):=by
 have hv:=he.kids.2 v (Bm h0);have I:=A0m p v.type 1;have Z:Bg e=.agg [.d (.int .i64 4),.d (.str e.name),.d (.str e.type.name),.d (.slice (Ag e.type.args)),.d (.int .i64 e.type.pos),.d (.slice (Ag e.targs)),.d (.slice (Bj e.kids)),.d (.int .i64 e.pos)]:=by rw[<-hk]
 have L:¬(e.kids.length:Int)=0:=by have:=(Aw.1 h0).1;omega
 unfold Vd;cases hi:Bb p v.type 1 with
 |false =>rw[hi]at I;rw[A3 (λhh=>by cases hh.1)];rw[show Kd (e,4)=.tuple [Bg e,A7 4] from rfl,Z];refine cB func114 ?_;refine sR Ir ?_;refine kR Ir λE u1=>?_;refine kI u1 ?_;clear u1 E;refine Ae L Ir λE u1=>?_;refine kI u1 ?_;clear u1 E;refine sV Ir λK z=>?_;refine cj (Ck h0) ?_;apply z;clear z K;refine kC I Ir λE u1=>?_;refine A0.ff rfl (A0.kk (u1 _ _ ?_));clear u1 E;refine kR Ir λE u1=>?_;refine kI u1 ?_;clear u1 E;refine kR Ir λE u1=>?_;refine tI ?_;refine sR Ir ?_;exact aR
 |true =>
  rw[hi]at I;have hf:=B2d p h v.type hv.type hi;have a2:=A5m h v.type;generalize Bo p v.type=fs at*;generalize hz:Cw (λf:Param=>decide (f.name=e.name)) fs=z;have W:Kd (if true=true/\0<=z/\z<v.kids.length then((v.kids[z.toNat]?).getD v,1)else(e,4))=Kd (if 0<=z/\z<v.kids.length then((v.kids[z.toNat]?).getD v,1)else(e,4)):=by simp
  rw[W];clear W;refine cB func114 ?_;rw[Z];refine sR Ir ?_;refine kR Ir λE u1=>?_;refine kI u1 ?_;clear u1 E;refine Ae L Ir λE u1=>?_;refine kI u1 ?_;clear u1 E;refine sV Ir λK z=>?_;refine cj (Ck h0) ?_;apply z;clear z K;refine kC I Ir λE u1=>?_;refine A0.tt rfl<|sC hf Ir ?_;refine sR Ir ?_;refine A0.bb (A0.ii fs (X:=Unit) (λj _=>[(3,.box 3 0),(4,.box 4 0),(6,.box 6 0),(7,.d (.slice (Ay fs))),(8,A7 j)]) (λj _=>[(3,.cells (Zm 4 e)),(4,.cells [.d (.int .i64 0),.d (.str []),.d (.str []),.d .nil,.d (.int .i64 0),.d .nil,.d .nil,.d (.int .i64 0)]),(6,.cells (D5 v))]) (λj _=>∀y,y∈fs.take j->decide (y.name=e.name)=false) () (by simp) sS (by simp[ble,A8,D5,Zm]) ?_ ?_)
  intro _ U;rw[Cx]at U;rw[Tb U]at hz;refine Ae B6 Ir λV u2=>?_;refine A0.ss rfl ?_;simp only[A5,A9,Ac];refine u1 _ _ ?_;clear u1 E u2 V;rw[A3 (λhh=>by omega)];rw[show Kd (e,4)=.tuple [Bg e,A7 4] from rfl,Z];refine wk [(3,.box 3 0),(4,.box 4 0)] [(3,.cells [.d (.int .i64 4),.d (.str e.name),.d (.str e.type.name),.d (.slice (Ag e.type.args)),.d (.int .i64 e.type.pos),.d (.slice (Ag e.targs)),.d (.slice (Bj e.kids)),.d (.int .i64 e.pos)]),(4,.cells [.d (.int .i64 0),.d (.str []),.d (.str []),.d .nil,.d (.int .i64 0),.d .nil,.d .nil,.d (.int .i64 0)])] ?_;refine kR Ir λE u1=>?_;refine kI u1 ?_;clear u1 E;refine kR Ir λE u1=>?_;refine tI ?_;refine sR Ir ?_;exact aR
  .intro j _ f hd a1 dp tk a0 U;refine Ae a0 Ir λV u2=>?_;refine gI u2 ?_;clear u2 V;refine sK λV u2=>A0.bb ?_;by_cases J:f.name=e.name
   .rw[Sc hd (by simp[J]) U]at hz;by_cases hj:(j:Int)<v.kids.length
    .have O:v.kids[j]?=some v.kids[j]:=Br (by omega);rw[<-hz,A6 ⟨by omega,hj⟩,Hx,O,Dh];generalize v.kids[j]=u at*
     (refine sG Ir [] 7 [] λK z=>?_;refine Ah J ?_;refine⟨by omega,_,Dx hd,rfl,?_⟩;(try refine Ah J ?_);apply z;clear z K)
     refine A0.tt rfl<|Ae hj Ir λK3 u3=>?_;refine tI ?_
     (refine sV Ir λK z=>?_;refine ci (Ck O) ?_;apply z;clear z K)
     exact aR
    .rw[<-hz,A3 (λhh=>hj hh.2)];rw[show Kd (e,4)=.tuple [Bg e,A7 4] from rfl,Z]
     (refine sG Ir [] 7 [] λK z=>?_;refine Ah J ?_;refine⟨by omega,_,Dx hd,rfl,?_⟩;(try refine Ah J ?_);apply z;clear z K)
     refine A0.tt rfl<|Ae hj Ir λK3 u3=>?_;refine kI u3 ?_;clear u3 K3;refine wk [(3,.box 3 0),(4,.box 4 0)] [(3,.cells [.d (.int .i64 4),.d (.str e.name),.d (.str e.type.name),.d (.slice (Ag e.type.args)),.d (.int .i64 e.type.pos),.d (.slice (Ag e.targs)),.d (.slice (Bj e.kids)),.d (.int .i64 e.pos)]),(4,.cells [.d (.int .i64 0),.d (.str []),.d (.str []),.d .nil,.d (.int .i64 0),.d .nil,.d .nil,.d (.int .i64 0)])] ?_;refine sR Ir ?_;exact aR
   ·(refine sG Ir [] 7 [] λK z=>?_;refine Ah J ?_;refine⟨by omega,_,Dx hd,rfl,?_⟩;(try refine Ah J ?_);apply z;clear z K)
    refine A0.ff rfl (A0.kk (u2 _ _ ?_));clear u2 V
    (refine lV Ir λK z=>?_;refine cl ?_;apply z;clear z K;try simp only[A5,A9,Ac])
    refine⟨(),?_,sS,by simp[ble,A8,D5,Zm]⟩;rw[tk];intro y hy;rcases C6.1 hy with hy|hy
    .exact U y hy
    .rw[Qp.1 hy];simp[J]
abbrev Qv:List Nat:=[0,1,2,3,4,5,6,7,8,9,10,11,12,13,14,17,32,46,54,64,69,78,84,89,98,123,125,134,144,150]
def G8m(p:Prog)(h:p.Sm)(e v:Ex)(U:e.Sm)(J:e.kids[0]?=some v)(W:e.kind=5):Ab prog 114 [Cq p,Bg e] (Kd (Ug p e v)):=by
 have V:=U.kids.2 v (Bm J);have O:=A6r p h [] (by simp) (by simp) v.type e.type V.type U.type;have L:Bg e=.agg [.d (.int .i64 5),.d (.str e.name),.d (.str e.type.name),.d (.slice (Ag e.type.args)),.d (.int .i64 e.type.pos),.d (.slice (Ag e.targs)),.d (.slice (Bj e.kids)),.d (.int .i64 e.pos)]:=by rw[<-W]
 have I:¬(e.kids.length:Int)=0:=by have:=(Aw.1 J).1;omega
 unfold Ug;generalize Cg p [] v.type e.type=b at*;cases b;rw[A3 (by decide)];rw[show Kd (e,3)=.tuple [Bg e,A7 3] from rfl,L];refine cB func114 ?_;refine sR Qv ?_;refine kR Qv λE u1=>?_;refine kI u1 ?_;clear u1 E;refine Ae I Qv λE u1=>?_;refine kI u1 ?_;clear u1 E;refine sV Qv λK z=>?_;refine cj (Ck J) ?_;apply z;clear z K;refine kR Qv λE u1=>?_;refine A0.ff rfl (A0.kk (u1 _ _ ?_));clear u1 E;refine kR Qv λE u1=>?_;refine A0.tt rfl<|kC O Qv λZ u2=>?_;refine kI u2 ?_;refine sR Qv ?_;exact aR
 rw[A6 rfl];rw[L];refine cB func114 ?_;refine sR Qv ?_;refine kR Qv λE u1=>?_;refine kI u1 ?_;clear u1 E;refine Ae I Qv λE u1=>?_;refine kI u1 ?_;clear u1 E;refine sV Qv λK z=>?_;refine cj (Ck J) ?_;apply z;clear z K;refine kR Qv λE u1=>?_;refine A0.ff rfl (A0.kk (u1 _ _ ?_));clear u1 E;refine kR Qv λE u1=>?_;refine A0.tt rfl<|kC O Qv λZ u2=>?_;refine tI ?_;refine sR Qv ?_;exact aR
abbrev Gz:List Nat:=[0,1,2,3,4,5,6,7,8,9,10,11,12,13,14,17,32,46,54,64,69,78,84,89,98,123,125,134,144,150]
def G6r(p:Prog)(h:p.Sm)(e v:Ex)(he:e.Sm)(h0:e.kids[0]?=some v)(hk:e.kind=2):Ab prog 114 [Cq p,Bg e] (Kd (Wx p e v)):=by
 have hv:=he.kids.2 v (Bm h0);have hm:=B5t p h.decls.1 v.type e.name;have ab:=he.kids.1;have hx:Bg e=.agg [.d (.int .i64 2),.d (.str e.name),.d (.str e.type.name),.d (.slice (Ag e.type.args)),.d (.int .i64 e.type.pos),.d (.slice (Ag e.targs)),.d (.slice (Bj e.kids)),.d (.int .i64 e.pos)]:=by rw[<-hk]
 have U:¬(e.kids.length:Int)=0:=by have:=(Aw.1 h0).1;omega
 unfold Wx;rcases E7n p v.type e.name with⟨g1,g2⟩|⟨i,d,g1,g2,g3⟩;rw[g2];simp only;generalize J2 p v.type e.name=z at*;rw[show Kd (e,4)=.tuple [Bg e,A7 4] from rfl,hx];refine cB func114 ?_;refine sR Gz ?_;refine kR Gz λE u1=>?_;refine kI u1 ?_;clear u1 E;refine Ae U Gz λE u1=>?_;refine kI u1 ?_;clear u1 E;refine sV Gz λK z=>?_;refine cj (Ck h0) ?_;apply z;clear z K;refine kR Gz λE u1=>?_;refine A0.ff rfl (A0.kk (u1 _ _ ?_));clear u1 E;refine kR Gz λE u1=>?_;refine A0.ff rfl (A0.kk (u1 _ _ ?_));clear u1 E;refine kR Gz λE u1=>?_;refine kI u1 ?_;clear u1 E;refine sC hm Gz ?_;refine Ae g1 Gz λE u1=>?_;refine tI ?_;refine sR Gz ?_;exact aR
 .rw[g3];rw[g1]at hm;simp only;have L:=h.decls.2 d (Bm g2);have a4:¬(i:Int)<0:=by omega
  have a8:=L.sig.params.1;refine cB func114 ?_;rw[hx];refine sR Gz ?_;refine kR Gz λE u1=>?_;refine kI u1 ?_;clear u1 E;refine Ae U Gz λE u1=>?_;refine kI u1 ?_;clear u1 E;refine sV Gz λK z=>?_;refine cj (Ck h0) ?_;apply z;clear z K;refine kR Gz λE u1=>?_;refine A0.ff rfl (A0.kk (u1 _ _ ?_));clear u1 E;refine kR Gz λE u1=>?_;refine A0.ff rfl (A0.kk (u1 _ _ ?_));clear u1 E;refine kR Gz λE u1=>?_;refine kI u1 ?_;clear u1 E;refine sC hm Gz ?_;refine Ae a4 Gz λE u1=>?_;refine kI u1 ?_;clear u1 E;refine sV Gz λK z=>?_;refine ci (Ek g2) ?_;apply z;clear z K;by_cases W:d.sig.A1.length=e.targs.length
  .have I:(d.sig.A1.length:Int)=e.targs.length:=by omega
   by_cases a0:d.sig.params.length+1=e.kids.length
   .have J:(d.sig.params.length:Int)+1=e.kids.length:=by omega
    rw[A6 ⟨W,a0⟩];refine sK λE u1=>?_;refine sQ Gz λK z=>?_;refine Du I J ?_;refine⟨by first| (unfold B7;omega)| (simp only[B7,sm,lim]at*;omega),?_⟩;(try refine Du I J ?_);apply z;clear z K;refine kI u1 ?_;clear u1 E;have Z:=Qh d.sig.A1 L.sig.A1.1;have O:∀u,u∈v.type.args++e.targs->u.Sm:=λu hu=>(C6.1 hu).elim (hv.type.arg u) (he.targs.2 u);have V:=B6k (d.vars++Ad d.sig.A1) (v.type.args++e.targs) O d.body L.body;have a2:=Ex.Sm.subst (vars:=d.vars++Ad d.sig.A1) O d.body L.body;unfold A9d;generalize d.body.subst (d.vars++Ad d.sig.A1) (v.type.args++e.targs)=body at*;have a1:=E8o (d.recv::d.sig.params.map (·.name)) e.kids he.kids.2 body a2;rw[Ce,D2j,Co,E9t]at V;have a9:=L.vars.1;have a':=L.sig.A1.1;have aa:=hv.type.len;have a6:=he.targs.1;have a7:(Ad d.sig.A1).length=d.sig.A1.length:=by simp[Ad]
    rw[show d.sig.A1.map (λf=>f.name)=Ad d.sig.A1 from rfl]at Z;generalize Ad d.sig.A1=ns at*;refine sG Gz [125] 7 [⟨[125],[125],[],[]⟩,⟨[],[],[125],[125]⟩,⟨[],[],[125],[125]⟩,⟨[125],[125],[],[]⟩,⟨[],[],[125],[125]⟩,⟨[],[],[125],[125]⟩,⟨[],[],[125],[125]⟩] λK z=>?_;refine ev ?_;refine⟨V0 _,by unfold lim sm at*;omega,?_⟩;(try refine ev ?_);refine cc Z ?_;refine⟨V0 _,by unfold lim sm at*;omega,?_⟩;(try refine ev ?_);apply z;clear z K;refine A0.Jh 125 rfl (A0.ww (sl':=[(3,.box 3 0),(4,.box 4 0),(6,.box 6 0),(10,.box 10 0),(11,.d (.slice (Ba d.vars++Ba ns)))]) (bx':=[(3,.cells (Zm 2 e)),(4,.cells [.d (.int .i64 0),.d (.str []),.d (.str []),.d .nil,.d (.int .i64 0),.d .nil,.d .nil,.d (.int .i64 0)]),(6,.cells (D5 v)),(10,.cells ((B3 d).map .d))]) ⟨.inr (.inl rfl),.inr (.inl rfl),.inr (.inl rfl),.inr (.inl rfl),.inr (.inl rfl),trivial⟩ ⟨rfl,rfl,rfl,rfl,trivial⟩ ?_);refine sG Gz [134] 7 [⟨[134],[134],[],[]⟩,⟨[],[],[134],[134]⟩,⟨[],[],[134],[134]⟩,⟨[],[],[134],[134]⟩,⟨[134],[134],[],[]⟩,⟨[],[],[134],[134]⟩,⟨[],[],[134],[134]⟩] λK z=>?_;refine ev ?_;refine⟨A4x _,by unfold lim sm at*;omega,?_⟩;(try refine ev ?_);refine⟨A4x _,by unfold lim sm at*;omega,?_⟩;(try refine ev ?_);apply z;clear z K;refine A0.Jh 134 rfl (A0.ww (sl':=[(3,.box 3 0),(4,.box 4 0),(10,.box 10 0),(11,.d (.slice (Ba d.vars++Ba ns))),(12,.d (.slice (Ag v.type.args++Ag e.targs)))]) (bx':=[(3,.cells (Zm 2 e)),(4,.cells [.d (.int .i64 0),.d (.str []),.d (.str []),.d .nil,.d (.int .i64 0),.d .nil,.d .nil,.d (.int .i64 0)]),(10,.cells ((B3 d).map .d))]) ⟨.inr (.inl rfl),.inr (.inl rfl),.inr (.inl rfl),.inr (.inl rfl),.inr (.inl rfl),trivial⟩ ⟨rfl,rfl,rfl,trivial⟩ ?_);refine A0.F9 Gz [144] (by decide +kernel) λK z=>?_;refine ev ?_;apply z;clear z K;refine kR Gz λE u1=>?_;refine A0.bb (A0.ii d.sig.params (X:=Unit) (λj _=>[(3,.box 3 0),(4,.box 4 0),(10,.box 10 0),(11,.d (.slice (Ba d.vars++Ba ns))),(12,.d (.slice (Ag v.type.args++Ag e.targs))),(13,.acc 144),(14,A7 j)]) (λj _=>[(3,.cells (Zm 2 e)),(4,.cells [.d (.int .i64 0),.d (.str []),.d (.str []),.d .nil,.d (.int .i64 0),.d .nil,.d .nil,.d (.int .i64 0)]),(10,.cells ((B3 d).map .d)),(144,.rows 1 (Ba (d.recv::(d.sig.params.take j).map (·.name))))]) (λj _=>True) () trivial sS (by simp[ble,A8,Ba,Zm,B3]) ?_ ?_);intro _ _;rw[Cx];refine Ae B6 Gz λK2 u2=>?_;refine A0.ss rfl ?_;simp only[A5,A9,Ac];refine u1 _ _ ?_;clear u1 E u2 K2;refine A0.Jh 144 rfl (A0.ww (sl':=[(3,.box 3 0),(4,.box 4 0),(10,.box 10 0),(11,.d (.slice (Ba d.vars++Ba ns))),(12,.d (.slice (Ag v.type.args++Ag e.targs))),(13,.d (.slice (Ba (d.recv::d.sig.params.map (·.name)))))]) (bx':=[(3,.cells (Zm 2 e)),(4,.cells [.d (.int .i64 0),.d (.str []),.d (.str []),.d .nil,.d (.int .i64 0),.d .nil,.d .nil,.d (.int .i64 0)]),(10,.cells ((B3 d).map .d))]) ⟨.inr (.inl rfl),.inr (.inl rfl),.inr (.inl rfl),.inr (.inl rfl),.inr (.inl rfl),.inr (.inl rfl),trivial⟩ ⟨rfl,rfl,rfl,trivial⟩ ?_);refine sG Gz [] 8 [] λK z=>?_;refine ev ?_;refine cc V ?_;refine cc a1 ?_;apply z;clear z K;exact aR;intro j _ f hf a5 dp tk a3 _;rw[tk];refine Ae a3 Gz λK2 u2=>?_;refine gI u2 ?_;clear u2 K2;refine sK λK2 u2=>A0.bb ?_;(refine lV Gz λK z=>?_;refine ci (Dx hf) ?_;refine⟨by simp,by simp only[Ar,Bc,D0];unfold lim sm at*;omega,?_⟩;(try refine ev ?_);apply z;clear z K;try simp only[A5,A9,Ac]);refine u2 _ _ ?_;clear u2 K2;(refine lV Gz λK z=>?_;refine cl ?_;apply z;clear z K;try simp only[A5,A9,Ac]);exact⟨(),trivial,sS,by simp[ble,A8,Ba,Zm,B3]⟩
   .have J:¬(d.sig.params.length:Int)+1=e.kids.length:=by omega
    rw[A3 (λhh=>a0 hh.2)];rw[show Kd (e,4)=.tuple [Bg e,A7 4] from rfl,hx];refine sK λE u1=>?_;refine sQ Gz λK z=>?_;refine Du I J ?_;refine⟨by first| (unfold B7;omega)| (simp only[B7,sm,lim]at*;omega),?_⟩;(try refine Du I J ?_);apply z;clear z K;refine tI ?_;refine sR Gz ?_;exact aR
  .have I:¬(d.sig.A1.length:Int)=e.targs.length:=by omega
   rw[A3 (λhh=>W hh.1)];rw[show Kd (e,4)=.tuple [Bg e,A7 4] from rfl,hx];refine Ae I Gz λE u1=>?_;refine tI ?_;refine sR Gz ?_;exact aR
abbrev A2i:List Nat:=[0,1,2,3,4,5,6,7,8,9,10,11,12,13,14,17,32,46,54,64,69,78,84,89,98,123,125,134,144,150]
def E2d(p:Prog)(e:Ex)(L:e.kind≠3)(V:e.kids.length=0\/e.kind<2\/e.kind > 5):Ab prog 114 [Cq p,Bg e] (Kd (e,4)):=by
 refine cB func114 ?_;refine sR A2i ?_;refine Ae L A2i λI u1=>?_;refine kI u1 ?_;clear u1 I;by_cases U:e.kids.length=0
 .have E:(e.kids.length:Int)=0:=by omega
  refine Ae E A2i λI u1=>?_;refine tI ?_;refine sR A2i ?_;exact aR
 .have E:¬(e.kids.length:Int)=0:=by omega
  by_cases J:e.kind<2;refine P4 E J A2i λI u1=>?_;refine tI ?_;refine sR A2i ?_;exact aR
  .have O:e.kind > 5:=by omega
   refine kR3 E J O A2i λI u1=>?_;refine tI ?_;refine sR A2i ?_;exact aR
abbrev C5i:List Nat:=[0,1,2,3,4,5,6,7,8,9,10,11,12,13,14,17,32,46,54,64,69,78,84,89,98,123,125,134,144,150]
def G0k(p:Prog)(e:Ex)(I:e.kind=3):Ab prog 114 [Cq p,Bg e] (Kd (e,2)):=by
 have E:Bg e=.agg [.d (.int .i64 3),.d (.str e.name),.d (.str e.type.name),.d (.slice (Ag e.type.args)),.d (.int .i64 e.type.pos),.d (.slice (Ag e.targs)),.d (.slice (Bj e.kids)),.d (.int .i64 e.pos)]:=by rw[<-I]
 rw[show Kd (e,2)=.tuple [Bg e,A7 2] from rfl,E];refine cB func114 ?_;refine sR C5i ?_;refine kR C5i λJ u1=>?_;refine tI ?_;refine sR C5i ?_;exact aR
def G7f(p:Prog)(h:p.Sm)(e:Ex)(L:e.Sm):Ab prog 114 [Cq p,Bg e] (Kd (Nt p e)):=by
 unfold Nt;by_cases E:e.kind=3;rw[A6 E];exact G0k p e E
 .rw[A3 E];cases I:e.kids[0]? with
  |none=>exact E2d p e E (.inl (by have:=List.getElem?_eq_none_iff.1 I;omega))
  |some v =>
   simp only;by_cases U:e.kind=2;rw[A6 U];exact G6r p h e v L I U;rw[A3 U];by_cases O:e.kind=4;rw[A6 O];exact G0w p h e v L I O;rw[A3 O];by_cases J:e.kind=5;rw[A6 J];exact G8m p h e v L I J;rw[A3 J];exact E2d p e E (.inr (by omega))
def D1g(t:Ty):Ns t t=true:=(Sw t t).2 rfl
def C9z:∀l:List Ty,Jy l l=true
 |[]=>by rw[Jy]
 |t::l=>by rw[Jy,D1g,C9z l];rfl
def D3c:∀l:List Ex,(∀x,x∈l->Sh x x=true)->Kk l l=true
 |[],_=>by rw[Kk]
 |t::l,h=>by rw[Kk,h t (by simp),D3c l (λx E=>h x (by simp[E]))];rfl
def C4g(e:Ex):Sh e e=true:=by
 induction e using Ex.induct with
 |h e E=>rw[C2n,D1g,C9z,D3c _ E];simp
def C8g(p:Prog)(h:p.Sm)(e:Ex)(I:e.Sm)(hs:(Bn p e).1.Sm):Ab prog 26 [Cq p,Bg e] (Kd (Bn p e)):=by have E:=D6s p h;have J:=E5u p h e I;generalize Bn p e=r at*;obtain⟨x,o⟩:=r;have L:=A4k x hs;refine cB func26 ?_;refine sR [0,1,2,3,4,5,6,7] ?_;refine sG [0,1,2,3,4,5,6,7] [6] 10 [⟨[],[],[6],[6]⟩,⟨[],[],[6],[6]⟩,⟨[],[],[6],[6]⟩,⟨[],[],[6],[6]⟩,⟨[],[],[6],[6]⟩,⟨[],[],[6],[6]⟩,⟨[],[],[6],[6]⟩,⟨[],[],[6],[6]⟩,⟨[6],[6],[],[]⟩,⟨[6],[],[],[]⟩] λK z=>?_;refine ev ?_;refine cc E ?_;refine cc J ?_;apply z;clear z K;refine sC L [0,1,2,3,4,5,6,7] ?_;exact aR
def Hd(p:Prog):Nat->Ex->Ex × Int × Int
 |0,e=>(e,0,(Bn p e).2)
 |n+1,e=>if(Bn p e).2=1 then((Hd p n (Bn p e).1).1,(Hd p n (Bn p e).1).2.1+1,(Hd p n (Bn p e).1).2.2)else(e,0,(Bn p e).2)
def A6w(p:Prog):Nat->Ex->Prop
 |0,e=>e.Sm
 |n+1,e=>e.Sm/\((Bn p e).2=1->A6w p n (Bn p e).1)
theorem A6w.sm{p:Prog}:∀{n:Nat} {e:Ex},A6w p n e->e.Sm
 |0,_,h=>h
 |_+1,_,h=>h.1
abbrev F8z(r:Ex × Int × Int):SV:=.tuple [Bg r.1,A7 r.2.1,A7 r.2.2]
abbrev U2:List Nat:=[0,1,2,3,4,6,7,8,9,10,11,12,28]
def G1n(p:Prog)(h:p.Sm)(n:Nat)(hn:n<=1000000)(V:Ex)(hs:A6w p n V):Ab prog 77 [Cq p,Bg V,A7 n] (F8z (Hd p n V)):=by
 have h1:=D6s p h;generalize Z:Hd p n V=R;refine cB func77 ?_;refine sR U2 ?_;refine A0.scope<|sC h1 U2 ?_;refine sR U2 ?_;refine A0.G2d ?_;refine A0.bb (A0.loop (X:=Nat × Ex) (λz=>[(2,A7 n),(4,.box 4 0),(6,.box 6 0),(7,.d (.int .i64 0)),(8,.d (.int .i64 0)),(9,.box 9 0),(10,A7 z.1)]) (λz=>[(4,.cells (D5 z.2)),(6,.cells [.d (.int .i64 0),.d (.str []),.d (.str []),.d .nil,.d (.int .i64 0),.d .nil,.d .nil,.d (.int .i64 0)]),(9,.cells [.Aj (G1 p) 0])]) (λz=>z.1<=n/\A6w p (n - z.1) z.2/\(Hd p (n - z.1) z.2).1=R.1/\(Hd p (n - z.1) z.2).2.1+z.1=R.2.1/\(Hd p (n - z.1) z.2).2.2=R.2.2) (λz=>n - z.1) (0,V) ⟨Tf _,hs,by rw[Qw,Z],by rw[Qw,Z];simp,by rw[Qw,Z]⟩ sS (by simp[ble,A8,D5]) ?_)
 rintro⟨i,e⟩ ⟨hi,I,r1,r2,E⟩;simp only at hi I r1 r2 E |-;refine A0.bb ?_;have h2:=E5u p h e I.sm;have h3:=A4k e I.sm;by_cases J:(Bn p e).2=1
 .by_cases a0:i=n
  .subst a0;have a2:(i:Int) >= (i:Int):=Int.le_refl _;rw[Aq1]at r1 r2 E;simp only[Hd]at r1 r2 E;rw[J]at E;have U:R=(e,(i:Int),1):=by obtain⟨a,b,c⟩:=R;simp only at r1 r2 E;rw[<-r1,<-r2,<-E];simp
   rw[U];generalize Bn p e=r at*;obtain⟨x,o⟩:=r;simp only at J;subst J;refine sC h2 U2 ?_;refine Ae a2 U2 λK1 u1=>?_;refine tI ?_;refine sC h3 U2 ?_;exact aR
  .have a1:¬(i:Int) >= (n:Int):=by omega
   obtain⟨k,hk⟩:∃k,n - i=k+1:=⟨n - i - 1,by omega⟩;have L:n - (i+1)=k:=by omega
   rw[hk]at I r1 r2 E;simp only[Hd,J,Ac]at r1 r2 E;have O:=I.2 J;generalize Bn p e=r at*;obtain⟨x,o⟩:=r;simp only at J O r1 r2 E;subst J;refine sC h2 U2 ?_;refine Ae a1 U2 λK1 u1=>?_;refine kI u1 ?_;clear u1 K1;refine sR U2 ?_;refine sV U2 λK z=>?_;refine cl ?_;apply z;clear z K;refine A0.xx ?_;simp only[A5,A9,Ac];exact⟨(i+1,x),⟨by simp only;omega,by simp only;rw[L];exact O,by simp only;rw[L];exact r1,by simp only;rw[L];omega,by simp only;rw[L];exact E⟩,by simp only;omega,sS,by simp[ble,A8,D5]⟩
 .have W:Hd p (n - i) e=(e,0,(Bn p e).2):=by
   cases n - i with
   |zero=>rfl
   |succ k=>rw[Hd,A3 J]
  rw[W]at r1 r2 E;have U:R=(e,(i:Int),(Bn p e).2):=by obtain⟨a,b,c⟩:=R;simp only at r1 r2 E;rw[<-r1,<-r2,<-E];simp
  rw[U];simp only;generalize Bn p e=r at*;obtain⟨x,o⟩:=r;simp only at J |-;refine sC h2 U2 ?_;refine Ae J U2 λK1 u1=>?_;refine tI ?_;refine sC h3 U2 ?_;exact aR
def Hg(p:Prog):Nat->Ex->Ex × Int × Int × Bool
 |0,e=>if e.count 0 > 400 then(e,0,0,false)else(e,0,(Bn p e).2,true)
 |n+1,e=>if e.count 0 > 400 then(e,0,0,false)else if(Bn p e).2=1 then((Hg p n (Bn p e).1).1,(Hg p n (Bn p e).1).2.1+1,(Hg p n (Bn p e).1).2.2)else(e,0,(Bn p e).2,true)
abbrev G3n(r:Ex × Int × Int × Bool):SV:=.tuple [Bg r.1,A7 r.2.1,A7 r.2.2.1,B1 r.2.2.2]
abbrev Nr:List Nat:=[0,1,2,3,4,6,7,8,9,10,11,12,15,20,35]
def E7q(p:Prog)(h:p.Sm)(n:Nat)(hn:n<=1000000)(e0:Ex):Ab prog 21 [Cq p,Bg e0,A7 n] (G3n (Hg p n e0)):=by
 generalize hR:Hg p n e0=R;refine cB func21 ?_;refine sR Nr ?_;refine kR Nr λK1 u1=>?_;refine A0.bb (A0.loop (X:=Nat × Ex) (λz=>[(2,A7 n),(3,.box 3 0),(4,.box 4 0),(6,.box 6 0),(7,.d (.int .i64 0)),(8,.d (.int .i64 0)),(9,.d (.bool false)),(10,A7 z.1)]) (λz=>[(3,.cells ((Ai p).map .d)),(4,.cells (D5 z.2)),(6,.cells [.d (.int .i64 0),.d (.str []),.d (.str []),.d .nil,.d (.int .i64 0),.d .nil,.d .nil,.d (.int .i64 0)])]) (λz=>z.1<=n/\(Hg p (n - z.1) z.2).1=R.1/\(Hg p (n - z.1) z.2).2.1+z.1=R.2.1/\(Hg p (n - z.1) z.2).2.2=R.2.2) (λz=>n - z.1) (0,e0) ⟨Tf _,by rw[Qw,hR],by rw[Qw,hR];simp,by rw[Qw,hR]⟩ sS (by simp[ble,A8,D5,Ai]) ?_);rintro⟨i,e⟩ ⟨hi,r1,r2,I⟩;simp only at hi r1 r2 I |-;have a1:(i:Int)<=(n:Int):=by omega
 have Z:=C6p e 0 (by decide) (by decide);refine Ae a1 Nr λK2 u2=>?_;refine gI u2 ?_;clear u2 K2;refine sK λK2 u2=>A0.bb ?_;by_cases E:e.count 0 > 400
 .have V:Hg p (n - i) e=(e,0,0,false):=by
   cases n - i with
   |zero=>rw[Hg,A6 E]
   |succ k=>rw[Hg,A6 E]
  rw[V]at r1 r2 I;have L:R=(e,(i:Int),0,false):=by obtain⟨a,b,c,d⟩:=R;simp only[Ew]at r1 r2 I;rw[<-r1,<-r2,<-I.1,<-I.2];simp
  rw[L];refine sK λO J=>?_;refine sQ Nr λK z=>?_;refine Ah E ?_;refine⟨_,.inl ⟨_,rfl,Z,rfl⟩,?_⟩;(try refine Ah E ?_);apply z;clear z K;refine tI ?_;refine sR Nr ?_;exact aR
 .have he:e.Sm:=Ex.G3 e 0 (by decide) (by omega);have h2:=G0v p (λe he _=>G7f p h e he) e he;by_cases U:(Bn p e).2=1
  .by_cases a2:i=n
   .subst a2;rw[Aq1]at r1 r2 I;simp only[Hg,A3 E]at r1 r2 I;rw[U]at I;have L:R=(e,(i:Int),1,true):=by obtain⟨a,b,c,d⟩:=R;simp only[Ew]at r1 r2 I;rw[<-r1,<-r2,<-I.1,<-I.2];simp
    rw[L];generalize Bn p e=r at*;obtain⟨x,o⟩:=r;simp only at U;subst U;refine sK λO J=>?_;refine sQ Nr λK z=>?_;refine Ah E ?_;refine⟨_,.inl ⟨_,rfl,Z,rfl⟩,?_⟩;(try refine Ah E ?_);apply z;clear z K;refine kI J ?_;clear J O;refine sC h2 Nr ?_;refine kR Nr λO J=>?_;refine tI ?_;refine sR Nr ?_;exact aR
   .have a0:¬(i:Int)=(n:Int):=by omega
    obtain⟨k,hk⟩:∃k,n - i=k+1:=⟨n - i - 1,by omega⟩;have W:n - (i+1)=k:=by omega
    rw[hk]at r1 r2 I;simp only[Hg,A3 E,U,Ac]at r1 r2 I;generalize Bn p e=r at*;obtain⟨x,o⟩:=r;simp only at U r1 r2 I;subst U;refine sK λO J=>?_;refine sQ Nr λK z=>?_;refine Ah E ?_;refine⟨_,.inl ⟨_,rfl,Z,rfl⟩,?_⟩;(try refine Ah E ?_);apply z;clear z K;refine kI J ?_;clear J O;refine sC h2 Nr ?_;refine Ae a0 Nr λO J=>?_;refine kI J ?_;clear J O;(refine lV Nr λK z=>?_;apply z;clear z K;try simp only[A5,A9,Ac]);refine u2 _ _ ?_;clear u2 K2;(refine lV Nr λK z=>?_;refine cl ?_;apply z;clear z K;try simp only[A5,A9,Ac]);exact⟨(i+1,x),⟨by simp only;omega,by simp only;rw[W];exact r1,by simp only;rw[W];omega,by simp only;rw[W];exact I⟩,by simp only;omega,sS,by simp[ble,A8,D5,Ai]⟩
  .have V:Hg p (n - i) e=(e,0,(Bn p e).2,true):=by
    cases n - i with
    |zero=>rw[Hg,A3 E]
    |succ k=>rw[Hg,A3 E,A3 U]
   rw[V]at r1 r2 I;have L:R=(e,(i:Int),(Bn p e).2,true):=by obtain⟨a,b,c,d⟩:=R;simp only[Ew]at r1 r2 I;rw[<-r1,<-r2,<-I.1,<-I.2];simp
   rw[L];simp only;generalize Bn p e=r at*;obtain⟨x,o⟩:=r;simp only at U |-;refine sK λO J=>?_
   refine sQ Nr λK z=>?_;refine Ah E ?_;refine⟨_,.inl ⟨_,rfl,Z,rfl⟩,?_⟩;(try refine Ah E ?_);apply z;clear z K;refine kI J ?_;clear J O;refine sC h2 Nr ?_;refine Ae U Nr λO J=>?_;refine tI ?_;refine sR Nr ?_;exact aR
def G2h{p:Prog}{e:Ex}(E:(Bn p e).2≠1):∀n,Hd p n e=(e,0,(Bn p e).2)
 |0=>rfl
 |n+1=>by rw[Hd,A3 E]
def Decl.B0t(d:Decl):Bool:=decide (d.recv=[]) && (decide (d.vars.length=0) && (Pv d.sig Jc && Sh d.body V5))
def Decl.Uc(d:Decl):Bool:=if d.kind=3 then isName d.recv && (decide ((d.A1.length:Int)+(d.fields.length:Int)+(d.sigs.length:Int)=0) && (d.sig.right && d.body.right))
 else d.B0t && ((decide (d.kind=1) && decide (d.sigs.length=0)) ||(decide (d.kind=2) && decide (d.fields.length=0)))
def Decl.right(d:Decl):Bool:=isName d.name && (Qg d.A1 && (Nd d.fields && (d.sigs.all A4.right && (d.vars.all isName && d.Uc))))
structure Decl.Ln(d:Decl):Prop where
 A1:d.A1.length<=sm
 fields:d.fields.length<=sm
 sigs:d.sigs.length<=3*sm
 vars:d.vars.length<=sm
 none:¬d.kind=3->d.sig.Lm/\d.body.Lm
def Decl.Sm.ln{d:Decl}(h:d.Sm):d.Ln:=⟨h.A1.1,h.fields.1,by have:=h.sigs.1;omega,h.vars.1,λ_=>⟨h.sig.lm,h.body.lm⟩⟩
abbrev Gt:List Nat:=[0,1,2,3,4,5,21,26,35,40,49,52]
set_option maxHeartbeats 4000000 in
def G5t(d:Decl)(h:d.Ln)(hn:d.Nn):Ab prog 32 [Pz d] (B1 d.right):=by
 have I:=Xg d.name;have h2:=D0z d.A1 hn.A1;have J:=E5m d.fields hn.fields;have a5:=h.A1;have a6:=h.fields;have a7:=h.sigs;have a8:=h.vars;unfold Decl.right;refine cB func32 ?_;refine sR Gt ?_;refine A0.zz 1 rfl rfl (wk [(1,.Aj (B3 d) 0)] [] ?_);refine sK λV u1=>?_;rcases Fj (isName d.name)with b1|b1;rotate_left;rw[b1]at I;rw[b1,C8];refine sC I Gt ?_;refine tI ?_;refine sR Gt ?_;exact aR;rcases Fj (Qg d.A1)with b2|b2;rotate_left;rw[b1]at I;rw[b2]at h2;rw[b1,b2,C8,Cr];refine sV Gt λK z=>?_;refine cc I ?_;refine cc h2 ?_;apply z;clear z K;refine tI ?_;refine sR Gt ?_;exact aR;rcases Fj (Nd d.fields)with b3|b3;rotate_left;rw[b1]at I;rw[b2]at h2;rw[b3]at J;rw[b1,b2,b3,C8,Cr,Cr];refine sV Gt λK z=>?_;refine cc I ?_;refine cc h2 ?_;refine cc J ?_;apply z;clear z K;refine tI ?_;refine sR Gt ?_;exact aR;rw[b1]at I;rw[b2]at h2;rw[b3]at J;rw[b1,b2,b3,Cr,Cr,Cr]at u1 |-
 refine sV Gt λK z=>?_;refine cc I ?_;refine cc h2 ?_;refine cc J ?_;apply z;clear z K;refine kI u1 ?_;clear u1 V I h2 J b1 b2 b3;refine kR Gt λV u1=>?_;refine A0.bb (A0.ii d.sigs (X:=Unit) (λj _=>[(1,.Aj (B3 d) 0),(3,A7 j)]) (λ_ _=>[]) (λj _=>(d.sigs.drop j).all A4.right=d.sigs.all A4.right) () rfl (by simp[sle,Av,Af,B3]) sB ?_ ?_);rotate_left;intro j _ s hd Z dp tk a1 E;rw[dp,Rx]at E;refine Ae a1 Gt λU u2=>?_;refine gI u2 ?_;clear u2 U;refine sK λU u2=>A0.bb ?_;refine sV Gt λK z=>?_;refine ci (De hd) ?_;refine cc (E4u s (hn.sigs s Z)) ?_;apply z;clear z K;refine A0.cond rfl (λL=>?_) (λL=>?_);refine sR Gt ?_;simp only[Jj]at L;rw[L,C8]at E;rw[<-E,C8];exact aR;simp only[Qc]at L;rw[L,Cr]at E;refine A0.kk (u2 _ _ ?_);clear u2 U;refine lT Gt ?_;exact⟨(),E,(by simp[sle,Av,Af,B3]),sB⟩;intro _ E;rw[D3,Aq3]at E;rw[<-E,Cr]at u1 |-;clear E;refine Ae B6 Gt λU u2=>?_;refine A0.ss rfl ?_;simp only[A5,A9,Ac];refine u1 _ _ ?_;clear u2 U u1 V;refine kR Gt λV u1=>?_;refine A0.bb (A0.ii d.vars (X:=Unit) (λj _=>[(1,.Aj (B3 d) 0),(4,A7 j)]) (λ_ _=>[]) (λj _=>(d.vars.drop j).all isName=d.vars.all isName) () rfl (by simp[sle,Av,Af,B3]) sB ?_ ?_)
 rotate_left;intro j _ s hd Z dp tk a1 E;rw[dp,Rx]at E;refine Ae a1 Gt λU u2=>?_;refine gI u2 ?_;clear u2 U;refine sK λU u2=>A0.bb ?_;refine sV Gt λK z=>?_;refine ci (J7 hd) ?_;refine cc (Xg s) ?_;apply z;clear z K;refine A0.cond rfl (λL=>?_) (λL=>?_);refine sR Gt ?_;simp only[Jj]at L;rw[L,C8]at E;rw[<-E,C8];exact aR;simp only[Qc]at L;rw[L,Cr]at E;refine A0.kk (u2 _ _ ?_);clear u2 U;refine lT Gt ?_;exact⟨(),E,(by simp[sle,Av,Af,B3]),sB⟩;intro _ E;rw[D3,Aq3]at E;rw[<-E,Cr]at u1 |-;clear E;refine Ae B6 Gt λU u2=>?_;refine A0.ss rfl ?_;simp only[A5,A9,Ac];refine u1 _ _ ?_;clear u2 U u1 V;unfold Decl.Uc;by_cases k3:d.kind=3
 .rw[A6 k3];refine sK λV u1=>?_;have I:=Xg d.recv;have J:=E4u d.sig hn.sig;have h4:=D1p d.body hn.body;refine Ap k3 Gt ?_;refine tI ?_;rcases Fj (isName d.recv)with b1|b1;rotate_left;rw[b1]at I;rw[b1,C8];refine sC I Gt ?_;exact aR;rw[b1]at I;rw[b1,Cr];by_cases O:(d.A1.length:Int)+(d.fields.length:Int)+(d.sigs.length:Int)=0;rotate_left;rw[Cu O,C8];refine sV Gt λK z=>?_;refine⟨_,.inl ⟨_,rfl,I,rfl⟩,?_⟩;(try refine Ah O ?_);refine⟨by first| (unfold B7;omega)| (simp only[B7,sm]at*;omega),?_⟩;(try refine Ah O ?_);refine⟨by first| (unfold B7;omega)| (simp only[B7,sm]at*;omega),?_⟩;(try refine Ah O ?_);apply z;clear z K;exact aR;rw[Cc O,Cr];rcases Fj d.sig.right with b3|b3;rotate_left;rw[b3]at J;rw[b3,C8];refine sV Gt λK z=>?_;refine⟨_,.inl ⟨_,rfl,I,rfl⟩,?_⟩;(try refine Ah O ?_);refine⟨by first| (unfold B7;omega)| (simp only[B7,sm,lim]at*;omega),?_⟩;(try refine Ah O ?_);refine⟨by first| (unfold B7;omega)| (simp only[B7,sm,lim]at*;omega),?_⟩;(try refine Ah O ?_);refine cc J ?_;apply z;clear z K;exact aR;rw[b3]at J;rw[b3,Cr];refine sV Gt λK z=>?_;refine⟨_,.inl ⟨_,rfl,I,rfl⟩,?_⟩;(try refine Ah O ?_);refine⟨by first| (unfold B7;omega)| (simp only[B7,sm,lim]at*;omega),?_⟩;(try refine Ah O ?_);refine⟨by first| (unfold B7;omega)| (simp only[B7,sm,lim]at*;omega),?_⟩;(try refine Ah O ?_);refine cc J ?_;refine cc h4 ?_;apply z;clear z K;exact aR
 rw[A3 k3];refine Ae k3 Gt λV u1=>?_;refine kI u1 ?_;clear u1 V;refine sK λV u1=>?_;have rest:∀sl bx,sle sl [(1,.Aj (B3 d) 0),(5,B1 d.B0t)]->V sl bx:=by
  intro sl bx a4;refine u1 _ _ (A0.ww (bx':=[]) a4 trivial ?_);clear u1 V;rcases Fj d.B0t with b|b;rotate_left;rw[b,C8];refine sR Gt ?_;exact aR;rw[b,Cr];by_cases k1:d.kind=1
  .have k2:¬d.kind=2:=by omega
   rw[Cc k1,Cr,Cu k2,C8,Ar4];by_cases hs:d.sigs.length=0
   .have a0:(d.sigs.length:Int)=0:=by omega
    rw[Cc hs];refine Er k1 a0 Gt ?_;exact aR
   .have a0:¬(d.sigs.length:Int)=0:=by omega
    have a3:¬(1:Int)=2:=by omega
    rw[Cu hs];refine sR3 k1 a0 a3 Gt ?_;exact aR
  rw[Cu k1,C8,W7];by_cases k2:d.kind=2
  .rw[Cc k2,Cr];have a2:¬(2:Int)=1:=by omega
   have e:decide (d.fields.length=0)=decide ((d.fields.length:Int)=0):=by by_cases hf:d.fields.length=0;rw[Cc hf,Cc (by omega)];rw[Cu hf,Cu (by omega)]
   rw[e];refine Er k2 a2 Gt ?_;exact aR
  rw[Cu k2,C8];refine Er k1 k2 Gt ?_;exact aR
 have J:=E7e d.sig Jc (h.none k3).1;have h4:=F6o d.body (h.none k3).2 V5;unfold Decl.B0t at rest;by_cases hr:d.recv=[];rotate_left;rw[Cu hr,C8]at rest;(refine lQ Gt λK z=>?_;refine Ah hr ?_;apply z;clear z K;try simp only[A5,]);exact rest _ _ (by simp[sle,Av,Af,B3]);have br:decide (d.recv=[])=true:=Cc hr;rw[br,Cr]at rest;by_cases hv:d.vars.length=0;rotate_left
 .have W:¬(d.vars.length:Int)=0:=by omega
  rw[Cu hv,C8]at rest;(refine lQ Gt λK z=>?_;refine Du br W ?_;apply z;clear z K;try simp only[A5,]);exact rest _ _ (by simp[sle,Av,Af,B3])
 have W:(d.vars.length:Int)=0:=by omega
 rw[Cc hv,Cr]at rest;rcases Fj (Pv d.sig Jc)with b3|b3;rotate_left;rw[b3]at J rest;rw[C8]at rest;(refine lQ Gt λK z=>?_;refine Du br W ?_;refine cc J ?_;apply z;clear z K;try simp only[A5,]);exact rest _ _ (by simp[sle,Av,Af,B3]);rw[b3]at J rest;rw[Cr]at rest;(refine lQ Gt λK z=>?_;refine Du br W ?_;refine cc J ?_;refine cc h4 ?_;apply z;clear z K;try simp only[A5,]);exact rest _ _ (by simp[sle,Av,Af,B3])
def Prog.right(p:Prog):Bool:=p.decls.all Decl.right && p.main.right
abbrev q2U:List Nat:=[0,1,2,3,8,17]
def F2e(p:Prog)(Z:p.decls.length<=100000000000)(h:∀d,d∈p.decls->d.Ln)(U:p.Nn):Ab prog 14 [Cq p] (B1 p.right):=by have W:=D1p p.main U.main;unfold Prog.right;refine cB func14 ?_;refine sR q2U ?_;refine A0.zz 1 rfl rfl (wk [(1,.Aj (Ai p) 0)] [] ?_);refine kR q2U λK1 u1=>?_;refine A0.bb (A0.ii p.decls (X:=Unit) (λj _=>[(1,.Aj (Ai p) 0),(3,A7 j)]) (λ_ _=>[]) (λj _=>(p.decls.drop j).all Decl.right=p.decls.all Decl.right) () rfl (by simp[sle,Av,Af,Ai]) sB ?_ ?_);rotate_left;intro j _ s hd I V tk O E;rw[V,Rx]at E;refine Ae O q2U λL u2=>?_;refine gI u2 ?_;clear u2 L;refine sK λL u2=>A0.bb ?_;refine sV q2U λK z=>?_;refine ci (Ek hd) ?_;refine cc (G5t s (h s I) (U.decls s I)) ?_;apply z;clear z K;refine A0.cond rfl (λJ=>?_) (λJ=>?_);refine sR q2U ?_;simp only[Jj]at J;rw[J,C8]at E;rw[<-E,C8];exact aR;simp only[Qc]at J;rw[J,Cr]at E;refine A0.kk (u2 _ _ ?_);clear u2 L;(refine lV q2U λK z=>?_;refine cl ?_;apply z;clear z K;try simp only[A5,]);exact⟨(),E,(by simp[sle,Av,Af,Ai]),sB⟩;intro _ E;rw[D3,Aq3]at E;rw[<-E,Cr]at u1 |-;clear E;refine Ae B6 q2U λL u2=>?_;refine A0.ss rfl ?_;simp only[A5,A9,Ac];refine u1 _ _<|sC W q2U ?_;exact aR
def G6f(p:Prog)(h:p.Sm)(E:p.Nn):Ab prog 14 [Cq p] (B1 p.right):=F2e p (Dd h.decls.1 (by decide)) (λd hd=>(h.decls.2 d hd).ln) E
structure F6 where
 pos:Int
 bad:Bool
 D9:Bool
def Pq:F6:=⟨0,false,false⟩
def M1(n:Int):F6:=⟨n,true,false⟩
def I9:Option Int->F6
 |none=>Pq
 |some q=>M1 q
abbrev Lv(r:F6):SV:=.agg [.d (.int .i64 r.pos),.d (.bool r.bad),.d (.bool r.D9)]
abbrev J1:Aq:=.cells [.d (.int .i64 0),.d (.bool false),.d (.bool false)]
def C4i(a b:List Ak)(I:a.length<=sm)(E:b.length<=sm):Ab prog 188 [.d (.slice (Ax a)),.d (.slice (Ax b))] (.d (.slice (Ax (a++b)))):=by rw[show Ax (a++b)=Ax a++Ax b by simp[Ax]];refine cB func188 ?_;refine sR [0,1,4] ?_;refine A0.F9 [0,1,4,5] [5] (by decide +kernel) λK z=>?_;refine ev ?_;refine⟨B9i _,by unfold lim sm at*;omega,?_⟩;(try refine ev ?_);refine⟨B9i _,by unfold lim sm at*;omega,?_⟩;(try refine ev ?_);apply z;clear z K;exact aR
def A2a(p:Prog)(pre:List Ak):List Ak->Option Int
 |[]=>none
 |f::fs=>if kindOf p f.name≠0\/f.name∈Ad pre then some f.pos else A2a p (pre++[f]) fs
def A2d(p:Prog)(all:List Ak):List Ak->Option Int
 |[]=>none
 |f::fs=>match Bx p all f.bound with
  |some q=>some q
  |none=>if isIface p all f.bound=true then A2d p all fs else some f.bound.pos
def X2(p:Prog)(env l:List Ak):Option Int:=match A2a p env l with
 |some q=>some q
 |none=>A2d p (env++l) l
abbrev Jn:List Nat:=[0,1,2,3,6,7,8,9,10,11,12,16,41,54,68,79]
def D3g(p:Prog)(h:p.Sm)(env l:List Ak)(a2:env.length+l.length<=sm)(he:∀f,f∈env->f.Sm)(hl:∀f,f∈l->f.Sm) :Ab prog 142 [Cq p,.d (.slice (Ax env)),.d (.slice (Ax l))] (Lv (I9 (X2 p env l))):=by
 have Z:∀f,f∈env++l->f.Sm:=λf hf=>by rcases C6.1 hf with h|h;exact he f h;exact hl f h
 have a1:=C4i env l (by omega) (by omega);unfold X2;refine cB func142 ?_;refine sR Jn ?_;refine A0.zz 3 rfl rfl (wk [(1,.d (.slice (Ax env))),(2,.d (.slice (Ax l))),(3,.Aj (Ai p) 0),(6,.box 6 0)] [(6,J1)] ?_);refine kR Jn λK1 u1=>?_;refine A0.bb (A0.ii l (X:=Unit) (λj _=>[(1,.d (.slice (Ax env))),(2,.d (.slice (Ax l))),(3,.Aj (Ai p) 0),(6,.box 6 0),(7,A7 j)]) (λ_ _=>[(6,J1)]) (λj _=>A2a p (env++l.take j) (l.drop j)=A2a p env l) () (by simp) (by simp[sle,Av,Af,Ai]) sB ?_ ?_);rotate_left
 .intro j _ d hd U dp tk V E;rw[dp,A2a]at E;have hj:Ab prog 188 [.d (.slice (Ax env)),.d (.slice ((Ax l).take j))] (.d (.slice (Ax (env++l.take j)))):=by rw[show(Ax l).take j=Ax (l.take j) by simp[Ax,List.map_take]];exact C4i env (l.take j) (by omega) (by rw[D0];omega)
  have a0:=Qh (env++l.take j) (by rw[As,D0];omega);have hk:=A8z p d.name;have L:=A6z (Ad (env++l.take j)) d.name;refine Ae V Jn λJ u2=>?_;refine gI u2 ?_;clear u2 J;refine sK λJ u2=>A0.bb ?_;refine sV Jn λK z=>?_;refine⟨B9i _,by omega,by omega,?_⟩;(try refine ev ?_);refine cc hj ?_;refine cc a0 ?_;apply z;clear z K;by_cases I:kindOf p d.name=0;rotate_left;rw[A6 (.inl I)]at E;rw[<-E];refine sG Jn [] 15 [] λK z=>?_;refine ev ?_;refine ci (Fc hd) ?_;refine⟨_,.inl ⟨_,rfl,hk,rfl⟩,?_⟩;(try refine Ah I ?_);apply z;clear z K;refine A0.tt rfl ?_;refine sV Jn λK z=>?_;refine ci (Fc hd) ?_;apply z;clear z K;exact aR;by_cases hm:d.name∈Ad (env++l.take j);rw[A6 (.inr hm)]at E;rw[<-E];rw[Cc hm]at L;refine sG Jn [] 15 [] λK z=>?_;refine ev ?_;refine ci (Fc hd) ?_;refine⟨_,.inl ⟨_,rfl,hk,rfl⟩,?_⟩;(try refine Ah I ?_);refine ci (Fc hd) ?_;refine cc L ?_;apply z;clear z K;refine A0.tt rfl ?_;refine sV Jn λK z=>?_;refine ci (Fc hd) ?_;apply z;clear z K;exact aR;rw[A3 (by rintro(h|h);exact h I;exact hm h)]at E;rw[Cu hm]at L;refine sG Jn [] 15 [] λK z=>?_;refine ev ?_;refine ci (Fc hd) ?_;refine⟨_,.inl ⟨_,rfl,hk,rfl⟩,?_⟩;(try refine Ah I ?_);refine ci (Fc hd) ?_;refine cc L ?_;apply z;clear z K;refine A0.ff rfl (A0.kk (u2 _ _ ?_));clear u2 J;refine lT Jn ?_;exact⟨(),by rw[tk,<-H8];exact E,(by simp[sle,Av,Af,Ai]),sB⟩
 intro _ E;rw[D3,A2a]at E;rw[<-E]at u1 |-;simp only;clear E;refine Ae B6 Jn λJ u2=>?_;refine A0.ss rfl ?_;simp only[A5,A9,Ac];refine u1 _ _ ?_;clear u2 J u1 K1;refine sC a1 Jn ?_;refine kR Jn λK1 u1=>?_;refine A0.bb (A0.ii l (X:=Unit) (λj _=>[(2,.d (.slice (Ax l))),(3,.Aj (Ai p) 0),(6,.box 6 0),(9,.d (.slice (Ax (env++l)))),(10,A7 j)]) (λ_ _=>[(6,J1)]) (λj _=>A2d p (env++l) (l.drop j)=A2d p (env++l) l) () rfl (by simp[sle,Av,Af,Ai]) sB ?_ ?_)
 rotate_left
 .intro j _ d hd U dp tk V E;rw[dp,A2d]at E;have W:=A9i p h (env++l) (by rw[As];omega) Z d.bound (hl d U).bound;have O:=E2x p (env++l) (by rw[As];omega) d.bound;refine Ae V Jn λJ u2=>?_;refine gI u2 ?_;clear u2 J;refine sK λJ u2=>A0.bb ?_;cases hq:Bx p (env++l) d.bound with
  |some q =>rw[hq]at E W;simp only[Tz]at W;rw[<-E];refine sG Jn [] 12 [] λK z=>?_;refine ev ?_;refine ci (Fc hd) ?_;refine cc W ?_;apply z;clear z K;refine kR Jn λK3 u3=>?_;refine tI ?_;refine sR Jn ?_;exact aR
  |none =>rw[hq]at E W;simp only[Tz]at W;simp only at E;refine sG Jn [] 12 [] λK z=>?_;refine ev ?_;refine ci (Fc hd) ?_;refine cc W ?_;apply z;clear z K;refine kR Jn λK3 u3=>?_;refine kI u3 ?_;clear u3 K3;rcases Fj (isIface p (env++l) d.bound)with hb|hb;rw[A6 hb]at E;rw[hb]at O;refine sG Jn [] 7 [] λK z=>?_;refine ev ?_;refine ci (Fc hd) ?_;refine cc O ?_;apply z;clear z K;refine A0.ff rfl (A0.kk (u2 _ _ ?_));clear u2 J;refine lT Jn ?_;exact⟨(),E,(by simp[sle,Av,Af,Ai]),sB⟩;rw[A3 (by simp[hb])]at E;rw[<-E];rw[hb]at O;refine sG Jn [] 7 [] λK z=>?_;refine ev ?_;refine ci (Fc hd) ?_;refine cc O ?_;apply z;clear z K;refine A0.tt rfl ?_;refine sV Jn λK z=>?_;refine ci (Fc hd) ?_;apply z;clear z K;exact aR
 intro _ E;rw[D3,A2d]at E;rw[<-E]at u1 |-;clear E;refine Ae B6 Jn λJ u2=>?_;refine A0.ss rfl ?_;simp only[A5,A9,Ac];refine u1 _ _<|sR Jn ?_;exact aR
def Ve(p:Prog)(env:List Ak)(pre:List A2):List Param->Option Int
 |[]=>none
 |f::fs=>if f.name∈pre then some f.pos else match Bx p env f.type with
  |some q=>some q
  |none=>Ve p env (pre++[f.name]) fs
abbrev Qu:List Nat:=[0,1,2,3,6,7,8,9,10,14,23,49]
def D5i(p:Prog)(h:p.Sm)(env:List Ak)(W:env.length<=sm)(he:∀f,f∈env->f.Sm)(l:List Param)(a0:l.length<=sm)(hl:∀f,f∈l->f.Sm) :Ab prog 143 [Cq p,.d (.slice (Ax env)),.d (.slice (Ay l))] (Lv (I9 (Ve p env [] l))):=by
 refine cB func143 ?_;refine sR Qu ?_;refine A0.zz 3 rfl rfl (wk [(1,.d (.slice (Ax env))),(2,.d (.slice (Ay l))),(3,.Aj (Ai p) 0),(6,.box 6 0)] [(6,J1)] ?_);refine sR Qu ?_;refine A0.pp 7 1 7 rfl<|kR Qu λK1 u1=>?_;refine A0.bb (A0.ii l (X:=Unit) (λj _=>[(1,.d (.slice (Ax env))),(2,.d (.slice (Ay l))),(3,.Aj (Ai p) 0),(6,.box 6 0),(7,.acc 7),(8,A7 j)]) (λj _=>[(6,J1),(7,.rows 1 (Ba ((l.take j).map (·.name))))]) (λj _=>Ve p env ((l.take j).map (·.name)) (l.drop j)=Ve p env [] l) () rfl (by simp[sle,Av,Af,Ai]) (by simp[ble,A8,Ba]) ?_ ?_)
 rotate_left
 .intro j _ d hd L dp tk V E;rw[dp,Ve]at E;have I:=A6z ((l.take j).map (·.name)) d.name;have J:=A9i p h env W he d.type (hl d L).type;refine Ae V Qu λU u2=>?_;refine gI u2 ?_;clear u2 U;refine sK λU u2=>A0.bb<|sK λK3 u3=>?_;by_cases O:d.name∈(l.take j).map (·.name)
  .rw[A6 O]at E;rw[<-E];rw[Cc O]at I
   (refine sV Qu λK z=>?_;refine ci (Dx hd) ?_;refine⟨_,.inr ⟨_,rfl,I,rfl⟩,?_⟩;(try refine ev ?_);apply z;clear z K)
   refine tI ?_
   (refine sV Qu λK z=>?_;refine ci (Dx hd) ?_;apply z;clear z K)
   exact aR
  rw[A3 O]at E;rw[Cu O]at I
  (refine sV Qu λK z=>?_;refine ci (Dx hd) ?_;refine⟨_,.inr ⟨_,rfl,I,rfl⟩,?_⟩;(try refine ev ?_);apply z;clear z K)
  refine kI u3 ?_;clear u3 K3
  (refine sV Qu λK z=>?_;refine ci (Dx hd) ?_;refine⟨by simp,by simp only[Bc,D0];unfold lim sm at*;omega,?_⟩;(try refine ev ?_);apply z;clear z K)
  cases Z:Bx p env d.type with
  |some q =>rw[Z]at E J;simp only[Tz]at J;rw[<-E];refine sG Qu [] 12 [] λK z=>?_;refine ev ?_;refine ci (Dx hd) ?_;refine cc J ?_;apply z;clear z K;refine sR Qu ?_;refine A0.tt rfl<|sR Qu ?_;exact aR
  |none =>
   rw[Z]at E J;simp only[Tz]at J;simp only at E;refine sG Qu [] 12 [] λK z=>?_;refine ev ?_;refine ci (Dx hd) ?_;refine cc J ?_;apply z;clear z K;refine sR Qu ?_;refine A0.ff rfl (A0.kk (u2 _ _ ?_));clear u2 U;refine lT Qu ?_;exact⟨(),by rw[tk,Hc];exact E,(by simp[sle,Av,Af,Ai]),by rw[tk,Hc];simp[ble,A8,Ba]⟩
 intro _ E;rw[D3,Ve]at E;rw[<-E]at u1 |-;clear E;refine Ae B6 Qu λU u2=>?_;refine A0.ss rfl ?_;simp only[A5,A9,Ac];refine u1 _ _<|sR Qu ?_;exact aR
def Nx(p:Prog)(env:List Ak)(s:A4):Option Int:=match X2 p env s.A1 with
 |some q=>some q
 |none=>match Ve p (env++s.A1) [] s.params with
  |some q=>some q
  |none=>Bx p (env++s.A1) s.result
abbrev Me:List Nat:=[0,1,2,3,5,6,7,8,9,10,22,29,39]
def C9f(p:Prog)(h:p.Sm)(env:List Ak)(s:A4)(V:env.length+s.A1.length<=sm)(he:∀f,f∈env->f.Sm)(hs:s.Sm) :Ab prog 146 [Cq p,.d (.slice (Ax env)),E0 s] (Lv (I9 (Nx p env s))):=by
 have J:∀f,f∈env++s.A1->f.Sm:=λf I=>by rcases C6.1 I with h|h;exact he f h;exact hs.A1.2 f h
 have L:(env++s.A1).length<=sm:=by rw[As];exact V
 have U:=C4i env s.A1 (by omega) (by omega);have W:=D3g p h env s.A1 V he hs.A1.2;have h2:=D5i p h (env++s.A1) L J s.params hs.params.1 hs.params.2;have Z:=A9i p h (env++s.A1) L J s.result hs.result;generalize hR:Nx p env s=R;refine cB func146 ?_;refine sR Me ?_;cases I:X2 p env s.A1 with
 |some q =>
  rw[I]at W;obtain rfl:R=some q:=by rw[<-hR];unfold Nx;rw[I]
  refine sC W Me ?_;refine sC U Me ?_;refine kR Me λE u1=>?_;refine A0.ff rfl (A0.kk (u1 _ _ ?_));clear u1 E;refine kR Me λE u1=>?_;refine tI ?_;refine sR Me ?_;exact aR
 |none =>
  rw[I]at W;refine sC W Me ?_;refine sC U Me ?_;refine kR Me λE u1=>?_;cases O:Ve p (env++s.A1) [] s.params with
  |some q =>
   rw[O]at h2;obtain rfl:R=some q:=by rw[<-hR];unfold Nx;rw[I];simp only[O]
   refine A0.tt rfl ?_;(refine lV Me λK z=>?_;refine cc h2 ?_;apply z;clear z K;try simp only[A5,]);refine u1 _ _ ?_;clear u1 E;refine kR Me λE u1=>?_;refine tI ?_;refine sR Me ?_;exact aR
  |none =>
   rw[O]at h2;refine A0.tt rfl ?_
   (refine lV Me λK z=>?_;refine cc h2 ?_;apply z;clear z K;try simp only[A5,])
   refine u1 _ _ ?_;clear u1 E;refine kR Me λE u1=>?_;refine kI u1 ?_;clear u1 E;cases hq:Bx p (env++s.A1) s.result with
   |some q =>
    rw[hq]at Z;obtain rfl:R=some q:=by rw[<-hR];unfold Nx;rw[I];simp only[O,hq]
    refine sC Z Me ?_;refine kR Me λE u1=>?_;refine tI ?_;refine sR Me ?_;exact aR
   |none =>
    rw[hq]at Z;obtain rfl:R=none:=by rw[<-hR];unfold Nx;rw[I];simp only[O,hq]
    refine sC Z Me ?_;refine kR Me λE u1=>?_;refine kI u1 ?_;refine sR Me ?_;exact aR
structure D8 where
 p:Prog
 strict:Bool
 env:List Ak
 vars:List Param
def ty0:Ty:=.mk [] [] 0
def L3(n:Int):Ty × F6:=(ty0,M1 n)
def Sj(z:Ty × F6):Ty × F6:=if z.2.bad=false/\400<z.1.count 0 then(ty0,⟨0,true,true⟩)else z
def Lz(c:D8)(x:Ty):Bool:=decide (Fi c.env x<0) && Bb c.p x 1
def A3j(c:D8)(x:Ty):Bool:=decide (0<=Fi c.env x) ||Bb c.p x 2
def Ua(c:D8)(E:Ty)(e:Ex)(z:Ty × F6):F6:=if z.2.bad=false/\Cg c.p c.env z.1 E=false then M1 e.pos else z.2
def L6(c:D8):List Ty->List Ex->List (Ty × F6)->F6
 |w::E,e::es,z::I=>if(Ua c w e z).bad=true then Ua c w e z else L6 c E es I
 |_,_,_=>Pq
def Qz(c:D8)(e:Ex)(x:Ty):Int ⊕ A4 :=match(Cd c.p c.env x)[(F5 (Cd c.p c.env x) e.name).toNat]? with
 |none=>.inl e.pos
 |some s=>if F5 (Cd c.p c.env x) e.name<0\/s.A1.length≠e.targs.length then .inl e.pos else
  match P3 c.p c.env e.targs with
  |some q=>.inl q
  |none=>if 0<=Hi c.p c.env s.A1 e.targs then .inl ((e.targs[(Hi c.p c.env s.A1 e.targs).toNat]?).getD default).pos else
   if e.kids.length≠s.params.length+1 then .inl e.pos else .inr s
def T7(s:A4)(a:List Ty):List Ty:=s.params.map λf=>f.type.subst (Ad s.A1) a
def A5w(c:D8)(e:Ex)(x:Ty)(E:List (Ty × F6)):Ty × F6:=match Qz c e x with
 |.inl q=>L3 q
 |.inr s=>Sj (s.result.subst (Ad s.A1) e.targs,L6 c (T7 s e.targs) e.kids.tail E)
def I2(l:List Param)(nm:A2):Int:=Cw (λf:Param=>decide (f.name=nm)) l
def Zr(c:D8)(e:Ex)(x:Ty)(r:F6):Ty × F6 :=if Lz c x=false then L3 e.pos else
 match(Bo c.p x)[(I2 (Bo c.p x) e.name).toNat]? with
 |some f=>if I2 (Bo c.p x) e.name<0 then L3 e.pos else Sj (f.type,r)
 |none=>L3 e.pos
def Zg(c:D8)(x:Ty):Ty:=(Ct c.env x).getD x
def U1(c:D8)(x y:Ty):Bool:=A3j c x && (A3j c y ||Cg c.p c.env y (Zg c x))
def B2k(c:D8)(e:Ex)(x:Ty)(r:F6):Ty × F6:=match Bx c.p c.env e.type with
 |some q=>L3 q
 |none=>if c.strict=true/\U1 c x e.type=false then L3 e.pos else(e.type,r)
def A4p(c:D8)(e:Ex):Ty × F6:=match c.vars[(I2 c.vars e.name).toNat]? with
 |some f=>if I2 c.vars e.name<0 then L3 e.pos else(f.type,Pq)
 |none=>L3 e.pos
def B4r(c:D8)(e:Ex)(E:List (Ty × F6)):Ty × F6:=match Bx c.p c.env e.type with
 |some q=>L3 q
 |none=>if Lz c e.type=false\/(Bo c.p e.type).length≠e.kids.length then L3 e.pos else(e.type,L6 c ((Bo c.p e.type).map (·.type)) e.kids E)
def A1q(c:D8)(e:Ex)(E:List (Ty × F6)):Ty × F6 :=if e.kind=1 then A4p c e else if e.kind=3 then B4r c e E else
 if e.kind≠2/\e.kind≠4/\e.kind≠5 then L3 e.pos else
 match E with
 |[]=>L3 e.pos
 |z::E=>if z.2.bad=true then z else if e.kind=2 then A5w c e z.1 E else if e.kind=4 then Zr c e z.1 z.2 else B2k c e z.1 z.2
mutual
def Df(c:D8):Ex->Ty × F6
 |.mk k n t a ks q=>A1q c (.mk k n t a ks q) (B8i c ks)
def B8i(c:D8):List Ex->List (Ty × F6)
 |[]=>[]
 |e::es=>Df c e::B8i c es
end
def D5s(c:D8):∀l,B8i c l=l.map (Df c)
 |[]=>by rfl
 |e::es=>by rw[B8i,D5s c es];rfl
def B5w(c:D8)(e:Ex):Df c e=A1q c e (e.kids.map (Df c)):=by cases e with|mk k n t a ks q=>rw[Df,D5s];rfl
abbrev TO:=Ty × Option Int
def L9(n:Int):TO:=(ty0,some n)
def B6s(c:D8)(E:Ty)(e:Ex)(z:TO):Option Int:=match z.2 with
 |some q=>some q
 |none=>if Cg c.p c.env z.1 E=true then none else some e.pos
def Ur(c:D8):List Ty->List Ex->List TO->Option Int
 |w::E,e::es,z::I=>match B6s c w e z with
  |some q=>some q
  |none=>Ur c E es I
 |_,_,_=>none
def orI(o:Option Int)(t:Ty):TO:=match o with
 |some q=>L9 q
 |none=>(t,none)
def C6k(c:D8)(e:Ex)(x:Ty)(E:List TO):TO:=match Qz c e x with
 |.inl q=>L9 q
 |.inr s=>orI (Ur c (T7 s e.targs) e.kids.tail E) (s.result.subst (Ad s.A1) e.targs)
def C8d(c:D8)(e:Ex)(x:Ty):TO :=if Lz c x=false then L9 e.pos else
 match(Bo c.p x)[(I2 (Bo c.p x) e.name).toNat]? with
 |some f=>if I2 (Bo c.p x) e.name<0 then L9 e.pos else(f.type,none)
 |none=>L9 e.pos
def C5z(c:D8)(e:Ex)(x:Ty):TO:=match Bx c.p c.env e.type with
 |some q=>L9 q
 |none=>if c.strict=true/\U1 c x e.type=false then L9 e.pos else(e.type,none)
def C8i(c:D8)(e:Ex):TO:=match c.vars[(I2 c.vars e.name).toNat]? with
 |some f=>if I2 c.vars e.name<0 then L9 e.pos else(f.type,none)
 |none=>L9 e.pos
def C8o(c:D8)(e:Ex)(E:List TO):TO:=match Bx c.p c.env e.type with
 |some q=>L9 q
 |none=>if Lz c e.type=false\/(Bo c.p e.type).length≠e.kids.length then L9 e.pos else orI (Ur c ((Bo c.p e.type).map (·.type)) e.kids E) e.type
def B5s(c:D8)(e:Ex)(E:List TO):TO :=if e.kind=1 then C8i c e else if e.kind=3 then C8o c e E else
 if e.kind≠2/\e.kind≠4/\e.kind≠5 then L9 e.pos else
 match E with
 |[]=>L9 e.pos
 |z::E=>match z.2 with
  |some q=>L9 q
  |none=>if e.kind=2 then C6k c e z.1 E else if e.kind=4 then C8d c e z.1 else C5z c e z.1
mutual
def D6(c:D8):Ex->TO
 |.mk k n t a ks q=>B5s c (.mk k n t a ks q) (B8e c ks)
def B8e(c:D8):List Ex->List TO
 |[]=>[]
 |e::es=>D6 c e::B8e c es
end
def D0x(c:D8):∀l,B8e c l=l.map (D6 c)
 |[]=>by rfl
 |e::es=>by rw[B8e,D0x c es];rfl
def D1e(c:D8)(e:Ex):D6 c e=B5s c e (e.kids.map (D6 c)):=by cases e with|mk k n t a ks q=>rw[D6,D0x];rfl
def A7v(a:Ty × F6)(b:TO):Prop:=a.2.D9=true/\a.2.bad=true\/a.2.D9=false/\(a.2.bad=true/\b.2=some a.2.pos\/a.2.bad=false/\a.2.pos=0/\b=(a.1,none))
def A7v.no(n:Int):A7v (L3 n) (L9 n):=.inr ⟨rfl,.inl ⟨rfl,rfl⟩⟩
def C6z{c:D8}:∀(I:List Ty)(es:List Ex)(E:List (Ty × F6))(J:List TO),E.length=J.length->(∀(i:Nat)(z:Ty × F6)(y:TO),E[i]?=some z->J[i]?=some y->A7v z y) ->(L6 c I es E).D9=true/\(L6 c I es E).bad=true\/(L6 c I es E).D9=false/\((L6 c I es E).bad=true/\Ur c I es J=some (L6 c I es E).pos\/(L6 c I es E).bad=false/\(L6 c I es E).pos=0/\Ur c I es J=none)
 |[],es,E,J,_,_=>by grind[L6,Ur,Pq]
 |_::_,[],E,J,_,_=>by grind[L6,Ur,Pq]
 |_::_,_::_,[],[],_,_=>by simp[L6,Ur,Pq]
 |_::_,_::_,[],_::_,h,_=>by grind
 |_::_,_::_,_::_,[],h,_=>by grind
 |w::I,e::es,z::E,y::J,hl,h=>by
  have V:=h 0 z y rfl rfl;have ih:=C6z (c:=c) I es E J (by grind) λi a b O L=>h (i+1) a b (by grind) (by grind);rw[L6,Ur];unfold Ua B6s;rcases V with⟨O,L⟩|⟨O,⟨L,U⟩|⟨L,U,Z⟩⟩
  .grind
  .grind
  .subst Z;cases W:Cg c.p c.env z.1 w with
   |false=>simp[L,W,M1]
   |true=>grind
def E2z(c:D8):∀e:Ex,A7v (Df c e) (D6 c e):=by
 intro e
 induction e using Ex.induct with|_ e ih=>?_
 rw[B5w,D1e];unfold A1q B5s;by_cases k1:e.kind=1
 .rw[A6 k1,A6 k1];unfold A4p C8i;split
  .split
   .exact .no _
   .exact .inr ⟨rfl,.inr ⟨rfl,rfl,rfl⟩⟩
  .exact .no _
 rw[A3 k1,A3 k1];have Z:∀(l:List Ex),(∀x,x∈l->x∈e.kids)->∀(i:Nat) z y,(l.map (Df c))[i]?=some z->(l.map (D6 c))[i]?=some y->A7v z y:=by intro l hl i z y I E;rw[Db,P1]at I E;obtain⟨a,W,rfl⟩:=I;obtain⟨b,V,rfl⟩:=E;rw[W]at V;cases V;exact ih a (hl a (Bm W))
 by_cases k3:e.kind=3
 .rw[A6 k3,A6 k3];unfold B4r C8o;split
  .exact .no _
  .split
   .exact .no _
   .rcases C6z (c:=c) ((Bo c.p e.type).map (·.type)) e.kids _ _ (by simp) (Z e.kids λ_ h=>h)with⟨I,E⟩|⟨I,⟨E,J⟩|⟨E,J,L⟩⟩
    .exact .inl ⟨I,E⟩
    .exact .inr ⟨I,.inl ⟨E,by rw[J];rfl⟩⟩
    .exact .inr ⟨I,.inr ⟨E,J,by rw[L];rfl⟩⟩
 rw[A3 k3,A3 k3];by_cases k2:e.kind≠2/\e.kind≠4/\e.kind≠5
 .rw[A6 k2,A6 k2];exact .no _
 rw[A3 k2,A3 k2];cases a0:e.kids with
 |nil=>exact .no _
 |cons v vs =>
  simp;have hv:=ih v (by grind);rcases hv with⟨I,E⟩|⟨I,⟨E,J⟩|⟨E,J,L⟩⟩;rw[A6 E];exact .inl ⟨I,E⟩;rw[A6 E,J];exact .inr ⟨I,.inl ⟨E,rfl⟩⟩
  .have hz:(Df c v).2=Pq:=by cases hr:(Df c v).2 with|mk a b d=>rw[hr]at I E J;simp only at I E J;rw[I,E,J];rfl
   rw[A3 (by grind),L,hz];simp only;by_cases U:e.kind=2;rw[A6 U,A6 U];unfold A5w C6k;split;exact .no _;rename_i s hs;rcases C6z (c:=c) (T7 s e.targs) e.kids.tail _ _ (by simp) (Z vs λx hx=>by grind)with⟨I,E⟩|⟨I,⟨E,J⟩|⟨E,J,L⟩⟩;unfold Sj;rw[A3 (by grind)];exact .inl ⟨I,E⟩;unfold Sj;rw[A3 (by grind),J];exact .inr ⟨I,.inl ⟨E,rfl⟩⟩;rw[L];unfold Sj;split;exact .inl ⟨rfl,rfl⟩;exact .inr ⟨I,.inr ⟨E,J,rfl⟩⟩;rw[A3 U,A3 U];by_cases O:e.kind=4;rw[A6 O,A6 O];unfold Zr C8d;split;exact .no _;split;split;exact .no _;unfold Sj;split;exact .inl ⟨rfl,rfl⟩;exact .inr ⟨rfl,.inr ⟨rfl,rfl,rfl⟩⟩;exact .no _;rw[A3 O,A3 O];unfold B2k C5z;split;exact .no _;split;exact .no _;exact .inr ⟨rfl,.inr ⟨rfl,rfl,rfl⟩⟩
def B8s{c:D8}{e:Ex}(h:(Df c e).2.bad=false):D6 c e=((Df c e).1,none):=by rcases E2z c e with⟨_,E⟩|⟨_,⟨E,_⟩|⟨_,_,I⟩⟩;all_goals grind
def Hj(l:List A2):List Ty:=l.map λv=>.mk v [] 0
def Hk(p:Prog)(d:Decl):List Ak:=((Ey p d.name).zip d.vars).map λz=>⟨z.2,z.1.bound.subst (Ad (Ey p d.name)) (Hj d.vars),z.1.pos⟩
def Xs(p:Prog)(env:List Ak)(pre:List A2):List A4->Option Int
 |[]=>none
 |s::ss=>if s.name∈pre then some s.pos else match Nx p env s with
  |some q=>some q
  |none=>Xs p env (pre++[s.name]) ss
def B4b(p:Prog)(i:Nat)(d:Decl):Option Int :=if findD d.name p.decls 0≠(i:Int)then some d.pos else
 match X2 p [] d.A1 with
 |some q=>some q
 |none=>if d.kind=1 then(match Ve p d.A1 [] d.fields with
   |some q=>some q
   |none=>if d.name∈B0m p d.name then some d.pos else none)else Xs p d.A1 [] d.sigs
def A0a(p:Prog)(pre:List A2):List A2->Bool
 |[]=>false
 |v::vs=>decide (kindOf p v≠0\/v∈pre) ||A0a p (pre++[v]) vs
def E3w(d:Decl):Option Int->Option Int
 |some q=>some q
 |none=>(d.sig.params.find? λf=>decide (f.name=d.recv)).map (·.pos)
def B3j(p:Prog)(i:Nat)(d:Decl):Option Int :=if kindOf p d.name≠1\/d.vars.length≠(Ey p d.name).length then some d.pos else
 if A0a p [] d.vars=true then some d.pos else
 if N9 p d.name d.sig.name≠(i:Int)then some d.pos else
 E3w d (Nx p (Hk p d) d.sig)
def Xb(p:Prog)(i:Nat)(d:Decl):Option Int:=if d.kind=1\/d.kind=2 then B4b p i d else if d.kind=3 then B3j p i d else some d.pos
def A4v(d:Decl):Ty:=.mk d.name (Hj d.vars) 0
def Jz(p:Prog)(st:Bool)(d:Decl):D8:=⟨p,st,Hk p d++d.sig.A1,⟨d.recv,A4v d,0⟩::d.sig.params⟩
def U3(p:Prog)(st:Bool)(d:Decl):F6:=if d.kind=3 then Ua (Jz p st d) d.sig.result d.body (Df (Jz p st d) d.body)else Pq
def Zs(p:Prog)(st:Bool):List Decl->Nat->F6
 |[],_=>(Df ⟨p,st,[],[]⟩ p.main).2
 |d::ds,i=>match Xb p i d with
  |some q=>M1 q
  |none=>if(U3 p st d).bad=true then U3 p st d else Zs p st ds (i+1)
def A5v(p:Prog)(st:Bool):F6:=Zs p st p.decls 0
def D3n{p:Prog}{st:Bool}:∀{l:List Decl} {i:Nat},(Zs p st l i).bad=false->∀(k:Nat)(d:Decl),l[k]?=some d->Xb p (i+k) d=none/\(U3 p st d).bad=false
 |[],_,_=>by simp
 |x::l,i,h=>by
  intro k d I;rw[Zs]at h;cases E:Xb p i x with
  |some q=>rw[E]at h;cases h
  |none =>
   rw[E]at h;simp only at h;split at h;grind
   .rename_i J;cases k with
    |zero=>grind
    |succ k =>rw[Q3]at I;have:=D3n h k d I;grind
abbrev Q9(t:Ty):List SV:=[.d (.str t.name),.d (.slice (Ag t.args)),.d (.int .i64 t.pos)]
abbrev deS(d:Decl):List SV:=[.d (.int .i64 d.kind),.d (.str d.name),.d (.slice (Ax d.A1)),.d (.slice (Ay d.fields)),.d (.slice (B9 d.sigs)),.d (.str d.recv),.d (.slice (Ba d.vars)),.d (.str d.sig.name),.d (.slice (Ax d.sig.A1)),.d (.slice (Ay d.sig.params)),.d (.str d.sig.result.name),.d (.slice (Ag d.sig.result.args)),.d (.int .i64 d.sig.result.pos),.d (.int .i64 d.sig.pos),.d (.int .i64 d.body.kind),.d (.str d.body.name),.d (.str d.body.type.name),.d (.slice (Ag d.body.type.args)),.d (.int .i64 d.body.type.pos),.d (.slice (Ag d.body.targs)),.d (.slice (Bj d.body.kids)),.d (.int .i64 d.body.pos),.d (.int .i64 d.pos)]
mutual
def Cj:Ex->List Ex
 |.mk k n t a ks q=>.mk k n t a ks q::Em ks
def Em:List Ex->List Ex
 |[]=>[]
 |e::es=>Cj e++Em es
end
def Sp(e:Ex):Cj e=e::Em e.kids:=by cases e;rw[Cj];rfl
def B5y:∀a b:List Ex,Em (a++b)=Em a++Em b
 |[],_=>rfl
 |x::a,b=>by simp only[Nj,Em,B5y a b,H8]
def E1w:∀{l:List Ex} {x:Ex},x∈l->(Cj x).length<=(Em l).length
 |[],_,h=>by simp at h
 |y::l,x,h=>by rw[Em,As];rcases B5.1 h with rfl|h;omega;have:=E1w h;omega
def E4e:∀l:List Ex,l.length<=(Em l).length
 |[]=>Bq _
 |y::l=>by have:=E4e l;rw[Em,As,Sp];simp only[Ar];omega
def D6w(l:List Ex)(j:Nat):(Em (l.take j)).length<=(Em l).length:=by
 conv=>rhs;rw[<-X5 j l,B5y,As]
 omega
def A8y{Q:Ex->Prop}(L:∀e:Ex,Q e->∀x,x∈e.kids->Q x):∀e:Ex,Q e->∀x,x∈Cj e->Q x:=by
 intro e;induction e using Ex.induct with|_ e U=>?_;intro J x hx;rw[Sp,B5]at hx;rcases hx with rfl|hx;exact J
 have:∀l:List Ex,(∀y,y∈l->y∈e.kids)->x∈Em l->Q x:=λl=>by
  induction l with
  |nil=>intro _ h;simp[Em]at h
  |cons y l E =>
   intro I h;rw[Em,C6]at h;rcases h with h|h;exact U y (I y (by simp)) (L e J y (I y (by simp))) x h;exact E (λz O=>I z (by simp[O])) h
 exact this e.kids (λ_ h=>h) hx
abbrev A1s:List Nat:=[0,1,2,3,4,6,11]
def D2v:∀e:Ex,(Cj e).length<=sm->Ab prog 39 [Bg e] (.d (.slice (Bj (Cj e)))):=by
 intro e
 induction e using Ex.induct with
 |h e ih =>
 intro O;rw[Sp]at O |-;simp only[Ar]at O;have W:=E4e e.kids;refine cB func39 ?_;refine sR A1s ?_
 (refine A0.F9 A1s [6] (by decide +kernel) λK z=>?_;refine ev ?_;apply z;clear z K)
 refine kR A1s λK1 u1=>?_;refine A0.bb (A0.ii e.kids (X:=Unit) (λj _=>[(1,.box 1 0),(3,.acc 6),(4,A7 j)]) (λj _=>[(1,.cells (D5 e)),(6,.rows 8 (Bj (e::Em (e.kids.take j))))]) (λj _=>True) () trivial sS (by simp[ble,A8,Em,I0,Bp]) ?_ ?_)
 rotate_left
 .intro j _ u V I dp tk L _;have U:=E1w I;have hi:=ih u I (by omega);have Z:=D6w e.kids j;have E:=D6w e.kids (j+1);rw[tk,B5y]at E;simp only[Em,Gy,As]at E;rw[tk,B5y];simp only[Em,Gy];generalize Em (e.kids.take j)=A at*;generalize Cj u=B at*;refine Ae L A1s λJ u2=>?_;refine gI u2 ?_;clear u2 J;refine sK λJ u2=>A0.bb ?_
  (refine lV A1s λK z=>?_;refine ci (Ck V) ?_;refine cc hi ?_;refine⟨Z5 _,by unfold lim sm at*;omega,?_⟩;(try refine ev ?_);apply z;clear z K;try simp only[A5,A9])
  refine u2 _ _ ?_;clear u2 J;refine lT A1s ?_;exact⟨(),trivial,sS,by simp[ble,A8,I0,Bp]⟩
 intro _ _;rw[Cx];refine Ae B6 A1s λJ u2=>?_;refine A0.ss rfl ?_;simp only[A5,A9,Ac];refine u1 _ _<|sR A1s ?_;exact aR
end Go.Abs
