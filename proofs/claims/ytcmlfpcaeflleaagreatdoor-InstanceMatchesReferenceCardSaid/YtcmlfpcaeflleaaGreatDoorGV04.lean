/- infer: wrong, fields, fits, all, literal, variable -/
import Derived.Test.YtcmlfpcaeflleaaGreatDoorGS58
set_option linter.all false
set_option maxHeartbeats 8000000
set_option maxRecDepth 100000
namespace Go.Abs
open Go Go.Proofs Tryz
abbrev Hn(c:C3):List SV:=[.Ah (Ep c.p) 0,.d (.bool false),.d (.slice (Ar c.env)),.d (.slice (B9 c.vars))]
abbrev Nz(c:C3):SV:=.agg (Hn c)
def I2(z:TO):SV:=.tuple [B6 z.1,.d (Ei 4 z.2)]
def Qu(c:C3)(x:Ty):List Param:=if Ez c.env x<0 then Bh c.p x else[]
def B0k(e:Ex):Ac prog 210 [D0 e] (I2 (Fc e.pos)):=by refine cB func210 ?_;refine sR [0,1,2,3] ?_;refine sC (C4f 4 e.pos) [0,1,2,3] ?_;exact aR
abbrev A4u:List Nat:=[0,1,2,3,4,5,7,15]
def E1f(c:C3)(h:c.Sm)(x:Ty)(O:x.Sm):Ac prog 252 [Nz c,B6 x] (.tuple [.d (.slice (B9 (Qu c x))),Ay (Hk c x)]):=by
 have I:=B9k c.env x h.el h.env;have M:=E3q c.p h.p x O;unfold Qu Hk;by_cases E:Ez c.env x<0
 .rw[A9 E,Bo E,Cr];rw[show Cm c.env x=none by unfold Cm;rw[A9 E],Zw]at I;refine cB func252 ?_;refine sR A4u ?_;refine kC I A4u λL u1=>?_;refine sR A4u ?_;refine kI u1 ?_;clear u1 L;refine sC M A4u ?_;exact aR
 .rw[A6 E,Ce E,C9];obtain⟨f,J,_⟩:=A6b E;rw[show Cm c.env x=some f.bound by unfold Cm;rw[A6 E,J];rfl,Zw]at I;refine cB func252 ?_;refine sR A4u ?_;refine kC I A4u λL u1=>?_;refine sR A4u ?_;refine tI ?_;refine sR A4u ?_;exact aR
abbrev Z5:List Nat:=[0,1,2,3,4,5,6,7,8,16,25]
def G3y(c:C3)(h:c.Sm)(M:c.strict=false)(e:Ex)(hT:(Bw c e).1.Sm)(L:Ac prog 142 [Nz c,D0 e] (I2 (Bw c e)))(w:Ty)(O:w.Sm) :
  Ac prog 281 [Nz c,D0 e,B6 w] (.d (Ei 4 (Wp c w e (Bw c e)))):=by
 have I:=B0k e;unfold Wp;generalize Bw c e=z at*;obtain⟨t,o⟩:=z;have J:=B5g c.p h.p c.env h.el h.env t w hT O;unfold I2 at L I;refine cB func281 ?_;refine sR Z5 ?_;refine sC L Z5 ?_;cases o with
 |some q =>simp only[Ei];refine kR Z5 λE u1=>?_;refine tI ?_;refine sR Z5 ?_;exact aR
 |none =>
  simp only[Ei];refine kR Z5 λE u1=>?_;refine kI u1 ?_;clear u1 E;rcases Fb (Dd c.p c.env t w)with b1|b1
  .rw[b1]at J |-;refine kC J Z5 λE u1=>?_;refine A0.ff rfl (A0.kk (u1 _ _ ?_));clear u1 E;refine sR Z5 ?_;exact aR
  .rw[b1]at J |-;refine kC J Z5 λE u1=>?_;refine A0.tt rfl ?_
   (refine lV Z5 λK z=>?_;refine cc I ?_;apply z;clear z K;try simp only[A4,])
   refine u1 _ _ ?_;clear u1 E;refine sR Z5 ?_;exact aR
abbrev Vu:List Nat:=[0,1,2,3,6,7,8,9,10,11,12,13,26]
def D3e(c:C3)(h:c.Sm)(a1:c.strict=false)(l:List Ex)(hl:l.length<=sm)(m:List Param)(hm:l.length<=m.length)
  (hF:∀k,k∈l->∀w:Ty,w.Sm->Ac prog 281 [Nz c,D0 k,B6 w] (.d (Ei 4 (Wp c w k (Bw c k)))))(hw:∀f,f∈m->f.type.Sm) :
  Ac prog 250 [Nz c,.d (.slice (Ew l)),.d (.slice (B9 m))] (.d (Ei 4 (Ko c (m.map (·.type)) l (l.map (Bw c))))):=by
 refine cB func250 ?_;refine sR Vu ?_;refine kR Vu λK1 u1=>?_;refine A0.bb (A0.ii l (X:=Unit) (λj _=>[(0,Nz c),(2,.d (.slice (B9 m))),(3,.box 3 0),(10,.d (.slice (Ew l))),(11,A8 l.length),(12,A8 j)]) (λ_ _=>[(3,.cells (Hn c))])
  (λj _=>Ko c ((m.drop j).map (·.type)) (l.drop j) ((l.drop j).map (Bw c))=Ko c (m.map (·.type)) l (l.map (Bw c))) () rfl sS sB ?_ ?_)
 .intro _ E;rw[De]at E;have M:∀U:List Ty,Ko c U [] []=none:=λU=>by cases U <;> rfl
  rw[Hy,M]at E;refine Aq B3 Vu ?_;refine A0.stop rfl ?_;simp only[A4,Ab,Ae];refine u1 _ _<|sR Vu ?_;rw[<-E,Ei];exact aR
 .intro j _ d hd J dp tk V E;have a0:j<l.length:=by omega
  have Z:j<m.length:=by omega
  have L:=B8 Z;generalize m[j]=f at L;have O:=Br L;have I:=hF d J f.type (hw f O);have W:m.drop j=f::m.drop (j+1):=by obtain⟨h1,h2⟩:=B5.1 L;rw[Ge h1,h2]
  rw[dp,W,Ck,Ck,Ko]at E;refine Aq V Vu ?_;refine A0.Fk rfl<|sK λK2 u2=>A0.bb ?_
  (refine sV Vu λK z=>?_;refine ci (Dn hd) ?_;apply z;clear z K)
  cases ho:Wp c f.type d (Bw c d)with
  |none =>
   rw[ho]at I E;simp only[Ei]at I E
   (refine sG Vu [] 7 [] λK z=>?_;refine ev ?_;refine ci (E9 L) ?_;refine cc I ?_;apply z;clear z K)
   refine sR Vu ?_;refine A0.ff rfl (A0.kk (u2 _ _ ?_));clear u2 K2;refine lT Vu ?_;exact⟨(),E,sS,sB⟩
  |some q =>
   rw[ho]at I E;simp only[Ei]at I E
   (refine sG Vu [] 7 [] λK z=>?_;refine ev ?_;refine ci (E9 L) ?_;refine cc I ?_;apply z;clear z K)
   refine sR Vu ?_;refine A0.tt rfl<|sR Vu ?_;rw[<-E];simp only[Ei];exact aR
def E9b(e:Ex)(f:Param):Ac prog 246 [Rk f,.Ah (Bu e) 0] (Ay (decide (f.name=e.name))):=by refine cB func246 ?_;refine sR [0,1,2,3] ?_;refine sR [0,1,2,3] ?_;exact aR
abbrev A4a:List Nat:=[0,1,2,3,4,5,6,12]
def G2s(c:C3)(h:c.Sm)(U:c.strict=false)(e:Ex):Ac prog 205 [Nz c,D0 e] (I2 (Wv c e)):=by
 have E:=D2r 246 [.Ah (Bu e) 0] (λx=>rfl) (λf=>decide (f.name=e.name)) c.vars h.vl (λf _=>E9b e f);have L:=B0k e;unfold I2 at*;rcases M9 (λf:Param=>decide (f.name=e.name)) c.vars with⟨I,_⟩|⟨j,f,I,M,_⟩
 .have hr:Wv c e=Fc e.pos:=by
   unfold Wv G7;rw[I];split
   .rw[A9 (by decide)]
   .rfl
  rw[hr];rw[I]at E;refine cB func205 ?_;refine sR A4a ?_
  (refine A0.zz 3 rfl rfl (wk [(2,.box 2 0),(3,.Ah (Bu e) 0),(4,.box 4 0)] [(2,.cells (Hn c)),(4,H9)] ?_))
  refine sC E A4a ?_;refine kR A4a λO u1=>?_;refine tI ?_;refine sC L A4a ?_;exact aR
 .have J:¬(j:Int)<0:=by omega
  have hr:Wv c e=(f.type,none):=by unfold Wv G7;rw[I,Hs,M];simp only;rw[A6 J]
  rw[hr];rw[I]at E;simp only[Ei];refine cB func205 ?_;refine sR A4a ?_
  (refine A0.zz 3 rfl rfl (wk [(2,.box 2 0),(3,.Ah (Bu e) 0),(4,.box 4 0)] [(2,.cells (Hn c)),(4,H9)] ?_))
  refine sC E A4a ?_;refine Ai J A4a λO u1=>?_;refine kI u1 ?_;clear u1 O
  (refine sV A4a λK z=>?_;refine ci (E9 M) ?_;apply z;clear z K)
  exact aR
def C1b{c:C3}(h:c.Sm):∀e:Ex,e.Sm->(Bw c e).1.Sm:=by
 intro e
 induction e using Ex.induct with|_ e U=>?_
 intro I;rw[A9d];unfold P4;split
 .unfold Wv;split
  .rename_i f L;split
   .exact I5
   .exact(h.vars f (Br L)).type
  .exact I5
 split
 .unfold X5;split
  .exact I5
  .split
   .exact I5
   .unfold Yb;split
    .exact I5
    .exact I.type
 split
 .exact I5
 split
 .exact I5
 .rename_i z W hz;cases E:e.kids with
  |nil=>rw[E]at hz;simp at hz
  |cons v vs =>
   rw[E]at hz;simp only[Ck,Sj]at hz;obtain⟨rfl,rfl⟩:=hz;have O:=U v (by rw[E];simp) (I.kids.2 v (by rw[E];simp));split
   .exact I5
   split
   .unfold W6;split
    .exact I5
    .rename_i s hs;unfold Yb;split
     .exact I5
     .have J:s∈D8 c.p c.env (Bw c v).1:=by
       unfold Ly at hs;split at hs
       .cases hs
       .rename_i V M;split at hs
        .cases hs
        .split at hs
         .cases hs
         .split at hs
          .cases hs
          .split at hs
           .cases hs
           .cases hs;exact Br M
      exact(Ya h.p (env:=c.env) h.env O s J).result.subst I.targs.2
   split
   .unfold Xb;split
    .exact I5
    .split
     .rename_i f L;split
      .exact I5
      .exact(A9p h.p O f (Br L)).type
     .exact I5
   .unfold Wb;split
    .exact I5
    .split
     .exact I5
     .exact I.type
def G9f(e:Ex)(f:Param):Ac prog 253 [Rk f,.Ah (Bu e) 0] (Ay (decide (f.name=e.name))):=by refine cB func253 ?_;refine sR [0,1,2,3] ?_;refine sR [0,1,2,3] ?_;exact aR
def Y8(z:TO)(f:Ty->TO):TO:=match z.2 with
 |some q=>Fc q
 |none=>f z.1
abbrev Ns:List Nat:=[0,1,2,3,4,5,6,7,8,10,21,34]
def G3s(c:C3)(h:c.Sm)(a2:c.strict=false)(e:Ex)(he:e.Sm)(k:Ex)(W:e.kids[0]?=some k)(hF:Ac prog 142 [Nz c,D0 k] (I2 (Bw c k))) :
  Ac prog 208 [Nz c,D0 e] (I2 (Y8 (Bw c k) (Xb c e))):=by
 have hx:=C1b h k (he.kids.2 k (Br W));have a0:=B0k e;generalize Bw c k=z at*;obtain⟨x,o⟩:=z;have V:=E1f c h x hx;have a1:(Qu c x).length<=sm:=by
  unfold Qu;split
  .exact B1z h.p x
  .simp
 have I:=D2r 253 [.Ah (Bu e) 0] (λx=>rfl) (λf=>decide (f.name=e.name)) (Qu c x) a1 (λf _=>G9f e f);unfold I2 at*;cases o with
 |some q =>
  simp only[Y8,Ei]at*;refine cB func208 ?_;refine sR Ns ?_
  (refine A0.zz 3 rfl rfl (wk [(2,.box 2 0),(3,.Ah (Bu e) 0),(4,.box 4 0)] [(2,.cells (Hn c)),(4,H9)] ?_))
  (refine sG Ns [6] 11 [⟨[],[],[6],[6]⟩,⟨[],[],[6],[6]⟩,⟨[],[],[6],[6]⟩,⟨[],[],[6],[6]⟩,⟨[],[],[6],[6]⟩,⟨[],[],[6],[6]⟩,⟨[],[],[6],[6]⟩,⟨[],[],[6],[6]⟩,⟨[],[],[6],[6]⟩,⟨[6],[6],[],[]⟩,⟨[6],[],[],[]⟩] λK z=>?_;refine ev ?_;refine cj (Dn W) ?_;refine cc hF ?_;apply z;clear z K)
  refine kR Ns λM u1=>?_;refine tI ?_;refine sR Ns ?_;exact aR
 |none =>
  simp only[Y8,Ei]at*;generalize U:Xb c e x=R;unfold Xb G7 at U;have J:(R=Fc e.pos/\Dq (λf:Param=>decide (f.name=e.name)) (Qu c x) = -1)\/∃(j:Nat) (f:Param),Dq (λf:Param=>decide (f.name=e.name)) (Qu c x)=j/\(Qu c x)[j]?=some f/\R=(f.type,none):=by
   rcases Fb (Hk c x)with b1|b1
   .rw[b1,A6 (by simp)]at U;have L:Qu c x=Bh c.p x:=by
     unfold Hk at b1;rw[Bc,Da]at b1;unfold Qu;rw[A9 b1.1]
    rw[L];rcases M9 (λf:Param=>decide (f.name=e.name)) (Bh c.p x)with⟨E,_⟩|⟨j,f,E,Z,_⟩
    .refine .inl ⟨?_,E⟩;rw[<-U,E];split
     .rw[A9 (by decide)]
     .rfl
    .have O:¬(j:Int)<0:=by omega
     refine .inr ⟨j,f,E,Z,?_⟩;rw[<-U,E,Hs,Z];simp only;rw[A6 O]
   .rw[b1,A9 rfl]at U;have L:Qu c x=[]:=by
     unfold Qu Hk at*;split
     .rename_i hv;rw[Bo hv,Cr]at b1;unfold Bh;rw[b1];simp
     .rfl
    exact .inl ⟨U.symm,by rw[L];simp[Dq]⟩
  generalize Qu c x=l at*;generalize Hk c x=stb at*;rcases J with⟨rfl,E⟩|⟨j,f,E,Z,rfl⟩
  .rw[E]at I;refine cB func208 ?_;refine sR Ns ?_
   (refine A0.zz 3 rfl rfl (wk [(2,.box 2 0),(3,.Ah (Bu e) 0),(4,.box 4 0)] [(2,.cells (Hn c)),(4,H9)] ?_))
   (refine sG Ns [6] 11 [⟨[],[],[6],[6]⟩,⟨[],[],[6],[6]⟩,⟨[],[],[6],[6]⟩,⟨[],[],[6],[6]⟩,⟨[],[],[6],[6]⟩,⟨[],[],[6],[6]⟩,⟨[],[],[6],[6]⟩,⟨[],[],[6],[6]⟩,⟨[],[],[6],[6]⟩,⟨[6],[6],[],[]⟩,⟨[6],[],[],[]⟩] λK z=>?_;refine ev ?_;refine cj (Dn W) ?_;refine cc hF ?_;apply z;clear z K)
   refine kR Ns λM u1=>?_;refine kI u1 ?_;clear u1 M;refine sC V Ns ?_;refine sC I Ns ?_;refine kR Ns λM u1=>?_;refine tI ?_;refine sC a0 Ns ?_;exact aR
  .rw[E]at I;have O:¬(j:Int)<0:=by omega
   refine cB func208 ?_;refine sR Ns ?_
   (refine A0.zz 3 rfl rfl (wk [(2,.box 2 0),(3,.Ah (Bu e) 0),(4,.box 4 0)] [(2,.cells (Hn c)),(4,H9)] ?_))
   (refine sG Ns [6] 11 [⟨[],[],[6],[6]⟩,⟨[],[],[6],[6]⟩,⟨[],[],[6],[6]⟩,⟨[],[],[6],[6]⟩,⟨[],[],[6],[6]⟩,⟨[],[],[6],[6]⟩,⟨[],[],[6],[6]⟩,⟨[],[],[6],[6]⟩,⟨[],[],[6],[6]⟩,⟨[6],[6],[],[]⟩,⟨[6],[],[],[]⟩] λK z=>?_;refine ev ?_;refine cj (Dn W) ?_;refine cc hF ?_;apply z;clear z K)
   refine kR Ns λM u1=>?_;refine kI u1 ?_;clear u1 M;refine sC V Ns ?_;refine sC I Ns ?_;refine Ai O Ns λM u1=>?_;refine kI u1 ?_;clear u1 M
   (refine sV Ns λK z=>?_;refine ci (E9 Z) ?_;apply z;clear z K)
   exact aR
abbrev Nu:List Nat:=[0,1,2,3,4,5,6,7,18,27,39]
def H1u(c:C3)(h:c.Sm)(O:c.strict=false)(e:Ex)(V:e.Sm)(k:Ex)(M:e.kids[0]?=some k)(L:Ac prog 142 [Nz c,D0 k] (I2 (Bw c k))) :
  Ac prog 209 [Nz c,D0 e] (I2 (Y8 (Bw c k) (Wb c e))):=by
 have E:=C8y c.p h.p c.env h.el h.env e.type V.type;generalize Bw c k=z at*;obtain⟨x,o⟩:=z;unfold I2 at*;cases o with
 |some q =>
  simp only[Y8,Ei]at*;refine cB func209 ?_;refine sR Nu ?_
  (refine A0.zz 3 rfl rfl (wk [(2,.box 2 0),(3,.Ah (Bu e) 0),(4,.box 4 0)] [(2,.cells (Hn c)),(4,H9)] ?_))
  (refine sG Nu [6] 11 [⟨[],[],[6],[6]⟩,⟨[],[],[6],[6]⟩,⟨[],[],[6],[6]⟩,⟨[],[],[6],[6]⟩,⟨[],[],[6],[6]⟩,⟨[],[],[6],[6]⟩,⟨[],[],[6],[6]⟩,⟨[],[],[6],[6]⟩,⟨[],[],[6],[6]⟩,⟨[6],[6],[],[]⟩,⟨[6],[],[],[]⟩] λK z=>?_;refine ev ?_;refine cj (Dn M) ?_;refine cc L ?_;apply z;clear z K)
  refine kR Nu λI u1=>?_;refine A0.ff rfl (A0.kk (u1 _ _ ?_));clear u1 I;refine kR Nu λI u1=>?_;refine tI ?_;refine sR Nu ?_;exact aR
 |none =>
  simp only[Y8,Ei]at L |-;generalize J:Wb c e x=R;unfold Wb at J;cases U:Bt c.p c.env e.type with
  |some q =>
   rw[U]at J E;obtain rfl:R=Fc q:=J.symm;simp only[Ei,Fc]at E |-;refine cB func209 ?_;refine sR Nu ?_
   (refine A0.zz 3 rfl rfl (wk [(2,.box 2 0),(3,.Ah (Bu e) 0),(4,.box 4 0)] [(2,.cells (Hn c)),(4,H9)] ?_))
   (refine sG Nu [6] 11 [⟨[],[],[6],[6]⟩,⟨[],[],[6],[6]⟩,⟨[],[],[6],[6]⟩,⟨[],[],[6],[6]⟩,⟨[],[],[6],[6]⟩,⟨[],[],[6],[6]⟩,⟨[],[],[6],[6]⟩,⟨[],[],[6],[6]⟩,⟨[],[],[6],[6]⟩,⟨[6],[6],[],[]⟩,⟨[6],[],[],[]⟩] λK z=>?_;refine ev ?_;refine cj (Dn M) ?_;refine cc L ?_;apply z;clear z K)
   refine kR Nu λI u1=>?_;refine A0.tt rfl ?_
   (refine lV Nu λK z=>?_;refine cc E ?_;apply z;clear z K;try simp only[A4,])
   refine u1 _ _ ?_;clear u1 I;refine kR Nu λI u1=>?_;refine tI ?_;refine sR Nu ?_;exact aR
  |none =>
   rw[U]at J E;obtain rfl:R=(e.type,none):=by rw[<-J];simp[O]
   simp only[Ei]at E |-;refine cB func209 ?_;refine sR Nu ?_
   (refine A0.zz 3 rfl rfl (wk [(2,.box 2 0),(3,.Ah (Bu e) 0),(4,.box 4 0)] [(2,.cells (Hn c)),(4,H9)] ?_))
   (refine sG Nu [6] 11 [⟨[],[],[6],[6]⟩,⟨[],[],[6],[6]⟩,⟨[],[],[6],[6]⟩,⟨[],[],[6],[6]⟩,⟨[],[],[6],[6]⟩,⟨[],[],[6],[6]⟩,⟨[],[],[6],[6]⟩,⟨[],[],[6],[6]⟩,⟨[],[],[6],[6]⟩,⟨[6],[6],[],[]⟩,⟨[6],[],[],[]⟩] λK z=>?_;refine ev ?_;refine cj (Dn M) ?_;refine cc L ?_;apply z;clear z K)
   refine kR Nu λI u1=>?_;refine A0.tt rfl ?_
   (refine lV Nu λK z=>?_;refine cc E ?_;apply z;clear z K;try simp only[A4,])
   refine u1 _ _ ?_;clear u1 I;refine kR Nu λI u1=>?_;refine kI u1 ?_;clear u1 I;refine kR Nu λI u1=>?_;refine kI u1 ?_;clear u1 I;refine sR Nu ?_;exact aR
def G8o(p:Prog)(h:p.Sm)(env:List Am)(I:env.length<=sm)(L:∀f,f∈env->f.Sm)(x:Ty)(M:x.Sm)(E:A3) :
  Ac prog 146 [.Ah (Ep p) 0,.d (.slice (Ar env)),B6 x,D9 E] (Yh (D8 p env x) E):=by
 have hs:=B8j p h env I L x M;have hp:=C8x (D8 p env x) (A4h h env x) E;unfold Yh at*;by_cases J:Gj (D8 p env x) E<0
 .rw[A9 J]at hp |-;refine cB func146 ?_;refine sR [0,1,2,3,6,8,9] ?_
  (refine sV [0,1,2,3,6,8,9] λK z=>?_;refine cc hs ?_;refine cc hp ?_;apply z;clear z K)
  exact aR
 .rw[A6 J]at hp |-;generalize((D8 p env x)[(Gj (D8 p env x) E).toNat]?).getD Zf=s at*;refine cB func146 ?_;refine sR [0,1,2,3,6,8,9] ?_
  (refine sV [0,1,2,3,6,8,9] λK z=>?_;refine cc hs ?_;refine cc hp ?_;apply z;clear z K)
  exact aR
def F4r(s:A5)(h:s.Sm)(args:List Ty)(O:s.A1.length=args.length)(L:∀u,u∈args->u.Sm) :
  Ac prog 147 [Ea s,Cd args] (.tuple [Ea (s.subst (s.A1.map (·.name)) args),Ay true]):=by
 have J:=A4d s.A1 h.A1.1;have I:=B9m (s.A1.map (·.name)) args L s h;have E:(s.A1.length:Int)=(args.length:Int):=by omega
 generalize s.subst (s.A1.map (·.name)) args=s' at*;refine cB func147 ?_;refine sR [0,1,2,4,5,11] ?_;refine Ai E [0,1,2,4,5,11] λM u1=>?_;refine kI u1 ?_;clear u1 M
 (refine sG [0,1,2,4,5,11] [] 5 [] λK z=>?_;refine ev ?_;refine cc J ?_;refine cc I ?_;apply z;clear z K)
 exact aR
def S8(f:FuncId)(c:C3)(e:Ex)(z:TO):Prop:=∃t,(z.2=none->t=z.1)/\Ac prog f [Nz c,D0 e] (.tuple [B6 t,.d (Ei 4 z.2)])
def S8.of{f:FuncId}{c:C3}{e:Ex}{z:TO}(h:Ac prog f [Nz c,D0 e] (I2 z)):S8 f c e z:=⟨z.1,λ_=>rfl,h⟩
abbrev It:List Nat:=[0,1,2,3,4,5,6,7,8,17,36]
def G0t(c:C3)(h:c.Sm)(a1:c.strict=false)(e:Ex)(Z:e.Sm)
  (hF:∀k,k∈e.kids->∀w:Ty,w.Sm->Ac prog 281 [Nz c,D0 k,B6 w] (.d (Ei 4 (Wp c w k (Bw c k))))) :
  S8 207 c e (X5 c e (e.kids.map (Bw c))):=by
 have U:=B0k e;have E:=C8y c.p h.p c.env h.el h.env e.type Z.type;have J:=E1f c h e.type Z.type;have a0:=Z.kids.1;unfold I2 at U;generalize O:X5 c e (e.kids.map (Bw c))=R;unfold X5 at O;have V:Hk c e.type=true->Qu c e.type=Bh c.p e.type:=λb1=>by unfold Hk at b1;rw[Bc,Da]at b1;unfold Qu;rw[A9 b1.1]
 cases hc:Bt c.p c.env e.type with
 |some q =>
  rw[hc]at O E;obtain rfl:R=Fc q:=O.symm;refine S8.of ?_;simp only[I2,Ei,Fc]at E |-;refine cB func207 ?_;refine sR It ?_
  (refine A0.zz 3 rfl rfl (wk [(2,.box 2 0),(3,.Ah (Bu e) 0),(4,.box 4 0)] [(2,.cells (Hn c)),(4,H9)] ?_))
  refine kC E It λL u1=>?_;refine sR It ?_;refine tI ?_;refine sR It ?_;exact aR
 |none =>
  rw[hc]at O E;simp only[Ei]at O E;by_cases I:Hk c e.type=false\/(Bh c.p e.type).length≠e.kids.length
  .rw[A9 I]at O;obtain rfl:R=Fc e.pos:=O.symm;refine S8.of ?_;simp only[I2];rcases Fb (Hk c e.type)with b1|b1
   .rw[b1,V b1]at J;have W:¬((Bh c.p e.type).length:Int)=(e.kids.length:Int):=by
     rcases I with hb|hb
     .rw[b1]at hb;cases hb
     .omega
    refine cB func207 ?_;refine sR It ?_
    (refine A0.zz 3 rfl rfl (wk [(2,.box 2 0),(3,.Ah (Bu e) 0),(4,.box 4 0)] [(2,.cells (Hn c)),(4,H9)] ?_))
    refine kC E It λL u1=>?_;refine sR It ?_;refine kI u1 ?_;clear u1 L;refine sC J It ?_;refine Ai W It λL u1=>?_;refine tI ?_;refine sC U It ?_;exact aR
   .rw[b1]at J;generalize Qu c e.type=fl at*;refine cB func207 ?_;refine sR It ?_
    (refine A0.zz 3 rfl rfl (wk [(2,.box 2 0),(3,.Ah (Bu e) 0),(4,.box 4 0)] [(2,.cells (Hn c)),(4,H9)] ?_))
    refine kC E It λL u1=>?_;refine sR It ?_;refine kI u1 ?_;clear u1 L;refine sC J It ?_;refine kR It λL u1=>?_;refine tI ?_;refine sC U It ?_;exact aR
  .rw[A6 I]at O;have b1:Hk c e.type=true:=by
    rcases Fb (Hk c e.type)with b|b
    .exact b
    .exact(I (.inl b)).elim
   have a2:(Bh c.p e.type).length=e.kids.length:=Classical.byContradiction λhh=>I (.inr hh);have W:((Bh c.p e.type).length:Int)=(e.kids.length:Int):=by omega
   have M:=D3e c h a1 e.kids a0 (Bh c.p e.type) (by omega) hF (λf hf=>(A9p h.p Z.type f hf).type);rw[b1,V b1]at J;unfold Yb at O;generalize Ko c ((Bh c.p e.type).map (·.type)) e.kids (e.kids.map (Bw c))=o at*;cases o with
   |some q =>
    obtain rfl:R=Fc q:=O.symm;refine⟨e.type,(by intro hh;cases hh),?_⟩;simp only[Ei,Fc]at M |-;refine cB func207 ?_;refine sR It ?_
    (refine A0.zz 3 rfl rfl (wk [(2,.box 2 0),(3,.Ah (Bu e) 0),(4,.box 4 0)] [(2,.cells (Hn c)),(4,H9)] ?_))
    refine kC E It λL u1=>?_;refine sR It ?_;refine kI u1 ?_;clear u1 L;refine sC J It ?_;refine Ai W It λL u1=>?_;refine kI u1 ?_;clear u1 L
    (refine sG It [] 7 [] λK z=>?_;refine ev ?_;refine cc M ?_;apply z;clear z K)
    exact aR
   |none =>
    obtain rfl:R=(e.type,none):=O.symm;refine S8.of ?_;simp only[I2,Ei]at M |-;refine cB func207 ?_;refine sR It ?_
    (refine A0.zz 3 rfl rfl (wk [(2,.box 2 0),(3,.Ah (Bu e) 0),(4,.box 4 0)] [(2,.cells (Hn c)),(4,H9)] ?_))
    refine kC E It λL u1=>?_;refine sR It ?_;refine kI u1 ?_;clear u1 L;refine sC J It ?_;refine Ai W It λL u1=>?_;refine kI u1 ?_;clear u1 L
    (refine sG It [] 7 [] λK z=>?_;refine ev ?_;refine cc M ?_;apply z;clear z K)
    exact aR
abbrev Cw:List Nat:=[0,1,2,3,4,5,6,7,8,9,10,11,22,46,59,72,95]
def G7b(c:C3)(h:c.Sm)(ag:c.strict=false)(e:Ex)(he:e.Sm)(k:Ex)(h0:e.kids[0]?=some k)(M:Ac prog 142 [Nz c,D0 k] (I2 (Bw c k)))
  (hF:∀k,k∈e.kids.tail->∀w:Ty,w.Sm->Ac prog 281 [Nz c,D0 k,B6 w] (.d (Ei 4 (Wp c w k (Bw c k))))) :
  S8 206 c e (Y8 (Bw c k) λx=>W6 c e x (e.kids.tail.map (Bw c))):=by
 have hx:=C1b h k (he.kids.2 k (Br h0));have a0:=B0k e;have aj:=he.kids.1;have ac:=he.targs.1;generalize Bw c k=z at*;obtain⟨x,o⟩:=z;have J:=G8o c.p h.p c.env h.el h.env x hx e.name;have ad:=Ya h.p (env:=c.env) h.env hx;have a7:∀(j:Nat) (s:A5),Gj (D8 c.p c.env x) e.name=j->(D8 c.p c.env x)[j]?=some s->Ly c e x=if s.A1.length≠e.targs.length then .inl e.pos else
  match Je c.p c.env e.targs with
  |some q=>.inl q
  |none=>if 0<=G4 c.p c.env s.A1 e.targs then .inl ((e.targs[(G4 c.p c.env s.A1 e.targs).toNat]?).getD default).pos else
   if e.kids.length≠s.params.length+1 then .inl e.pos else .inr s:=λj s h1 h2=>E0p h1 h2
 have a3:Gj (D8 c.p c.env x) e.name = -1->Ly c e x=.inl e.pos:=λh=>by
  unfold Ly;rw[h];split
  .rfl
  .rw[A9 (.inl (by decide))]
 have a6:=M9 (λs:A5=>decide (s.name=e.name)) (D8 c.p c.env x);unfold I2 at M a0;unfold Y8;cases o with
 |some q =>
  refine S8.of ?_;simp only[I2,Ei,Fc]at M |-;refine cB func206 ?_;refine sR Cw ?_
  (refine A0.zz 3 rfl rfl (wk [(2,.box 2 0),(3,.Ah (Bu e) 0),(4,.box 4 0)] [(2,.cells (Hn c)),(4,H9)] ?_))
  (refine sG Cw [6] 11 [⟨[],[],[6],[6]⟩,⟨[],[],[6],[6]⟩,⟨[],[],[6],[6]⟩,⟨[],[],[6],[6]⟩,⟨[],[],[6],[6]⟩,⟨[],[],[6],[6]⟩,⟨[],[],[6],[6]⟩,⟨[],[],[6],[6]⟩,⟨[],[],[6],[6]⟩,⟨[6],[6],[],[]⟩,⟨[6],[],[],[]⟩] λK z=>?_;refine ev ?_;refine cj (Dn h0) ?_;refine cc M ?_;apply z;clear z K)
  refine kR Cw λE u1=>?_;refine tI ?_;refine sR Cw ?_;exact aR
 |none =>
  simp only[Ei]at M |-;generalize hR:W6 c e x (e.kids.tail.map (Bw c))=R;unfold W6 at hR;have a4:Ly c e x=.inl e.pos->R=Fc e.pos:=λh=>by rw[<-hR,h]
  unfold Gj at a7 a3;unfold Yh Gj at J;generalize D8 c.p c.env x=l at*;rcases a6 with⟨h1,_⟩|⟨j,s,h1,h2,_⟩
  .rw[h1,A9 (by decide)]at J;obtain rfl:=a4 (a3 h1);refine S8.of ?_;simp only[I2];refine cB func206 ?_;refine sR Cw ?_
   (refine A0.zz 3 rfl rfl (wk [(2,.box 2 0),(3,.Ah (Bu e) 0),(4,.box 4 0)] [(2,.cells (Hn c)),(4,H9)] ?_))
   (refine sG Cw [6] 11 [⟨[],[],[6],[6]⟩,⟨[],[],[6],[6]⟩,⟨[],[],[6],[6]⟩,⟨[],[],[6],[6]⟩,⟨[],[],[6],[6]⟩,⟨[],[],[6],[6]⟩,⟨[],[],[6],[6]⟩,⟨[],[],[6],[6]⟩,⟨[],[],[6],[6]⟩,⟨[6],[6],[],[]⟩,⟨[6],[],[],[]⟩] λK z=>?_;refine ev ?_;refine cj (Dn h0) ?_;refine cc M ?_;apply z;clear z K)
   refine kR Cw λE u1=>?_;refine kI u1 ?_;clear u1 E;refine sC J Cw ?_;refine kR Cw λE u1=>?_;refine tI ?_;refine sC a0 Cw ?_;exact aR
  have I:=a7 j s h1 h2;have hs:=ad s (Br h2);have ah:¬(j:Int)<0:=by omega
  rw[h1,A6 ah,Hs,h2,E1]at J;by_cases Z:s.A1.length=e.targs.length;rotate_left
  .rw[A9 Z]at I;obtain rfl:=a4 I;have O:¬(s.A1.length:Int)=(e.targs.length:Int):=by omega
   refine S8.of ?_;simp only[I2];refine cB func206 ?_;refine sR Cw ?_
   (refine A0.zz 3 rfl rfl (wk [(2,.box 2 0),(3,.Ah (Bu e) 0),(4,.box 4 0)] [(2,.cells (Hn c)),(4,H9)] ?_))
   (refine sG Cw [6] 11 [⟨[],[],[6],[6]⟩,⟨[],[],[6],[6]⟩,⟨[],[],[6],[6]⟩,⟨[],[],[6],[6]⟩,⟨[],[],[6],[6]⟩,⟨[],[],[6],[6]⟩,⟨[],[],[6],[6]⟩,⟨[],[],[6],[6]⟩,⟨[],[],[6],[6]⟩,⟨[6],[6],[],[]⟩,⟨[6],[],[],[]⟩] λK z=>?_;refine ev ?_;refine cj (Dn h0) ?_;refine cc M ?_;apply z;clear z K)
   refine kR Cw λE u1=>?_;refine kI u1 ?_;clear u1 E;refine sC J Cw ?_;refine Ai O Cw λE u1=>?_;refine tI ?_;refine sC a0 Cw ?_;exact aR
  rw[A6 λhh=>hh Z]at I;have O:(s.A1.length:Int)=(e.targs.length:Int):=by omega
  have U:=E2p c.p c.env e.targs ac (λt ht=>C8y c.p h.p c.env h.el h.env t (he.targs.2 t ht));cases a9:Je c.p c.env e.targs with
  |some q =>
   rw[a9]at I U;simp only at I;obtain rfl:R=Fc q:=by rw[<-hR,I]
   refine S8.of ?_;simp only[I2,Ei,Fc]at U |-;refine cB func206 ?_;refine sR Cw ?_
   (refine A0.zz 3 rfl rfl (wk [(2,.box 2 0),(3,.Ah (Bu e) 0),(4,.box 4 0)] [(2,.cells (Hn c)),(4,H9)] ?_))
   (refine sG Cw [6] 11 [⟨[],[],[6],[6]⟩,⟨[],[],[6],[6]⟩,⟨[],[],[6],[6]⟩,⟨[],[],[6],[6]⟩,⟨[],[],[6],[6]⟩,⟨[],[],[6],[6]⟩,⟨[],[],[6],[6]⟩,⟨[],[],[6],[6]⟩,⟨[],[],[6],[6]⟩,⟨[6],[6],[],[]⟩,⟨[6],[],[],[]⟩] λK z=>?_;refine ev ?_;refine cj (Dn h0) ?_;refine cc M ?_;apply z;clear z K)
   refine kR Cw λE u1=>?_;refine kI u1 ?_;clear u1 E;refine sC J Cw ?_;refine Ai O Cw λE u1=>?_;refine kI u1 ?_;clear u1 E;refine kC U Cw λE u1=>?_;refine sR Cw ?_;refine tI ?_;refine sR Cw ?_;exact aR
  |none =>
  rw[a9]at I U;simp only at I;simp only[Ei]at U;have a1:=E4s c.p h.p c.env h.el h.env s.A1 hs.A1.1 hs.A1.2 e.targs Z.symm he.targs.2;have ae:=@B9e c.p c.env s.A1 e.targs;generalize G4 c.p c.env s.A1 e.targs=b at*;by_cases W:0<=b
  .obtain⟨u,hu⟩:=ae W Z.symm;rw[A9 W,hu,E1]at I;obtain rfl:R=Fc u.pos:=by rw[<-hR,I]
   have aa:=C4f 4 u.pos;refine S8.of ?_;simp only[I2,Fc];refine cB func206 ?_;refine sR Cw ?_
   (refine A0.zz 3 rfl rfl (wk [(2,.box 2 0),(3,.Ah (Bu e) 0),(4,.box 4 0)] [(2,.cells (Hn c)),(4,H9)] ?_))
   (refine sG Cw [6] 11 [⟨[],[],[6],[6]⟩,⟨[],[],[6],[6]⟩,⟨[],[],[6],[6]⟩,⟨[],[],[6],[6]⟩,⟨[],[],[6],[6]⟩,⟨[],[],[6],[6]⟩,⟨[],[],[6],[6]⟩,⟨[],[],[6],[6]⟩,⟨[],[],[6],[6]⟩,⟨[6],[6],[],[]⟩,⟨[6],[],[],[]⟩] λK z=>?_;refine ev ?_;refine cj (Dn h0) ?_;refine cc M ?_;apply z;clear z K)
   refine kR Cw λE u1=>?_;refine kI u1 ?_;clear u1 E;refine sC J Cw ?_;refine Ai O Cw λE u1=>?_;refine kI u1 ?_;clear u1 E;refine kC U Cw λE u1=>?_;refine sR Cw ?_;refine kI u1 ?_;clear u1 E;refine kC a1 Cw λE u1=>?_;refine Aq W Cw ?_;refine tI ?_
   (refine sV Cw λK z=>?_;refine ci (Dv hu) ?_;refine cc aa ?_;apply z;clear z K)
   exact aR
  rw[A6 W]at I;have ak:=hs.params.1;have a5:=F4r s hs e.targs Z he.targs.2;have a':(s.subst (s.A1.map (·.name)) e.targs).params.map (·.type)=Tf s e.targs:=by simp[A5.subst,Param.subst,Tf,Af]
  have a8:(s.subst (s.A1.map (·.name)) e.targs).result=s.result.subst (Af s.A1) e.targs:=rfl;have ai:(s.subst (s.A1.map (·.name)) e.targs).params.length=s.params.length:=by simp[A5.subst]
  have ab:∀f,f∈(s.subst (s.A1.map (·.name)) e.targs).params->f.type.Sm:=by intro f hf;simp only[A5.subst]at hf;obtain⟨g,hg,rfl⟩:=B1.1 hf;exact(hs.params.2 g hg).type.subst he.targs.2
  generalize s.subst (s.A1.map (·.name)) e.targs=s' at*;by_cases a2:e.kids.length=s.params.length+1;rotate_left
  .rw[A9 a2]at I;obtain rfl:=a4 I;have L:¬(e.kids.length:Int) - 1=(s'.params.length:Int):=by omega
   refine S8.of ?_;simp only[I2];refine cB func206 ?_;refine sR Cw ?_
   (refine A0.zz 3 rfl rfl (wk [(2,.box 2 0),(3,.Ah (Bu e) 0),(4,.box 4 0)] [(2,.cells (Hn c)),(4,H9)] ?_))
   (refine sG Cw [6] 11 [⟨[],[],[6],[6]⟩,⟨[],[],[6],[6]⟩,⟨[],[],[6],[6]⟩,⟨[],[],[6],[6]⟩,⟨[],[],[6],[6]⟩,⟨[],[],[6],[6]⟩,⟨[],[],[6],[6]⟩,⟨[],[],[6],[6]⟩,⟨[],[],[6],[6]⟩,⟨[6],[6],[],[]⟩,⟨[6],[],[],[]⟩] λK z=>?_;refine ev ?_;refine cj (Dn h0) ?_;refine cc M ?_;apply z;clear z K)
   refine kR Cw λE u1=>?_;refine kI u1 ?_;clear u1 E;refine sC J Cw ?_;refine Ai O Cw λE u1=>?_;refine kI u1 ?_;clear u1 E;refine kC U Cw λE u1=>?_;refine sR Cw ?_;refine kI u1 ?_;clear u1 E;refine kC a1 Cw λE u1=>?_;refine Aq W Cw ?_;refine kI u1 ?_;clear u1 E;refine sC a5 Cw<|sK λE u1=>?_
   (refine sQ Cw λK z=>?_;refine As L ?_;refine⟨by first| (unfold Az;omega)| (simp only[Az,sm]at*;omega),?_⟩;(try refine As L ?_);apply z;clear z K)
   refine tI ?_;refine sC a0 Cw ?_;exact aR
  rw[A6 λhh=>hh a2]at I;have L:(e.kids.length:Int) - 1=(s'.params.length:Int):=by omega
  rw[I]at hR;simp only at hR;have V:=D3e c h ag e.kids.tail (by rw[List.length_tail];omega) s'.params (by rw[List.length_tail];omega) hF ab;have af:Ew e.kids.tail=((Ew e.kids).take e.kids.length).drop 1:=by rw[Z8 (by rw[C1t];exact Bi _),S6,S6,<-List.map_drop,List.drop_one]
  rw[af,a']at V;rw[<-a8]at hR;generalize Ko c (Tf s e.targs) e.kids.tail (e.kids.tail.map (Bw c))=o at*;unfold Yb at hR;cases o with
  |some q =>
   obtain rfl:R=Fc q:=hR.symm;refine⟨s'.result,(by intro hh;cases hh),?_⟩;simp only[Ei,Fc]at V |-;refine cB func206 ?_;refine sR Cw ?_
   (refine A0.zz 3 rfl rfl (wk [(2,.box 2 0),(3,.Ah (Bu e) 0),(4,.box 4 0)] [(2,.cells (Hn c)),(4,H9)] ?_))
   (refine sG Cw [6] 11 [⟨[],[],[6],[6]⟩,⟨[],[],[6],[6]⟩,⟨[],[],[6],[6]⟩,⟨[],[],[6],[6]⟩,⟨[],[],[6],[6]⟩,⟨[],[],[6],[6]⟩,⟨[],[],[6],[6]⟩,⟨[],[],[6],[6]⟩,⟨[],[],[6],[6]⟩,⟨[6],[6],[],[]⟩,⟨[6],[],[],[]⟩] λK z=>?_;refine ev ?_;refine cj (Dn h0) ?_;refine cc M ?_;apply z;clear z K)
   refine kR Cw λE u1=>?_;refine kI u1 ?_;clear u1 E;refine sC J Cw ?_;refine Ai O Cw λE u1=>?_;refine kI u1 ?_;clear u1 E;refine kC U Cw λE u1=>?_;refine sR Cw ?_;refine kI u1 ?_;clear u1 E;refine kC a1 Cw λE u1=>?_;refine Aq W Cw ?_;refine kI u1 ?_;clear u1 E;refine sC a5 Cw<|sK λE u1=>?_
   (refine sQ Cw λK z=>?_;refine As L ?_;refine⟨by first| (unfold Az;omega)| (simp only[Az,sm]at*;omega),?_⟩;(try refine As L ?_);apply z;clear z K)
   refine kI u1 ?_;clear u1 E
   (refine sG Cw [] 9 [] λK z=>?_;refine ev ?_;refine⟨C0a _,by omega,by omega,?_⟩;(try refine ev ?_);refine cc V ?_;apply z;clear z K)
   exact aR
  |none =>
   obtain rfl:R=(s'.result,none):=hR.symm;refine⟨s'.result,λ_=>rfl,?_⟩;simp only[Ei]at V |-;refine cB func206 ?_;refine sR Cw ?_
   (refine A0.zz 3 rfl rfl (wk [(2,.box 2 0),(3,.Ah (Bu e) 0),(4,.box 4 0)] [(2,.cells (Hn c)),(4,H9)] ?_))
   (refine sG Cw [6] 11 [⟨[],[],[6],[6]⟩,⟨[],[],[6],[6]⟩,⟨[],[],[6],[6]⟩,⟨[],[],[6],[6]⟩,⟨[],[],[6],[6]⟩,⟨[],[],[6],[6]⟩,⟨[],[],[6],[6]⟩,⟨[],[],[6],[6]⟩,⟨[],[],[6],[6]⟩,⟨[6],[6],[],[]⟩,⟨[6],[],[],[]⟩] λK z=>?_;refine ev ?_;refine cj (Dn h0) ?_;refine cc M ?_;apply z;clear z K)
   refine kR Cw λE u1=>?_;refine kI u1 ?_;clear u1 E;refine sC J Cw ?_;refine Ai O Cw λE u1=>?_;refine kI u1 ?_;clear u1 E;refine kC U Cw λE u1=>?_;refine sR Cw ?_;refine kI u1 ?_;clear u1 E;refine kC a1 Cw λE u1=>?_;refine Aq W Cw ?_;refine kI u1 ?_;clear u1 E;refine sC a5 Cw<|sK λE u1=>?_
   (refine sQ Cw λK z=>?_;refine As L ?_;refine⟨by first| (unfold Az;omega)| (simp only[Az,sm]at*;omega),?_⟩;(try refine As L ?_);apply z;clear z K)
   refine kI u1 ?_;clear u1 E
   (refine sG Cw [] 9 [] λK z=>?_;refine ev ?_;refine⟨C0a _,by omega,by omega,?_⟩;(try refine ev ?_);refine cc V ?_;apply z;clear z K)
   exact aR
abbrev ckD(c:C3):List D:=[.ptr (Ep c.p),.bool false,.slice (Ar c.env),.slice (B9 c.vars)]
def A6y(c:C3):A6u (Hn c) (ckD c):=⟨⟨rfl,rfl⟩,⟨rfl,rfl⟩,⟨rfl,rfl⟩,⟨rfl,rfl⟩,trivial⟩
abbrev B1n(c:C3)(f:FuncId):D:=.fn f [.agg (ckD c)]
abbrev B9y(c:C3):List SV:=[.d .Hu,.d (B1n c 205),.d (B1n c 206),.d (B1n c 207),.d (B1n c 208),.d (B1n c 209)]
def G4i{c:C3}{e:Ex}{J:List TO}{q:Int}(h:(P4 c e J).2=some q):(P4 c e J).1=ty0:=by
 unfold P4 at h |-;have L:∀(o:Option Int) (t:Ty),(Yb o t).2=some q->(Yb o t).1=ty0:=λo t h=>by
  cases o with
  |none=>cases h
  |some _=>rfl
 split
 .rename_i k;rw[A9 k]at h;unfold Wv at h |-;split
  .split
   .rfl
   .rename_i E I;simp only[E,A6 I]at h;cases h
  .rfl
 rename_i k1;rw[A6 k1]at h;split
 .rename_i k;rw[A9 k]at h;unfold X5 at h |-;split
  .rfl
  .rename_i E;simp only[E]at h;split
   .rfl
   .rename_i I;rw[A6 I]at h;exact L _ _ h
 rename_i k3;rw[A6 k3]at h;split
 .rfl
 rename_i M;rw[A6 M]at h;cases J with
 |nil=>rfl
 |cons z J =>
  simp only at h |-;obtain⟨x,o⟩:=z;cases o with
  |some r=>rfl
  |none =>
   simp only at h |-;split
   .rename_i k;rw[A9 k]at h;unfold W6 at h |-;split
    .rfl
    .rename_i E;simp only[E]at h;exact L _ _ h
   rename_i k2;rw[A6 k2]at h;split
   .rename_i k;rw[A9 k]at h;unfold Xb at h |-;split
    .rfl
    .rename_i E;rw[A6 E]at h;split
     .rename_i f O;simp only[O]at h;split
      .rfl
      .rename_i I;rw[A6 I]at h;cases h
     .rfl
   .rename_i k;rw[A6 k]at h;unfold Wb at h |-;split
    .rfl
    .rename_i E;simp only[E]at h;split
     .rfl
     .rename_i I;rw[A6 I]at h;cases h
def G9d{c:C3}{e:Ex}{v:Ex}{vs:List Ex}(E:e.kids=v::vs)(k:e.kind=2\/e.kind=4\/e.kind=5) :
  P4 c e (e.kids.map (Bw c))=Y8 (Bw c v) λx=>if e.kind=2 then W6 c e x (e.kids.tail.map (Bw c))else if e.kind=4 then Xb c e x else Wb c e x:=by
 unfold P4 Y8;rw[A6 (by omega),A6 (by omega),A6 (by omega),E,Ck,List.tail_cons];rfl
def E9s(c:C3)(h:c.Sm)(E:c.strict=false)(e:Ex)(O:e.Sm)(hF:∀k,k∈e.kids->Ac prog 142 [Nz c,D0 k] (I2 (Bw c k))) :
  (P4 c e (e.kids.map (Bw c))=Fc e.pos/\(e.kind<1\/6<=e.kind\/(e.kind=2\/e.kind=4\/e.kind=5)/\e.kids.length=0)) \/
  ∃(j:Nat) (f:FuncId),e.kind=j/\j<6/\((j=1\/j=3)\/(j=2\/j=4\/j=5)/\e.kids.length≠0)/\(B9y c)[j]?=some (.d (B1n c f))/\S8 f c e (P4 c e (e.kids.map (Bw c))):=by
 have U:=λ(k:Ex) (I:k∈e.kids) (w:Ty) (hw:w.Sm)=>G3y c h E k (C1b h k (O.kids.2 k I)) (hF k I) w hw;by_cases k1:e.kind=1
 .refine .inr ⟨1,205,k1,by omega,.inl (.inl rfl),rfl,?_⟩;unfold P4;rw[A9 k1];exact .of (G2s c h E e)
 by_cases k3:e.kind=3
 .refine .inr ⟨3,207,k3,by omega,.inl (.inr rfl),rfl,?_⟩;unfold P4;rw[A6 k1,A9 k3];exact G0t c h E e O U
 by_cases Z:e.kind≠2/\e.kind≠4/\e.kind≠5
 .refine .inl ⟨?_,by omega⟩;unfold P4;rw[A6 k1,A6 k3,A9 Z]
 have W:e.kind=2\/e.kind=4\/e.kind=5:=by omega
 cases I:e.kids with
 |nil =>refine .inl ⟨?_,.inr (.inr ⟨W,rfl⟩)⟩;unfold P4;rw[A6 k1,A6 k3,A6 Z];rfl
 |cons v vs =>
  rw[<-I,G9d I W];have V:e.kids[0]?=some v:=by rw[I];rfl
  have L:=hF v (by rw[I];simp);have J:e.kids.length≠0:=by rw[I];simp
  rcases W with k|k|k
  .refine .inr ⟨2,206,k,by omega,.inr ⟨.inl rfl,J⟩,rfl,?_⟩;simp only[A9 k];exact G7b c h E e O v V L λk M=>U k (by rw[I]at M |-;exact Wf _ M)
  .refine .inr ⟨4,208,k,by omega,.inr ⟨.inr (.inl rfl),J⟩,rfl,?_⟩;simp only[A9 k,A6 (show ¬e.kind=2 by omega)];exact .of (G3s c h E e O v V L)
  .refine .inr ⟨5,209,k,by omega,.inr ⟨.inr (.inr rfl),J⟩,rfl,?_⟩;simp only[A6 (show ¬e.kind=4 by omega),A6 (show ¬e.kind=2 by omega)];exact .of (H1u c h E e O v V L)
abbrev Jm:List Nat:=[0,1,2,3,4,5,6,7,8,9,45,60]
def G3f(c:C3)(h:c.Sm)(a3:c.strict=false):∀e:Ex,e.Sm->Ac prog 142 [Nz c,D0 e] (I2 (Bw c e)):=by
 intro e
 induction e using Ex.induct with|_ e ih=>?_
 intro he;have V:=E9s c h a3 e he λk hk=>ih k hk (he.kids.2 k hk);have hS:=C1b h e he;have a0:=@G4i c e (e.kids.map (Bw c));have Z:=B0k e;have a6:=he.kids.1;have TA:prog.underlying 265=some (.array 6 205):=by kernel_rfl
 have TB:Bm prog 205=some 1:=by kernel_rfl
 have TD:Cu prog 204=some true:=by kernel_rfl
 have TE:Bm prog 204=some 4:=by kernel_rfl
 have TS:Bm prog 265=some 6:=by kernel_rfl
 have TZ:Cf prog 265=some [.d .Hu,.d .Hu,.d .Hu,.d .Hu,.d .Hu,.d .Hu]:=by kernel_rfl
 have a5:∀(i:Nat) (q:Nat × Nat),[(0,1),(1,1),(2,1),(3,1),(4,1),(5,1)][i]?=some q->q=(i*1,1):=by
  intro i q hq
  match i with
  |0|1|2|3|4|5=>simp at hq;rw[<-hq]
  |i+6=>simp at hq
 have TC:Cu prog 205=some false:=by kernel_rfl
 rw[A9d]at hS |-;generalize P4 c e (e.kids.map (Bw c))=z at*;refine cB func142 ?_;refine sR Jm ?_
 (refine A0.zz 3 rfl rfl (wk [(2,.box 2 0),(3,.Ah (Bu e) 0),(4,.box 4 0)] [(2,.cells (Hn c)),(4,H9)] ?_))
 refine A0.seq (A0.region [2,3,4,6] [2,4,6] (by decide +kernel) ?_);refine⟨true,rfl,by simp[Kp],λ_=>⟨_,_,_,B5x (k:=2) (off:=0) (n:=4) (cs:=Hn c) rfl rfl (by simp) TD TE (Bi 4) rfl,?_⟩,λh=>by cases h⟩;refine⟨true,rfl,by simp[Kp],λ_=>⟨_,_,_,B2r (A6y c) rfl rfl,?_⟩,λh=>by cases h⟩;refine⟨true,rfl,by simp[Kp],λ_=>⟨_,_,_,B5x (k:=2) (off:=0) (n:=4) (cs:=Hn c) rfl rfl (by simp) TD TE (Bi 4) rfl,?_⟩,λh=>by cases h⟩;refine⟨true,rfl,by simp[Kp],λ_=>⟨_,_,_,B2r (A6y c) rfl rfl,?_⟩,λh=>by cases h⟩;refine⟨true,rfl,by simp[Kp],λ_=>⟨_,_,_,B5x (k:=2) (off:=0) (n:=4) (cs:=Hn c) rfl rfl (by simp) TD TE (Bi 4) rfl,?_⟩,λh=>by cases h⟩;refine⟨true,rfl,by simp[Kp],λ_=>⟨_,_,_,B2r (A6y c) rfl rfl,?_⟩,λh=>by cases h⟩;refine⟨true,rfl,by simp[Kp],λ_=>⟨_,_,_,B5x (k:=2) (off:=0) (n:=4) (cs:=Hn c) rfl rfl (by simp) TD TE (Bi 4) rfl,?_⟩,λh=>by cases h⟩;refine⟨true,rfl,by simp[Kp],λ_=>⟨_,_,_,B2r (A6y c) rfl rfl,?_⟩,λh=>by cases h⟩;refine⟨true,rfl,by simp[Kp],λ_=>⟨_,_,_,B5x (k:=2) (off:=0) (n:=4) (cs:=Hn c) rfl rfl (by simp) TD TE (Bi 4) rfl,?_⟩,λh=>by cases h⟩;refine⟨true,rfl,by simp[Kp],λ_=>⟨_,_,_,B2r (A6y c) rfl rfl,?_⟩,λh=>by cases h⟩;refine⟨true,rfl,by simp[Kp],λ_=>⟨_,_,_,C8s (ps:=[(0,1),(1,1),(2,1),(3,1),(4,1),(5,1)]) (out:=B9y c) rfl TA TB TZ a5 rfl rfl rfl,?_⟩,λh=>by cases h⟩;refine⟨true,rfl,by simp[Kp],λ_=>⟨_,_,_,E6f (k:=6) (by decide) rfl TZ,?_⟩,λh=>by cases h⟩;refine⟨true,rfl,by simp[Kp],λ_=>⟨_,_,_,E5d (k:=6) (off:=0) (cs:=[.d .Hu,.d .Hu,.d .Hu,.d .Hu,.d .Hu,.d .Hu]) (us:=B9y c) rfl rfl (List.Mem.head _) rfl TS (Bi 6),?_⟩,λh=>by cases h⟩;refine A0.ww (sl':=[(2,.box 2 0),(3,.Ah (Bu e) 0),(4,.box 4 0),(6,.box 6 0)]) (bx':=[(2,.cells (Hn c)),(4,H9),(6,.cells (B9y c))])
  ⟨.inr (.inl rfl),.inr (.inl rfl),.inr (.inl rfl),.inr (.inl rfl),trivial⟩ ⟨rfl,rfl,rfl,trivial⟩ ?_
 rcases V with⟨rfl,hk⟩|⟨j,f,hj,a1,a7,O,t,ht,I⟩
 .unfold I2 at*;have n1:¬e.kind=1:=by omega
  have n3:¬e.kind=3:=by omega
  refine Fi n1 n3 Jm ?_;refine sK λL u1=>?_;rcases hk with hk|hk|⟨hk,hl⟩
  .refine Aq hk Jm ?_;refine tI ?_;refine sC Z Jm ?_;exact aR
  .have E:¬e.kind<1:=by omega
   refine Fi E hk Jm ?_;refine tI ?_;refine sC Z Jm ?_;exact aR
  .have E:¬e.kind<1:=by omega
   have J:¬ 6<=e.kind:=by omega
   have a4:(e.kids.length:Int)=0:=by omega
   refine sR3 E J a4 Jm ?_;refine tI ?_;refine sC Z Jm ?_;exact aR
 .have E:¬e.kind<1:=by omega
  have J:¬ 6<=e.kind:=by omega
  have a2:=We z.1 hS;obtain⟨x,o⟩:=z;have hq:0+j*1=j:=by omega
  unfold I2;have U:(decide (e.kind=1)=true\/(decide (e.kind=1)=false/\decide (e.kind=3)=true))\/(decide (e.kind=1)=false/\decide (e.kind=3)=false)/\¬(e.kids.length:Int)=0:=by simp only[Da,Rw];omega
  cases o with
  |some q =>
   obtain rfl:=a0 rfl;simp only[Ei]at I |-;rcases U with(M|⟨M,W⟩)|⟨⟨M,W⟩,hl⟩
   (refine sQ Jm λK z=>?_;simp -implicitDefEqProofs only[EV,Nat.reduceEqDiff,reduceCtorEq,J3,Iu,M,Mr];apply z;clear z K)
   refine Sv E J Jm λL u1=>?_;refine kI u1 ?_;clear u1 L;rotate_left
   (refine sQ Jm λK z=>?_;simp -implicitDefEqProofs only[EV,Nat.reduceEqDiff,reduceCtorEq,J3,Iu,M,W,Mr];apply z;clear z K)
   refine Sv E J Jm λL u1=>?_;refine kI u1 ?_;clear u1 L;rotate_left
   (refine sQ Jm λK z=>?_;simp -implicitDefEqProofs only[EV,Nat.reduceEqDiff,reduceCtorEq,J3,Iu,M,W,Mr];apply z;clear z K)
   refine kR3 E J hl Jm λL u1=>?_;refine kI u1 ?_;clear u1 L;rotate_left
   all_goals
    (refine sG Jm [8] 11 [⟨[],[],[8],[8]⟩,⟨[],[],[8],[8]⟩,⟨[],[],[8],[8]⟩,⟨[],[],[8],[8]⟩,⟨[],[],[8],[8]⟩,⟨[],[],[8],[8]⟩,⟨[],[],[8],[8]⟩,⟨[],[],[8],[8]⟩,⟨[],[],[8],[8]⟩,⟨[8],[8],[],[]⟩,⟨[8],[],[],[]⟩] λK z=>?_;refine ev ?_;refine⟨_,E1e (j:=j) rfl rfl hj TA TB a1 hq,?_⟩;(try refine As O ?_);refine⟨_,D7x (A6y c) (args:=[.tmp 55]) rfl rfl I rfl,?_⟩;(try refine ev ?_);apply z;clear z K)
    refine kR Jm λL u1=>?_;refine tI ?_;refine sR Jm ?_;exact aR
  |none =>
   obtain rfl:=ht rfl;simp only[Ei]at I |-;rcases U with(M|⟨M,W⟩)|⟨⟨M,W⟩,hl⟩
   (refine sQ Jm λK z=>?_;simp -implicitDefEqProofs only[EV,Nat.reduceEqDiff,reduceCtorEq,J3,Iu,M,Mr];apply z;clear z K)
   refine Sv E J Jm λL u1=>?_;refine kI u1 ?_;clear u1 L;rotate_left
   (refine sQ Jm λK z=>?_;simp -implicitDefEqProofs only[EV,Nat.reduceEqDiff,reduceCtorEq,J3,Iu,M,W,Mr];apply z;clear z K)
   refine Sv E J Jm λL u1=>?_;refine kI u1 ?_;clear u1 L;rotate_left
   (refine sQ Jm λK z=>?_;simp -implicitDefEqProofs only[EV,Nat.reduceEqDiff,reduceCtorEq,J3,Iu,M,W,Mr];apply z;clear z K)
   refine kR3 E J hl Jm λL u1=>?_;refine kI u1 ?_;clear u1 L;rotate_left
   all_goals
    (refine sG Jm [8] 11 [⟨[],[],[8],[8]⟩,⟨[],[],[8],[8]⟩,⟨[],[],[8],[8]⟩,⟨[],[],[8],[8]⟩,⟨[],[],[8],[8]⟩,⟨[],[],[8],[8]⟩,⟨[],[],[8],[8]⟩,⟨[],[],[8],[8]⟩,⟨[],[],[8],[8]⟩,⟨[8],[8],[],[]⟩,⟨[8],[],[],[]⟩] λK z=>?_;refine ev ?_;refine⟨_,E1e (j:=j) rfl rfl hj TA TB a1 hq,?_⟩;(try refine As O ?_);refine⟨_,D7x (A6y c) (args:=[.tmp 55]) rfl rfl I rfl,?_⟩;(try refine ev ?_);apply z;clear z K)
    refine kR Jm λL u1=>?_;refine kI u1 ?_;clear u1 L;refine sC a2 Jm ?_;exact aR
abbrev B8p:List Nat:=[0,1,2,3,4,9,10,11]
def E8u(c:C3)(h:c.Sm)(I:c.strict=false)(e:Ex)(J:e.Sm) :
  Ac prog 81 [.Ah (Ep c.p) 0,Ay false,.d (.slice (Ar c.env)),.d (.slice (B9 c.vars)),D0 e] (I2 (Bw c e)):=by
 have E:=G3f c h I e J;unfold I2 at*;generalize Bw c e=z at*;obtain⟨t,o⟩:=z;cases o with
 |none =>simp only[Ei]at E |-;refine cB func81 ?_;refine sR B8p ?_;refine sC E B8p ?_;exact aR
 |some q =>simp only[Ei]at E |-;refine cB func81 ?_;refine sR B8p ?_;refine sC E B8p ?_;exact aR
end Go.Abs
