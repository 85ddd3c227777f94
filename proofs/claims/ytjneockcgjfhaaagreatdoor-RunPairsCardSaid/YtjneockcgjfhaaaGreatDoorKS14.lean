/- table.instance -/
import Derived.Test.YtjneockcgjfhaaaGreatDoorKS49
import Derived.Test.YtjneockcgjfhaaaGreatDoorKAb8
import Derived.Lib.ItoaLen
import Derived.Test.YtjneockcgjfhaaaGreatDoorKShelf
set_option linter.all false
set_option maxHeartbeats 1000000
set_option maxRecDepth 100000
namespace Go.Abs
open Go Go.Proofs Tryz
def E5p{p:Prog}{nm:A2}(h:Fk p nm=none):kindOf p nm=0/\Ey p nm=[]:=by unfold Fk at h;simp[kindOf,Ey,Fk,h]
def C9w{p:Prog}{nm:A2}{d:Decl}(h:Fk p nm=some d):kindOf p nm=d.kind/\Ey p nm=d.A1:=by have E:=h;unfold Fk at h;simp[kindOf,Ey,Fk,h]
abbrev q1E:List Nat:=[0,1,2,4,6,7,8,9]
def B8x(p:Prog)(h:p.Sm)(x:Ty)(k:Int)(V:k≠0):Ab prog 206 [.Aj (G1 p) 0,Be x,A7 k] (.tuple [Pz ((Fk p x.name).getD default),B1 (Bb p x k)]):=by
 have J:=D9u p h x.name [];rw[F5m]at J;rw[show(p.decls.find? λd=>d.J3 x.name)=Fk p x.name from rfl]at J;have Z:=@E5p p x.name;have W:=@C9w p x.name;unfold Bb;generalize Fk p x.name=o at*;refine cB func206 ?_;refine sR q1E ?_;refine sC J q1E ?_;cases o with
 |none =>rw[(Z rfl).1];simp only[Option.isSome,Rv];refine sG q1E [] 18 ga λK z=>?_;refine ev ?_;apply z;clear z K;rw[show decide ((0:Int)=k)=false by simpa using V.symm,C8];exact aR
 |some d =>
  obtain⟨U,O⟩:=W rfl;rw[U,O];simp only[Option.isSome,Dh];by_cases I:d.kind=k
  .subst I;by_cases L:d.A1.length=x.args.length
   .have E:(d.A1.length:Int)=x.args.length:=by omega
    (refine sG q1E [] 18 ga λK z=>?_;refine Ah E ?_;apply z;clear z K)
    rw[Cc L,Cc rfl];exact aR
   .have E:¬(d.A1.length:Int)=x.args.length:=by omega
    (refine sG q1E [] 18 ga λK z=>?_;refine Ah E ?_;apply z;clear z K)
    rw[Cu L,Sf];exact aR
  ·(refine sG q1E [] 18 ga λK z=>?_;refine Ah I ?_;apply z;clear z K)
   rw[Cu I,C8];exact aR
def Ak.subst(vars:List A2)(args:List Ty)(f:Ak):Ak:=⟨f.name,f.bound.subst vars args,f.pos⟩
def Param.subst(vars:List A2)(args:List Ty)(f:Param):Param:=⟨f.name,f.type.subst vars args,f.pos⟩
def A4.subst(vars:List A2)(args:List Ty)(s:A4):A4:=⟨s.name,s.A1.map (Ak.subst vars args),s.params.map (Param.subst vars args),s.result.subst vars args,s.pos⟩
def G9d(vars:List A2)(args:List Ty)(E:∀u,u∈args->u.Sm)(t:Ty)(h:t.Sm) :Ab prog 268 [Be t,.Aj [.slice (Ba vars)] 0,.Aj [.slice (Ag args)] 0] (Be (t.subst vars args)):=by refine cB func268 ?_;refine sR [0,1,2,3,4] ?_;refine sC (C0q vars args E t h) [0,1,2,3,4] ?_;exact aR
abbrev R8(s:A4):List SV:=[.d (.str s.name),.d (.slice (Ax s.A1)),.d (.slice (Ay s.params)),.d (.str s.result.name),.d (.slice (Ag s.result.args)),.d (.int .i64 s.result.pos),.d (.int .i64 s.pos)]
abbrev Qt:List SV:=[.d (.str []),.d .nil,.d .nil,.d (.str []),.d .nil,.d (.int .i64 0),.d (.int .i64 0)]
abbrev C0p(vars:List A2)(args:List Ty):List SV:=[.Aj [.slice (Ba vars)] 0,.Aj [.slice (Ag args)] 0]
abbrev sgC(s:A4)(vars:List A2)(args:List Ty)(x y:SV):List SV:=[.d (.str s.name),x,y,.d (.str (s.result.subst vars args).name),.d (.slice (Ag (s.result.subst vars args).args)),.d (.int .i64 (s.result.subst vars args).pos),A7 s.pos]
abbrev sgO(s:A4)(vars:List A2)(args:List Ty):SV:=.agg (sgC s vars args (.acc 900) (.acc 901))
abbrev sgB(s:A4)(vars:List A2)(args:List Ty):Aa:=[(900,.rows 5 (Ax (s.A1.map (Ak.subst vars args)))),(901,.rows 5 (Ay (s.params.map (Param.subst vars args))))]
def E5r(l:List Ak)(vars:List A2)(args:List Ty)(j:Nat)(d:Ak):Ax ((l.take j++[d]).map (Ak.subst vars args))=Ax ((l.take j).map (Ak.subst vars args))++[Gs (d.subst vars args)]:=by simp[Ax]
def D9f(l:List Param)(vars:List A2)(args:List Ty)(j:Nat)(d:Param):Ay ((l.take j++[d]).map (Param.subst vars args))=Ay ((l.take j).map (Param.subst vars args))++[E9 (d.subst vars args)]:=by simp[Ay]
abbrev S4:List Nat:=[0,1,2,4,5,7,9,20,21,22,23,42,43,44,45,900,901]
def F5w(vars:List A2)(args:List Ty)(Z:∀u,u∈args->u.Sm)(s:A4)(h:s.Sm):Ch prog 267 [E0 s,.Bk 268 (C0p vars args)] [] (sgO s vars args) (sgB s vars args):=by
 have J:∀t:Ty,t.Sm->Ab prog 268 (Be t::C0p vars args) (Be (t.subst vars args)):=λt ht=>G9d vars args Z t ht;have U:=h.A1.1;have V:=h.params.1;refine bB func267 ?_;refine sR S4 ?_;refine sG S4 [] 10 [⟨[],[],[5],[5]⟩,⟨[],[],[5],[5]⟩,⟨[],[],[5],[5]⟩,⟨[],[],[5],[5]⟩,⟨[],[],[5],[5]⟩,⟨[],[],[5],[5]⟩,⟨[],[],[5],[5]⟩,⟨[],[],[5],[5]⟩,⟨[],[],[5],[5]⟩,⟨[5],[5],[],[]⟩] λK z=>?_;refine ev ?_;refine cc (J s.result h.result) ?_;apply z;clear z K;refine A0.Nz 900 5 5 1 rfl rfl (by decide)<|kR S4 λO u1=>?_;refine A0.bb (A0.ii s.A1 (X:=Unit) (λj _=>[(1,.Bk 268 (C0p vars args)),(2,.box 2 0),(4,.box 4 0),(5,.box 5 0),(20,.d (.slice (Ax s.A1))),(21,A7 s.A1.length),(22,A7 j)]) (λj _=>[(2,.cells (R8 s)),(4,.cells Qt),(5,.cells (sgC s vars args (.acc 900) (.d .nil))),(900,.rows 5 (Ax ((s.A1.take j).map (Ak.subst vars args))))]) (λj _=>True) () trivial sS (by simp[ble,A8,Ax]) ?_ ?_)
 .intro _ _;rw[Cx];refine Ap B6 S4 ?_;refine A0.stop rfl ?_;simp only[A5,A9,Ac];refine u1 _ _ ?_;clear u1 O;refine A0.Nz 901 5 5 2 rfl rfl (by decide)<|kR S4 λO u1=>?_;refine A0.bb (A0.ii s.params (X:=Unit) (λj _=>[(1,.Bk 268 (C0p vars args)),(2,.box 2 0),(4,.box 4 0),(5,.box 5 0),(42,.d (.slice (Ay s.params))),(43,A7 s.params.length),(44,A7 j)]) (λj _=>[(2,.cells (R8 s)),(4,.cells Qt),(5,.cells (sgC s vars args (.acc 900) (.acc 901))),(900,.rows 5 (Ax (s.A1.map (Ak.subst vars args)))),(901,.rows 5 (Ay ((s.params.take j).map (Param.subst vars args))))]) (λj _=>True) () trivial sS (by simp[ble,A8,Ay]) ?_ ?_)
  intro _ _;rw[Cx];refine Ap B6 S4 ?_;refine A0.stop rfl ?_;simp only[A5,A9,Ac];refine u1 _ _<|sR S4 ?_;exact A0.ret ⟨_,by rw[results267];rfl,.inl rfl,by simp[ble,A8]⟩
  .intro j _ d hd E W tk I _;rw[tk,D9f];refine Ap I S4 ?_;refine A0.Ha rfl<|sK λL u2=>A0.bb ?_
   refine sV S4 λK z=>?_;refine ci (Dx hd) ?_;apply z;clear z K;(refine lG S4 [] 12 [] λK z=>?_;refine ev ?_;refine cc (J d.type (h.params.2 d E).type) ?_;refine⟨by simp,by simp only[Bc,D0];unfold lim sm at*;omega,?_⟩;(try refine ev ?_);apply z;clear z K;try simp only[A5,A9]);refine u2 _ _ ?_;clear u2 L;refine lT S4 ?_;exact⟨(),trivial,sS,by simp[ble,A8,E9,Param.subst]⟩
 .intro j _ d hd E W tk I _;rw[tk,E5r];refine Ap I S4 ?_;refine A0.Ha rfl<|sK λL u2=>A0.bb ?_
  refine sV S4 λK z=>?_;refine ci (Fc hd) ?_;apply z;clear z K;(refine lG S4 [] 12 [] λK z=>?_;refine ev ?_;refine cc (J d.bound (h.A1.2 d E).bound) ?_;refine⟨by simp,by simp only[Bc,D0];unfold lim sm at*;omega,?_⟩;(try refine ev ?_);apply z;clear z K;try simp only[A5,A9]);refine u2 _ _ ?_;clear u2 L;refine lT S4 ?_;exact⟨(),trivial,sS,by simp[ble,A8,Gs,Ak.subst]⟩
def E0c(vars:List A2)(args:List Ty)(E:∀u,u∈args->u.Sm)(s:A4)(h:s.Sm):Ch prog 253 [E0 s,Ce vars,Co args] [] (sgO s vars args) (sgB s vars args):=by
 have I:=F5w vars args E s h;refine bB func253 ?_;refine sR [0,1,2,3,4,5,6,900,901] ?_;refine A0.zz 4 rfl rfl<|A0.zz 5 rfl rfl<|A0.ww (sl':=[(3,.box 3 0),(4,.Aj [.slice (Ba vars)] 0),(5,.Aj [.slice (Ag args)] 0),(6,.box 6 0)]) (bx':=[(3,.cells (R8 s)),(6,.cells Qt)])
  (by simp[M6,SV.sub,SV.Kj,sle,Av,Af]) (by simp[Ld,Aq.sub,SV.Kj,SV.sub,ble,A8,C5]) ?_
 refine A0.F9 [0,1,2,3,4,5,6,900,901] [800009] (by decide +kernel) λK z=>?_;refine ev ?_;refine⟨_,_,_,C0x 900 901 rfl rfl I rfl (by decide) (by decide) (by decide) (by decide) rfl rfl,?_⟩;simp only[SV.Ep,SV.Q6,two,Ac,Nat.reduceEqDiff,Fm];(try refine ev ?_);apply z;clear z K;exact A0.ret ⟨_,by rw[results253];rfl,.inl rfl,by simp[ble,A8]⟩
def D9b(vars:List A2)(args:List Ty)(E:∀u,u∈args->u.Sm)(s:A4)(h:s.Sm):Ab prog 253 [E0 s,Ce vars,Co args] (E0 (s.subst vars args)) :=(E0c vars args E s h).C0a rfl rfl
abbrev Q5:List Nat:=[0,1,2,3,6,7,8,9,10,11,26,50,900,901]
def D2e(vars:List A2)(args:List Ty)(L:∀u,u∈args->u.Sm)(s:A4)(h:s.Sm):Ch prog 154 [E0 s,Ce vars,Co args] [] (sgO s vars args) (sgB s vars args):=by
 have U:=h.A1.1;have V:=h.params.1;refine bB func154 ?_;refine sR Q5 ?_;refine sG Q5 [] 11 [⟨[],[],[7],[7]⟩,⟨[],[],[7],[7]⟩,⟨[],[],[7],[7]⟩,⟨[],[],[7],[7]⟩,⟨[],[],[7],[7]⟩,⟨[],[],[7],[7]⟩,⟨[],[],[7],[7]⟩,⟨[],[],[7],[7]⟩,⟨[],[],[7],[7]⟩,⟨[],[],[7],[7]⟩,⟨[7],[7],[],[]⟩] λK z=>?_;refine ev ?_;refine cc (Q0 vars args L s.result h.result) ?_;apply z;clear z K;refine A0.Nz 900 5 7 1 rfl rfl (by decide)<|kR Q5 λO u1=>?_;refine A0.bb (A0.ii s.A1 (X:=Unit) (λj _=>[(1,Ce vars),(2,Co args),(3,.box 3 0),(6,.box 6 0),(7,.box 7 0),(8,A7 j)]) (λj _=>[(3,.cells (R8 s)),(6,.cells Qt),(7,.cells (sgC s vars args (.acc 900) (.d .nil))),(900,.rows 5 (Ax ((s.A1.take j).map (Ak.subst vars args))))]) (λj _=>True) () trivial sS (by simp[ble,A8,Ax]) ?_ ?_)
 .intro _ _;rw[Cx];refine Ae B6 Q5 λI u2=>?_;refine A0.ss rfl ?_;simp only[A5,A9,Ac];refine u1 _ _ ?_;clear u2 I u1 O;refine A0.Nz 901 5 7 2 rfl rfl (by decide)<|kR Q5 λO u1=>?_;refine A0.bb (A0.ii s.params (X:=Unit) (λj _=>[(1,Ce vars),(2,Co args),(3,.box 3 0),(6,.box 6 0),(7,.box 7 0),(10,A7 j)]) (λj _=>[(3,.cells (R8 s)),(6,.cells Qt),(7,.cells (sgC s vars args (.acc 900) (.acc 901))),(900,.rows 5 (Ax (s.A1.map (Ak.subst vars args)))),(901,.rows 5 (Ay ((s.params.take j).map (Param.subst vars args))))]) (λj _=>True) () trivial sS (by simp[ble,A8,Ay]) ?_ ?_)
  intro _ _;rw[Cx];refine Ae B6 Q5 λI u2=>?_;refine A0.ss rfl ?_;simp only[A5,A9,Ac];refine u1 _ _<|sR Q5 ?_;exact A0.ret ⟨_,by rw[results154];rfl,.inl rfl,by simp[ble,A8]⟩
  intro j _ d hd E W tk J _;rw[tk,D9f];refine Ae J Q5 λI u2=>?_;refine gI u2 ?_;clear u2 I;refine sK λI u2=>A0.bb ?_;refine sV Q5 λK z=>?_;refine ci (Dx hd) ?_;apply z;clear z K;refine sC (Q0 vars args L d.type (h.params.2 d E).type) Q5 ?_;(refine lV Q5 λK z=>?_;refine⟨by simp,by simp only[Bc,D0];unfold lim sm at*;omega,?_⟩;(try refine ev ?_);apply z;clear z K;try simp only[A5,A9]);refine u2 _ _ ?_;clear u2 I;refine lT Q5 ?_;exact⟨(),trivial,sS,by simp[ble,A8,E9,Param.subst]⟩
 intro j _ d hd E W tk J _;rw[tk,E5r];refine Ae J Q5 λI u2=>?_;refine gI u2 ?_;clear u2 I;refine sK λI u2=>A0.bb ?_;refine sV Q5 λK z=>?_;refine ci (Fc hd) ?_;apply z;clear z K;refine sC (Q0 vars args L d.bound (h.A1.2 d E).bound) Q5 ?_;(refine lV Q5 λK z=>?_;refine⟨by simp,by simp only[Bc,D0];unfold lim sm at*;omega,?_⟩;(try refine ev ?_);apply z;clear z K;try simp only[A5,A9]);refine u2 _ _ ?_;clear u2 I;refine lT Q5 ?_;exact⟨(),trivial,sS,by simp[ble,A8,Gs,Ak.subst]⟩
def D1m(vars:List A2)(args:List Ty)(E:∀u,u∈args->u.Sm)(s:A4)(h:s.Sm):Ab prog 154 [E0 s,Ce vars,Co args] (E0 (s.subst vars args)) :=(D2e vars args E s h).C0a rfl rfl
def Inv.grown{C:Ctx}{S:Nat->Prop}{w:World}{β:Names}{bx:Aa}(h:Inv C S w β bx)(k:Nat)(os:Array Obj):Inv C S (Sort.grow (w.drewN k) os) β bx/\C9 S w S (Sort.grow (w.drewN k) os) :=h.grow (λ_ h=>h) (λ_ h=>.inl h) (λb E=>by have:=h.C3 b E;simp[Sort.grow];omega) (λb E=>by simp only[Sort.grow];exact Aq8 E) rfl rfl rfl (by simp[Sort.grow])
def F0n{C:Ctx}{S:Nat->Prop}{w:World}{β:Names}{bx:Aa}(h:Inv C S w β bx):Lib.TabIs prog w "internal/strconv.uint64pow10" .u64 Lib.pow10Tab:=by obtain⟨_,ty,I,E⟩:=h.Dv 1 B7j (.inl ⟨rfl,rfl⟩);unfold Lib.TabIs World.var?;rw[show prog.globalNamed "internal/strconv.uint64pow10" =some 1 by kernel_rfl];simp only[Ap5,E,B0];rfl
def B5f(n:Int)(U:-9223372036854775808<=n)(O:n<=9223372036854775807):Ab prog 28 [A7 n] (B4 (Lib.itoa n)):=by
 refine⟨(Enters.of func28 rfl (by decide)),λC β vs V L=>?_⟩;obtain⟨v,E,I⟩:=L.get (j:=0) (c:=A7 n) rfl;have J:vs=[.int .i64 n]:=by
  have Z:=L.1
  match vs,Z with
  |[u],_=>simp only[Md,B0]at E;subst E;rw[I.Ih]
 subst J;refine(Any.strconv_Itoa G1s n U O C.w0 (F0n V)).mono ?_;rintro e w' ⟨rfl,k,os,rfl⟩;obtain⟨W,_⟩:=V.grown k os;exact⟨_,C.S0,β,rfl,W,.d _ _ (.str _ (by have:=Lib.itoa_length_le n U O;unfold lim;omega))⟩
def Dc(i:Nat):A2:=36::Lib.itoa i
def Tk(i:Nat):Lib.itoa (i:Int)=Lib.decDigits i:=by unfold Lib.itoa;rw[A3 (by omega)];rfl
def E4t(i:Nat)(h:i<=sm):(Dc i).length<=30:=by have:=Lib.itoa_length_le i (by omega) (by unfold sm at h;omega);simp only[Dc,Ar];omega
def C8h(i:Nat)(h:i<=sm):Ab prog 196 [A7 i] (B4 (Dc i)):=by
 have E:¬(i:Int)<0:=by omega
 have hit:=B5f i (by omega) (by unfold sm at h;omega);have I:=Lib.itoa_length_le i (by omega) (by unfold sm at h;omega);unfold Dc;generalize Lib.itoa (i:Int)=s at*;refine cB func196 ?_;refine sR [0,2,4] ?_;refine Ae E [0,2,4] λJ u1=>?_;refine kI u1 ?_;clear u1 J;refine sV [0,2,4] λK z=>?_;refine cc hit ?_;refine⟨by unfold lim;omega,?_⟩;(try refine ev ?_);apply z;clear z K;exact aR
variable {n:Nat}
def B4n(h:n<10):Lib.decDigits n=[UInt8.ofNat (48+n)]:=by rw[Lib.decDigits,dif_pos h]
def B1h(h:¬n<10):Lib.decDigits n=Lib.decDigits (n / 10)++[UInt8.ofNat (48+n % 10)]:=by rw[Lib.decDigits,dif_neg h]
def E6x(h:n<10):[[D.int .u8 (IntKind.u8.wrap (48+(n:Int)))]]=[UInt8.ofNat (48+n)].map λc=>[D.int .u8 c.toNat]:=by
 have:IntKind.u8.wrap (48+(n:Int))=((UInt8.ofNat (48+n)).toNat:Int):=by
  have:n=0\/n=1\/n=2\/n=3\/n=4\/n=5\/n=6\/n=7\/n=8\/n=9:=by omega
  rcases this with rfl|rfl|rfl|rfl|rfl|rfl|rfl|rfl|rfl|rfl <;> decide
 simp only[Cp,It,this]
def B8g(n:Nat)(V:n<=sm):Ab prog 118 [A7 n] (B4 (Lib.decDigits n)):=by
 induction n using Nat.strongRecOn with
 |_ n L =>
 refine cB func118 ?_;refine sR [0,2,4]<|sK λZ u1=>?_;by_cases I:n<10
 .have E:(n:Int)<10:=by omega
  refine Ap E [0,2,4] ?_;refine tI ?_
  (refine sV [0,2,4] λK z=>?_;refine cl ?_;refine⟨_,D0a (e:=5) [UInt8.ofNat (48+n)] (by kernel_rfl) (by kernel_rfl) (by kernel_rfl) rfl (E6x I) (by simp),?_⟩;(try refine ev ?_);apply z;clear z K)
  rw[B4n I];exact aR
 .have E:¬(n:Int)<10:=by omega
  refine Ap E [0,2,4] ?_;refine kI u1 ?_;clear u1 Z;have J:=L (n / 10) (by omega) (by omega);have W:((n:Int)).tdiv 10=((n / 10:Nat):Int):=rfl;have U:((n:Int)).tmod 10=((n % 10:Nat):Int):=rfl;rw[B1h I];have O:=Lib.itoa_length_le (n / 10:Nat) (by omega) (by unfold sm at V;omega);rw[Tk]at O
  (refine sG [0,2,4] [] 9 [] λK z=>?_;simp -implicitDefEqProofs only[EV,Nat.reduceAdd,Nat.reduceEqDiff,Nat.reduceLeDiff,Nat.reduceMul,Int.reduceEq,reduceCtorEq,Dn,TF5,E1,E1b];simp only[W,U];(try refine ev ?_);refine ca ?_;refine cc J ?_;refine cl ?_;refine⟨_,D0a (e:=5) [UInt8.ofNat (48+n % 10)] (by kernel_rfl) (by kernel_rfl) (by kernel_rfl) rfl (E6x (As0 _ (by decide))) (by simp),?_⟩;(try refine ev ?_);refine⟨by unfold lim;omega,?_⟩;(try refine ev ?_);apply z;clear z K)
  exact aR
def D0j(i:Nat)(h:i<=sm):Ab prog 158 [A7 i] (B4 (Dc i)):=by
 have E:¬(i:Int)<0:=by omega
 have hit:=B8g i h;have I:=Lib.itoa_length_le i (by omega) (by unfold sm at h;omega);unfold Dc;rw[Tk]at*;generalize Lib.decDigits i=s at*;refine cB func158 ?_;refine sR [0,2,4] ?_;refine Ae E [0,2,4] λJ u1=>?_;refine kI u1 ?_;clear u1 J;refine sV [0,2,4] λK z=>?_;refine cc hit ?_;refine⟨by unfold lim;omega,?_⟩;(try refine ev ?_);apply z;clear z K;exact aR
def V4(i:Nat):Ty:=.mk (Dc i) [] 0
def D7(n:Nat):List Ty:=(List.range n).map V4
def E5j(j:Nat):Ag (D7 (j+1))=Ag (D7 j)++[[D.str (Dc j),.slice [],.int .i64 0]]:=by simp only[D7,List.range_succ,Hc,H3,Cp,It,V4,Bs,Ty.name,Ty.args,Ty.pos]
def F1e(i:Nat)(h:i<=sm):(V4 i).Sm:=.mk _ _ _ (Dd (E4t i h) (by decide)) (by simp) (by simp)
def C2k(n:Nat)(h:n<=sm):∀u,u∈D7 n->u.Sm:=λu I=>by obtain⟨i,E,rfl⟩:=Au.1 I;exact F1e i (by have:=As3.1 E;omega)
def Ad(l:List Ak):List A2:=l.map (·.name)
def H4(s:A4)(j:Nat):List Ak:=s.A1.mapIdx λi f=>⟨if i<j then Dc i else f.name,f.bound.subst (Ad s.A1) (D7 s.A1.length),f.pos⟩
def Hr(s:A4)(j:Nat):List Param:=s.params.mapIdx λi p=>⟨if i<j then[]else p.name,p.type.subst (Ad s.A1) (D7 s.A1.length),p.pos⟩
def A4.canon(s:A4):A4:=⟨s.name,H4 s s.A1.length,Hr s s.params.length,s.result.subst (Ad s.A1) (D7 s.A1.length),s.pos⟩
theorem Xj(s:A4)(j:Nat):(H4 s j).length=s.A1.length:=by simp[H4]
def Vv(s:A4)(j:Nat):(Hr s j).length=s.params.length:=by simp[Hr]
def D8w(s:A4):H4 s 0=s.A1.map (Ak.subst (Ad s.A1) (D7 s.A1.length)):=by refine Mm λi=>?_;simp only[H4,S5,Db,Nat.not_lt_zero,Fm];rfl
def D2d(s:A4):Hr s 0=s.params.map (Param.subst (Ad s.A1) (D7 s.A1.length)):=by refine Mm λi=>?_;simp only[Hr,S5,Db,Nat.not_lt_zero,Fm];rfl
variable {s:A4} {j:Nat}
def B0z{d:Ak}(i:Nat)(h:s.A1[j]?=some d):(Ax (H4 s i))[j]?=some (Gs ⟨if j<i then Dc j else d.name,d.bound.subst (Ad s.A1) (D7 s.A1.length),d.pos⟩):=by simp only[Ax,H4,Db,S5,h,Ef]
def B1e{d:Param}(i:Nat)(h:s.params[j]?=some d):(Ay (Hr s i))[j]?=some (E9 ⟨if j<i then[]else d.name,d.type.subst (Ad s.A1) (D7 s.A1.length),d.pos⟩):=by simp only[Ay,Hr,Db,S5,h,Ef]
def E0n{d:Ak}(h:s.A1[j]?=some d):(Ax (H4 s j)).set j (Gs ⟨Dc j,d.bound.subst (Ad s.A1) (D7 s.A1.length),d.pos⟩)=Ax (H4 s (j+1)):=by
 refine Mm λi=>?_;rw[Ao9];split;rename_i E;subst E;rw[A6 (by rw[Ax,Bc,Xj];exact(Aw.1 h).1),B0z _ h,A6 (by omega)]
 .rename_i E;cases I:s.A1[i]? with
  |none=>simp[Ax,H4,I]
  |some e =>
   rw[B0z _ I,B0z _ I];by_cases J:i<j;rw[A6 J,A6 (by omega)];rw[A3 J,A3 (by omega)]
def E6c{d:Param}(h:s.params[j]?=some d):(Ay (Hr s j)).set j (E9 ⟨[],d.type.subst (Ad s.A1) (D7 s.A1.length),d.pos⟩)=Ay (Hr s (j+1)):=by
 refine Mm λi=>?_;rw[Ao9];split;rename_i E;subst E;rw[A6 (by rw[Ay,Bc,Vv];exact(Aw.1 h).1),B1e _ h,A6 (by omega)]
 .rename_i E;cases I:s.params[i]? with
  |none=>simp[Ay,Hr,I]
  |some e =>
   rw[B1e _ I,B1e _ I];by_cases J:i<j;rw[A6 J,A6 (by omega)];rw[A3 J,A3 (by omega)]
abbrev cgC(s:A4):List SV:=sgC s (Ad s.A1) (D7 s.A1.length) (.acc 900) (.acc 901)
abbrev L2:List Nat:=[0,1,2,3,4,5,6,7,10,11,12,29,30,31,43,44,45,900,901]
def F7f(s:A4)(h:s.Sm):Ch prog 254 [E0 s] [] (.agg (cgC s)) [(900,.rows 5 (Ax (H4 s s.A1.length))),(901,.rows 5 (Ay (Hr s s.params.length)))]:=by
 have L:=h.A1.1;have W:=h.params.1;have I:=E0c (Ad s.A1) (D7 s.A1.length) (C2k _ L) s h;rw[sgB,<-D8w,<-D2d]at I;refine bB func254 ?_;refine sR L2 ?_;refine sR L2 ?_;refine A0.pp 3 3 3 rfl<|kR L2 λU u1=>?_;refine A0.bb (A0.ii s.A1 (X:=Unit) (λj _=>[(1,.box 1 0),(2,.box 2 0),(3,.acc 3),(10,A7 s.A1.length),(11,A7 j)]) (λj _=>[(1,.cells (R8 s)),(2,.cells Qt),(3,.rows 3 (Ag (D7 j)))]) (λj _=>True) () trivial sS (by simp[ble,A8,D7,H3]) ?_ ?_)
 .intro _ _;refine Ap B6 L2 ?_;refine A0.stop rfl ?_;simp only[A5,A9,Ac];refine u1 _ _ ?_;clear u1 U;refine A0.Jh 3 rfl<|A0.ww (sl':=[(1,.box 1 0),(2,.box 2 0),(3,Co (D7 s.A1.length))]) (bx':=[(1,.cells (R8 s)),(2,.cells Qt)]) (by simp[M6,SV.sub,sle,Av,Af]) (by simp[Ld,Aq.sub,SV.Kj,SV.sub,ble,A8,C5]) ?_
  refine sG L2 [800026] 7 gq λK z=>?_;refine ev ?_;refine cc (C0c s.A1 L) ?_;refine⟨_,_,_,C0x 900 901 rfl rfl I rfl (by decide) (by decide) (by decide) (by decide) rfl rfl,?_⟩;(try simp -implicitDefEqProofs only[EV,Nat.reduceAdd,Nat.reduceEqDiff,Nat.reduceBEq,Nat.reduceLeDiff,reduceCtorEq,Sz,SV.Ep,SV.Q6,two]);apply z;clear z K
  refine A0.ww (sl':=[(2,.box 2 0),(5,.box 5 0)]) (bx':=[(2,.cells Qt),(5,.cells (cgC s)),(900,.rows 5 (Ax (H4 s 0))),(901,.rows 5 (Ay (Hr s 0)))])
   sS sB ?_
  refine kR L2 λU u1=>?_;refine A0.bb (A0.ii s.A1 (X:=Unit) (λj _=>[(2,.box 2 0),(5,.box 5 0),(29,A7 s.A1.length),(30,A7 j)]) (λj _=>[(2,.cells Qt),(5,.cells (cgC s)),(900,.rows 5 (Ax (H4 s j))),(901,.rows 5 (Ay (Hr s 0)))]) (λj _=>True) () trivial (by simp[sle,Av,Af,Xj]) sB ?_ ?_)
  .intro _ _;refine Ap B6 L2 ?_;refine A0.stop rfl ?_;simp only[A5,A9,Ac];refine u1 _ _ ?_;clear u1 U;refine kR L2 λU u1=>?_;refine A0.bb (A0.ii s.params (X:=Unit) (λj _=>[(2,.box 2 0),(5,.box 5 0),(43,A7 s.params.length),(44,A7 j)]) (λj _=>[(2,.cells Qt),(5,.cells (cgC s)),(900,.rows 5 (Ax (H4 s s.A1.length))),(901,.rows 5 (Ay (Hr s j)))]) (λj _=>True) () trivial (by simp[sle,Av,Af,Vv]) sB ?_ ?_);intro _ _;refine Ap B6 L2 ?_;refine A0.stop rfl ?_;simp only[A5,A9,Ac];refine u1 _ _<|sR L2 ?_;exact A0.ret ⟨_,by rw[results254];rfl,.inl rfl,by simp[ble,A8]⟩
   .intro j _ d hd J V tk E _;refine Ap E L2 ?_;refine A0.Ha rfl<|sK λO u2=>A0.bb<|sR L2 ?_
    (refine lV L2 λK z=>?_;refine⟨by omega,by rw[Vv];omega,?_⟩;(try refine ev ?_);refine⟨_,[D.str []],B1e j hd,rfl,by simp[E9],?_⟩;(try refine ev ?_);apply z;clear z K;try simp only[A5,A9]);refine u2 _ _ ?_;clear u2 O;refine lT L2 ?_;exact⟨(),trivial,sS,by simp[ble,A8,<-E6c hd,E9]⟩
  .intro j _ d hd J V tk E _;refine Ap E L2 ?_;refine A0.Ha rfl<|sK λO u2=>A0.bb<|sR L2 ?_
   (refine lG L2 [] 5 [] λK z=>?_;refine ev ?_;refine cc (C8h j (by omega)) ?_;refine⟨by omega,by rw[Xj];omega,?_⟩;(try refine ev ?_);refine⟨_,[D.str (Dc j)],B0z j hd,rfl,by simp[Gs],?_⟩;(try refine ev ?_);apply z;clear z K;try simp only[A5,A9]);refine u2 _ _ ?_;clear u2 O;refine lT L2 ?_;exact⟨(),trivial,sS,by simp[ble,A8,<-E0n hd,Gs]⟩
 .intro j _ d hd J V tk E _;rw[E5j];refine Ap E L2 ?_;refine A0.Ha rfl<|sK λO u2=>A0.bb<|sR L2 ?_
  (refine lV L2 λK z=>?_;refine cc (C8h j (by omega)) ?_;refine⟨by simp,by simp only[D7,Bc,List.length_range];unfold lim sm at*;omega,?_⟩;(try refine ev ?_);apply z;clear z K;try simp only[A5,A9]);refine u2 _ _ ?_;clear u2 O;refine lT L2 ?_;refine⟨(),trivial,sS,?_⟩;simp[ble,A8]
def B6b(s:A4)(h:s.Sm):Ab prog 254 [E0 s] (E0 s.canon):=(F7f s h).C0a rfl rfl
def F3g{n j:Nat}(h:j<n):(Ag (D7 n))[j]?=some (Bs (V4 j)):=by simp[D7,H3,Am0 h]
abbrev Mu:List Nat:=[0,1,2,3,4,5,6,7,12,31,48,900,901]
def E9u(s:A4)(h:s.Sm):Ch prog 155 [E0 s] [] (.agg (cgC s)) [(900,.rows 5 (Ax (H4 s s.A1.length))),(901,.rows 5 (Ay (Hr s s.params.length)))]:=by
 have O:=h.A1.1;have W:=h.params.1;have J:=D2e (Ad s.A1) (D7 s.A1.length) (C2k _ O) s h;rw[sgB,<-D8w,<-D2d]at J;refine bB func155 ?_;refine sR Mu ?_;refine sR Mu ?_;refine A0.pp 3 3 3 rfl<|kR Mu λU u1=>?_;refine A0.bb (A0.ii s.A1 (X:=Unit) (λj _=>[(1,.box 1 0),(2,.box 2 0),(3,.acc 3),(4,A7 j)]) (λj _=>[(1,.cells (R8 s)),(2,.cells Qt),(3,.rows 3 (Ag (D7 j)))]) (λj _=>True) () trivial sS (by simp[ble,A8,D7,H3]) ?_ ?_)
 .intro _ _;refine Ae B6 Mu λE u2=>?_;refine A0.ss rfl ?_;simp only[A5,A9,Ac];refine u1 _ _ ?_;clear u2 E u1 U;refine A0.Jh 3 rfl<|A0.ww (sl':=[(1,.box 1 0),(2,.box 2 0),(3,Co (D7 s.A1.length))]) (bx':=[(1,.cells (R8 s)),(2,.cells Qt)]) (by simp[M6,SV.sub,sle,Av,Af]) (by simp[Ld,Aq.sub,SV.Kj,SV.sub,ble,A8,C5]) ?_
  refine sG Mu [800026] 7 gq λK z=>?_;refine ev ?_;refine cc (Qh s.A1 O) ?_;refine⟨_,_,_,C0x 900 901 rfl rfl J rfl (by decide) (by decide) (by decide) (by decide) rfl rfl,?_⟩;(try simp -implicitDefEqProofs only[EV,Nat.reduceAdd,Nat.reduceEqDiff,Nat.reduceBEq,Nat.reduceLeDiff,reduceCtorEq,Sz,SV.Ep,SV.Q6,two]);apply z;clear z K
  refine A0.ww (sl':=[(2,.box 2 0),(3,Co (D7 s.A1.length)),(5,.box 5 0)]) (bx':=[(2,.cells Qt),(5,.cells (cgC s)),(900,.rows 5 (Ax (H4 s 0))),(901,.rows 5 (Ay (Hr s 0)))])
   sS sB ?_
  refine kR Mu λU u1=>?_;refine A0.bb (A0.ii s.A1 (X:=Unit) (λj _=>[(2,.box 2 0),(3,Co (D7 s.A1.length)),(5,.box 5 0),(6,A7 j)]) (λj _=>[(2,.cells Qt),(5,.cells (cgC s)),(900,.rows 5 (Ax (H4 s j))),(901,.rows 5 (Ay (Hr s 0)))]) (λj _=>True) () trivial sS sB ?_ ?_)
  .intro _ _;refine sK λE u2=>?_;refine sQ Mu λK z=>?_;simp -implicitDefEqProofs only[EV,Nat.reduceEqDiff,reduceCtorEq,A5y,Sz,Xj,B6];apply z;clear z K;refine A0.ss rfl ?_;simp only[A5,A9,Ac];refine u1 _ _ ?_;clear u2 E u1 U;refine kR Mu λU u1=>?_;refine A0.bb (A0.ii s.params (X:=Unit) (λj _=>[(2,.box 2 0),(5,.box 5 0),(7,A7 j)]) (λj _=>[(2,.cells Qt),(5,.cells (cgC s)),(900,.rows 5 (Ax (H4 s s.A1.length))),(901,.rows 5 (Ay (Hr s j)))]) (λj _=>True) () trivial sS sB ?_ ?_);intro _ _;refine sK λE u2=>?_;refine sQ Mu λK z=>?_;simp -implicitDefEqProofs only[EV,Nat.reduceEqDiff,reduceCtorEq,A0c,Sz,Vv,B6];apply z;clear z K;refine A0.ss rfl ?_;simp only[A5,A9,Ac];refine u1 _ _<|sR Mu ?_;exact A0.ret ⟨_,by rw[results155];rfl,.inl rfl,by simp[ble,A8]⟩
   intro j _ d hd L V tk I _;refine sK λE u2=>?_;refine sQ Mu λK z=>?_;simp -implicitDefEqProofs only[EV,Nat.reduceEqDiff,reduceCtorEq,A0c,Sz,Vv,I];apply z;clear z K;refine gI u2 ?_;clear u2 E;refine sK λE u2=>A0.bb ?_;(refine lV Mu λK z=>?_;refine⟨by omega,by rw[Vv];omega,?_⟩;(try refine ev ?_);refine⟨_,[D.str []],B1e j hd,rfl,by simp[E9],?_⟩;(try refine ev ?_);apply z;clear z K;try simp only[A5,A9]);refine u2 _ _ ?_;clear u2 E;refine lT Mu ?_;exact⟨(),trivial,sS,by simp[ble,A8,<-E6c hd,E9]⟩
  intro j _ d hd L V tk I _;refine sK λE u2=>?_;refine sQ Mu λK z=>?_;simp -implicitDefEqProofs only[EV,Nat.reduceEqDiff,reduceCtorEq,A5y,Sz,Xj,I];apply z;clear z K;refine gI u2 ?_;clear u2 E;refine sK λE u2=>A0.bb ?_;(refine lG Mu [] 8 [] λK z=>?_;refine ev ?_;refine⟨by omega,_,F3g (by omega),rfl,?_⟩;(try refine ev ?_);refine⟨by omega,by rw[Xj];omega,?_⟩;(try refine ev ?_);refine⟨_,[D.str (Dc j)],B0z j hd,rfl,by simp[Gs],?_⟩;(try refine ev ?_);apply z;clear z K;try simp only[A5,A9]);refine u2 _ _ ?_;clear u2 E;refine lT Mu ?_;exact⟨(),trivial,sS,by simp[ble,A8,<-E0n hd,Gs]⟩
 intro j _ d hd L V tk I _;rw[E5j];refine Ae I Mu λE u2=>?_;refine gI u2 ?_;clear u2 E;refine sK λE u2=>A0.bb ?_;(refine lV Mu λK z=>?_;refine cc (D0j j (by omega)) ?_;refine⟨by simp,by simp only[D7,Bc,List.length_range];unfold lim sm at*;omega,?_⟩;(try refine ev ?_);apply z;clear z K;try simp only[A5,A9]);refine u2 _ _ ?_;clear u2 E;refine lT Mu ?_;exact⟨(),trivial,sS,by simp[ble,A8]⟩
def B1r(s:A4)(h:s.Sm):Ab prog 155 [E0 s] (E0 s.canon):=(E9u s h).C0a rfl rfl
end Go.Abs
