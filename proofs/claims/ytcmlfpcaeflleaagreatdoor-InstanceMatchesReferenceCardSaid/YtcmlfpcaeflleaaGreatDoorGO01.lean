/- castingsref21: sets of types and calls: Compare, PutType, PutCall, Size, large -/
import Derived.Test.YtcmlfpcaeflleaaGreatDoorGAb22
import Derived.Test.YtcmlfpcaeflleaaGreatDoorGS95
set_option linter.all false
set_option maxHeartbeats 4000000
set_option maxRecDepth 100000
namespace Go.Abs
open Go Go.Proofs Tryz
structure Ad where
 on:Ty
 name:A3
 targs:List Ty
structure Aj where
 types:List Ty
 calls:List Ad
 Cv:Bool
def Du(c:Ad):List D:=[.str c.on.name,.slice (Au c.on.args),.int .i64 c.on.pos,.str c.name,.slice (Au c.targs)]
def C7(l:List Ad):List (List D):=l.map Du
abbrev U3(c:Ad):List SV:=[.d (.str c.on.name),.d (.slice (Au c.on.args)),.d (.int .i64 c.on.pos),.d (.str c.name),.d (.slice (Au c.targs))]
abbrev Nj(c:Ad):SV:=.agg (U3 c)
def Er(l:List Ad):(C7 l).length=l.length:=by simp[C7]
def I0{l:List Ad}{i:Nat}{c:Ad}(h:l[i]?=some c):(C7 l)[i]?=some (Du c):=by simp[C7,h]
structure Ad.Sm(c:Ad):Prop where
 on:c.on.Sm
 name:c.name.length<=sm
 targs:c.targs.length<=sm/\∀t,t∈c.targs->t.Sm
structure Aj.Sm(s:Aj):Prop where
 types:s.types.length<=sm/\∀t,t∈s.types->t.Sm
 calls:s.calls.length<=sm/\∀t,t∈s.calls->t.Sm
def Ba(a b:Ad):Int:=if Cs a.on b.on=0 then(if Bs a.name b.name=0 then Cs (.mk [] a.targs 0) (.mk [] b.targs 0)else Bs a.name b.name)else Cs a.on b.on
def G3{α:Type}(cmp:α->α->Int)(x:α):List α->Bool->List α->Option (List α)
 |[],done,out=>some (if done then out else out++[x])
 |t::ts,done,out=>if cmp x t=0 then none else if cmp x t<0/\done=false then G3 cmp x ts true (out++[x,t])else G3 cmp x ts done (out++[t])
def J8{α:Type}(cmp:α->α->Int)(l:List α)(x:α):List α:=(G3 cmp x l false []).getD l
def Dz(s:Aj)(x:Ty):Aj:=if 100<s.types.length then{ s with Cv:=true } else{ s with types:=J8 Cs s.types x }
def Fh(s:Aj)(x:Ad):Aj:=if 100<s.calls.length then{ s with Cv:=true } else{ s with calls:=J8 Ba s.calls x }
end Go.Abs
/- instance.finder: its maps as lists; full, all, text -/
namespace Go.Abs
open Go Go.Proofs Tryz
section keyed
variable {α β:Type} [DecidableEq β]
def Co(f:α->β):List α->α->List α
 |[],x=>[x]
 |u::l,x=>if f x=f u then x::l else u::Co f l x
def mK(e:β->D)(f:α->β)(g:α->D)(l:List α):List (D × D):=l.map λu=>(e (f u),g u)
omit [DecidableEq β]in
def D2e(e:β->D)(f:α->β)(g:α->D)(l:List α):(mK e f g l).length=l.length:=by simp[mK]
omit [DecidableEq β]in
def T2(f:α->β)(k:β):List α->Nat->Option (Nat × α)
 |[],_=>none
 |u::l,i=>if k=f u then some (i,u)else T2 f k l (i+1)
def C5q{e:β->D}(E:∀a b,(e a).lits=(e b).lits->a=b)(f:α->β)(g:α->D)(k:β):∀(l:List α)(i:Nat),G1 (e k).lits (mK e f g l) i=(T2 f k l i).map λx=>(x.1,g x.2)
 |[],i=>rfl
 |u::l,i=>by
  show G1 (e k).lits ((e (f u),g u)::mK e f g l) i=_;simp only[G1,T2];by_cases h:k=f u
  .subst h;rw[A9 rfl,A9 rfl];rfl
  .rw[A6 λI=>h (E _ _ I),A6 h];exact C5q E f g k l (i+1)
def D2a(f:α->β)(k:β):∀(l:List α)(i:Nat),T2 f k l (i+1)=(T2 f k l i).map λx=>(x.1+1,x.2)
 |[],_=>rfl
 |u::l,i=>by
  simp only[T2];split
  .rfl
  .exact D2a f k l (i+1)
def C2x{e:β->D}(I:∀a b,(e a).lits=(e b).lits->a=b)(f:α->β)(g:α->D)(x:α):∀l:List α,Rj (e (f x)) (g x) (mK e f g l)=mK e f g (Co f l x)
 |[]=>rfl
 |u::l=>by
  have E:=C2x I f g x l;unfold Rj at E |-;rw[C5q I]at E |-;simp only[T2,Co];by_cases h:f x=f u
  .rw[A9 h,A9 h];rfl
  .rw[A6 h,A6 h,D2a];cases hp:T2 f (f x) l 0 with
   |none =>rw[hp]at E;simp only[Ap8]at E |-;show(e (f u),g u)::(mK e f g l++_)=_;rw[E];rfl
   |some J =>rw[hp]at E;simp only[Eu]at E |-;show(e (f u),g u)::(mK e f g l).set J.1 _=_;rw[E];rfl
def G0y{e:β->D}(E:∀a b,(e a).lits=(e b).lits->a=b)(f:α->β)(g:α->D)(k:β)(l:List α)(z:SV):Qg (e k) (mK e f g l) z=match T2 f k l 0 with|some x=>Iq (g x.2)|none=>z:=by unfold Qg;rw[C5q E];cases T2 f k l 0 <;> rfl
def A1e{f:α->β}{x y:α}:∀{l:List α},y∈Co f l x->y=x\/y∈l
 |[],h=>by simpa [Co]using h
 |u::l,h=>by
  simp only[Co]at h;split at h
  .rcases Aw.1 h with h|h
   .exact .inl h
   .exact .inr (Wf _ h)
  .rcases Aw.1 h with h|h
   .exact .inr (by simp[h])
   .rcases A1e h with h|h
    .exact .inl h
    .exact .inr (Wf _ h)
end keyed
def Ad.Av(c:Ad):A3:=Ty.Av (.mk c.name (c.on::c.targs) 0)
def Ad.Cb(c:Ad):Nat:=Ty.Cb (.mk c.name (c.on::c.targs) 0)
def tM(l:List Ty):List (D × D):=mK D.str Ty.Av (λt=>.agg (Be t)) l
def cM(l:List Ad):List (D × D):=mK D.str Ad.Av (λc=>.agg (Du c)) l
abbrev kD(k:A3 × A3):D:=.agg [.str k.1,.str k.2]
def dM(l:List (A3 × A3)):List (D × D):=mK kD id (λ_=>.bool true) l
def D1h(a b:A3)(h:(D.str a).lits=(D.str b).lits):a=b:=by simpa [D.lits,D.lit]using h
def E2o(a b:A3 × A3)(h:(kD a).lits=(kD b).lits):a=b:=by obtain⟨J,E⟩:=a;obtain⟨I,L⟩:=b;simpa [kD,D.lits,D.lit]using h
def A9o(l:List Ty):(tM l).length=l.length:=D2e _ _ _ l
def A8j(l:List Ad):(cM l).length=l.length:=D2e _ _ _ l
def F7s(x:Ty)(l:List Ty):Rj (.str x.Av) (.agg [.str x.name,.slice (Au x.args),.int .i64 x.pos]) (tM l)=tM (Co Ty.Av l x):=C2x (e:=D.str) D1h Ty.Av (λt=>.agg (Be t)) x l
def F3g(x:Ad)(l:List Ad):Rj (.str x.Av) (.agg [.str x.on.name,.slice (Au x.on.args),.int .i64 x.on.pos,.str x.name,.slice (Au x.targs)]) (cM l)=cM (Co Ad.Av l x):=C2x (e:=D.str) D1h Ad.Av (λc=>.agg (Du c)) x l
def E5q(a b:A3)(l:List (A3 × A3)):Rj (.agg [.str a,.str b]) (.bool true) (dM l)=dM (Co id l (a,b)):=C2x (e:=kD) E2o id (λ_=>.bool true) (a,b) l
def B9x(a b:A3)(l:List (A3 × A3)):Qg (.agg [.str a,.str b]) (dM l) (.d (.bool false))=Ay (decide ((a,b)∈l)):=by
 show Qg (kD (a,b)) (mK kD id (λ_=>.bool true) l) _=_;rw[G0y E2o];have:∀(l:List (A3 × A3)) (i:Nat),(match T2 id (a,b) l i with|some x=>Iq ((λ_:A3 × A3=>D.bool true) x.2)|none=>.d (.bool false))=Ay (decide ((a,b)∈l)):=by
  intro l
  induction l with
  |nil=>intro i;simp[T2]
  |cons u l E =>
   intro i;simp only[T2,id];by_cases h:(a,b)=u
   .rw[A9 h];simp[h,Iq]
   .rw[A6 h,E (i+1)];simp[h]
 have:=this l 0;revert this;cases T2 id (a,b) l 0 <;> exact id
def C1e(s:A3)(h:s.length<=lim):Et prog 9 (.str s):=by have E:prog.underlying 9=some .string:=Mx.2.2.2.2.1;refine⟨rfl,by simp[D.kv,D.lit,Lit.value,Value.formed,E],?_⟩;simp[D.kv,D.lit,D.lits,Lit.value,Value.cells,Program.keyLits,E,ByteArray.size];unfold lim at h;unfold maxLen;omega
def D0c(P:Program)(E:TypeId):Bool:=match P.underlying E with
 |some (.array 2 e)=>isStr P e && P.cellsOf e ==1 && P.cellsOf E ==2 && Nat.ble 1 P.types.size
 |_=>false
def B6o{P:Program}{E:TypeId}(h:D0c P E=true)(a b:A3)(L:a.length<=lim)(O:b.length<=lim):Et P E (.agg [.str a,.str b]):=by
 unfold D0c at h;split at h
 .rename_i e I;simp only[Bc,Tu,Nat.ble_eq]at h;obtain⟨⟨⟨u1,U⟩,ct⟩,V⟩:=h;obtain⟨d,M⟩:∃d,P.types.size+1=d+2:=⟨P.types.size - 1,by omega⟩;refine⟨rfl,?_,?_⟩
  .simp[D.kv,Value.formed,I,ct]
  .rw[M];have J:∀s:A3,s.length<=lim->P.keyLits (d+1) e [.string ⟨s.toArray⟩]=some [.string s]:=λs hs=>by
    simp[Program.keyLits,C4j u1,ByteArray.size];unfold lim at hs;unfold maxLen;omega
   unfold Program.keyLits;rw[I];simp only[D.kv,Value.cells,Ck,Hy,D.lit,Lit.value,C6,Dy,ct,Ae,U];rw[show List.range 2=[0,1] from rfl];simp only[Av2,List.mapM_nil,Nat.zero_mul,Xr,Ao7,Ap0,Ia,Ig,J a L,J b O];rfl
 .simp at h
def B2e:D0c prog 145=true:=by kernel_rfl
abbrev fiC(p:Prog)(b:Int)(k1 k2 k3:Nat):List SV:=[.Ah (Ep p) 0,.d (.slice (Ix p.decls)),.d (.int .i64 p.main.kind),.d (.str p.main.name),.d (.str p.main.type.name),.d (.slice (Au p.main.type.args)),.d (.int .i64 p.main.type.pos),
 .d (.slice (Au p.main.targs)),.d (.slice (Ew p.main.kids)),.d (.int .i64 p.main.pos),.d (.int .i64 b),.mp k1,.mp k2,.mp k3]
abbrev Kh(k0 k1 k2 k3:Nat)(p:Prog)(b:Int)(ts:List Ty)(cs:List Ad)(ds:List (A3 × A3)):Aa:=[(k0,.cells (fiC p b k1 k2 k3)),(k1,.map (tM ts)),(k2,.map (cM cs)),(k3,.map (dM ds))]
abbrev Ci(p:Prog)(b:Int)(ts:List Ty)(cs:List Ad)(ds:List (A3 × A3)):Aa:=Kh 1000000 1000001 1000002 1000003 p b ts cs ds
def G2m{ts:List Ty}(h:∀t,t∈ts->t.Av.length<=sm):∀kv,kv∈tM ts->Et prog 9 kv.1:=by intro kv E;obtain⟨t,ht,rfl⟩:=B1.1 E;exact C1e _ (D3 (h t ht) (by decide))
def F6h{cs:List Ad}(h:∀t,t∈cs->t.Av.length<=sm):∀kv,kv∈cM cs->Et prog 9 kv.1:=by intro kv E;obtain⟨t,ht,rfl⟩:=B1.1 E;exact C1e _ (D3 (h t ht) (by decide))
def B7w{ds:List (A3 × A3)}(h:∀k,k∈ds->k.1.length<=sm/\k.2.length<=sm):∀kv,kv∈dM ds->Et prog 145 kv.1:=by intro kv E;obtain⟨t,ht,rfl⟩:=B1.1 E;exact B6o B2e _ _ (D3 (h t ht).1 (by decide)) (D3 (h t ht).2 (by decide))
def B6j(p:Prog)(b:Int)(ts:List Ty)(cs:List Ad)(ds:List (A3 × A3))(I:ts.length<=sm)(E:cs.length<=sm) :
  Bj prog 34 [.box 1000000 0] (Ci p b ts cs ds) (Ay (decide (b<(ts.length:Int)+cs.length))) (Ci p b ts cs ds):=by
 refine bB func34 ?_;refine sR [0,2,1000000,1000001,1000002,1000003] ?_
 (refine sG [0,2,1000000,1000001,1000002,1000003] [] 15 [] λK z=>?_;simp -implicitDefEqProofs only[EV,Nat.reduceEqDiff,reduceCtorEq,J3,E1g,E5f,Xz,A9o,A8j,];refine⟨by first| (unfold Az;omega)| (simp only[Az,sm]at*;omega),?_⟩;apply z;clear z K)
 exact A0.ret ⟨_,by rw[results34];rfl,.inr rfl,by simp[ble,A7,]⟩
def F9w{l ts:List Ty}(I:∀t,t∈l->t.Av.length<=sm)(E:∀t,t∈ts->t.Av.length<=sm):∀t,t∈l.foldl (Co Ty.Av) ts->t.Av.length<=sm:=by
 induction l generalizing ts with
 |nil=>exact E
 |cons x l J =>exact J (λt ht=>I t (by simp[ht])) λt ht=>(A1e ht).elim (λh=>h ▸ I x (by simp)) (E t)
abbrev B1c:List Nat:=[0,1,5,6,7,8,9,1000000,1000001,1000002,1000003]
def C1o(p:Prog)(b:Int)(cs:List Ad)(ds:List (A3 × A3))(l:List Ty)(U:∀t,t∈l->t.Sm/\t.Cb<=sm)(hn:l.length<=sm)(ts:List Ty)(V:∀t,t∈ts->t.Av.length<=sm) :
  Bj prog 80 [.box 1000000 0,.d (.slice (Au l))] (Ci p b ts cs ds) (.tuple []) (Ci p b (l.foldl (Co Ty.Av) ts) cs ds):=by
 have J:∀t,t∈l->t.Av.length<=sm:=λt ht=>by have:=Ty.M6 t;have:=(U t ht).2;omega
 refine bB func80 ?_;refine sR B1c ?_;refine A0.bb (A0.ii l (X:=Unit) (λj _=>[(0,.box 1000000 0),(6,.d (.slice (Au l))),(7,A8 l.length),(8,A8 j)]) (λj _=>Ci p b ((l.take j).foldl (Co Ty.Av) ts) cs ds)
  (λ_ _=>True) () trivial sS sB ?_ ?_)
 .intro _ _;rw[Dm]
  (refine sQ B1c λK z=>?_;simp -implicitDefEqProofs only[EV,Nat.reduceEqDiff,reduceCtorEq,B3,Ci,Kh];apply z;clear z K)
  refine A0.stop rfl ?_;simp only[A4,Ab,Ae];exact⟨_,by rw[results80];rfl,.inr rfl,by simp[ble,A7,]⟩
 .intro j _ t ht E dp tk M _;have W:=D9d t (U t E).2;have h2:=We t (U t E).1;have Z:=C1e t.Av (D3 (J t E) (by decide));have O:=G2m (F9w (l:=l.take j) (λt ht=>J t (Hh ht)) V);rw[tk,List.foldl_append];generalize(l.take j).foldl (Co Ty.Av) ts=L at*;refine Aq M B1c ?_;refine A0.Fk rfl<|sK λK1 I=>A0.bb ?_
  (refine sV B1c λK z=>?_;refine ci (Dv ht) ?_;apply z;clear z K)
  (refine lG B1c [] 8 [] λK z=>?_;refine ev ?_;refine cc W ?_;refine⟨_,.inl ⟨_,rfl,h2,rfl⟩,?_⟩;(try simp -implicitDefEqProofs only[EV,Nat.reduceEqDiff,reduceCtorEq,F7s,]);refine⟨O,Z,?_⟩;apply z;clear z K;try simp only[A4,Ab])
  refine I _ _ ?_;clear I K1;refine lT B1c ?_;exact⟨(),trivial,sS,by simp[ble,A7,]⟩
def G7v(c:Ad)(I:c.targs.length<=sm)(h:c.Cb<=sm):Ac prog 82 [Nj c] (D9 c.Av):=by
 have E:Ac prog 141 [.agg [.d (.str c.name),.d (.slice (Au (c.on::c.targs))),A8 0]] (D9 c.Av):=D9d (.mk c.name (c.on::c.targs) 0) h;rw[A7z]at E;simp only[Be]at E;refine cB func82 ?_;refine sR [0,1,2] ?_
 (refine sG [0,1,2,7] [7] 8 [⟨[],[],[7],[7]⟩,⟨[],[],[7],[7]⟩,⟨[],[],[],[]⟩,⟨[],[],[],[]⟩,⟨[7],[7],[],[]⟩,⟨[],[],[7],[7]⟩,⟨[],[],[7],[7]⟩,⟨[7],[7],[],[]⟩] λK z=>?_;refine ev ?_;refine⟨A0j _,by(try simp only[Cz,Bn]);unfold lim sm at*;omega,?_⟩;refine⟨_,.inr ⟨_,rfl,E,rfl⟩,?_⟩;(try refine ev ?_);apply z;clear z K)
 exact aR
end Go.Abs
