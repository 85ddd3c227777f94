/- The operations as one function; shapes of code; drawn regions with a new variable. Own framework. -/
import Derived.IntWalk
import Derived.Test.YtieakoebgfiniaaGreatDoorZAb3
set_option linter.all false
namespace Go.Abs
open Go
variable {P:Program}
def B4(x:Int):Prop:=-9223372036854775808<=x/\x<9223372036854775808
def wrap_i64{x:Int}(h:B4 x):IntKind.i64.wrap x=x:=IntWalk.i64_in x (by unfold B4 at h;omega)
def Mj(op:BinOp)(k:IntKind)(x y:Int)(K:SV->Prop):Prop :=
 match k,op with
 |.i64,.add=>B4 (x+y)/\K (.d (.int .i64 (x+y)))
 |.i64,.sub=>B4 (x - y)/\K (.d (.int .i64 (x - y)))
 |.i64,.mul=>B4 (x*y)/\K (.d (.int .i64 (x*y)))
 |.i64,.quo=>y≠0/\B4 (x.tdiv y)/\K (.d (.int .i64 (x.tdiv y)))
 |k,.add=>K (.d (.int k (k.wrap (x+y))))
 |k,.sub=>K (.d (.int k (k.wrap (x - y))))
 |k,.mul=>K (.d (.int k (k.wrap (x*y))))
 |k,.quo=>y≠0/\K (.d (.int k (k.wrap (x.tdiv y))))
 |k,.rem=>y≠0/\K (.d (.int k (x.tmod y)))
 |_,.eql=>K (.d (.bool (decide (x=y))))
 |_,.neq=>K (.d (.bool (decide (x≠y))))
 |_,.lss=>K (.d (.bool (decide (x<y))))
 |_,.leq=>K (.d (.bool (decide (x<=y))))
 |_,.gtr=>K (.d (.bool (decide (y<x))))
 |_,.geq=>K (.d (.bool (decide (y<=x))))
 |_,_=>False
def E5z(P:Program)(t:TypeId):Bool:=(P.underlying t).any (λd=>match d with| .pointer _=>true|_=>false)
def Dc(P:Program)(t:TypeId):Bool:=(P.underlying t).any (λd=>match d with| .interface _=>true|_=>false)
def A3j:BinOp->A2->A2->(SV->Prop)->Prop
 |.add,a,b,K=>a.length+b.length<=lim/\K (.d (.str (a++b)))
 |.eql,a,b,K=>K (.d (.bool (decide (a=b))))
 |.neq,a,b,K=>K (.d (.bool (decide (a≠b))))
 |.lss,a,b,K=>K (.d (.bool (Op.bytesLess a b)))
 |.gtr,a,b,K=>K (.d (.bool (Op.bytesLess b a)))
 |_,_,_,_=>False
def B1c:BinOp->Bool->Bool->(SV->Prop)->Prop
 |.eql,a,b,K=>K (.d (.bool (a ==b)))
 |.neq,a,b,K=>K (.d (.bool (!(a ==b))))
 |_,_,_,_=>False
def Vv:BinOp->Option Bool->(SV->Prop)->Prop
 |.eql,some b,K=>K (.d (.bool b))
 |.neq,some b,K=>K (.d (.bool (!b)))
 |_,_,_=>False
def B1i(op:BinOp)(k j:IntKind)(a b:Int)(K:SV->Prop):Prop :=
 match op with
 |.shr=>0<=b/\K (.d (.int k (a.fdiv (2 ^ min b.toNat k.bits))))
 |.shl=>0<=b/\K (.d (.int k (k.wrap (a*2 ^ min b.toNat k.bits))))
 |op=>k=j/\Mj op k a b K
def Ue(P:Program)(op:BinOp)(t:TypeId)(c:Bool)(H:Prop):SV->SV->(SV->Prop)->Prop
 |.d (.int k a),.d (.int j b),K=>B1i op k j a b K
 |.d (.str a),.d (.str b),K=>A3j op a b K
 |.d (.bool a),.d (.bool b),K=>P.underlying t=some .bool/\B1c op a b K
 |.d .Hc,.d .Hc,K=>c=true/\Dc P t=true/\Vv op (some true) K
 |.d (.iface _ _),.d .Hc,K=>c=true/\Dc P t=true/\Vv op (some false) K
 |x,.d .Kx,K=>E5z P t=true/\Vv op (Pq x) K
 |x,.d .nil,K=>(Dt P t).isSome=true/\Vv op (Ph x) K
 |.agg _,.agg _,_=>H
 |_,_,_=>False
def Quiet(P:Program)(o:Oper)(sl:SL)(bx:Ab)(K:SV->Prop):Prop:=∃r,Br P o (Ao sl) bx r bx []/\K r
variable {o:Oper} {sl:SL} {bx:Ab} {K:SV->Prop}
theorem H2e{op:BinOp}{t u:TypeId}{x y:Operand}(J:o.op=.binOp op t x y u){k:IntKind}{a b:Int}(I:Ao sl x=.d (.int k a))(L:Ao sl y=.d (.int k b))(h:Mj op k a b K):Quiet P o sl bx K:=by
 have cmp:∀{c:Bool},B5i op a b=some c->K (.d (.bool c))->Quiet P o sl bx K:=λU O=>⟨_,H5c J I L U,O⟩;have E:∀{c:Int},C5b op k a b=some c->K (.d (.int k c))->Quiet P o sl bx K:=λU O=>⟨_,F0x J I L U,O⟩;have w:∀{z:Int},k=.i64->B4 z->k.wrap z=z:=λV W=>by subst V;exact wrap_i64 W
 unfold Mj at h;split at h
 .exact E rfl (by grind)
 .exact E rfl (by grind)
 .exact E rfl (by grind)
 .exact⟨_,D4o J I L h.1,by grind⟩
 .exact E rfl h
 .exact E rfl h
 .exact E rfl h
 .exact⟨_,D4o J I L h.1,h.2⟩
 .exact⟨_,G2c J I L h.1,h.2⟩
 .exact cmp rfl h
 .exact cmp rfl h
 .exact cmp rfl h
 .exact cmp rfl h
 .exact cmp rfl h
 .exact cmp rfl h
 grind
def D9r{op:BinOp}{t u:TypeId}{x y:Operand}(J:o.op=.binOp op t x y u){k j:IntKind}{m n r:Int}(U:Ao sl x=.d (.int k m))(V:Ao sl y=.d (.int j n))(W:0<=n)
  (hr:(op=.shr/\r=m.fdiv (2 ^ min n.toNat k.bits))\/(op=.shl/\r=k.wrap (m*2 ^ min n.toNat k.bits))):Br P o (Ao sl) bx (.d (.int k r)) bx [] :=
 .E4 λ_ _ w _ a _ O=>by
  have E:=(O x (mo J (by grind[Op.operands])));rw[U]at E;have E:=E.J2;have I:=(O y (mo J (by grind[Op.operands])));rw[V]at I;have I:=I.J2;refine⟨.int k r,?_,.int k r⟩;have L:¬n<0:=by omega
  rcases hr with⟨rfl,rfl⟩|⟨rfl,rfl⟩ <;> simp[execOp,J,E,I,B1a,binOp,Op.shift,L]
def H1r{op:BinOp}{t u:TypeId}{x y:Operand}(J:o.op=.binOp op t x y u){H:Prop}(U:H->Quiet P o sl bx K)(h:Ue P op t (A7c y) H (Ao sl x) (Ao sl y) K):Quiet P o sl bx K:=by
 unfold Ue at h;split at h
 .rename_i I E;unfold B1i at h;split at h
  .exact⟨_,D9r J I E h.1 (.inl ⟨rfl,rfl⟩),h.2⟩
  .exact⟨_,D9r J I E h.1 (.inr ⟨rfl,rfl⟩),h.2⟩
  grind[H2e]
 .rename_i I E;unfold A3j at h;split at h
  .exact⟨_,G6q J I E h.1,h.2⟩
  .exact⟨_,C0m J I E rfl,h⟩
  .exact⟨_,C0m J I E rfl,h⟩
  .exact⟨_,C0m J I E rfl,h⟩
  .exact⟨_,C0m J I E rfl,h⟩
  grind
 .rename_i I E;obtain⟨ht,h⟩:=h;unfold B1c at h;split at h
  .exact⟨_,E2o J ht I E rfl,h⟩
  .exact⟨_,E2o J ht I E rfl,h⟩
  grind
 .rename_i I E;obtain⟨O,ht,h⟩:=h;unfold Vv at h;split at h
  .rename_i L;exact⟨_,B6u J ht (by rw[I];exact L) E O rfl,h⟩
  .rename_i L;exact⟨_,B6u J ht (by rw[I];exact L) E O rfl,h⟩
  grind
 .rename_i I E;obtain⟨O,ht,h⟩:=h;unfold Vv at h;split at h
  .rename_i L;exact⟨_,B6u J ht (by rw[I];exact L) E O rfl,h⟩
  .rename_i L;exact⟨_,B6u J ht (by rw[I];exact L) E O rfl,h⟩
  grind
 .rename_i E;obtain⟨ht,h⟩:=h;unfold Vv at h;split at h
  .rename_i L;exact⟨_,D8f J ht L E rfl,h⟩
  .rename_i L;exact⟨_,D8f J ht L E rfl,h⟩
  grind
 .rename_i E;obtain⟨ht,h⟩:=h;obtain⟨e,ht⟩:=Tz.1 ht;unfold Vv at h;split at h
  .rename_i L;exact⟨_,D5w J ht L E rfl,h⟩
  .rename_i L;exact⟨_,D5w J ht L E rfl,h⟩
  grind
 .grind
 grind
def Z9(P:Program)(sl:SL)(bx:Ab)(op:Op)(r:SV):Prop:=∀o:Oper,o.op=op->Br P o (Ao sl) bx r bx []
def A6s(P:Program)(sl:SL)(bx:Ab)(op:Op)(K:SV->Prop):Prop:=∃r,Z9 P sl bx op r/\K r
def OpB(P:Program)(sl:SL)(bx:Ab)(dst:Option Nat)(op:Op)(r:SV)(bx':Ab)(pg:List Nat):Prop:=∀o:Oper,o.op=op->o.dst=dst->Br P o (Ao sl) bx r bx' pg
def A9f(P:Program)(sl:SL)(bx:Ab)(dst:Option Nat)(op:Op)(K:SV->Ab->List Nat->Prop):Prop:=∃r bx' pg,OpB P sl bx dst op r bx' pg/\K r bx' pg
def Lh{α:Type}:Option α->(α->Prop)->Prop
 |some c,K=>K c
 |none,_=>False
def A4p:Option Nat->SV->(SV->Prop)->Prop
 |some d,.box k off,K=>K (.box k (off+d))
 |some d,.A9 c off,K=>K (.A9 c (off+d))
 |some d,.d (.ptr c),K=>K (.A9 c (0+d))
 |some d,.Eg k i off,K=>K (.Eg k i (off+d))
 |_,_,_=>False
def Cx(P:Program)(T:TypeId)(f:Nat):Option (Nat × Bool × Nat):=match P.underlying T with
 |some (.struct fs)=>match fs[f]? with
  |some fd=>match Cr P fd.type,Be P fd.type with
   |some b,some n=>some (fd.offset,b,n)
   |_,_=>none
  |none=>none
 |_=>none
def B0a:Option (Nat × Bool × Nat)->SV->(SV->Prop)->Prop
 |some (d,true,n),.agg cs,K=>K (.agg (part cs d n))
 |some (d,false,_),.agg cs,K=>Lh (cs[d]?) K
 |_,_,_=>False
def C2x:Option Aq->Nat->Nat->Int->(SV->Prop)->Prop
 |some (.rows sz rows),q,m,i,K=>sz=m/\0<=i/\i.toNat<rows.length/\K (.Eg q i.toNat 0)
 |_,_,_,_,_=>False
def A5e(bx:Ab)(H:(SV->Prop)->Prop):Option Nat->SV->SV->(SV->Prop)->Prop
 |some m,.d (.slice rows),.d (.int _ i),K=>0<=i/\∃row,rows[i.toNat]?=some row/\row.length=m/\K (.A9 row 0)
 |some m,.acc q,.d (.int _ i),K=>C2x (A7 bx q) q m i K
 |none,.box _ _,.d (.int _ _),K=>H K
 |none,.undef,.d (.int _ _),K=>H K
 |_,_,_,_=>False
def Wp(P:Program)(T:Nat):Option Nat:=(Dt P T).bind (Be P)
def B6e:Option Aq->(SV->Prop)->Prop
 |some (.rows _ rows),K=>K (.d (.int .i64 rows.length))
 |_,_=>False
def A7d:Option TypeDesc->Option Aq->(SV->Prop)->Prop
 |some (.map _ _),some (.map kvs),K=>K (.d (.int .i64 kvs.length))
 |_,_,_=>False
def Wy(P:Program)(bx:Ab)(T:Nat):SV->(SV->Prop)->Prop
 |.d (.slice rows),K=>(Dt P T).isSome=true/\K (.d (.int .i64 rows.length))
 |.d .nil,K=>(Dt P T).isSome=true/\K (.d (.int .i64 0))
 |.d .emp,K=>(Dt P T).isSome=true/\K (.d (.int .i64 0))
 |.d (.str s),K=>P.underlying T=some .string/\K (.d (.int .i64 s.length))
 |.acc q,K=>(Dt P T).isSome=true/\B6e (A7 bx q) K
 |.mp q,K=>A7d (P.underlying T) (A7 bx q) K
 |.d (.map kvs),K=>A7d (P.underlying T) (some (.map kvs)) K
 |_,_=>False
def B6m(P:Program)(args:List SV)(bx:Ab)(H:(SV->Prop)->Prop):SV->(SV->Prop)->Prop
 |.Bf f caps,K=>∃r,((∃E,G7 [] (args++caps)=some E/\Aa P f E r/\r.closed=true)\/(∃E,G7 bx (args++caps)=some E/\Aa P f E r/\r.scalar=true))/\K r
 |_,K=>H K
def A2p(P:Program)(sl:SL)(bx:Ab):Callee->List Operand->List TypeId->(SV->Prop)->Prop
 |.value fo,args,Da,K=>B6m P (args.map (Ao sl)) bx (A6s P sl bx (.call ⟨.value fo,args.toArray,Da.toArray⟩)) (Ao sl fo) K
 |.builtin .len,[x],[T],K=>Wy P bx T (Ao sl x) K
 |c,args,Da,K=>A6s P sl bx (.call ⟨c,args.toArray,Da.toArray⟩) K
def C0z:SV->SV->SV->(SV->Prop)->Prop
 |.d (.bool t),x,y,K=>K (if t then x else y)
 |_,_,_,_=>False
def B6x:SV->(SV->Prop)->Prop
 |.d (.bool b),K=>K (.d (.bool (!b)))
 |_,_=>False
def B8r:SV->(SV->Prop)->Prop
 |.d (.int .i64 m),K=>B4 (0 - m)/\K (.d (.int .i64 (0 - m)))
 |_,_=>False
def B9b(P:Program)(T:Nat):SV->SV->(SV->Prop)->Prop
 |.d (.str s),.d (.int _ i),K=>P.underlying T=some .string/\0<=i/\∃c,s[i.toNat]?=some c/\K (.d (.int .u8 c.toNat))
 |_,_,_=>False
def B7p:SV->Nat->(SV->Prop)->Prop
 |.tuple xs,i,K=>Lh (xs[i]?) K
 |_,_,_=>False
def A9v:SV->(SV->Prop)->Prop
 |.box k off,K=>K (.box k off)
 |.A9 c off,K=>K (.A9 c off)
 |.d (.ptr c),K=>K (.d (.ptr c))
 |_,_=>False
def B1y(H:(SV->Prop)->Prop):Option TypeDesc->Option TypeDesc->SV->(SV->Prop)->Prop
 |some (.int _),some (.int E),.d (.int _ m),K=>K (.d (.int E (E.wrap m)))
 |some .string,some .string,.d (.str t),K=>K (.d (.str t))
 |_,_,_,K=>H K
def B4d(T:Nat):SV->(SV->Prop)->Prop
 |.d y,K=>K (.d (.iface T y))
 |.agg cs,K=>∃ds,cs=ds.map SV.d/\K (.d (.iface T (.agg ds)))
 |_,_=>False
def B9f:Option (List SV)->Option (List (Nat × Nat))->Option (List (Nat × List SV))->(SV->Prop)->Prop
 |some E,some ps,some l,K=>Lh (A0g ps E l) λout=>out.all SV.one=true/\K (.agg out)
 |_,_,_,_=>False
def A7b(m I:Nat):Option Nat->Option (List SV)->Option (List (List D))->(List (List D)->Prop)->Prop
 |some sz,some E,some rows,K=>1<=sz/\E.length=sz/\m*sz<=16777216/\I=m/\K rows
 |_,_,_,_=>False
def Ki(P:Program)(T:Nat):Nat:=(Dt P T).getD 0
def E7x(ok:Bool)(E:D)(kvs:List (D × D))(K:SV->Prop)(z:SV):Prop:=K (A1c ok E kvs z)
def B7a(P:Program)(I et:TypeId)(ok:Bool)(kvs:List (D × D))(K:SV->Prop)(E:D):Prop :=
 E7 P I E/\Lh (A4k P et) (E7x ok E kvs K)
def B7v(P:Program)(E et:TypeId)(ok:Bool)(x:SV)(K:SV->Prop):Option Aq->Prop
 |some (.map kvs)=>Mi P E=true/\(∀kv,kv∈kvs->E7 P E kv.1)/\Lh (Me x) (B7a P E et ok kvs K)
 |_=>False
def A8t(P:Program)(bx:Ab)(ok:Bool)(x:SV):Option TypeDesc->SV->(SV->Prop)->Prop
 |some (.map E et),.mp k,K=>B7v P E et ok x K (A7 bx k)
 |some (.map E et),.d (.map kvs),K=>Mi P E=true/\(∀kv,kv∈kvs->E7 P E kv.1)/\Lh (Me x) (B7a P E et ok kvs K)
 |_,_,_=>False
def loV:Option SV->Option Int
 |none=>some 0
 |some (.d (.int _ i))=>some i
 |_=>none
def hiV(n:Nat):Option SV->Option Int
 |none=>some n
 |some (.d (.int _ i))=>some i
 |_=>none
def cutAt(n:Nat)(K:Nat->Nat->Prop):Option Int->Option Int->Prop
 |some l,some h=>0<=l/\l<=h/\h<=n/\K l.toNat h.toNat
 |_,_=>False
def C5i(rows:List (List D))(I E:Option SV)(K:SV->Prop):Option Nat->Prop
 |some sz=>(∀row,row∈rows->row.length=sz)/\cutAt rows.length (λl h=>K (.d (.slice ((rows.take h).drop l)))) (loV I) (hiV rows.length E)
 |none=>False
def A7z(P:Program)(T:TypeId)(I E:Option SV):SV->(SV->Prop)->Prop
 |.d (.slice rows),K=>C5i rows I E K (Wp P T)
 |.d (.str s),K=>P.underlying T=some .string/\cutAt s.length (λl h=>K (.d (.str ((s.take h).drop l)))) (loV I) (hiV s.length E)
 |_,_=>False
def Hv(P:Program)(sl:SL)(bx:Ab):Op->(SV->Prop)->Prop
 |.move x,K=>K (Ao sl x)
 |.assign x,K=>K (Ao sl x)
 |.pick c x y,K=>C0z (Ao sl c) (Ao sl x) (Ao sl y) K
 |.load T x,K=>Lh (L5 P bx T (Ao sl x)) K
 |.binOp op t x y u,K=>Ue P op t (A7c y) (A6s P sl bx (.binOp op t x y u) K) (Ao sl x) (Ao sl y) K
 |.unOp .not _ x,K=>B6x (Ao sl x) K
 |.unOp .neg _ x,K=>B8r (Ao sl x) K
 |.fieldAddr T x f,K=>A4p (Cu P T f) (Ao sl x) K
 |.field T x f,K=>B0a (Cx P T f) (Ao sl x) K
 |.indexAddr T x y,K=>A5e bx (A6s P sl bx (.indexAddr T x y)) (Wp P T) (Ao sl x) (Ao sl y) K
 |.index T x y,K=>B9b P T (Ao sl x) (Ao sl y) K
 |.extract x i,K=>B7p (Ao sl x) i K
 |.nilCheck x,K=>A9v (Ao sl x) K
 |.convert s d x,K=>B1y (A6s P sl bx (.convert s d x)) (P.underlying s) (P.underlying d) (Ao sl x) K
 |.makeInterface T x,K=>Dc P T=false/\(P.underlying T).isSome=true/\B4d T (Ao sl x) K
 |.build T parts,K=>B9f (Cb P T) (L1 P T) (Yd (Ao sl) parts.toList) K
 |.buildSlice T m parts,K=>(Dt P T).isSome=true/\A7b m parts.size (Be P (Ki P T)) (Cb P (Ki P T)) (rowsOf (Ao sl) ((Be P (Ki P T)).getD 0) 0 parts.toList) λrows=>K (.d (.slice rows))
 |.call c,K=>A2p P sl bx c.callee c.args.toList c.argTypes.toList K
 |.makeFunc (.func f) ⟨[]⟩ caps,K=>K (.Bf f (caps.toList.map (Ao sl)))
 |.slice T x I E none,K=>A7z P T (I.map (Ao sl)) (E.map (Ao sl)) (Ao sl x) K
 |.lookup T m x ok,K=>A8t P bx ok (Ao sl x) (P.underlying T) (Ao sl m) K
 |op,K=>A6s P sl bx op K
theorem C0o{c:Call}(I:o.op=.call c)(h:A2p P sl bx c.callee c.args.toList c.argTypes.toList K):Quiet P o sl bx K:=by
 obtain⟨callee,args,Da⟩:=c;simp only at h;unfold A2p at h;split at h
 .rename_i fo _ _ _;unfold B6m at h;split at h
  .rename_i hf;obtain⟨r,h1|h1,hK⟩:=h
   .obtain⟨J,O,h3,V⟩:=h1;exact⟨_,G8w I hf O h3 V,hK⟩
   .obtain⟨J,O,h3,V⟩:=h1;exact⟨_,F6k I hf O h3 V,hK⟩
  .obtain⟨r,h1,O⟩:=h;exact⟨r,h1 o I,O⟩
 .rename_i x T E hT;have Z:args = #[x]:=by apply Kt;simpa using E
  have W:Da = #[T]:=by apply Kt;simpa using hT
  subst Z W;unfold Wy at h;split at h
  .rename_i E;obtain⟨e,L⟩:=Tz.1 h.1;exact⟨_,G7x I E L,h.2⟩
  .rename_i E;obtain⟨e,L⟩:=Tz.1 h.1;exact⟨_,D2f I (.inl E) L,h.2⟩
  .rename_i E;obtain⟨e,L⟩:=Tz.1 h.1;exact⟨_,D2f I (.inr E) L,h.2⟩
  .rename_i E;exact⟨_,G5p I E h.1,h.2⟩
  .rename_i E;obtain⟨h1,h⟩:=h;obtain⟨e,L⟩:=Tz.1 h1;unfold B6e at h;split at h
   .rename_i U;exact⟨_,F3s I E (Gu U) L,h⟩
   grind
  .rename_i E;generalize U:A7 bx _=ob at h;generalize hT:P.underlying _=ot at h;unfold A7d at h;split at h
   .exact⟨_,E6k I (by rw[E];exact .mp _ _ (Gu U)) hT,h⟩
   grind
  .rename_i E;generalize hT:P.underlying _=ot at h;unfold A7d at h;split at h
   .rename_i U;simp only[B5,Aq.map.injEq]at U;subst U;exact⟨_,E6k I (by rw[E];exact .d _) hT,h⟩
   grind
  grind
 .obtain⟨r,h1,O⟩:=h;exact⟨r,h1 o I,O⟩
theorem B3k{T m:Nat}(h:Wp P T=some m):∃e,Dt P T=some e/\Be P e=some m:=by grind[Wp,Dt]
theorem F0i{T:TypeId}{m x:Operand}{ok:Bool}(W:o.op=.lookup T m x ok)(h:A8t P bx ok (Ao sl x) (P.underlying T) (Ao sl m) K):Quiet P o sl bx K:=by
 have J:∀{E et:TypeId} {kvs:List (D × D)},P.underlying T=some (.map E et)->IsMap bx (Ao sl m) kvs->Mi P E=true->(∀kv,kv∈kvs->E7 P E kv.1)->Lh (Me (Ao sl x)) (B7a P E et ok kvs K)->Quiet P o sl bx K:=by
  intro E et kvs hT L U I h;unfold Lh at h;split at h
  .rename_i O;obtain⟨V,h⟩:=h;unfold Lh at h;split at h
   .rename_i Z;exact⟨_,G3z W L hT U O V I Z,h⟩
   grind
  .grind
 generalize L:Ao sl m=vm at h;generalize hT:P.underlying T=vT at h;unfold A8t at h;split at h
 .generalize hb:A7 bx _=ob at h;unfold B7v at h;split at h
  .exact J hT (by rw[L];exact .mp _ _ (Gu hb)) h.1 h.2.1 h.2.2
  grind
 .exact J hT (by rw[L];exact .d _) h.1 h.2.1 h.2.2
 grind
theorem H0a{T:TypeId}{x:Operand}{f:Nat}(W:o.op=.field T x f)(h:B0a (Cx P T f) (Ao sl x) K):Quiet P o sl bx K:=by
 generalize E:Cx P T f=pl at h;unfold Cx at E;split at E
 .rename_i fs hT;split at E
  .rename_i fd V;split at E
   .rename_i b m Z hs;subst E;unfold B0a at h;split at h
    .rename_i O U;simp only[B5,Fp]at O;obtain⟨L,I,J⟩:=O;subst L I J;exact⟨_,F2v W U hT V rfl rfl Z hs,h⟩
    .rename_i O U;simp only[B5,Fp]at O;obtain⟨L,I,J⟩:=O;subst L I J;unfold Lh at h;split at h
     .rename_i hc;exact⟨_,G0b W U hT V rfl rfl Z hc,h⟩
     grind
    grind
   .subst E;exact h.elim
  .subst E;exact h.elim
 .subst E;exact h.elim
def D9w{E:Option Operand}{l:Int}(h:loV (E.map (Ao sl))=some l)(I:0<=l):Zt (Ao sl) E=some l.toNat:=by
 cases E with
 |none=>simp only[Ap5,loV,B5]at h;subst h;rfl
 |some y =>simp only[Ez]at h;unfold Zt;simp only;generalize Ao sl y=v at h;cases v <;> simp only[loV,reduceCtorEq]at h;rename_i d;cases d <;> simp only[loV,reduceCtorEq]at h;simp only[B5]at h;subst h;simp[I]
def E0p{E:Option Operand}{n:Nat}{l:Int}(h:hiV n (E.map (Ao sl))=some l)(I:0<=l):hiN (Ao sl) n E=some l.toNat:=by
 cases E with
 |none=>simp only[Ap5,hiV,B5]at h;subst h;rfl
 |some y =>simp only[Ez]at h;unfold hiN;simp only;generalize Ao sl y=v at h;cases v <;> simp only[hiV,reduceCtorEq]at h;rename_i d;cases d <;> simp only[hiV,reduceCtorEq]at h;simp only[B5]at h;subst h;simp[I]
def D7u{n:Nat}{K:Nat->Nat->Prop}{a b:Option Int}(h:cutAt n K a b):∃l k,a=some l/\b=some k/\0<=l/\l<=k/\k<=n/\K l.toNat k.toNat:=by
 unfold cutAt at h
 grind
theorem E8q{T:TypeId}{x:Operand}{W V:Option Operand}(U:o.op=.slice T x W V none)(h:A7z P T (W.map (Ao sl)) (V.map (Ao sl)) (Ao sl x) K):Quiet P o sl bx K:=by
 unfold A7z at h;split at h
 .rename_i E;generalize hs:Wp P T=os at h;cases os with
  |none=>exact h.elim
  |some sz =>obtain⟨e,hT,hs⟩:=B3k hs;obtain⟨hr,h⟩:=h;obtain⟨l,k,I,J,L,Z,h5,O⟩:=D7u h;exact⟨_,G8c U E hT hs hr (D9w I L) (E0p J (by omega)) (by omega) (by omega),O⟩
 .rename_i E;obtain⟨hT,h⟩:=h;obtain⟨l,k,I,J,L,Z,h5,O⟩:=D7u h;exact⟨_,G1t U E hT (D9w I L) (E0p J (by omega)) (by omega) (by omega),O⟩
 grind
def B9c(h:Hv P sl bx o.op K):Quiet P o sl bx K:=by
 unfold Hv at h;split at h
 .rename_i E;exact⟨_,F6p E,h⟩
 .rename_i E;exact⟨_,G8h E,h⟩
 .rename_i E;unfold C0z at h;split at h
  .rename_i V;exact⟨_,F5j E V,h⟩
  grind
 .rename_i E;unfold Lh at h;split at h
  .rename_i V;exact⟨_,E8o E V,h⟩
  grind
 .rename_i E;exact H1r E (λ⟨r,L,J⟩=>⟨r,L _ E,J⟩) h
 .rename_i E;unfold B6x at h;split at h
  .rename_i V;exact⟨_,G3y E V,h⟩
  grind
 .rename_i E;unfold B8r at h;split at h
  .rename_i V;refine⟨_,G8v E V,?_⟩;rw[wrap_i64 h.1];grind
  grind
 .rename_i E;unfold A4p at h;split at h
  .rename_i O I;exact⟨_,E8n E I O,h⟩
  .rename_i O I;exact⟨_,D2z E (by rw[I];exact .A9 _ _) O,h⟩
  .rename_i O I;exact⟨_,D2z E (by rw[I];exact .ptr _) O,h⟩
  .rename_i O I;exact⟨_,F3n E I O,h⟩
  grind
 .grind[H0a]
 .rename_i E;unfold A5e at h;split at h
  .rename_i hs I hy;obtain⟨e,hT,hs⟩:=B3k hs;obtain⟨h0,row,hr,hl,hK⟩:=h;exact⟨_,H0t E I hy hT hs h0 hr hl,hK⟩
  .rename_i hs I hy;obtain⟨e,hT,hs⟩:=B3k hs;generalize hb:A7 bx _=ob at h;cases ob with
   |none=>exact h.elim
   |some bc =>
    cases bc with
    |rows sz rows =>obtain⟨L,J,W,U⟩:=h;exact⟨_,H4y E I (Gu hb) hy hT hs L J W,U⟩
    |cells _=>exact h.elim
    |map _=>exact h.elim
    |iter _ _=>exact h.elim
    |ghost _ _=>exact h.elim
  .obtain⟨r,L,J⟩:=h;exact⟨r,L _ E,J⟩
  .obtain⟨r,L,J⟩:=h;exact⟨r,L _ E,J⟩
  grind
 .rename_i E;unfold B9b at h;split at h
  .rename_i I hy;obtain⟨L,J,c,W,U⟩:=h;exact⟨_,G6w E I hy L J W,U⟩
  grind
 .rename_i E;unfold B7p at h;split at h
  .rename_i I;unfold Lh at h;split at h
   .rename_i hr;exact⟨_,G2y E I hr,h⟩
   grind
  grind
 .rename_i E;unfold A9v at h;split at h
  .rename_i I;exact⟨_,H1y E I,h⟩
  .rename_i I;exact⟨_,C9r E (by rw[I];exact .A9 _ _),by grind⟩
  .rename_i I;exact⟨_,C9r E (by rw[I];exact .ptr _),by grind⟩
  grind
 .rename_i E;unfold B1y at h;split at h
  .rename_i hs hd I;exact⟨_,G7y E hs hd I,h⟩
  .rename_i hs hd I;exact⟨_,F9r E hs hd I,h⟩
  .obtain⟨r,L,J⟩:=h;exact⟨r,L o E,J⟩
 .rename_i E;obtain⟨L,J,h⟩:=h;obtain⟨d,hd⟩:=Tz.1 J;have hn:(match d with| .interface _=>false|_=>true)=true:=by
   unfold Dc at L;rw[hd]at L;cases d <;> simp_all
  unfold B4d at h;split at h
  .rename_i I;exact⟨_,H1z E I hd hn,h⟩
  .rename_i I;obtain⟨ds,W,U⟩:=h;exact⟨_,H4i E (by grind) hd hn,U⟩
  grind
 .rename_i E;unfold B9f at h;split at h
  .rename_i hz hp hl;unfold Lh at h;split at h
   .rename_i O;exact⟨_,G8j E hz hp hl O h.1,h.2⟩
   grind
  grind
 .rename_i T m parts E;obtain⟨h0,h⟩:=h;obtain⟨e,hT⟩:=Tz.1 h0;have he:Ki P T=e:=by unfold Ki;rw[hT];rfl
  rw[he]at h;unfold A7b at h;split at h
  .rename_i hs hz hr;obtain⟨h0,L,J,W,U⟩:=h;rw[hs]at hr;have Z:∀{m sz:Nat},m*sz<=16777216->1<=sz->m<=lim:=λ{m sz} h h'=>by
    have:m*1<=m*sz:=Ak9 _ h';unfold lim;omega
   exact⟨_,E1o E hT hs hz L J W hr (Z J h0),U⟩
  grind
 .grind[C0o]
 .rename_i E;exact⟨_,F9d E,h⟩
 .grind[E8q]
 .grind[F0i]
 .obtain⟨r,L,J⟩:=h;exact⟨r,L o rfl,J⟩
end Go.Abs
namespace Go.Abs
open Go
variable {P:Program} {o:Oper} {sl:SL} {bx:Ab}
def E9(P:Program)(e:TypeId):Option Nat:=(P.info? e).map (·.bytes)
abbrev KB:=SV->Ab->List Nat->Prop
def C7r(bytes sz:Nat)(xs:List (List D))(bx:Ab)(k:Nat):Option Aq->KB->Prop
 |some (.rows E rs),K=>E=sz/\k<=999999/\(rs.length+xs.length)*bytes<=lim/\K (.acc k) ((k,.rows sz (rs++xs))::H8 k (Cd k bx)) [k]
 |_,_=>False
def Zs(bytes sz:Nat)(xs:List (List D))(bx:Ab):SV->Option Nat->KB->Prop
 |.acc k,_,K=>C7r bytes sz xs bx k (A7 bx k) K
 |.d .nil,some k,K=>k<=999999/\xs.length*bytes<=lim/\K (.acc k) ((k,.rows sz xs)::H8 k (Cd k bx)) [k]
 |_,_,_=>False
def C4o(bytes sz:Nat)(bx:Ab)(x:SV)(dst:Option Nat):Option Aq->KB->Prop
 |some (.rows E xs),K=>E=sz/\Zs bytes sz xs bx x dst K
 |_,_=>False
def A5u(bytes sz:Nat)(bx:Ab)(x:SV)(dst:Option Nat):SV->KB->Prop
 |.d .nil,K=>Zs bytes sz [] bx x dst K
 |.d .emp,K=>Zs bytes sz [] bx x dst K
 |.d (.slice xs),K=>(∀row,row∈xs->row.length=sz)/\Zs bytes sz xs bx x dst K
 |.acc q,K=>C4o bytes sz bx x dst (A7 bx q) K
 |_,_=>False
def B9n(bx:Ab)(dst:Option Nat)(x y:SV):Option Nat->Option (List SV)->Option Nat->KB->Prop
 |some sz,some E,some bytes,K=>E.length=sz/\bytes≠0/\A5u bytes sz bx x dst y K
 |_,_,_,_=>False
def C2j(bx:Ab)(k i off:Nat)(us:List SV):Option Aq->KB->Prop
 |some (.rows sz rows),K=>∃row ds,rows[i]?=some row/\us=ds.map SV.d/\off+us.length<=row.length/\K (.tuple []) ((k,.rows sz (rows.set i (Gy row off ds)))::Cd k bx) []
 |_,_=>False
def C6u(bx:Ab)(k off:Nat)(us:List SV):Option Aq->KB->Prop
 |some (.cells cs),K=>off+us.length<=cs.length/\K (.tuple []) ((k,.cells (Gy cs off us))::Cd k bx) []
 |_,_=>False
def B4z(bx:Ab)(size:Option Nat):SV->Option (List SV)->KB->Prop
 |.box k off,some us,K=>size=some us.length/\C6u bx k off us (A7 bx k) K
 |.Eg k i off,some us,K=>size=some us.length/\C2j bx k i off us (A7 bx k) K
 |_,_,_=>False
def B7o(P:Program)(args:List SV)(bx:Ab):SV->Option Nat->KB->Prop
 |.Bf f caps,some k,K=>k<=999999/\∃E q sz rows r,G7 [] (args++caps)=some E/\C8 P f E [] r [(q,.rows sz rows)]/\K (A6g q k r) ((k,.rows sz rows)::H8 k (Cd k bx)) [k]
 |_,_,_=>False
def A7r(bx:Ab):Option Nat->Option (List SV)->KB->Prop
 |some k,some cs,K=>k<=999999/\K (.box k 0) ((k,.cells (cs.map (Ly k)))::H8 k (Cd k bx)) [k]
 |_,_,_=>False
def B7g(bx:Ab):Option Nat->Option Nat->List (List D)->KB->Prop
 |some k,some sz,rows,K=>k<=999999/\K (.acc k) ((k,.rows sz rows)::H8 k (Cd k bx)) [k]
 |_,_,_,_=>False
def C1b(bx:Ab):Option Nat->KB->Prop
 |some k,K=>k<=999999/\K (.mp k) ((k,.map [])::H8 k (Cd k bx)) [k]
 |_,_=>False
def C9q(bx:Ab)(k:Nat)(K:KB)(kvs:List (D × D))(I E:D):Prop:=K (.tuple []) ((k,.map (Wf I E kvs))::Cd k bx) []
def D9a(P:Program)(bx:Ab)(k:Nat)(y:SV)(K:KB)(I:TypeId)(kvs:List (D × D))(E:D):Prop:=E7 P I E/\Lh (Me y) (C9q bx k K kvs E)
def B7y(P:Program)(bx:Ab)(k:Nat)(x y:SV)(K:KB)(E:TypeId):Option Aq->Prop
 |some (.map kvs)=>Mi P E=true/\(∀kv,kv∈kvs->E7 P E kv.1)/\Lh (Me x) (D9a P bx k y K E kvs)
 |_=>False
def B5o(P:Program)(bx:Ab)(x y:SV):Option TypeDesc->SV->KB->Prop
 |some (.map E _),.mp k,K=>B7y P bx k x y K E (A7 bx k)
 |_,_,_=>False
def B8f(bx:Ab)(sz k:Nat)(i:Int)(K:KB):Option Aq->Prop
 |some (.rows E rs)=>E=sz/\0<=i/\i<=rs.length/\K (.acc k) ((k,.rows sz (rs.drop i.toNat))::H8 k (Cd k bx)) [k]
 |_=>False
def B9e(bx:Ab):Option Nat->SV->SV->KB->Prop
 |some sz,.acc k,.d (.int _ i),K=>k<=999999/\B8f bx sz k i K (A7 bx k)
 |_,_,_,_=>False
def A7q:List SV->Option Nat
 |[]=>none
 |.mp k::_=>some k
 |.box k _::_=>some k
 |_::r=>A7q r
def A9i(own:List Nat):List SV->Option Nat
 |[]=>none
 |.acc k::r=>if own.contains (500000+k)=true then some k else A9i own r
 |_::r=>A9i own r
def orElse(a b:Option Nat):Option Nat:=match a with
 |some k=>some k
 |none=>b
def B9d(P:Program)(args:List SV)(bx:Ab)(k:Nat):SV->Option Aq->KB->Prop
 |.Bf f caps,some c,K=>c.closed=true/\∃E r I,A0a k 1000000 (args++caps)=some E/\I.closed=true /\
   C8 P f E [(1000000,c)] r [(1000000,I)]/\r.closed=true/\K r ((k,I)::Cd k bx) []
 |_,_,_=>False
def A2c(bx:Ab)(K:KB):SV->Prop:=λr=>K r bx []
def G1o(bx:Ab)(K:KB)(r:SV):A2c bx K r=K r bx []:=rfl
def B9g(P:Program)(sl:SL)(bx:Ab)(fo:Operand)(args:List Operand)(Da:List TypeId):Option Nat->KB->Prop
 |none,K=>A2p P sl bx (.value fo) args Da (A2c bx K)
 |some k,K=>B9d P (args.map (Ao sl)) bx k (Ao sl fo) (A7 bx k) K
def unD:List SV->Option (List D)
 |[]=>some []
 |.d x::r=>match unD r with
  |some l=>some (x::l)
  |none=>none
 |_::_=>none
def E1p:∀{I:List SV} {E:List D},unD I=some E->I=E.map SV.d
 |[],E,h=>by simp only[unD,B5]at h;subst h;rfl
 |x::r,E,h=>by
  cases x <;> simp only[unD,reduceCtorEq]at h;cases hr:unD r with
  |none=>grind
  |some l =>simp only[hr,B5]at h;subst h;rw[E1p hr];rfl
def C0u(bx:Ab)(k sz:Nat)(n:Int)(K:KB):Option (List D)->Prop
 |some E=>E.all D.one=true/\K (.acc k) ((k,.rows sz (List.replicate n.toNat E))::H8 k (Cd k bx)) [k]
 |none=>False
def B8k(bx:Ab):Option Nat->SV->SV->Option Nat->Option (List SV)->Option Nat->KB->Prop
 |some k,.d (.int _ n),.d (.int _ m),some sz,some E,some bytes,K=>k<=999999/\1<=sz/\E.length=sz/\bytes≠0/\0<=n/\n<=m/\m*(bytes:Int)<=(lim:Int)/\C0u bx k sz n K (unD E)
 |_,_,_,_,_,_,_=>False
def A8g(bx:Ab)(k sz:Nat)(xs:List (List D))(K:KB):Option Aq->Prop
 |some (.rows E rs)=>E=sz/\xs.length<=rs.length/\K (.d (.int .i64 xs.length)) ((k,.rows sz (xs++rs.drop xs.length))::Cd k bx) []
 |_=>False
def C5s(bx:Ab)(k sz:Nat)(K:KB):Option Aq->Prop
 |some (.rows E xs)=>E=sz/\A8g bx k sz xs K (A7 bx k)
 |_=>False
def B0c(bx:Ab):Option Nat->SV->SV->KB->Prop
 |some sz,.acc k,.d (.slice xs),K=>(∀row,row∈xs->row.length=sz)/\A8g bx k sz xs K (A7 bx k)
 |some sz,.acc k,.d .nil,K=>A8g bx k sz [] K (A7 bx k)
 |some sz,.acc k,.acc q,K=>C5s bx k sz K (A7 bx q)
 |_,_,_,_=>False
def C7e:SV->Bool
 |.acc _=>true
 |_=>false
def B6r(own:List Nat):Option Nat->Bool
 |some k=>own.contains k
 |none=>false
def B6o(P:Program)(bx:Ab)(Y:Gx)(l:Nat)(K:KB):Option Nat->List SV->Prop
 |some j,[x]=>∃y,coerce [] x=some y/\Y.P=P/\Y.l=l/\j<Y.N/\Y.xs j=y/\K (.d (.bool (Y.go j))) ((1000000,.ghost Y (Y.next j))::Cd 1000000 bx) []
 |_,_=>False
def B4t(P:Program)(bx:Ab)(Y:Gx)(st:Option Nat)(args:List SV)(K:KB):SV->Prop
 |.Bf f caps=>∃E r st',G7 [] (args++caps)=some E/\C8 P f E [(1000000,.ghost Y st)] r [(1000000,.ghost Y st')]/\r.closed=true/\K r ((1000000,.ghost Y st')::Cd 1000000 bx) []
 |.Eo l=>B6o P bx Y l K st args
 |_=>False
def B8g(P:Program)(bx:Ab)(f:SV)(args:List SV)(K:KB):Option Aq->Prop
 |some (.ghost Y st)=>B4t P bx Y st args K f
 |_=>False
def C0v(own:List Nat):Option Nat->Bool
 |some k=>own.contains (700000+k)
 |none=>own.contains 799999
def B1v(P:Program)(E:List Nat)(sl:SL)(bx:Ab)(fo:Operand)(args:List Operand)(Da:List TypeId)(K:KB):Bool->Prop
 |true=>B8g P bx (Ao sl fo) (args.map (Ao sl)) K (A7 bx 1000000)
 |false=>B9g P sl bx fo args Da (orElse (A9i E (args.map (Ao sl))) (A7q (args.map (Ao sl)))) K
def B2e(own:List Nat):Option Nat->Bool
 |some k=>own.contains (800000+k)
 |none=>false
def B3t(P:Program)(E:List Nat)(sl:SL)(bx:Ab)(dst:Option Nat)(fo:Operand)(args:List Operand)(Da:List TypeId)(K:KB):Bool->Prop
 |true=>A9f P sl bx dst (.call ⟨.value fo,args.toArray,Da.toArray⟩) K
 |false=>B1v P E sl bx fo args Da K (C0v E dst)
def Wm(P:Program)(own:Bool)(E:List Nat)(sl:SL)(bx:Ab)(dst:Option Nat):Callee->List Operand->List TypeId->KB->Prop
 |.builtin .append,[x,y],[T,U],K=>Jg P U=true/\(Dt P T).isSome=true/\B9n bx dst (Ao sl x) (Ao sl y) (Be P (Ki P T)) (Cb P (Ki P T)) (E9 P (Ki P T)) K
 |.builtin .copy,[x,y],[T,_],K=>B0c bx (Wp P T) (Ao sl x) (Ao sl y) K
 |.value fo,args,Da,K=>match own with
  |true=>B7o P (args.map (Ao sl)) bx (Ao sl fo) dst K
  |false=>B3t P E sl bx dst fo args Da K (B2e E dst)
 |.builtin .delete,args,Da,K=>A9f P sl bx dst (.call ⟨.builtin .delete,args.toArray,Da.toArray⟩) K
 |c,args,Da,K=>A2p P sl bx c args Da (A2c bx K)
def Hq(P:Program)(own:List Nat)(dst:Option Nat)(sl:SL)(bx:Ab):Op->KB->Prop
 |.alloc T,K=>A7r bx dst (Cb P T) K
 |.box _ x,K=>A7r bx dst (content (Ao sl x)) K
 |.store T x y,K=>B4z bx (Be P T) (Ao sl x) (content (Ao sl y)) K
 |.call c,K=>Wm P (B6r own dst) own sl bx dst c.callee c.args.toList c.argTypes.toList K
 |.makeMap _ none,K=>C1b bx dst K
 |.makeSlice T x y,K=>(Dt P T).isSome=true/\B8k bx dst (Ao sl x) (Ao sl y) (Be P (Ki P T)) (Cb P (Ki P T)) (E9 P (Ki P T)) K
 |.mapUpdate T m x y,K=>B5o P bx (Ao sl x) (Ao sl y) (P.underlying T) (Ao sl m) K
 |.slice T x (some y) none none,K=>match C7e (Ao sl x)with
  |true=>B9e bx (Wp P T) (Ao sl x) (Ao sl y) K
  |false=>Hv P sl bx (.slice T x (some y) none none) (A2c bx K)
 |.buildSlice T m parts,K=>match B6r own dst with
  |true=>(Dt P T).isSome=true/\A7b m parts.size (Be P (Ki P T)) (Cb P (Ki P T)) (rowsOf (Ao sl) ((Be P (Ki P T)).getD 0) 0 parts.toList) λrows=>B7g bx dst (Be P (Ki P T)) rows K
  |false=>Hv P sl bx (.buildSlice T m parts) (A2c bx K)
 |.insert T m x y,K=>A9f P sl bx dst (.insert T m x y) K
 |.range T x,K=>A9f P sl bx dst (.range T x) K
 |.next x b,K=>A9f P sl bx dst (.next x b) K
 |.entry x,K=>A9f P sl bx dst (.entry x) K
 |.makeFunc f E caps,K=>match B2e own dst with
  |true=>A6s P sl bx (.makeFunc f E caps) (A2c bx K)
  |false=>Hv P sl bx (.makeFunc f E caps) (A2c bx K)
 |op,K=>Hv P sl bx op (A2c bx K)
def B5w{T U e sz bytes:Nat}{x y:Operand}(V:o.op=.call { callee:=.builtin .append,args:=#[x,y],argTypes:=#[T,U] }){xs:List (List D)}{K:KB}(hE:A9w P T e sz bytes)(hU:Jg P U=true)
  (hs:V7 bx sz (Ao sl y) xs)(h:Zs bytes sz xs bx (Ao sl x) o.dst K):∃r bx' pg,Br P o (Ao sl) bx r bx' pg/\K r bx' pg:=by
 generalize L:Ao sl x=vx at h;generalize I:o.dst=dd at h;unfold Zs at h;split at h
 .generalize hb:A7 bx _=ob at h;cases ob with
  |none=>exact h.elim
  |some J =>
   cases J with
   |rows E rs =>
    obtain⟨Z,h0,O,W⟩:=h
    grind[G4h,Gu]
   |cells _=>exact h.elim
   |map _=>exact h.elim
   |iter _ _=>exact h.elim
   |ghost _ _=>exact h.elim
 .grind[G4u]
 grind
def G9r{own:Bool}{Z:List Nat}{c:Call}{K:KB}(L:o.op=.call c)(h:Wm P own Z sl bx o.dst c.callee c.args.toList c.argTypes.toList K):∃r bx' pg,Br P o (Ao sl) bx r bx' pg/\K r bx' pg:=by
 have q:∀{K':SV->Prop},Quiet P o sl bx K'->(∀r,K' r->K r bx [])->∃r bx' pg,Br P o (Ao sl) bx r bx' pg/\K r bx' pg:=by rintro K' ⟨r,O,J⟩ hk;exact⟨r,bx,[],O,hk r J⟩
 obtain⟨callee,args,Da⟩:=c;simp only at h;cases callee with
 |value fo =>
  simp only[Wm]at h;split at h
  .generalize hf:Ao sl fo=vf at h;generalize aa:o.dst=dd at h;unfold B7o at h
   grind[H2j]
  .generalize ad:B2e Z o.dst=I at h;cases I with
   |true =>simp only[B3t]at h;obtain⟨r,bx',pg,O,J⟩:=h;exact⟨r,bx',pg,O o L rfl,J⟩
   |false =>
   simp only[B3t]at h;generalize ac:C0v Z o.dst=gb at h;cases gb with
   |true =>
    simp only[B1v]at h;generalize hf:Ao sl fo=vf at h;generalize I:A7 bx 1000000=ob at h;unfold B8g at h;split at h
    .have ab:=Gu I;unfold B4t at h;split at h
     .grind[G8k]
     .generalize a4:args.toList.map (Ao sl)=al at h;unfold B6o at h;split at h
      .obtain⟨y,O,J,h3,hN,h4,h5⟩:=h;obtain⟨xo,a7⟩:∃xo,args = #[xo]:=by
        have hl:=Gi List.length a4;simp only[Bc,Bg,Ca,Ao8]at hl;obtain⟨l⟩:=args
        match l,hl with
        |[xo],_=>simp
       subst a7;simp only[Ck,G3,Z2,Sn]at a4
       grind[F4b]
      grind
     grind
    grind
   |false =>
   simp only[B1v]at h;unfold B9g at h;split at h
   .exact q (C0o (c:=⟨.value fo,args,Da⟩) L h) λ_ h=>h
   .generalize hf:Ao sl fo=vf at h;generalize I:A7 bx _=ob at h;unfold B9d at h;split at h
    .obtain⟨n2,a5,r,c',O,n4,J,h3,h4⟩:=h;exact⟨_,_,_,F1x L hf (Gu I) (by omega) n2 n4 O J h3,h4⟩
    grind
 |invoke r m =>simp only[Wm]at h;exact q (C0o (c:=⟨.invoke r m,args,Da⟩) L h) λ_ h=>h
 |builtin b =>
 unfold Wm at h;split at h
 .rename_i x y T U E hx hT;simp only[As7]at E;subst E;have V:args = #[x,y]:=by apply Kt;simpa using hx
  have a0:Da = #[T,U]:=by apply Kt;simpa using hT
  subst V a0;obtain⟨hU,h0,h⟩:=h;obtain⟨e,he⟩:=Tz.1 h0;have a8:Ki P T=e:=by unfold Ki;rw[he];rfl
  rw[a8]at h;generalize hs:Be P e=os at h;generalize hz:Cb P e=oz at h;generalize I:E9 P e=ob at h;unfold B9n at h;split at h
  .rename_i sz zs bytes;obtain⟨O,J,h⟩:=h;have hE:A9w P T e sz bytes:=⟨he,hs,by grind,I,J⟩;generalize hy:Ao sl y=vy at h;unfold A5u at h;split at h
   .exact B5w L hE hU (by rw[hy];exact .nil) h
   .exact B5w L hE hU (by rw[hy];exact .emp) h
   .exact B5w L hE hU (by rw[hy];exact .slice _ h.1) h.2
   .generalize I:A7 bx _=ob at h;cases ob with
    |none=>exact h.elim
    |some bc =>
     cases bc with
     |rows a3 rs =>obtain⟨h3,h⟩:=h;subst h3;exact B5w L hE hU (by rw[hy];exact .acc _ _ (Gu I)) h
     |cells _=>exact h.elim
     |map _=>exact h.elim
     |iter _ _=>exact h.elim
     |ghost _ _=>exact h.elim
   grind
  grind
 .rename_i x y T U E hx hT;simp only[As7]at E;subst E;have V:args = #[x,y]:=by apply Kt;simpa using hx
  have a0:Da = #[T,U]:=by apply Kt;simpa using hT
  subst V a0;generalize hs:Wp P T=os at h;have a1:∀{K2:KB} {sz k:Nat} {xs:List (List D)},some sz=Wp P T->Ao sl x=.acc k->V7 bx sz (Ao sl y) xs->A8g bx k sz xs K2 (A7 bx k)->∃r bx' pg,Br P o (Ao sl) bx r bx' pg/\K2 r bx' pg:=by
   intro K2 sz k xs a6 a' a9 h;obtain⟨e,hT,hs⟩:=B3k a6.symm;generalize I:A7 bx k=ob at h;cases ob with
   |none=>exact h.elim
   |some bc =>
    cases bc with
    |rows a3 rs =>
     obtain⟨rfl,O,J⟩:=h
     grind[G6h,Gu]
    |cells _=>exact h.elim
    |map _=>exact h.elim
    |iter _ _=>exact h.elim
    |ghost _ _=>exact h.elim
  generalize a2:Ao sl x=vx at h;generalize W:Ao sl y=vy at h;unfold B0c at h;split at h
  .exact a1 hs.symm a2 (by rw[W];exact .slice _ h.1) h.2
  .exact a1 hs.symm a2 (by rw[W];exact .nil) h
  .generalize I:A7 bx _=ob at h;cases ob with
   |none=>exact h.elim
   |some bc =>
    cases bc with
    |rows a3 xs =>obtain⟨rfl,h⟩:=h;exact a1 hs.symm a2 (by rw[W];exact .acc _ _ (Gu I)) h
    |cells _=>exact h.elim
    |map _=>exact h.elim
    |iter _ _=>exact h.elim
    |ghost _ _=>exact h.elim
  grind
 .grind
 .rename_i E;simp only[As7]at E;subst E;obtain⟨r,bx',pg,O,J⟩:=h;exact⟨r,bx',pg,O o L rfl,J⟩
 .exact q (C0o (c:=⟨.builtin b,args,Da⟩) L h) λ_ h=>h
def E5w{own:List Nat}{K:KB}(h:Hq P own o.dst sl bx o.op K):∃r bx' pg,Br P o (Ao sl) bx r bx' pg/\K r bx' pg:=by
 have q:∀{K':SV->Prop},Quiet P o sl bx K'->(∀r,K' r->K r bx [])->∃r bx' pg,Br P o (Ao sl) bx r bx' pg/\K r bx' pg:=by rintro K' ⟨r,J,I⟩ hk;exact⟨r,bx,[],J,hk r I⟩
 generalize E:o.op=op at h;unfold Hq at h;split at h
 .generalize hz:Cb P _=oz at h;generalize L:o.dst=dd at h;unfold A7r at h
  grind[D0t]
 .generalize hz:content _=oz at h;generalize L:o.dst=dd at h;unfold A7r at h
  grind[G7e]
 .generalize U:Ao sl _=vx at h;generalize a0:content _=ous at h;unfold B4z at h;split at h
  .obtain⟨hs,h⟩:=h;generalize O:A7 bx _=ob at h;cases ob with
   |none=>exact h.elim
   |some bc =>
    cases bc with
    |cells cs=>exact⟨_,_,_,E2x E U (Gu O) a0 hs h.1,h.2⟩
    |rows _ _=>exact h.elim
    |map _=>exact h.elim
    |iter _ _=>exact h.elim
    |ghost _ _=>exact h.elim
  .obtain⟨hs,h⟩:=h;generalize O:A7 bx _=ob at h;cases ob with
   |none=>exact h.elim
   |some bc =>
    cases bc with
    |rows sz rows =>
     obtain⟨row,ds,J,I,h3,h4⟩:=h
     grind[G4y,Gu]
    |cells _=>exact h.elim
    |map _=>exact h.elim
    |iter _ _=>exact h.elim
    |ghost _ _=>exact h.elim
  grind
 .exact G9r E h
 .generalize L:o.dst=dd at h;unfold C1b at h
  grind[G8g]
 .rename_i T x y;obtain⟨V,h⟩:=h;obtain⟨e,hT⟩:=Tz.1 V;have he:Ki P T=e:=by unfold Ki;rw[hT];rfl
  rw[he]at h;generalize U:Ao sl x=vx at h;generalize Z:Ao sl y=vy at h;generalize hs:Be P e=os at h;generalize hz:Cb P e=oz at h;generalize O:E9 P e=ob at h;generalize L:o.dst=dd at h;unfold B8k at h;split at h
  .obtain⟨k1,k2,k3,k4,k5,k6,k7,h⟩:=h;unfold C0u at h;split at h
   .rename_i hu;have a2:=E1p hu;exact⟨_,_,_,G4d k1 E U Z ⟨hT,hs,by grind,O,k4⟩ (by grind) (λd hd=>Dm.1 h.1 d hd) k5 k6 k7 k2,h.2⟩
   grind
  grind
 .rename_i m x y;generalize hm:Ao sl m=vm at h;generalize hT:P.underlying _=vT at h;unfold B5o at h;split at h
  .generalize O:A7 bx _=ob at h;unfold B7y at h;split at h
   .obtain⟨J,I,h⟩:=h;generalize U:Me (Ao sl x)=vx at h;unfold Lh at h;split at h
    .obtain⟨h3,h⟩:=h;generalize Z:Me (Ao sl y)=vy at h;unfold Lh at h;split at h
     .exact⟨_,_,_,F4m E hm (Gu O) hT J U h3 I Z,h⟩
     grind
    grind
   grind
  grind
 .split at h
  .generalize U:Ao sl _=vx at h;generalize Z:Ao sl _=vy at h;generalize hs:Wp P _=vs at h;unfold B9e at h;split at h
   .obtain⟨V,h⟩:=h;generalize O:A7 bx _=ob at h;unfold B8f at h
    grind[B3k,H4f,Gu]
   grind
  .exact q (B9c (by rw[E];exact h)) λ_ h=>h
 .rename_i T m parts;split at h
  .obtain⟨V,h⟩:=h;obtain⟨e,hT⟩:=Tz.1 V;have he:Ki P T=e:=by unfold Ki;rw[hT];rfl
   rw[he]at h;generalize hs:Be P e=os at h;generalize hz:Cb P e=oz at h;generalize hr:rowsOf _ _ _ _=orr at h;generalize L:o.dst=dd at h;unfold A7b at h;split at h
   .obtain⟨V,J,I,h3,h4⟩:=h;unfold B7g at h4;split at h4
    .rename_i W;simp only[B5]at W;subst W;have a1:∀{m sz:Nat},m*sz<=16777216->1<=sz->m<=lim:=λ{m sz} h h'=>by
      have:m*1<=m*sz:=Ak9 _ h';unfold lim;omega
     grind[E8y]
    grind
   grind
  .exact q (B9c (by rw[E];exact h)) λ_ h=>h
 .obtain⟨r,bx',pg,J,I⟩:=h;exact⟨r,bx',pg,J o E rfl,I⟩
 .obtain⟨r,bx',pg,J,I⟩:=h;exact⟨r,bx',pg,J o E rfl,I⟩
 .obtain⟨r,bx',pg,J,I⟩:=h;exact⟨r,bx',pg,J o E rfl,I⟩
 .obtain⟨r,bx',pg,J,I⟩:=h;exact⟨r,bx',pg,J o E rfl,I⟩
 .split at h
  .obtain⟨r,J,I⟩:=h;exact⟨r,bx,[],J o E,I⟩
  .exact q (B9c (by rw[E];exact h)) λ_ h=>h
 .exact q (B9c (by rw[E];exact h)) λ_ h=>h
def Rh(b E:Bool)(A B:Prop):Prop:=(b=E->A)/\(b = !E->B)
def Fa(P:Program)(own:List Nat)(ops:Array Oper):List Oper->SL->Ab->(SL->Ab->Prop)->Prop
 |[],sl,bx,K=>K sl bx
 |o::os,sl,bx,K=>match o.guard with
  |none=>Hq P own o.dst sl bx o.op λr bx' pg=>Fa P own ops os (Fy (G1 pg sl) o.dst r) bx' K
  |some (j,E)=>match Pk ops j with
   |some t=>match Ae sl t with
    |.d (.bool b)=>Rh b E (Hq P own o.dst sl bx o.op λr bx' pg=>Fa P own ops os (Fy (G1 pg sl) o.dst r) bx' K) (Fa P own ops os (Fy sl o.dst (.tuple [])) bx K)
    |.tuple []=>Fa P own ops os (Fy sl o.dst (.tuple [])) bx K
    |_=>False
   |none=>False
def A9r(P:Program)(own:List Nat)(ops:Array Oper)(os:List Oper)(sl:SL)(dst:Option Nat)(K:SL->Ab->Prop):KB:=λr bx pg=>Fa P own ops os (Fy (G1 pg sl) dst r) bx K
def C8h(P:Program)(own:List Nat)(ops:Array Oper)(dst:Option Nat)(op:Op)(os:List Oper)(sl:SL)(bx:Ab)(E:Bool)(K:SL->Ab->Prop):SV->Prop
 |.d (.bool b)=>Rh b E (Hq P own dst sl bx op (A9r P own ops os sl dst K)) (Fa P own ops os (Fy sl dst (.tuple [])) bx K)
 |.tuple []=>Fa P own ops os (Fy sl dst (.tuple [])) bx K
 |_=>False
def C2i(P:Program)(own:List Nat)(ops:Array Oper)(dst:Option Nat)(op:Op)(os:List Oper)(sl:SL)(bx:Ab)(E:Bool)(K:SL->Ab->Prop):Option Nat->Prop
 |some t=>C8h P own ops dst op os sl bx E K (Ae sl t)
 |none=>False
def Ys(P:Program)(own:List Nat)(ops:Array Oper)(dst:Option Nat)(op:Op)(os:List Oper)(sl:SL)(bx:Ab)(K:SL->Ab->Prop)(b E:Bool):Prop :=
 Rh b E (Hq P own dst sl bx op (A9r P own ops os sl dst K)) (Fa P own ops os (Fy sl dst (.tuple [])) bx K)
section
variable (P:Program) (own:List Nat) (ops:Array Oper) (os:List Oper) (sl:SL) (bx:Ab) (K:SL->Ab->Prop) (dst:Option Nat) (op:Op) (ty:TypeId) (pos:String) (after:Array Edge)
def F6q:Fa P own ops [] sl bx K=K sl bx:=by rfl
def G1y:Fa P own ops (⟨dst,op,ty,pos,after,none⟩::os) sl bx K=Hq P own dst sl bx op (A9r P own ops os sl dst K):=by rfl
def G2i(j:Nat)(E:Bool):Fa P own ops (⟨dst,op,ty,pos,after,some (j,E)⟩::os) sl bx K=C2i P own ops dst op os sl bx E K (Pk ops j):=by rfl
def H1i(r:SV)(pg:List Nat):A9r P own ops os sl dst K r bx pg=Fa P own ops os (Fy (G1 pg sl) dst r) bx K:=rfl
def G3v(b E:Bool):C8h P own ops dst op os sl bx E K (.d (.bool b))=Ys P own ops dst op os sl bx K b E:=rfl
def F6w(E:Bool):C8h P own ops dst op os sl bx E K (.tuple [])=Fa P own ops os (Fy sl dst (.tuple [])) bx K:=rfl
def F7c:Ys P own ops dst op os sl bx K true true=Hq P own dst sl bx op (A9r P own ops os sl dst K):=by simp[Ys,Rh]
def H1c:Ys P own ops dst op os sl bx K false false=Hq P own dst sl bx op (A9r P own ops os sl dst K):=by simp[Ys,Rh]
def E9c:Ys P own ops dst op os sl bx K true false=Fa P own ops os (Fy sl dst (.tuple [])) bx K:=by simp[Ys,Rh]
def F2p:Ys P own ops dst op os sl bx K false true=Fa P own ops os (Fy sl dst (.tuple [])) bx K:=by simp[Ys,Rh]
end
section
variable (P:Program) (own:List Nat) (ops:Array Oper) (os:List Oper) (sl:SL) (bx:Ab) (K:SL->Prop) (dst:Option Nat) (op:Op) (ty:TypeId) (pos:String) (after:Array Edge)
end
def E4e{ops:Array Oper}{A B:Prop}(h:match o.guard with
  |none=>A
  |some (j,E)=>match Pk ops j with
   |some t=>match Ae sl t with
    |.d (.bool b)=>Rh b E A B
    |.tuple []=>B
    |_=>False
   |none=>False):∃g,Td ops sl o=some g/\(g=true->A)/\(g=false->B):=by
 unfold Td;cases I:o.guard with
 |none =>grind
 |some O =>
  obtain⟨j,E⟩:=O;simp only[I]at h;cases J:Pk ops j with
  |none=>grind
  |some t =>
   simp only[J]at h |-;split at h
   .rename_i b hs;refine⟨b ==E,by rw[hs],λL=>h.1 (by grind),λL=>h.2 ?_⟩;cases b <;> grind <;> simp_all
   .simp_all
   grind
def A5i{n:Nat}{own:List Nat}{ops:Array Oper}{K:SL->Ab->Prop}:∀(os:List Oper)(sl:SL)(bx:Ab),Ef n os=true->Fa P own ops os sl bx K->Xu P n ops os sl bx K
 |[],sl,bx,_,h=>by rw[Fa]at h;exact h
 |o::os,sl,bx,hd,h=>by simp only[Ef,Qv,Bb]at hd;rw[Fa]at h;obtain⟨g,I,L,O⟩:=E4e h;refine⟨g,I,A3w (ops:=[o]) (by simp[Ef,hd.1]) o (by simp),λE=>?_,λE=>A5i os _ bx hd.2 (O E)⟩;obtain⟨r,bx',pg,U,J⟩:=E5w (L E);exact⟨r,bx',pg,U,A5i os _ bx' hd.2 J⟩
def He(ks:List Nat)(K:SL->Ab->Prop):SL->Ab->Prop:=λsl bx=>K (Vh ks sl) (Ri ks bx)
def G5d(ks:List Nat)(K:SL->Ab->Prop)(sl:SL)(bx:Ab):He ks K sl bx=K (Vh ks sl) (Ri ks bx):=rfl
def C8y(k:Nat):Option Aq->Ab->Ab
 |some c,r=>(k,c)::r
 |none,r=>r
def F7s(k:Nat)(ks:List Nat)(bx:Ab):Ri (k::ks) bx=C8y k (A7 bx k) (Ri ks bx):=by rw[Ri];cases A7 bx k <;> rfl
def H2s(bx:Ab):Ri [] bx=[]:=rfl
def A0.reg{ro:Option Nat}{n:Nat}{Q:Exit->SL->Ab->Prop}{id:Nat}{ops:Array Oper}(ks own:List Nat)(hd:Ef n ops.toList=true)
  (h:Fa P own ops ops.toList sl bx (He ks (Q .normal))):A0 ro P n (.region id ops false) Q sl bx :=
 A0.region ks ks hd (A5i _ _ _ hd h)
end Go.Abs
namespace Go.Abs
open Go
variable {P:Program}
mutual
def SV.bd:SV->Prop
 |.d x=>x.Bd
 |.agg cs=>SV.T1 cs
 |.tuple cs=>SV.T1 cs
 |.Bf _ cs=>SV.T1 cs
 |.A9 cells _=>∀d,d∈cells->d.Bd
 |.undef| .box _ _| .acc _| .Eg _ _ _| .mp _| .Eo _| .F5 _ _=>True
def SV.T1:List SV->Prop
 |[]=>True
 |c::cs=>c.bd/\SV.T1 cs
end
mutual
theorem Am.bd{S:Nat->Prop}{w:World}{β:Names}:∀{x:SV} {v:Value},Am S w β x v->x.bd
 |.d x,v,h=>by simp only[SV.bd];exact h.Ij.bd
 |.agg cs,v,h=>by cases h with|agg _ vs E _ I=>simp only[SV.bd];exact Bv.bd ⟨E,I⟩
 |.tuple cs,v,h=>by cases h with|tuple _ vs E I=>simp only[SV.bd];exact Bv.bd ⟨E,I⟩
 |.Bf f cs,v,h=>by cases h with|Bf _ _ vs E I=>simp only[SV.bd];exact Bv.bd ⟨E,I⟩
 |.A9 cells off,v,h=>by obtain⟨b,base,J⟩:=h.B1u;simp only[SV.bd];intro d hd;obtain⟨j,L⟩:=Sy.1 hd;obtain⟨u,O⟩:=J.there j (Az.1 L).1;exact(J.rep j d u L O).bd
 |.undef,v,h=>by simp[SV.bd]
 |.box _ _,v,h=>by simp[SV.bd]
 |.acc _,v,h=>by simp[SV.bd]
 |.Eg _ _ _,v,h=>by simp[SV.bd]
 |.mp _,v,h=>by simp[SV.bd]
 |.Eo _,v,h=>by simp[SV.bd]
 |.F5 _ _,v,h=>by simp[SV.bd]
theorem Bv.bd{S:Nat->Prop}{w:World}{β:Names}:∀{cs:List SV} {vs:List Value},Bv S w β cs vs->SV.T1 cs
 |[],_,_=>by simp[SV.T1]
 |c::cs,vs,h=>by
  simp only[SV.T1];obtain⟨v,U,hr⟩:=h.get (j:=0) (c:=c) rfl;cases vs with
  |nil=>grind
  |cons v vs=>exact⟨(h.2 0 c v rfl rfl).bd,Bv.bd ⟨by have:=h.1;simpa using this,λj c v V U=>h.2 (j+1) c v (by grind) (by grind)⟩⟩
end
def C8.bd{f:FuncId}{args:List SV}{pre E:Ab}{r:SV}(L:Enters P f)(h:SV.T1 args->C8 P f args pre r E):C8 P f args pre r E :=
 ⟨L,λC β vs J I=>(h I.bd).2 C β vs J I⟩
def Enters.of{f:FuncId}{fn:Func}{c:Code}(E:P.funcs[f]?=some fn)(J:fn.body=some c)(I:(fn.name == "runtime.NumGoroutine")=false):Enters P f:=⟨fn,E,I,by grind⟩
def D4f(P:Program)(fn:Func)(r:SV)(E:Ab)(e:Exit)(sl:SL)(bx:Ab):Prop :=
 match e with
 |.normal| .ret=>∃xs,Uv P bx sl fn.results.toList=some xs/\(Wq xs=r\/coerce [] (Wq xs)=some r)/\ble bx E
 |_=>False
def C8.B7w{f:FuncId}{fn:Func}{c:Code}{args:List SV}{pre E:Ab}{r:SV}(L:P.funcs[f]?=some fn)(hb:fn.body=some c)(hn:(fn.name == "runtime.NumGoroutine")=false)(U:args.length<=fn.ntmps)
  (h:A0 none P fn.ntmps c (D4f P fn r E) (V6 0 args) pre):C8 P f args pre r E:=by
 refine⟨⟨fn,L,hn,by grind⟩,?_⟩;intro C β vs V Z;refine C3g L hb ?_;refine Zq (h C C.S0 C.w0 β _ (St.start V Z U)) ?_;rintro e J w' ⟨sl',bx',S',β',q,hs⟩;have key:(∃xs,Uv P bx' sl' fn.results.toList=some xs/\(Wq xs=r\/coerce [] (Wq xs)=some r)/\ble bx' E)->LeavesInM Fence.wide 0 P fn J.tmps (λe w'=>∃v S' β',e=.returned v/\Inv C S' w' β' E/\Am S' w' β' r v) J.defers .returning w':=by
  rintro⟨xs,W,h2,O⟩;refine hs.leave λw' hs=>?_;obtain⟨v,h3,I⟩:=C8q (P:=P) hs W;refine⟨v,h3,v,S',β',rfl,hs.inv.sub (A7k O),?_⟩;rcases h2 with rfl|h2
  .exact I
  .exact(A6b (hs.inv.sub (bx':=[]) (by simp)) (C4.refl _ _) (by simp) h2 I).1
 cases e with
 |normal=>exact key q
 |ret=>exact key q
 |_=>exact q.elim
section steps
variable {ro:Option Nat} {n:Nat} {Q:Exit->SL->Ab->Prop} {sl:SL} {bx:Ab}
def A0.A9a{x y:Code}(h:∀K:SL->Ab->Prop,(∀sl' bx',A0 ro P n y Q sl' bx'->K sl' bx')->A0 ro P n x (A4 K Q) sl bx):A0 ro P n (.seq x y) Q sl bx :=
 A0.seq (h _ λ_ _ h=>h)
def A0.C6v{x y:Code}(h:∀K:SL->Ab->Prop,(∀sl' bx',A0 ro P n y Q sl' bx'->K sl' bx')->(∀{I J E L},sle I E->ble J L->K E L->K I J)->A0 ro P n x (A4 K Q) sl bx):A0 ro P n (.seq x y) Q sl bx :=
 A0.seq (h _ (λ_ _ h=>h) λa b c=>A0.ww a b c)
def A0.D7{id:Nat}{ops:Array Oper}{y:Code}(ks own:List Nat)(hd:Ef n ops.toList=true)
  (h:∀K:SL->Ab->Prop,(∀sl' bx',A0 ro P n y Q sl' bx'->K sl' bx')->Fa P own ops ops.toList sl bx (He ks K)):A0 ro P n (.seq (.region id ops false) y) Q sl bx :=
 A0.seq (A0.reg ks own hd (h _ λ_ _ h=>h))
def A0.A0n{id:Nat}{ops:Array Oper}(ks own:List Nat)(hd:Ef n ops.toList=true)
  (h:∀K:SL->Ab->Prop,(∀sl' bx',Q .normal sl' bx'->K sl' bx')->Fa P own ops ops.toList sl bx (He ks K)):A0 ro P n (.region id ops false) Q sl bx :=
 A0.reg ks own hd (h _ λ_ _ h=>h)
def A0.tt{c:Operand}{x y:Code}(E:Ao sl c=.d (.bool true))(h:A0 ro P n x Q sl bx):A0 ro P n (.cond c x y) Q sl bx:=A0.cond E (λ_=>h) (by simp)
def A0.ff{c:Operand}{x y:Code}(E:Ao sl c=.d (.bool false))(h:A0 ro P n y Q sl bx):A0 ro P n (.cond c x y) Q sl bx:=A0.cond E (by simp) (λ_=>h)
end steps
end Go.Abs
namespace Go.Abs
open Go
variable {ro:Option Nat} {P:Program} {n:Nat} {Q:Exit->SL->Ab->Prop} {sl:SL} {bx:Ab}
def C8.pub{f:FuncId}{args:List SV}{q sz:Nat}{rs:List (List D)}(h:C8 P f args [] (.acc q) [(q,.rows sz rs)]):Aa P f args (.d (.slice rs)):=by refine⟨h.1,λC β vs L E=>(h.2 C β vs L E).mono ?_⟩;rintro e w' ⟨v,S',β',rfl,I,E⟩;obtain⟨J,_,O⟩:=I.Lw (k:=q) (sz:=sz) (rs:=rs) (by simp);cases E;exact⟨_,_,β',rfl,J.sub (by simp),.d _ _ O⟩
variable {c:Operand}
def A0.Er{y z:Code}(E:Ao sl c=.d (.bool true))(h:A0 ro P n z Q sl bx):A0 ro P n (.seq (.cond c .skip y) z) Q sl bx :=
 A0.seq (A0.tt E (A0.kk h))
def A0.stop{x z:Code}{id:Nat}(E:Ao sl c=.d (.bool false))(h:Q (.exit id) sl bx):A0 ro P n (.seq (.cond c x (.exit id)) z) Q sl bx :=
 A0.seq (A0.ff E (A0.xx h))
variable {K:SL->Ab->Prop}
def A0.N2{x z:Code}{b:Bool}(U:Ao sl c=.d (.bool b))(L:∀sl' bx',A0 ro P n z Q sl' bx'->K sl' bx')
  (J:b=true->A0 ro P n x (A4 (λ_ _=>False) Q) sl bx)(O:b=false->A0 ro P n z Q sl bx):A0 ro P n (.cond c x .skip) (A4 K Q) sl bx :=
 A0.cond U (λE=>(J E).mono λe _ _ I=>by cases e <;> first|exact I.elim|exact I) (λE=>A0.kk (L _ _ (O E)))
def A0.G6p{x y:Code}(I:Ao sl c=.d (.bool true))(J:A0 ro P n x (A4 (λ_ _=>False) Q) sl bx):A0 ro P n (.cond c x y) (A4 K Q) sl bx :=
 A0.tt I (J.mono λe _ _ E=>by cases e <;> first|exact E.elim|exact E)
def A0.H2x{x z:Code}(J:Ao sl c=.d (.bool false))(E:∀sl' bx',A0 ro P n z Q sl' bx'->K sl' bx')(I:A0 ro P n z Q sl bx):A0 ro P n (.cond c x .skip) (A4 K Q) sl bx :=
 A0.ff J (A0.kk (E _ _ I))
def A0.F6m{y z:Code}(J:Ao sl c=.d (.bool true))(E:∀sl' bx',A0 ro P n z Q sl' bx'->K sl' bx')(I:A0 ro P n z Q sl bx):A0 ro P n (.cond c .skip y) (A4 K Q) sl bx :=
 A0.tt J (A0.kk (E _ _ I))
def A0.ss{x:Code}{id:Nat}(E:Ao sl c=.d (.bool false))(h:Q (.exit id) sl bx):A0 ro P n (.cond c x (.exit id)) (A4 K Q) sl bx :=
 A0.ff E (A0.xx h)
def A0.ii{α X:Type}(L:List α)(mk:Nat->X->SL)(mb:Nat->X->Ab)(I:Nat->X->Prop){c:Code}(O:X)(h0:I 0 O)(Z:sle sl (mk 0 O))(h2:ble bx (mb 0 O))
  (V:∀x,I L.length x->A0 ro P n c (A4 (λ_ _=>False) Q) (mk L.length x) (mb L.length x))
  (step:∀j x a,L[j]?=some a->a∈L->L.drop j=a::L.drop (j+1)->L.take (j+1)=L.take j++[a]->(j:Int)<(L.length:Int)->I j x ->
   A0 ro P n c (A4 (λsl' bx'=>∃J,I (j+1) J/\sle sl' (mk (j+1) J)/\ble bx' (mb (j+1) J)) Q) (mk j x) (mb j x)):A0 ro P n (.loop c) Q sl bx:=by
 refine A0.loop (X:=Nat × X) (λx=>mk x.1 x.2) (λx=>mb x.1 x.2) (λx=>x.1<=L.length/\I x.1 x.2) (λx=>L.length - x.1) (0,O) ⟨by simp,h0⟩ Z h2 ?_;rintro⟨j,x⟩ ⟨hj,W⟩;simp only at hj W;by_cases E:j<L.length
 .refine(step j x L[j] (Bi E) (Fq E) (Gb E) (J0 E) (by omega) W).mono ?_;intro e sl' bx' U;cases e with
  |normal=>obtain⟨J,g1,g2,g3⟩:=U;exact⟨(j+1,J),⟨by omega,g1⟩,by omega,g2,g3⟩
  |_=>exact U
 grind
def bsize(l:List UInt8):(ByteArray.mk ⟨l⟩).size=l.length:=rfl
def F2x{n:Nat}(h:n<=1000):(n<=lim)=True:=by simp only[eq_iff_iff,iff_true];unfold lim;omega
end Go.Abs
