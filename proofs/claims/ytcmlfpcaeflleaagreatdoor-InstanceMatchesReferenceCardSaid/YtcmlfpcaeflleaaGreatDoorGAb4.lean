/- The operations as one function; shapes of code; drawn regions with a new variable. Own framework. -/
import Derived.IntWalk
import Derived.Test.YtcmlfpcaeflleaaGreatDoorGAb3
set_option linter.all false
namespace Go.Abs
open Go
variable {P:Program}
def Az(x:Int):Prop:=-9223372036854775808<=x/\x<9223372036854775808
def wrap_i64{x:Int}(h:Az x):IntKind.i64.wrap x=x:=IntWalk.i64_in x (by unfold Az at h;omega)
def My(op:BinOp)(k:IntKind)(x y:Int)(K:SV->Prop):Prop :=
 match k,op with
 |.i64,.add=>Az (x+y)/\K (.d (.int .i64 (x+y)))
 |.i64,.sub=>Az (x - y)/\K (.d (.int .i64 (x - y)))
 |.i64,.mul=>Az (x*y)/\K (.d (.int .i64 (x*y)))
 |.i64,.quo=>y≠0/\Az (x.tdiv y)/\K (.d (.int .i64 (x.tdiv y)))
 |k,.add=>K (.d (.int k (k.wrap (x+y))))
 |k,.sub=>K (.d (.int k (k.wrap (x - y))))
 |k,.mul=>K (.d (.int k (k.wrap (x*y))))
 |k,.quo=>y≠0/\K (.d (.int k (k.wrap (x.tdiv y))))
 |k,.rem=>y≠0/\K (.d (.int k (x.tmod y)))
 |_,.eql=>K (.d (.bool (decide (x=y))))
 |_,.neq=>K (.d (.bool (decide (x≠y))))
 |_,.lss=>K (.d (.bool (decide (x<y))))
 |_,.leq=>K (.d (.bool (decide (x<=y))))
 |_,.gtr=>K (.d (.bool (decide (y<x))))
 |_,.geq=>K (.d (.bool (decide (y<=x))))
 |_,_=>False
def C5v(P:Program)(t:TypeId):Bool:=(P.underlying t).any (λd=>match d with| .pointer _=>true|_=>false)
def Dj(P:Program)(t:TypeId):Bool:=(P.underlying t).any (λd=>match d with| .interface _=>true|_=>false)
def A5m:BinOp->A3->A3->(SV->Prop)->Prop
 |.add,a,b,K=>a.length+b.length<=lim/\K (.d (.str (a++b)))
 |.eql,a,b,K=>K (.d (.bool (decide (a=b))))
 |.neq,a,b,K=>K (.d (.bool (decide (a≠b))))
 |.lss,a,b,K=>K (.d (.bool (Op.bytesLess a b)))
 |.gtr,a,b,K=>K (.d (.bool (Op.bytesLess b a)))
 |_,_,_,_=>False
def B6s:BinOp->Bool->Bool->(SV->Prop)->Prop
 |.eql,a,b,K=>K (.d (.bool (a ==b)))
 |.neq,a,b,K=>K (.d (.bool (!(a ==b))))
 |_,_,_,_=>False
def Wm:BinOp->Option Bool->(SV->Prop)->Prop
 |.eql,some b,K=>K (.d (.bool b))
 |.neq,some b,K=>K (.d (.bool (!b)))
 |_,_,_=>False
def B5z(op:BinOp)(k j:IntKind)(a b:Int)(K:SV->Prop):Prop :=
 match op with
 |.shr=>0<=b/\K (.d (.int k (a.fdiv (2 ^ min b.toNat k.bits))))
 |.shl=>0<=b/\K (.d (.int k (k.wrap (a*2 ^ min b.toNat k.bits))))
 |op=>k=j/\My op k a b K
def Vm(P:Program)(op:BinOp)(t:TypeId)(c:Bool)(H:Prop):SV->SV->(SV->Prop)->Prop
 |.d (.int k a),.d (.int j b),K=>B5z op k j a b K
 |.d (.str a),.d (.str b),K=>A5m op a b K
 |.d (.bool a),.d (.bool b),K=>P.underlying t=some .bool/\B6s op a b K
 |.d .Jw,.d .Jw,K=>c=true/\Dj P t=true/\Wm op (some true) K
 |.d (.iface _ _),.d .Jw,K=>c=true/\Dj P t=true/\Wm op (some false) K
 |x,.d .Kt,K=>C5v P t=true/\Wm op (R3 x) K
 |x,.d .nil,K=>(E4 P t).isSome=true/\Wm op (Qz x) K
 |.agg _,.agg _,_=>H
 |_,_,_=>False
def Quiet(P:Program)(o:Oper)(sl:SL)(bx:Aa)(K:SV->Prop):Prop:=∃r,Bp P o (Ao sl) bx r bx []/\K r
variable {o:Oper} {sl:SL} {bx:Aa} {K:SV->Prop}
theorem F4s{op:BinOp}{t u:TypeId}{x y:Operand}(J:o.op=.binOp op t x y u){k:IntKind}{a b:Int}(L:Ao sl x=.d (.int k a))(I:Ao sl y=.d (.int k b))(h:My op k a b K):Quiet P o sl bx K:=by
 have cmp:∀{c:Bool},B7h op a b=some c->K (.d (.bool c))->Quiet P o sl bx K:=λO M=>⟨_,F6z J L I O,M⟩;have E:∀{c:Int},D0v op k a b=some c->K (.d (.int k c))->Quiet P o sl bx K:=λO M=>⟨_,F3z J L I O,M⟩;have w:∀{z:Int},k=.i64->Az z->k.wrap z=z:=λU hz=>by subst U;exact wrap_i64 hz
 unfold My at h;split at h
 .exact E rfl (by grind)
 .exact E rfl (by grind)
 .exact E rfl (by grind)
 .exact⟨_,D4v J L I h.1,by grind⟩
 .exact E rfl h
 .exact E rfl h
 .exact E rfl h
 .exact⟨_,D4v J L I h.1,h.2⟩
 .exact⟨_,G0d J L I h.1,h.2⟩
 .exact cmp rfl h
 .exact cmp rfl h
 .exact cmp rfl h
 .exact cmp rfl h
 .exact cmp rfl h
 .exact cmp rfl h
 grind
def D9h{op:BinOp}{t u:TypeId}{x y:Operand}(L:o.op=.binOp op t x y u){k j:IntKind}{m n r:Int}(U:Ao sl x=.d (.int k m))(O:Ao sl y=.d (.int j n))(V:0<=n)
  (hr:(op=.shr/\r=m.fdiv (2 ^ min n.toNat k.bits))\/(op=.shl/\r=k.wrap (m*2 ^ min n.toNat k.bits))):Bp P o (Ao sl) bx (.d (.int k r)) bx [] :=
 .Eb λ_ _ w _ a _ M=>by
  have E:=(M x (mo L (by grind [Op.operands])));rw[U]at E;have E:=E.J4;have I:=(M y (mo L (by grind [Op.operands])));rw[O]at I;have I:=I.J4;refine⟨.int k r,?_,.int k r⟩;have J:¬n<0:=by omega
  rcases hr with⟨rfl,rfl⟩|⟨rfl,rfl⟩ <;> simp[execOp,L,E,I,B6a,binOp,Op.shift,J]
def G4n{op:BinOp}{t u:TypeId}{x y:Operand}(I:o.op=.binOp op t x y u){H:Prop}(O:H->Quiet P o sl bx K)(h:Vm P op t (B0d y) H (Ao sl x) (Ao sl y) K):Quiet P o sl bx K:=by
 unfold Vm at h;split at h
 .rename_i J E;unfold B5z at h;split at h
  .exact⟨_,D9h I J E h.1 (.inl ⟨rfl,rfl⟩),h.2⟩
  .exact⟨_,D9h I J E h.1 (.inr ⟨rfl,rfl⟩),h.2⟩
  grind [F4s]
 .rename_i J E;unfold A5m at h;split at h
  .exact⟨_,F1c I J E h.1,h.2⟩
  .exact⟨_,B7k I J E rfl,h⟩
  .exact⟨_,B7k I J E rfl,h⟩
  .exact⟨_,B7k I J E rfl,h⟩
  .exact⟨_,B7k I J E rfl,h⟩
  grind
 .rename_i J E;obtain⟨ht,h⟩:=h;unfold B6s at h;split at h
  .exact⟨_,D7a I ht J E rfl,h⟩
  .exact⟨_,D7a I ht J E rfl,h⟩
  grind
 .rename_i J E;obtain⟨M,ht,h⟩:=h;unfold Wm at h;split at h
  .rename_i L;exact⟨_,C3a I ht (by rw[J];exact L) E M rfl,h⟩
  .rename_i L;exact⟨_,C3a I ht (by rw[J];exact L) E M rfl,h⟩
  grind
 .rename_i J E;obtain⟨M,ht,h⟩:=h;unfold Wm at h;split at h
  .rename_i L;exact⟨_,C3a I ht (by rw[J];exact L) E M rfl,h⟩
  .rename_i L;exact⟨_,C3a I ht (by rw[J];exact L) E M rfl,h⟩
  grind
 .rename_i E;obtain⟨ht,h⟩:=h;unfold Wm at h;split at h
  .rename_i L;exact⟨_,E0x I ht L E rfl,h⟩
  .rename_i L;exact⟨_,E0x I ht L E rfl,h⟩
  grind
 .rename_i E;obtain⟨ht,h⟩:=h;obtain⟨e,ht⟩:=Ux.1 ht;unfold Wm at h;split at h
  .rename_i L;exact⟨_,D8n I ht L E rfl,h⟩
  .rename_i L;exact⟨_,D8n I ht L E rfl,h⟩
  grind
 .grind
 grind
def OpQ(P:Program)(sl:SL)(bx:Aa)(op:Op)(r:SV):Prop:=∀o:Oper,o.op=op->Bp P o (Ao sl) bx r bx []
def A6d(P:Program)(sl:SL)(bx:Aa)(op:Op)(K:SV->Prop):Prop:=∃r,OpQ P sl bx op r/\K r
def OpB(P:Program)(sl:SL)(bx:Aa)(dst:Option Nat)(op:Op)(r:SV)(bx':Aa)(pg:List Nat):Prop:=∀o:Oper,o.op=op->o.dst=dst->Bp P o (Ao sl) bx r bx' pg
def A8p(P:Program)(sl:SL)(bx:Aa)(dst:Option Nat)(op:Op)(K:SV->Aa->List Nat->Prop):Prop:=∃r bx' pg,OpB P sl bx dst op r bx' pg/\K r bx' pg
def Mp{α:Type}:Option α->(α->Prop)->Prop
 |some c,K=>K c
 |none,_=>False
def A6o:Option Nat->SV->(SV->Prop)->Prop
 |some d,.box k off,K=>K (.box k (off+d))
 |some d,.Ah c off,K=>K (.Ah c (off+d))
 |some d,.d (.ptr c),K=>K (.Ah c (0+d))
 |some d,.Em k i off,K=>K (.Em k i (off+d))
 |_,_,_=>False
def Cg(P:Program)(T:TypeId)(f:Nat):Option (Nat × Bool × Nat):=match P.underlying T with
 |some (.struct fs)=>match fs[f]? with
  |some E=>match Cu P E.type,Bm P E.type with
   |some b,some n=>some (E.offset,b,n)
   |_,_=>none
  |none=>none
 |_=>none
def B0w:Option (Nat × Bool × Nat)->SV->(SV->Prop)->Prop
 |some (d,true,n),.agg cs,K=>K (.agg (part cs d n))
 |some (d,false,_),.agg cs,K=>Mp (cs[d]?) K
 |_,_,_=>False
def C9c:Option Ap->Nat->Nat->Int->(SV->Prop)->Prop
 |some (.rows sz rows),q,m,i,K=>sz=m/\0<=i/\i.toNat<rows.length/\K (.Em q i.toNat 0)
 |_,_,_,_,_=>False
def A6n(bx:Aa)(H:(SV->Prop)->Prop):Option Nat->SV->SV->(SV->Prop)->Prop
 |some m,.d (.slice rows),.d (.int _ i),K=>0<=i/\∃row,rows[i.toNat]?=some row/\row.length=m/\K (.Ah row 0)
 |some m,.acc q,.d (.int _ i),K=>C9c (A7 bx q) q m i K
 |none,.box _ _,.d (.int _ _),K=>H K
 |none,.undef,.d (.int _ _),K=>H K
 |_,_,_,_=>False
def Wi(P:Program)(T:Nat):Option Nat:=(E4 P T).bind (Bm P)
def C0e:Option Ap->(SV->Prop)->Prop
 |some (.rows _ rows),K=>K (.d (.int .i64 rows.length))
 |_,_=>False
def A8t:Option TypeDesc->Option Ap->(SV->Prop)->Prop
 |some (.map _ _),some (.map kvs),K=>K (.d (.int .i64 kvs.length))
 |_,_,_=>False
def Ye(P:Program)(bx:Aa)(T:Nat):SV->(SV->Prop)->Prop
 |.d (.slice rows),K=>(E4 P T).isSome=true/\K (.d (.int .i64 rows.length))
 |.d .nil,K=>(E4 P T).isSome=true/\K (.d (.int .i64 0))
 |.d .emp,K=>(E4 P T).isSome=true/\K (.d (.int .i64 0))
 |.d (.str s),K=>P.underlying T=some .string/\K (.d (.int .i64 s.length))
 |.acc q,K=>(E4 P T).isSome=true/\C0e (A7 bx q) K
 |.mp q,K=>A8t (P.underlying T) (A7 bx q) K
 |.d (.map kvs),K=>A8t (P.underlying T) (some (.map kvs)) K
 |_,_=>False
def B9s(P:Program)(args:List SV)(bx:Aa)(H:(SV->Prop)->Prop):SV->(SV->Prop)->Prop
 |.B0 f caps,K=>∃r,((∃E,G8 [] (args++caps)=some E/\Ac P f E r/\r.closed=true)\/(∃E,G8 bx (args++caps)=some E/\Ac P f E r/\r.scalar=true))/\K r
 |_,K=>H K
def A3j(P:Program)(sl:SL)(bx:Aa):Callee->List Operand->List TypeId->(SV->Prop)->Prop
 |.value fo,args,Cq,K=>B9s P (args.map (Ao sl)) bx (A6d P sl bx (.call ⟨.value fo,args.toArray,Cq.toArray⟩)) (Ao sl fo) K
 |.builtin .len,[x],[T],K=>Ye P bx T (Ao sl x) K
 |c,args,Cq,K=>A6d P sl bx (.call ⟨c,args.toArray,Cq.toArray⟩) K
def B7m:SV->SV->SV->(SV->Prop)->Prop
 |.d (.bool t),x,y,K=>K (if t then x else y)
 |_,_,_,_=>False
def C2c:SV->(SV->Prop)->Prop
 |.d (.bool b),K=>K (.d (.bool (!b)))
 |_,_=>False
def B7b:SV->(SV->Prop)->Prop
 |.d (.int .i64 m),K=>Az (0 - m)/\K (.d (.int .i64 (0 - m)))
 |_,_=>False
def B9j(P:Program)(T:Nat):SV->SV->(SV->Prop)->Prop
 |.d (.str s),.d (.int _ i),K=>P.underlying T=some .string/\0<=i/\∃c,s[i.toNat]?=some c/\K (.d (.int .u8 c.toNat))
 |_,_,_=>False
def C3g:SV->Nat->(SV->Prop)->Prop
 |.tuple xs,i,K=>Mp (xs[i]?) K
 |_,_,_=>False
def A8z:SV->(SV->Prop)->Prop
 |.box k off,K=>K (.box k off)
 |.Ah c off,K=>K (.Ah c off)
 |.d (.ptr c),K=>K (.d (.ptr c))
 |_,_=>False
def B5w(H:(SV->Prop)->Prop):Option TypeDesc->Option TypeDesc->SV->(SV->Prop)->Prop
 |some (.int _),some (.int E),.d (.int _ m),K=>K (.d (.int E (E.wrap m)))
 |some .string,some .string,.d (.str t),K=>K (.d (.str t))
 |_,_,_,K=>H K
def B4w(T:Nat):SV->(SV->Prop)->Prop
 |.d y,K=>K (.d (.iface T y))
 |.agg cs,K=>∃ds,cs=ds.map SV.d/\K (.d (.iface T (.agg ds)))
 |_,_=>False
def C2n:Option (List SV)->Option (List (Nat × Nat))->Option (List (Nat × List SV))->(SV->Prop)->Prop
 |some E,some ps,some l,K=>Mp (A0t ps E l) λout=>out.all SV.one=true/\K (.agg out)
 |_,_,_,_=>False
def B1x(m E:Nat):Option Nat->Option (List SV)->Option (List (List D))->(List (List D)->Prop)->Prop
 |some sz,some I,some rows,K=>1<=sz/\I.length=sz/\m*sz<=16777216/\E=m/\K rows
 |_,_,_,_=>False
def L7(P:Program)(T:Nat):Nat:=(E4 P T).getD 0
def D1t(ok:Bool)(E:D)(kvs:List (D × D))(K:SV->Prop)(z:SV):Prop:=K (A5k ok E kvs z)
def C2r(P:Program)(I et:TypeId)(ok:Bool)(kvs:List (D × D))(K:SV->Prop)(E:D):Prop :=
 Et P I E/\Mp (A7j P et) (D1t ok E kvs K)
def B8o(P:Program)(E et:TypeId)(ok:Bool)(x:SV)(K:SV->Prop):Option Ap->Prop
 |some (.map kvs)=>P6 P E=true/\(∀kv,kv∈kvs->Et P E kv.1)/\Mp (Q7 x) (C2r P E et ok kvs K)
 |_=>False
def B0o(P:Program)(bx:Aa)(ok:Bool)(x:SV):Option TypeDesc->SV->(SV->Prop)->Prop
 |some (.map E et),.mp k,K=>B8o P E et ok x K (A7 bx k)
 |some (.map E et),.d (.map kvs),K=>P6 P E=true/\(∀kv,kv∈kvs->Et P E kv.1)/\Mp (Q7 x) (C2r P E et ok kvs K)
 |_,_,_=>False
def loV:Option SV->Option Int
 |none=>some 0
 |some (.d (.int _ i))=>some i
 |_=>none
def hiV(n:Nat):Option SV->Option Int
 |none=>some n
 |some (.d (.int _ i))=>some i
 |_=>none
def cutAt(n:Nat)(K:Nat->Nat->Prop):Option Int->Option Int->Prop
 |some l,some h=>0<=l/\l<=h/\h<=n/\K l.toNat h.toNat
 |_,_=>False
def D0g(rows:List (List D))(E I:Option SV)(K:SV->Prop):Option Nat->Prop
 |some sz=>(∀row,row∈rows->row.length=sz)/\cutAt rows.length (λl h=>K (.d (.slice ((rows.take h).drop l)))) (loV E) (hiV rows.length I)
 |none=>False
def A9q(P:Program)(T:TypeId)(E I:Option SV):SV->(SV->Prop)->Prop
 |.d (.slice rows),K=>D0g rows E I K (Wi P T)
 |.d (.str s),K=>P.underlying T=some .string/\cutAt s.length (λl h=>K (.d (.str ((s.take h).drop l)))) (loV E) (hiV s.length I)
 |_,_=>False
def Ih(P:Program)(sl:SL)(bx:Aa):Op->(SV->Prop)->Prop
 |.move x,K=>K (Ao sl x)
 |.assign x,K=>K (Ao sl x)
 |.pick c x y,K=>B7m (Ao sl c) (Ao sl x) (Ao sl y) K
 |.load T x,K=>Mp (Lu P bx T (Ao sl x)) K
 |.binOp op t x y u,K=>Vm P op t (B0d y) (A6d P sl bx (.binOp op t x y u) K) (Ao sl x) (Ao sl y) K
 |.unOp .not _ x,K=>C2c (Ao sl x) K
 |.unOp .neg _ x,K=>B7b (Ao sl x) K
 |.fieldAddr T x f,K=>A6o (Cc P T f) (Ao sl x) K
 |.field T x f,K=>B0w (Cg P T f) (Ao sl x) K
 |.indexAddr T x y,K=>A6n bx (A6d P sl bx (.indexAddr T x y)) (Wi P T) (Ao sl x) (Ao sl y) K
 |.index T x y,K=>B9j P T (Ao sl x) (Ao sl y) K
 |.extract x i,K=>C3g (Ao sl x) i K
 |.nilCheck x,K=>A8z (Ao sl x) K
 |.convert s d x,K=>B5w (A6d P sl bx (.convert s d x)) (P.underlying s) (P.underlying d) (Ao sl x) K
 |.makeInterface T x,K=>Dj P T=false/\(P.underlying T).isSome=true/\B4w T (Ao sl x) K
 |.build T parts,K=>C2n (Cf P T) (Kb P T) (Yg (Ao sl) parts.toList) K
 |.buildSlice T m parts,K=>(E4 P T).isSome=true/\B1x m parts.size (Bm P (L7 P T)) (Cf P (L7 P T)) (rowsOf (Ao sl) ((Bm P (L7 P T)).getD 0) 0 parts.toList) λrows=>K (.d (.slice rows))
 |.call c,K=>A3j P sl bx c.callee c.args.toList c.argTypes.toList K
 |.makeFunc (.func f) ⟨[]⟩ caps,K=>K (.B0 f (caps.toList.map (Ao sl)))
 |.slice T x E I none,K=>A9q P T (E.map (Ao sl)) (I.map (Ao sl)) (Ao sl x) K
 |.lookup T m x ok,K=>B0o P bx ok (Ao sl x) (P.underlying T) (Ao sl m) K
 |op,K=>A6d P sl bx op K
theorem C3e{c:Call}(I:o.op=.call c)(h:A3j P sl bx c.callee c.args.toList c.argTypes.toList K):Quiet P o sl bx K:=by
 obtain⟨callee,args,Cq⟩:=c;simp only at h;unfold A3j at h;split at h
 .rename_i fo _ _ _;unfold B9s at h;split at h
  .rename_i hf;obtain⟨r,h1|h1,hK⟩:=h
   .obtain⟨J,L,V,U⟩:=h1;exact⟨_,H1i I hf L V U,hK⟩
   .obtain⟨J,L,V,U⟩:=h1;exact⟨_,E8v I hf L V U,hK⟩
  .obtain⟨r,h1,L⟩:=h;exact⟨r,h1 o I,L⟩
 .rename_i x T E hT;have W:args = #[x]:=by apply J6;simpa using E
  have Z:Cq = #[T]:=by apply J6;simpa using hT
  subst W Z;unfold Ye at h;split at h
  .rename_i E;obtain⟨e,M⟩:=Ux.1 h.1;exact⟨_,G1f I E M,h.2⟩
  .rename_i E;obtain⟨e,M⟩:=Ux.1 h.1;exact⟨_,D6k I (.inl E) M,h.2⟩
  .rename_i E;obtain⟨e,M⟩:=Ux.1 h.1;exact⟨_,D6k I (.inr E) M,h.2⟩
  .rename_i E;exact⟨_,G5v I E h.1,h.2⟩
  .rename_i E;obtain⟨h1,h⟩:=h;obtain⟨e,M⟩:=Ux.1 h1;unfold C0e at h;split at h
   .rename_i O;exact⟨_,G1j I E (F8 O) M,h⟩
   grind
  .rename_i E;generalize O:A7 bx _=ob at h;generalize hT:P.underlying _=ot at h;unfold A8t at h;split at h
   .exact⟨_,D7d I (by rw[E];exact .mp _ _ (F8 O)) hT,h⟩
   grind
  .rename_i E;generalize hT:P.underlying _=ot at h;unfold A8t at h;split at h
   .rename_i O;simp only[B4,Ap.map.injEq]at O;subst O;exact⟨_,D7d I (by rw[E];exact .d _) hT,h⟩
   grind
  grind
 .obtain⟨r,h1,L⟩:=h;exact⟨r,h1 o I,L⟩
theorem B5u{T m:Nat}(h:Wi P T=some m):∃e,E4 P T=some e/\Bm P e=some m:=by grind [Wi,E4]
theorem G0h{T:TypeId}{m x:Operand}{ok:Bool}(V:o.op=.lookup T m x ok)(h:B0o P bx ok (Ao sl x) (P.underlying T) (Ao sl m) K):Quiet P o sl bx K:=by
 have I:∀{J et:TypeId} {kvs:List (D × D)},P.underlying T=some (.map J et)->IsMap bx (Ao sl m) kvs->P6 P J=true->(∀kv,kv∈kvs->Et P J kv.1)->Mp (Q7 (Ao sl x)) (C2r P J et ok kvs K)->Quiet P o sl bx K:=by
  intro J et kvs hT L U E h;unfold Mp at h;split at h
  .rename_i W;obtain⟨M,h⟩:=h;unfold Mp at h;split at h
   .rename_i hz;exact⟨_,G9x V L hT U W M E hz,h⟩
   grind
  .grind
 generalize L:Ao sl m=vm at h;generalize hT:P.underlying T=vT at h;unfold B0o at h;split at h
 .generalize O:A7 bx _=ob at h;unfold B8o at h;split at h
  .exact I hT (by rw[L];exact .mp _ _ (F8 O)) h.1 h.2.1 h.2.2
  grind
 .exact I hT (by rw[L];exact .d _) h.1 h.2.1 h.2.2
 grind
theorem E8w{T:TypeId}{x:Operand}{f:Nat}(V:o.op=.field T x f)(h:B0w (Cg P T f) (Ao sl x) K):Quiet P o sl bx K:=by
 generalize hp:Cg P T f=pl at h;unfold Cg at hp;split at hp
 .rename_i fs hT;split at hp
  .rename_i Z U;split at hp
   .rename_i b m O hs;subst hp;unfold B0w at h;split at h
    .rename_i L M;simp only[B4,Eo]at L;obtain⟨J,E,I⟩:=L;subst J E I;exact⟨_,F9x V M hT U rfl rfl O hs,h⟩
    .rename_i L M;simp only[B4,Eo]at L;obtain⟨J,E,I⟩:=L;subst J E I;unfold Mp at h;split at h
     .rename_i W;exact⟨_,G2j V M hT U rfl rfl O W,h⟩
     grind
    grind
   .subst hp;exact h.elim
  .subst hp;exact h.elim
 .subst hp;exact h.elim
def D3p{E:Option Operand}{l:Int}(h:loV (E.map (Ao sl))=some l)(I:0<=l):loN (Ao sl) E=some l.toNat:=by
 cases E with
 |none=>simp only[Ap8,loV,B4]at h;subst h;rfl
 |some y =>simp only[Eu]at h;unfold loN;simp only;generalize Ao sl y=v at h;cases v <;> simp only[loV,reduceCtorEq]at h;rename_i d;cases d <;> simp only[loV,reduceCtorEq]at h;simp only[B4]at h;subst h;simp[I]
def E2u{E:Option Operand}{n:Nat}{l:Int}(h:hiV n (E.map (Ao sl))=some l)(I:0<=l):hiN (Ao sl) n E=some l.toNat:=by
 cases E with
 |none=>simp only[Ap8,hiV,B4]at h;subst h;rfl
 |some y =>simp only[Eu]at h;unfold hiN;simp only;generalize Ao sl y=v at h;cases v <;> simp only[hiV,reduceCtorEq]at h;rename_i d;cases d <;> simp only[hiV,reduceCtorEq]at h;simp only[B4]at h;subst h;simp[I]
def E3o{n:Nat}{K:Nat->Nat->Prop}{a b:Option Int}(h:cutAt n K a b):∃l k,a=some l/\b=some k/\0<=l/\l<=k/\k<=n/\K l.toNat k.toNat:=by
 unfold cutAt at h
 grind
theorem G8a{T:TypeId}{x:Operand}{U O:Option Operand}(V:o.op=.slice T x U O none)(h:A9q P T (U.map (Ao sl)) (O.map (Ao sl)) (Ao sl x) K):Quiet P o sl bx K:=by
 unfold A9q at h;split at h
 .rename_i L;generalize hs:Wi P T=os at h;cases os with
  |none=>exact h.elim
  |some sz =>obtain⟨e,hT,hs⟩:=B5u hs;obtain⟨hr,h⟩:=h;obtain⟨l,k,E,J,I,W,Z,M⟩:=E3o h;exact⟨_,F7a V L hT hs hr (D3p E I) (E2u J (by omega)) (by omega) (by omega),M⟩
 .rename_i L;obtain⟨hT,h⟩:=h;obtain⟨l,k,E,J,I,W,Z,M⟩:=E3o h;exact⟨_,F2j V L hT (D3p E I) (E2u J (by omega)) (by omega) (by omega),M⟩
 grind
def C0m(h:Ih P sl bx o.op K):Quiet P o sl bx K:=by
 unfold Ih at h;split at h
 .rename_i E;exact⟨_,F9h E,h⟩
 .rename_i E;exact⟨_,G0a E,h⟩
 .rename_i E;unfold B7m at h;split at h
  .rename_i V;exact⟨_,F8t E V,h⟩
  grind
 .rename_i E;unfold Mp at h;split at h
  .rename_i V;exact⟨_,G7z E V,h⟩
  grind
 .rename_i E;exact G4n E (λ⟨r,J,L⟩=>⟨r,J _ E,L⟩) h
 .rename_i E;unfold C2c at h;split at h
  .rename_i V;exact⟨_,F1w E V,h⟩
  grind
 .rename_i E;unfold B7b at h;split at h
  .rename_i V;refine⟨_,H0h E V,?_⟩;rw[wrap_i64 h.1];grind
  grind
 .rename_i E;unfold A6o at h;split at h
  .rename_i M I;exact⟨_,F3r E I M,h⟩
  .rename_i M I;exact⟨_,D1v E (by rw[I];exact .Ah _ _) M,h⟩
  .rename_i M I;exact⟨_,D1v E (by rw[I];exact .ptr _) M,h⟩
  .rename_i M I;exact⟨_,F0s E I M,h⟩
  grind
 .grind [E8w]
 .rename_i E;unfold A6n at h;split at h
  .rename_i hs I hy;obtain⟨e,hT,hs⟩:=B5u hs;obtain⟨Z,row,hr,hl,hK⟩:=h;exact⟨_,F1z E I hy hT hs Z hr hl,hK⟩
  .rename_i hs I hy;obtain⟨e,hT,hs⟩:=B5u hs;generalize hb:A7 bx _=ob at h;cases ob with
   |none=>exact h.elim
   |some bc =>
    cases bc with
    |rows sz rows =>obtain⟨J,L,W,U⟩:=h;exact⟨_,E8d E I (F8 hb) hy hT hs J L W,U⟩
    |cells _=>exact h.elim
    |map _=>exact h.elim
    |iter _ _=>exact h.elim
    |ghost _ _=>exact h.elim
  .obtain⟨r,J,L⟩:=h;exact⟨r,J _ E,L⟩
  .obtain⟨r,J,L⟩:=h;exact⟨r,J _ E,L⟩
  grind
 .rename_i E;unfold B9j at h;split at h
  .rename_i I hy;obtain⟨J,L,c,W,U⟩:=h;exact⟨_,E8b E I hy J L W,U⟩
  grind
 .rename_i E;unfold C3g at h;split at h
  .rename_i I;unfold Mp at h;split at h
   .rename_i hr;exact⟨_,F5t E I hr,h⟩
   grind
  grind
 .rename_i E;unfold A8z at h;split at h
  .rename_i I;exact⟨_,F5i E I,h⟩
  .rename_i I;exact⟨_,D6n E (by rw[I];exact .Ah _ _),by grind⟩
  .rename_i I;exact⟨_,D6n E (by rw[I];exact .ptr _),by grind⟩
  grind
 .rename_i E;unfold B5w at h;split at h
  .rename_i hs O I;exact⟨_,F7e E hs O I,h⟩
  .rename_i hs O I;exact⟨_,G0i E hs O I,h⟩
  .obtain⟨r,J,L⟩:=h;exact⟨r,J o E,L⟩
 .rename_i E;obtain⟨J,L,h⟩:=h;obtain⟨d,O⟩:=Ux.1 L;have hn:(match d with| .interface _=>false|_=>true)=true:=by
   unfold Dj at J;rw[O]at J;cases d <;> simp_all
  unfold B4w at h;split at h
  .rename_i I;exact⟨_,G0n E I O hn,h⟩
  .rename_i I;obtain⟨ds,W,U⟩:=h;exact⟨_,H0j E (by grind) O hn,U⟩
  grind
 .rename_i E;unfold C2n at h;split at h
  .rename_i hz hp hl;unfold Mp at h;split at h
   .rename_i M;exact⟨_,G6x E hz hp hl M h.1,h.2⟩
   grind
  grind
 .rename_i T m parts E;obtain⟨Z,h⟩:=h;obtain⟨e,hT⟩:=Ux.1 Z;have he:L7 P T=e:=by unfold L7;rw[hT];rfl
  rw[he]at h;unfold B1x at h;split at h
  .rename_i hs hz hr;obtain⟨Z,J,L,W,U⟩:=h;rw[hs]at hr;have a0:∀{m sz:Nat},m*sz<=16777216->1<=sz->m<=lim:=λ{m sz} h h'=>by
    have:m*1<=m*sz:=An6 _ h';unfold lim;omega
   exact⟨_,D8k E hT hs hz J L W hr (a0 L Z),U⟩
  grind
 .grind [C3e]
 .rename_i E;exact⟨_,F7d E,h⟩
 .grind [G8a]
 .grind [G0h]
 .obtain⟨r,J,L⟩:=h;exact⟨r,J o rfl,L⟩
end Go.Abs
namespace Go.Abs
open Go
variable {P:Program} {o:Oper} {sl:SL} {bx:Aa}
def E2(P:Program)(e:TypeId):Option Nat:=(P.info? e).map (·.bytes)
abbrev KB:=SV->Aa->List Nat->Prop
def C7w(bytes sz:Nat)(xs:List (List D))(bx:Aa)(k:Nat):Option Ap->KB->Prop
 |some (.rows E rs),K=>E=sz/\k<=999999/\(rs.length+xs.length)*bytes<=lim/\K (.acc k) ((k,.rows sz (rs++xs))::Gw k (Ca k bx)) [k]
 |_,_=>False
def A1r(bytes sz:Nat)(xs:List (List D))(bx:Aa):SV->Option Nat->KB->Prop
 |.acc k,_,K=>C7w bytes sz xs bx k (A7 bx k) K
 |.d .nil,some k,K=>k<=999999/\xs.length*bytes<=lim/\K (.acc k) ((k,.rows sz xs)::Gw k (Ca k bx)) [k]
 |_,_,_=>False
def C9y(bytes sz:Nat)(bx:Aa)(x:SV)(dst:Option Nat):Option Ap->KB->Prop
 |some (.rows E xs),K=>E=sz/\A1r bytes sz xs bx x dst K
 |_,_=>False
def A7x(bytes sz:Nat)(bx:Aa)(x:SV)(dst:Option Nat):SV->KB->Prop
 |.d .nil,K=>A1r bytes sz [] bx x dst K
 |.d .emp,K=>A1r bytes sz [] bx x dst K
 |.d (.slice xs),K=>(∀row,row∈xs->row.length=sz)/\A1r bytes sz xs bx x dst K
 |.acc q,K=>C9y bytes sz bx x dst (A7 bx q) K
 |_,_=>False
def B9q(bx:Aa)(dst:Option Nat)(x y:SV):Option Nat->Option (List SV)->Option Nat->KB->Prop
 |some sz,some E,some bytes,K=>E.length=sz/\bytes≠0/\A7x bytes sz bx x dst y K
 |_,_,_,_=>False
def C5p(bx:Aa)(k i off:Nat)(us:List SV):Option Ap->KB->Prop
 |some (.rows sz rows),K=>∃row ds,rows[i]?=some row/\us=ds.map SV.d/\off+us.length<=row.length/\K (.tuple []) ((k,.rows sz (rows.set i (Hc row off ds)))::Ca k bx) []
 |_,_=>False
def D0k(bx:Aa)(k off:Nat)(us:List SV):Option Ap->KB->Prop
 |some (.cells cs),K=>off+us.length<=cs.length/\K (.tuple []) ((k,.cells (Hc cs off us))::Ca k bx) []
 |_,_=>False
def B4d(bx:Aa)(size:Option Nat):SV->Option (List SV)->KB->Prop
 |.box k off,some us,K=>size=some us.length/\D0k bx k off us (A7 bx k) K
 |.Em k i off,some us,K=>size=some us.length/\C5p bx k i off us (A7 bx k) K
 |_,_,_=>False
def C2i(P:Program)(args:List SV)(bx:Aa):SV->Option Nat->KB->Prop
 |.B0 f caps,some k,K=>k<=999999/\∃E q sz rows r,G8 [] (args++caps)=some E/\Bj P f E [] r [(q,.rows sz rows)]/\K (A6j q k r) ((k,.rows sz rows)::Gw k (Ca k bx)) [k]
 |_,_,_=>False
def A9i(bx:Aa):Option Nat->Option (List SV)->KB->Prop
 |some k,some cs,K=>k<=999999/\K (.box k 0) ((k,.cells (cs.map (Nf k)))::Gw k (Ca k bx)) [k]
 |_,_,_=>False
def C0u(bx:Aa):Option Nat->Option Nat->List (List D)->KB->Prop
 |some k,some sz,rows,K=>k<=999999/\K (.acc k) ((k,.rows sz rows)::Gw k (Ca k bx)) [k]
 |_,_,_,_=>False
def B7i(bx:Aa):Option Nat->KB->Prop
 |some k,K=>k<=999999/\K (.mp k) ((k,.map [])::Gw k (Ca k bx)) [k]
 |_,_=>False
def D3a(bx:Aa)(k:Nat)(K:KB)(kvs:List (D × D))(I E:D):Prop:=K (.tuple []) ((k,.map (Rj I E kvs))::Ca k bx) []
def E6n(P:Program)(bx:Aa)(k:Nat)(y:SV)(K:KB)(I:TypeId)(kvs:List (D × D))(E:D):Prop:=Et P I E/\Mp (Q7 y) (D3a bx k K kvs E)
def C1q(P:Program)(bx:Aa)(k:Nat)(x y:SV)(K:KB)(E:TypeId):Option Ap->Prop
 |some (.map kvs)=>P6 P E=true/\(∀kv,kv∈kvs->Et P E kv.1)/\Mp (Q7 x) (E6n P bx k y K E kvs)
 |_=>False
def B8v(P:Program)(bx:Aa)(x y:SV):Option TypeDesc->SV->KB->Prop
 |some (.map E _),.mp k,K=>C1q P bx k x y K E (A7 bx k)
 |_,_,_=>False
def C2y(bx:Aa)(sz k:Nat)(i:Int)(K:KB):Option Ap->Prop
 |some (.rows E rs)=>E=sz/\0<=i/\i<=rs.length/\K (.acc k) ((k,.rows sz (rs.drop i.toNat))::Gw k (Ca k bx)) [k]
 |_=>False
def C0z(bx:Aa):Option Nat->SV->SV->KB->Prop
 |some sz,.acc k,.d (.int _ i),K=>k<=999999/\C2y bx sz k i K (A7 bx k)
 |_,_,_,_=>False
def B0i:List SV->Option Nat
 |[]=>none
 |.mp k::_=>some k
 |.box k _::_=>some k
 |_::r=>B0i r
def B0j(own:List Nat):List SV->Option Nat
 |[]=>none
 |.acc k::r=>if own.contains (500000+k)=true then some k else B0j own r
 |_::r=>B0j own r
def orElse(a b:Option Nat):Option Nat:=match a with
 |some k=>some k
 |none=>b
def B8q(P:Program)(args:List SV)(bx:Aa)(k:Nat):SV->Option Ap->KB->Prop
 |.B0 f caps,some c,K=>c.closed=true/\∃E r I,A0a k 1000000 (args++caps)=some E/\I.closed=true /\
   Bj P f E [(1000000,c)] r [(1000000,I)]/\r.closed=true/\K r ((k,I)::Ca k bx) []
 |_,_,_=>False
def A2p(bx:Aa)(K:KB):SV->Prop:=λr=>K r bx []
def G7s(bx:Aa)(K:KB)(r:SV):A2p bx K r=K r bx []:=rfl
def C2u(P:Program)(sl:SL)(bx:Aa)(fo:Operand)(args:List Operand)(Cq:List TypeId):Option Nat->KB->Prop
 |none,K=>A3j P sl bx (.value fo) args Cq (A2p bx K)
 |some k,K=>B8q P (args.map (Ao sl)) bx k (Ao sl fo) (A7 bx k) K
def unD:List SV->Option (List D)
 |[]=>some []
 |.d x::r=>match unD r with
  |some l=>some (x::l)
  |none=>none
 |_::_=>none
def D3u:∀{I:List SV} {E:List D},unD I=some E->I=E.map SV.d
 |[],E,h=>by simp only[unD,B4]at h;subst h;rfl
 |x::r,E,h=>by
  cases x <;> simp only[unD,reduceCtorEq]at h;cases hr:unD r with
  |none=>grind
  |some l =>simp only[hr,B4]at h;subst h;rw[D3u hr];rfl
def C2k(bx:Aa)(k sz:Nat)(n:Int)(K:KB):Option (List D)->Prop
 |some E=>E.all D.one=true/\K (.acc k) ((k,.rows sz (List.replicate n.toNat E))::Gw k (Ca k bx)) [k]
 |none=>False
def C2m(bx:Aa):Option Nat->SV->SV->Option Nat->Option (List SV)->Option Nat->KB->Prop
 |some k,.d (.int _ n),.d (.int _ m),some sz,some E,some bytes,K=>k<=999999/\1<=sz/\E.length=sz/\bytes≠0/\0<=n/\n<=m/\m*(bytes:Int)<=(lim:Int)/\C2k bx k sz n K (unD E)
 |_,_,_,_,_,_,_=>False
def A8w(bx:Aa)(k sz:Nat)(xs:List (List D))(K:KB):Option Ap->Prop
 |some (.rows E rs)=>E=sz/\xs.length<=rs.length/\K (.d (.int .i64 xs.length)) ((k,.rows sz (xs++rs.drop xs.length))::Ca k bx) []
 |_=>False
def C4b(bx:Aa)(k sz:Nat)(K:KB):Option Ap->Prop
 |some (.rows E xs)=>E=sz/\A8w bx k sz xs K (A7 bx k)
 |_=>False
def A8q(bx:Aa):Option Nat->SV->SV->KB->Prop
 |some sz,.acc k,.d (.slice xs),K=>(∀row,row∈xs->row.length=sz)/\A8w bx k sz xs K (A7 bx k)
 |some sz,.acc k,.d .nil,K=>A8w bx k sz [] K (A7 bx k)
 |some sz,.acc k,.acc q,K=>C4b bx k sz K (A7 bx q)
 |_,_,_,_=>False
def C4v:SV->Bool
 |.acc _=>true
 |_=>false
def B9c(own:List Nat):Option Nat->Bool
 |some k=>own.contains k
 |none=>false
def C0q(P:Program)(bx:Aa)(Y:Iw)(l:Nat)(K:KB):Option Nat->List SV->Prop
 |some j,[x]=>∃y,coerce [] x=some y/\Y.P=P/\Y.l=l/\j<Y.N/\Y.xs j=y/\K (.d (.bool (Y.go j))) ((1000000,.ghost Y (Y.next j))::Ca 1000000 bx) []
 |_,_=>False
def B3u(P:Program)(bx:Aa)(Y:Iw)(st:Option Nat)(args:List SV)(K:KB):SV->Prop
 |.B0 f caps=>∃E r st',G8 [] (args++caps)=some E/\Bj P f E [(1000000,.ghost Y st)] r [(1000000,.ghost Y st')]/\r.closed=true/\K r ((1000000,.ghost Y st')::Ca 1000000 bx) []
 |.Ek l=>C0q P bx Y l K st args
 |_=>False
def B7z(P:Program)(bx:Aa)(f:SV)(args:List SV)(K:KB):Option Ap->Prop
 |some (.ghost Y st)=>B3u P bx Y st args K f
 |_=>False
def B8d(own:List Nat):Option Nat->Bool
 |some k=>own.contains (700000+k)
 |none=>own.contains 799999
def B6y(P:Program)(E:List Nat)(sl:SL)(bx:Aa)(fo:Operand)(args:List Operand)(Cq:List TypeId)(K:KB):Bool->Prop
 |true=>B7z P bx (Ao sl fo) (args.map (Ao sl)) K (A7 bx 1000000)
 |false=>C2u P sl bx fo args Cq (orElse (B0j E (args.map (Ao sl))) (B0i (args.map (Ao sl)))) K
def B3y(own:List Nat):Option Nat->Bool
 |some k=>own.contains (800000+k)
 |none=>false
def B2d(P:Program)(E:List Nat)(sl:SL)(bx:Aa)(dst:Option Nat)(fo:Operand)(args:List Operand)(Cq:List TypeId)(K:KB):Bool->Prop
 |true=>A8p P sl bx dst (.call ⟨.value fo,args.toArray,Cq.toArray⟩) K
 |false=>B6y P E sl bx fo args Cq K (B8d E dst)
def Xi(P:Program)(own:Bool)(E:List Nat)(sl:SL)(bx:Aa)(dst:Option Nat):Callee->List Operand->List TypeId->KB->Prop
 |.builtin .append,[x,y],[T,U],K=>Kf P U=true/\(E4 P T).isSome=true/\B9q bx dst (Ao sl x) (Ao sl y) (Bm P (L7 P T)) (Cf P (L7 P T)) (E2 P (L7 P T)) K
 |.builtin .copy,[x,y],[T,_],K=>A8q bx (Wi P T) (Ao sl x) (Ao sl y) K
 |.value fo,args,Cq,K=>match own with
  |true=>C2i P (args.map (Ao sl)) bx (Ao sl fo) dst K
  |false=>B2d P E sl bx dst fo args Cq K (B3y E dst)
 |.builtin .delete,args,Cq,K=>A8p P sl bx dst (.call ⟨.builtin .delete,args.toArray,Cq.toArray⟩) K
 |c,args,Cq,K=>A3j P sl bx c args Cq (A2p bx K)
def I7(P:Program)(own:List Nat)(dst:Option Nat)(sl:SL)(bx:Aa):Op->KB->Prop
 |.alloc T,K=>A9i bx dst (Cf P T) K
 |.box _ x,K=>A9i bx dst (content (Ao sl x)) K
 |.store T x y,K=>B4d bx (Bm P T) (Ao sl x) (content (Ao sl y)) K
 |.call c,K=>Xi P (B9c own dst) own sl bx dst c.callee c.args.toList c.argTypes.toList K
 |.makeMap _ none,K=>B7i bx dst K
 |.makeSlice T x y,K=>(E4 P T).isSome=true/\C2m bx dst (Ao sl x) (Ao sl y) (Bm P (L7 P T)) (Cf P (L7 P T)) (E2 P (L7 P T)) K
 |.mapUpdate T m x y,K=>B8v P bx (Ao sl x) (Ao sl y) (P.underlying T) (Ao sl m) K
 |.slice T x (some y) none none,K=>match C4v (Ao sl x)with
  |true=>C0z bx (Wi P T) (Ao sl x) (Ao sl y) K
  |false=>Ih P sl bx (.slice T x (some y) none none) (A2p bx K)
 |.buildSlice T m parts,K=>match B9c own dst with
  |true=>(E4 P T).isSome=true/\B1x m parts.size (Bm P (L7 P T)) (Cf P (L7 P T)) (rowsOf (Ao sl) ((Bm P (L7 P T)).getD 0) 0 parts.toList) λrows=>C0u bx dst (Bm P (L7 P T)) rows K
  |false=>Ih P sl bx (.buildSlice T m parts) (A2p bx K)
 |.insert T m x y,K=>A8p P sl bx dst (.insert T m x y) K
 |.range T x,K=>A8p P sl bx dst (.range T x) K
 |.next x b,K=>A8p P sl bx dst (.next x b) K
 |.entry x,K=>A8p P sl bx dst (.entry x) K
 |.makeFunc f E caps,K=>match B3y own dst with
  |true=>A6d P sl bx (.makeFunc f E caps) (A2p bx K)
  |false=>Ih P sl bx (.makeFunc f E caps) (A2p bx K)
 |op,K=>Ih P sl bx op (A2p bx K)
def C2f{T U e sz bytes:Nat}{x y:Operand}(ho:o.op=.call { callee:=.builtin .append,args:=#[x,y],argTypes:=#[T,U] }){xs:List (List D)}{K:KB}(M:B1u P T e sz bytes)(hU:Kf P U=true)
  (hs:Xc bx sz (Ao sl y) xs)(h:A1r bytes sz xs bx (Ao sl x) o.dst K):∃r bx' pg,Bp P o (Ao sl) bx r bx' pg/\K r bx' pg:=by
 generalize hx:Ao sl x=vx at h;generalize J:o.dst=dd at h;unfold A1r at h;split at h
 .generalize W:A7 bx _=ob at h;cases ob with
  |none=>exact h.elim
  |some I =>
   cases I with
   |rows E rs =>
    obtain⟨V,L,O,Z⟩:=h
    grind [G1x,F8]
   |cells _=>exact h.elim
   |map _=>exact h.elim
   |iter _ _=>exact h.elim
   |ghost _ _=>exact h.elim
 .grind [F0n]
 grind
def G3w{own:Bool}{a1:List Nat}{c:Call}{K:KB}(L:o.op=.call c)(h:Xi P own a1 sl bx o.dst c.callee c.args.toList c.argTypes.toList K):∃r bx' pg,Bp P o (Ao sl) bx r bx' pg/\K r bx' pg:=by
 have q:∀{K':SV->Prop},Quiet P o sl bx K'->(∀r,K' r->K r bx [])->∃r bx' pg,Bp P o (Ao sl) bx r bx' pg/\K r bx' pg:=by rintro K' ⟨r,M,J⟩ hk;exact⟨r,bx,[],M,hk r J⟩
 obtain⟨callee,args,Cq⟩:=c;simp only at h;cases callee with
 |value fo =>
  simp only[Xi]at h;split at h
  .generalize hf:Ao sl fo=vf at h;generalize a':o.dst=dd at h;unfold C2i at h
   grind [F4m]
  .generalize ac:B3y a1 o.dst=I at h;cases I with
   |true =>simp only[B2d]at h;obtain⟨r,bx',pg,M,J⟩:=h;exact⟨r,bx',pg,M o L rfl,J⟩
   |false =>
   simp only[B2d]at h;generalize ab:B8d a1 o.dst=gb at h;cases gb with
   |true =>
    simp only[B6y]at h;generalize hf:Ao sl fo=vf at h;generalize I:A7 bx 1000000=ob at h;unfold B7z at h;split at h
    .have aa:=F8 I;unfold B3u at h;split at h
     .grind [F8z]
     .generalize a3:args.toList.map (Ao sl)=al at h;unfold C0q at h;split at h
      .obtain⟨y,M,J,h3,hN,h4,h5⟩:=h;obtain⟨xo,a7⟩:∃xo,args = #[xo]:=by
        have hl:=Gk List.length a3;simp only[Bn,C6,Dy,Us]at hl;obtain⟨l⟩:=args
        match l,hl with
        |[xo],_=>simp
       subst a7;simp only[Ck,Hy,Sj,Sh]at a3
       grind [F4f]
      grind
     grind
    grind
   |false =>
   simp only[B6y]at h;unfold C2u at h;split at h
   .exact q (C3e (c:=⟨.value fo,args,Cq⟩) L h) λ_ h=>h
   .generalize hf:Ao sl fo=vf at h;generalize I:A7 bx _=ob at h;unfold B8q at h;split at h
    .obtain⟨n2,a6,r,c',M,n4,J,h3,h4⟩:=h;exact⟨_,_,_,F6u L hf (F8 I) (by omega) n2 n4 M J h3,h4⟩
    grind
 |invoke r m =>simp only[Xi]at h;exact q (C3e (c:=⟨.invoke r m,args,Cq⟩) L h) λ_ h=>h
 |builtin b =>
 unfold Xi at h;split at h
 .rename_i x y T U E hx hT;simp only[At2]at E;subst E;have V:args = #[x,y]:=by apply J6;simpa using hx
  have Z:Cq = #[T,U]:=by apply J6;simpa using hT
  subst V Z;obtain⟨hU,h0,h⟩:=h;obtain⟨e,he⟩:=Ux.1 h0;have a5:L7 P T=e:=by unfold L7;rw[he];rfl
  rw[a5]at h;generalize hs:Bm P e=os at h;generalize hz:Cf P e=oz at h;generalize I:E2 P e=ob at h;unfold B9q at h;split at h
  .rename_i sz zs bytes;obtain⟨M,J,h⟩:=h;have hE:B1u P T e sz bytes:=⟨he,hs,by grind,I,J⟩;generalize hy:Ao sl y=vy at h;unfold A7x at h;split at h
   .exact C2f L hE hU (by rw[hy];exact .nil) h
   .exact C2f L hE hU (by rw[hy];exact .emp) h
   .exact C2f L hE hU (by rw[hy];exact .slice _ h.1) h.2
   .generalize I:A7 bx _=ob at h;cases ob with
    |none=>exact h.elim
    |some bc =>
     cases bc with
     |rows a2 rs =>obtain⟨h3,h⟩:=h;subst h3;exact C2f L hE hU (by rw[hy];exact .acc _ _ (F8 I)) h
     |cells _=>exact h.elim
     |map _=>exact h.elim
     |iter _ _=>exact h.elim
     |ghost _ _=>exact h.elim
   grind
  grind
 .rename_i x y T U E hx hT;simp only[At2]at E;subst E;have V:args = #[x,y]:=by apply J6;simpa using hx
  have Z:Cq = #[T,U]:=by apply J6;simpa using hT
  subst V Z;generalize hs:Wi P T=os at h;have O:∀{K2:KB} {sz k:Nat} {xs:List (List D)},some sz=Wi P T->Ao sl x=.acc k->Xc bx sz (Ao sl y) xs->A8w bx k sz xs K2 (A7 bx k)->∃r bx' pg,Bp P o (Ao sl) bx r bx' pg/\K2 r bx' pg:=by
   intro K2 sz k xs a4 a9 a8 h;obtain⟨e,hT,hs⟩:=B5u a4.symm;generalize I:A7 bx k=ob at h;cases ob with
   |none=>exact h.elim
   |some bc =>
    cases bc with
    |rows a2 rs =>
     obtain⟨rfl,M,J⟩:=h
     grind [G6n,F8]
    |cells _=>exact h.elim
    |map _=>exact h.elim
    |iter _ _=>exact h.elim
    |ghost _ _=>exact h.elim
  generalize W:Ao sl x=vx at h;generalize a0:Ao sl y=vy at h;unfold A8q at h;split at h
  .exact O hs.symm W (by rw[a0];exact .slice _ h.1) h.2
  .exact O hs.symm W (by rw[a0];exact .nil) h
  .generalize I:A7 bx _=ob at h;cases ob with
   |none=>exact h.elim
   |some bc =>
    cases bc with
    |rows a2 xs =>obtain⟨rfl,h⟩:=h;exact O hs.symm W (by rw[a0];exact .acc _ _ (F8 I)) h
    |cells _=>exact h.elim
    |map _=>exact h.elim
    |iter _ _=>exact h.elim
    |ghost _ _=>exact h.elim
  grind
 .grind
 .rename_i E;simp only[At2]at E;subst E;obtain⟨r,bx',pg,M,J⟩:=h;exact⟨r,bx',pg,M o L rfl,J⟩
 .exact q (C3e (c:=⟨.builtin b,args,Cq⟩) L h) λ_ h=>h
def D1p{own:List Nat}{K:KB}(h:I7 P own o.dst sl bx o.op K):∃r bx' pg,Bp P o (Ao sl) bx r bx' pg/\K r bx' pg:=by
 have q:∀{Z:SV->Prop},Quiet P o sl bx Z->(∀r,Z r->K r bx [])->∃r bx' pg,Bp P o (Ao sl) bx r bx' pg/\K r bx' pg:=by rintro Z ⟨r,I,J⟩ hk;exact⟨r,bx,[],I,hk r J⟩
 generalize E:o.op=op at h;unfold I7 at h;split at h
 .generalize hz:Cf P _=oz at h;generalize L:o.dst=dd at h;unfold A9i at h
  grind [E6f]
 .generalize hz:content _=oz at h;generalize L:o.dst=dd at h;unfold A9i at h
  grind [E8m]
 .generalize O:Ao sl _=vx at h;generalize a0:content _=ous at h;unfold B4d at h;split at h
  .obtain⟨hs,h⟩:=h;generalize M:A7 bx _=ob at h;cases ob with
   |none=>exact h.elim
   |some bc =>
    cases bc with
    |cells cs=>exact⟨_,_,_,E5d E O (F8 M) a0 hs h.1,h.2⟩
    |rows _ _=>exact h.elim
    |map _=>exact h.elim
    |iter _ _=>exact h.elim
    |ghost _ _=>exact h.elim
  .obtain⟨hs,h⟩:=h;generalize M:A7 bx _=ob at h;cases ob with
   |none=>exact h.elim
   |some bc =>
    cases bc with
    |rows sz rows =>
     obtain⟨row,ds,I,J,h3,h4⟩:=h
     grind [F2w,F8]
    |cells _=>exact h.elim
    |map _=>exact h.elim
    |iter _ _=>exact h.elim
    |ghost _ _=>exact h.elim
  grind
 .exact G3w E h
 .generalize L:o.dst=dd at h;unfold B7i at h
  grind [F9a]
 .rename_i T x y;obtain⟨V,h⟩:=h;obtain⟨e,hT⟩:=Ux.1 V;have he:L7 P T=e:=by unfold L7;rw[hT];rfl
  rw[he]at h;generalize O:Ao sl x=vx at h;generalize W:Ao sl y=vy at h;generalize hs:Bm P e=os at h;generalize hz:Cf P e=oz at h;generalize M:E2 P e=ob at h;generalize L:o.dst=dd at h;unfold C2m at h;split at h
  .obtain⟨k1,k2,k3,k4,k5,k6,k7,h⟩:=h;unfold C2k at h;split at h
   .rename_i hu;have a2:=D3u hu;exact⟨_,_,_,F2k k1 E O W ⟨hT,hs,by grind,M,k4⟩ (by grind) (λd hd=>Dr.1 h.1 d hd) k5 k6 k7 k2,h.2⟩
   grind
  grind
 .rename_i m x y;generalize hm:Ao sl m=vm at h;generalize hT:P.underlying _=vT at h;unfold B8v at h;split at h
  .generalize M:A7 bx _=ob at h;unfold C1q at h;split at h
   .obtain⟨I,J,h⟩:=h;generalize O:Q7 (Ao sl x)=vx at h;unfold Mp at h;split at h
    .obtain⟨h3,h⟩:=h;generalize W:Q7 (Ao sl y)=vy at h;unfold Mp at h;split at h
     .exact⟨_,_,_,G1w E hm (F8 M) hT I O h3 J W,h⟩
     grind
    grind
   grind
  grind
 .split at h
  .generalize O:Ao sl _=vx at h;generalize W:Ao sl _=vy at h;generalize hs:Wi P _=vs at h;unfold C0z at h;split at h
   .obtain⟨V,h⟩:=h;generalize M:A7 bx _=ob at h;unfold C2y at h
    grind [B5u,G0u,F8]
   grind
  .exact q (C0m (by rw[E];exact h)) λ_ h=>h
 .rename_i T m parts;split at h
  .obtain⟨V,h⟩:=h;obtain⟨e,hT⟩:=Ux.1 V;have he:L7 P T=e:=by unfold L7;rw[hT];rfl
   rw[he]at h;generalize hs:Bm P e=os at h;generalize hz:Cf P e=oz at h;generalize hr:rowsOf _ _ _ _=orr at h;generalize L:o.dst=dd at h;unfold B1x at h;split at h
   .obtain⟨V,I,J,h3,h4⟩:=h;unfold C0u at h4;split at h4
    .rename_i U;simp only[B4]at U;subst U;have a1:∀{m sz:Nat},m*sz<=16777216->1<=sz->m<=lim:=λ{m sz} h h'=>by
      have:m*1<=m*sz:=An6 _ h';unfold lim;omega
     grind [G3x]
    grind
   grind
  .exact q (C0m (by rw[E];exact h)) λ_ h=>h
 .obtain⟨r,bx',pg,I,J⟩:=h;exact⟨r,bx',pg,I o E rfl,J⟩
 .obtain⟨r,bx',pg,I,J⟩:=h;exact⟨r,bx',pg,I o E rfl,J⟩
 .obtain⟨r,bx',pg,I,J⟩:=h;exact⟨r,bx',pg,I o E rfl,J⟩
 .obtain⟨r,bx',pg,I,J⟩:=h;exact⟨r,bx',pg,I o E rfl,J⟩
 .split at h
  .obtain⟨r,I,J⟩:=h;exact⟨r,bx,[],I o E,J⟩
  .exact q (C0m (by rw[E];exact h)) λ_ h=>h
 .exact q (C0m (by rw[E];exact h)) λ_ h=>h
def S4(b E:Bool)(A B:Prop):Prop:=(b=E->A)/\(b = !E->B)
def F7(P:Program)(own:List Nat)(ops:Array Oper):List Oper->SL->Aa->(SL->Aa->Prop)->Prop
 |[],sl,bx,K=>K sl bx
 |o::os,sl,bx,K=>match o.guard with
  |none=>I7 P own o.dst sl bx o.op λr bx' pg=>F7 P own ops os (Ft (Fe pg sl) o.dst r) bx' K
  |some (j,E)=>match Qe ops j with
   |some t=>match Ag sl t with
    |.d (.bool b)=>S4 b E (I7 P own o.dst sl bx o.op λr bx' pg=>F7 P own ops os (Ft (Fe pg sl) o.dst r) bx' K) (F7 P own ops os (Ft sl o.dst (.tuple [])) bx K)
    |.tuple []=>F7 P own ops os (Ft sl o.dst (.tuple [])) bx K
    |_=>False
   |none=>False
def B1h(P:Program)(own:List Nat)(ops:Array Oper)(os:List Oper)(sl:SL)(dst:Option Nat)(K:SL->Aa->Prop):KB:=λr bx pg=>F7 P own ops os (Ft (Fe pg sl) dst r) bx K
def C3u(P:Program)(own:List Nat)(ops:Array Oper)(dst:Option Nat)(op:Op)(os:List Oper)(sl:SL)(bx:Aa)(E:Bool)(K:SL->Aa->Prop):SV->Prop
 |.d (.bool b)=>S4 b E (I7 P own dst sl bx op (B1h P own ops os sl dst K)) (F7 P own ops os (Ft sl dst (.tuple [])) bx K)
 |.tuple []=>F7 P own ops os (Ft sl dst (.tuple [])) bx K
 |_=>False
def D0i(P:Program)(own:List Nat)(ops:Array Oper)(dst:Option Nat)(op:Op)(os:List Oper)(sl:SL)(bx:Aa)(E:Bool)(K:SL->Aa->Prop):Option Nat->Prop
 |some t=>C3u P own ops dst op os sl bx E K (Ag sl t)
 |none=>False
def Zu(P:Program)(own:List Nat)(ops:Array Oper)(dst:Option Nat)(op:Op)(os:List Oper)(sl:SL)(bx:Aa)(K:SL->Aa->Prop)(b E:Bool):Prop :=
 S4 b E (I7 P own dst sl bx op (B1h P own ops os sl dst K)) (F7 P own ops os (Ft sl dst (.tuple [])) bx K)
section
variable (P:Program) (own:List Nat) (ops:Array Oper) (os:List Oper) (sl:SL) (bx:Aa) (K:SL->Aa->Prop) (dst:Option Nat) (op:Op) (ty:TypeId) (pos:String) (after:Array Edge)
def F5a:F7 P own ops [] sl bx K=K sl bx:=by rfl
def H1h:F7 P own ops (⟨dst,op,ty,pos,after,none⟩::os) sl bx K=I7 P own dst sl bx op (B1h P own ops os sl dst K):=by rfl
def G6c(j:Nat)(E:Bool):F7 P own ops (⟨dst,op,ty,pos,after,some (j,E)⟩::os) sl bx K=D0i P own ops dst op os sl bx E K (Qe ops j):=by rfl
def F8o(r:SV)(pg:List Nat):B1h P own ops os sl dst K r bx pg=F7 P own ops os (Ft (Fe pg sl) dst r) bx K:=rfl
def F2p(b E:Bool):C3u P own ops dst op os sl bx E K (.d (.bool b))=Zu P own ops dst op os sl bx K b E:=rfl
def G2c(E:Bool):C3u P own ops dst op os sl bx E K (.tuple [])=F7 P own ops os (Ft sl dst (.tuple [])) bx K:=rfl
def F5c:Zu P own ops dst op os sl bx K true true=I7 P own dst sl bx op (B1h P own ops os sl dst K):=by simp[Zu,S4]
def E9w:Zu P own ops dst op os sl bx K false false=I7 P own dst sl bx op (B1h P own ops os sl dst K):=by simp[Zu,S4]
def F9y:Zu P own ops dst op os sl bx K true false=F7 P own ops os (Ft sl dst (.tuple [])) bx K:=by simp[Zu,S4]
def F8p:Zu P own ops dst op os sl bx K false true=F7 P own ops os (Ft sl dst (.tuple [])) bx K:=by simp[Zu,S4]
end
section
variable (P:Program) (own:List Nat) (ops:Array Oper) (os:List Oper) (sl:SL) (bx:Aa) (K:SL->Prop) (dst:Option Nat) (op:Op) (ty:TypeId) (pos:String) (after:Array Edge)
end
def E3i{ops:Array Oper}{A B:Prop}(h:match o.guard with
  |none=>A
  |some (j,E)=>match Qe ops j with
   |some t=>match Ag sl t with
    |.d (.bool b)=>S4 b E A B
    |.tuple []=>B
    |_=>False
   |none=>False):∃g,N3 ops sl o=some g/\(g=true->A)/\(g=false->B):=by
 unfold N3;cases M:o.guard with
 |none =>grind
 |some L =>
  obtain⟨j,E⟩:=L;simp only[M]at h;cases I:Qe ops j with
  |none=>grind
  |some t =>
   simp only[I]at h |-;split at h
   .rename_i b hs;refine⟨b ==E,by rw[hs],λJ=>h.1 (by grind),λJ=>h.2 ?_⟩;cases b <;> grind <;> simp_all
   .simp_all
   grind
def Xk{n:Nat}{own:List Nat}{ops:Array Oper}{K:SL->Aa->Prop}:∀(os:List Oper)(sl:SL)(bx:Aa),E6 n os=true->F7 P own ops os sl bx K->Z3 P n ops os sl bx K
 |[],sl,bx,_,h=>by rw[F7]at h;exact h
 |o::os,sl,bx,E,h=>by simp only[E6,Ro,Bc]at E;rw[F7]at h;obtain⟨g,L,U,M⟩:=E3i h;refine⟨g,L,Q2 (ops:=[o]) (by simp[E6,E.1]) o (by simp),λI=>?_,λI=>Xk os _ bx E.2 (M I)⟩;obtain⟨r,bx',pg,O,J⟩:=D1p (U I);exact⟨r,bx',pg,O,Xk os _ bx' E.2 J⟩
def He(ks:List Nat)(K:SL->Aa->Prop):SL->Aa->Prop:=λsl bx=>K (Wz ks sl) (T4 ks bx)
def G5f(ks:List Nat)(K:SL->Aa->Prop)(sl:SL)(bx:Aa):He ks K sl bx=K (Wz ks sl) (T4 ks bx):=rfl
def D0m(k:Nat):Option Ap->Aa->Aa
 |some c,r=>(k,c)::r
 |none,r=>r
def F1m(k:Nat)(ks:List Nat)(bx:Aa):T4 (k::ks) bx=D0m k (A7 bx k) (T4 ks bx):=by rw[T4];cases A7 bx k <;> rfl
def G5d(bx:Aa):T4 [] bx=[]:=rfl
def A0.reg{ro:Option Nat}{n:Nat}{Q:Exit->SL->Aa->Prop}{id:Nat}{ops:Array Oper}(ks own:List Nat)(E:E6 n ops.toList=true)
  (h:F7 P own ops ops.toList sl bx (He ks (Q .normal))):A0 ro P n (.region id ops false) Q sl bx :=
 A0.region ks ks E (Xk _ _ _ E h)
end Go.Abs
namespace Go.Abs
open Go
variable {P:Program}
mutual
def SV.bd:SV->Prop
 |.d x=>x.Bd
 |.agg cs=>SV.U2 cs
 |.tuple cs=>SV.U2 cs
 |.B0 _ cs=>SV.U2 cs
 |.Ah cells _=>∀d,d∈cells->d.Bd
 |.undef| .box _ _| .acc _| .Em _ _ _| .mp _| .Ek _| .Fs _ _=>True
def SV.U2:List SV->Prop
 |[]=>True
 |c::cs=>c.bd/\SV.U2 cs
end
mutual
theorem Ak.bd{S:Nat->Prop}{w:World}{β:Names}:∀{x:SV} {v:Value},Ak S w β x v->x.bd
 |.d x,v,h=>by simp only[SV.bd];exact h.J0.bd
 |.agg cs,v,h=>by cases h with|agg _ vs E _ I=>simp only[SV.bd];exact Bv.bd ⟨E,I⟩
 |.tuple cs,v,h=>by cases h with|tuple _ vs E I=>simp only[SV.bd];exact Bv.bd ⟨E,I⟩
 |.B0 f cs,v,h=>by cases h with|B0 _ _ vs E I=>simp only[SV.bd];exact Bv.bd ⟨E,I⟩
 |.Ah cells off,v,h=>by obtain⟨b,base,hp⟩:=h.C1p;simp only[SV.bd];intro d L;obtain⟨j,J⟩:=N4.1 L;obtain⟨u,O⟩:=hp.there j (B5.1 J).1;exact(hp.rep j d u J O).bd
 |.undef,v,h=>by simp[SV.bd]
 |.box _ _,v,h=>by simp[SV.bd]
 |.acc _,v,h=>by simp[SV.bd]
 |.Em _ _ _,v,h=>by simp[SV.bd]
 |.mp _,v,h=>by simp[SV.bd]
 |.Ek _,v,h=>by simp[SV.bd]
 |.Fs _ _,v,h=>by simp[SV.bd]
theorem Bv.bd{S:Nat->Prop}{w:World}{β:Names}:∀{cs:List SV} {vs:List Value},Bv S w β cs vs->SV.U2 cs
 |[],_,_=>by simp[SV.U2]
 |c::cs,vs,h=>by
  simp only[SV.U2];obtain⟨v,M,hr⟩:=h.get (j:=0) (c:=c) rfl;cases vs with
  |nil=>grind
  |cons v vs=>exact⟨(h.2 0 c v rfl rfl).bd,Bv.bd ⟨by have:=h.1;simpa using this,λj c v U M=>h.2 (j+1) c v (by grind) (by grind)⟩⟩
end
def Bj.bd{f:FuncId}{args:List SV}{pre E:Aa}{r:SV}(J:Enters P f)(h:SV.U2 args->Bj P f args pre r E):Bj P f args pre r E :=
 ⟨J,λC β vs L I=>(h I.bd).2 C β vs L I⟩
def Enters.of{f:FuncId}{fn:Func}{c:Code}(I:P.funcs[f]?=some fn)(J:fn.body=some c)(E:(fn.name == "runtime.NumGoroutine")=false):Enters P f:=⟨fn,I,E,by grind⟩
def D5m(P:Program)(fn:Func)(r:SV)(E:Aa)(e:Exit)(sl:SL)(bx:Aa):Prop :=
 match e with
 |.normal| .ret=>∃xs,T8 P bx sl fn.results.toList=some xs/\(T9 xs=r\/coerce [] (T9 xs)=some r)/\ble bx E
 |_=>False
def Bj.L5{f:FuncId}{fn:Func}{c:Code}{args:List SV}{pre E:Aa}{r:SV}(J:P.funcs[f]?=some fn)(V:fn.body=some c)(M:(fn.name == "runtime.NumGoroutine")=false)(U:args.length<=fn.ntmps)
  (h:A0 none P fn.ntmps c (D5m P fn r E) (Ua 0 args) pre):Bj P f args pre r E:=by
 refine⟨⟨fn,J,M,by grind⟩,?_⟩;intro C β vs Z hv;refine C2z J V ?_;refine Xw (h C C.S0 C.w0 β _ (St.start Z hv U)) ?_;rintro e L w' ⟨sl',bx',S',β',q,hs⟩;have key:(∃xs,T8 P bx' sl' fn.results.toList=some xs/\(T9 xs=r\/coerce [] (T9 xs)=some r)/\ble bx' E)->LeavesInM Fence.wide 0 P fn L.tmps (λe w'=>∃v S' β',e=.returned v/\Inv C S' w' β' E/\Ak S' w' β' r v) L.defers .returning w':=by
  rintro⟨xs,O,h2,h5⟩;refine hs.leave λw' hs=>?_;obtain⟨v,W,I⟩:=B9t (P:=P) hs O;refine⟨v,W,v,S',β',rfl,hs.inv.sub (A1d h5),?_⟩;rcases h2 with rfl|h2
  .exact I
  .exact(Xm (hs.inv.sub (bx':=[]) (by simp)) (Bk.refl _ _) (by simp) h2 I).1
 cases e with
 |normal=>exact key q
 |ret=>exact key q
 |_=>exact q.elim
section steps
variable {ro:Option Nat} {n:Nat} {Q:Exit->SL->Aa->Prop} {sl:SL} {bx:Aa}
def A0.B1d{x y:Code}(h:∀K:SL->Aa->Prop,(∀sl' bx',A0 ro P n y Q sl' bx'->K sl' bx')->A0 ro P n x (A4 K Q) sl bx):A0 ro P n (.seq x y) Q sl bx :=
 A0.seq (h _ λ_ _ h=>h)
def A0.C4y{x y:Code}(h:∀K:SL->Aa->Prop,(∀sl' bx',A0 ro P n y Q sl' bx'->K sl' bx')->(∀{L I J E},sle L J->ble I E->K J E->K L I)->A0 ro P n x (A4 K Q) sl bx):A0 ro P n (.seq x y) Q sl bx :=
 A0.seq (h _ (λ_ _ h=>h) λa b c=>A0.ww a b c)
def A0.Ef{id:Nat}{ops:Array Oper}{y:Code}(ks own:List Nat)(E:E6 n ops.toList=true)
  (h:∀K:SL->Aa->Prop,(∀sl' bx',A0 ro P n y Q sl' bx'->K sl' bx')->F7 P own ops ops.toList sl bx (He ks K)):A0 ro P n (.seq (.region id ops false) y) Q sl bx :=
 A0.seq (A0.reg ks own E (h _ λ_ _ h=>h))
def A0.Qs{id:Nat}{ops:Array Oper}(ks own:List Nat)(E:E6 n ops.toList=true)
  (h:∀K:SL->Aa->Prop,(∀sl' bx',Q .normal sl' bx'->K sl' bx')->F7 P own ops ops.toList sl bx (He ks K)):A0 ro P n (.region id ops false) Q sl bx :=
 A0.reg ks own E (h _ λ_ _ h=>h)
def A0.tt{c:Operand}{x y:Code}(E:Ao sl c=.d (.bool true))(h:A0 ro P n x Q sl bx):A0 ro P n (.cond c x y) Q sl bx:=A0.cond E (λ_=>h) (by simp)
def A0.ff{c:Operand}{x y:Code}(E:Ao sl c=.d (.bool false))(h:A0 ro P n y Q sl bx):A0 ro P n (.cond c x y) Q sl bx:=A0.cond E (by simp) (λ_=>h)
end steps
end Go.Abs
namespace Go.Abs
open Go
variable {ro:Option Nat} {P:Program} {n:Nat} {Q:Exit->SL->Aa->Prop} {sl:SL} {bx:Aa}
def Bj.pub{f:FuncId}{args:List SV}{q sz:Nat}{rs:List (List D)}(h:Bj P f args [] (.acc q) [(q,.rows sz rs)]):Ac P f args (.d (.slice rs)):=by refine⟨h.1,λC β vs M E=>(h.2 C β vs M E).mono ?_⟩;rintro e w' ⟨v,S',β',rfl,L,E⟩;obtain⟨I,_,J⟩:=L.Jq (k:=q) (sz:=sz) (rs:=rs) (by simp);cases E;exact⟨_,_,β',rfl,I.sub (by simp),.d _ _ J⟩
def A0.Fk{c:Operand}{y z:Code}(E:Ao sl c=.d (.bool true))(h:A0 ro P n z Q sl bx):A0 ro P n (.seq (.cond c .skip y) z) Q sl bx :=
 A0.seq (A0.tt E (A0.kk h))
def A0.stop{c:Operand}{x z:Code}{id:Nat}(E:Ao sl c=.d (.bool false))(h:Q (.exit id) sl bx):A0 ro P n (.seq (.cond c x (.exit id)) z) Q sl bx :=
 A0.seq (A0.ff E (A0.xx h))
variable {K:SL->Aa->Prop}
def A0.Pk{c:Operand}{x z:Code}{b:Bool}(M:Ao sl c=.d (.bool b))(O:∀sl' bx',A0 ro P n z Q sl' bx'->K sl' bx')
  (J:b=true->A0 ro P n x (A4 (λ_ _=>False) Q) sl bx)(L:b=false->A0 ro P n z Q sl bx):A0 ro P n (.cond c x .skip) (A4 K Q) sl bx :=
 A0.cond M (λE=>(J E).mono λe _ _ I=>by cases e <;> first|exact I.elim|exact I) (λE=>A0.kk (O _ _ (L E)))
def A0.E8i{c:Operand}{x y:Code}(J:Ao sl c=.d (.bool true))(I:A0 ro P n x (A4 (λ_ _=>False) Q) sl bx):A0 ro P n (.cond c x y) (A4 K Q) sl bx :=
 A0.tt J (I.mono λe _ _ E=>by cases e <;> first|exact E.elim|exact E)
def A0.E9t{c:Operand}{x z:Code}(J:Ao sl c=.d (.bool false))(E:∀sl' bx',A0 ro P n z Q sl' bx'->K sl' bx')(I:A0 ro P n z Q sl bx):A0 ro P n (.cond c x .skip) (A4 K Q) sl bx :=
 A0.ff J (A0.kk (E _ _ I))
def A0.G2e{c:Operand}{y z:Code}(J:Ao sl c=.d (.bool true))(E:∀sl' bx',A0 ro P n z Q sl' bx'->K sl' bx')(I:A0 ro P n z Q sl bx):A0 ro P n (.cond c .skip y) (A4 K Q) sl bx :=
 A0.tt J (A0.kk (E _ _ I))
def A0.ss{c:Operand}{x:Code}{id:Nat}(E:Ao sl c=.d (.bool false))(h:Q (.exit id) sl bx):A0 ro P n (.cond c x (.exit id)) (A4 K Q) sl bx :=
 A0.ff E (A0.xx h)
def A0.ii{α X:Type}(L:List α)(mk:Nat->X->SL)(mb:Nat->X->Aa)(I:Nat->X->Prop){c:Code}(M:X)(Z:I 0 M)(h1:sle sl (mk 0 M))(h2:ble bx (mb 0 M))
  (V:∀x,I L.length x->A0 ro P n c (A4 (λ_ _=>False) Q) (mk L.length x) (mb L.length x))
  (step:∀j x a,L[j]?=some a->a∈L->L.drop j=a::L.drop (j+1)->L.take (j+1)=L.take j++[a]->(j:Int)<(L.length:Int)->I j x ->
   A0 ro P n c (A4 (λsl' bx'=>∃J,I (j+1) J/\sle sl' (mk (j+1) J)/\ble bx' (mb (j+1) J)) Q) (mk j x) (mb j x)):A0 ro P n (.loop c) Q sl bx:=by
 refine A0.loop (X:=Nat × X) (λx=>mk x.1 x.2) (λx=>mb x.1 x.2) (λx=>x.1<=L.length/\I x.1 x.2) (λx=>L.length - x.1) (0,M) ⟨by simp,Z⟩ h1 h2 ?_;rintro⟨j,x⟩ ⟨hj,O⟩;simp only at hj O;by_cases E:j<L.length
 .refine(step j x L[j] (B8 E) (Fa E) (Ge E) (Yk E) (by omega) O).mono ?_;intro e sl' bx' U;cases e with
  |normal=>obtain⟨J,g1,W,g3⟩:=U;exact⟨(j+1,J),⟨by omega,g1⟩,by omega,W,g3⟩
  |_=>exact U
 grind
def bsize(l:List UInt8):(ByteArray.mk ⟨l⟩).size=l.length:=rfl
def G6b{n:Nat}(h:n<=1000):(n<=lim)=True:=by simp only[eq_iff_iff,iff_true];unfold lim;omega
end Go.Abs
