import Derived.IntWalk
import Derived.Test.YtoajimpjknbnoaaGreatDoorKAb3
set_option linter.all false
namespace Go.iA
open Go
variable {P:Program}
def B6(x:Int):Prop:=-9223372036854775808<=x/\x<9223372036854775808
def wrap_i64{x:Int}(h:B6 x):IntKind.i64.wrap x=x:=IntWalk.i64_in x (by unfold B6 at h;omega)
def Ns(op:BinOp)(k:IntKind)(x y:Int)(K:SV->Prop):Prop :=match k,op with
 |.i64,.add=>B6 (x+y)/\K (.d (.int .i64 (x+y)))
 |.i64,.sub=>B6 (x - y)/\K (.d (.int .i64 (x - y)))
 |.i64,.mul=>B6 (x*y)/\K (.d (.int .i64 (x*y)))
 |.i64,.quo=>y≠0/\B6 (x.tdiv y)/\K (.d (.int .i64 (x.tdiv y)))
 |k,.add=>K (.d (.int k (k.wrap (x+y))))
 |k,.sub=>K (.d (.int k (k.wrap (x - y))))
 |k,.mul=>K (.d (.int k (k.wrap (x*y))))
 |k,.quo=>y≠0/\K (.d (.int k (k.wrap (x.tdiv y))))
 |k,.rem=>y≠0/\K (.d (.int k (x.tmod y)))
 |_,.eql=>K (.d (.bool (decide (x=y))))
 |_,.neq=>K (.d (.bool (decide (x≠y))))
 |_,.lss=>K (.d (.bool (decide (x<y))))
 |_,.leq=>K (.d (.bool (decide (x<=y))))
 |_,.gtr=>K (.d (.bool (decide (y<x))))
 |_,.geq=>K (.d (.bool (decide (y<=x))))
 |_,_=>False
def ni(P:Program)(t:TypeId):Bool:=(P.underlying t).any (λd=>match d with| .pointer _=>true|_=>false)
def Dy(P:Program)(t:TypeId):Bool:=(P.underlying t).any (λd=>match d with| .interface _=>true|_=>false)
def JF:BinOp->A3->A3->(SV->Prop)->Prop
 |.add,a,b,K=>a.length+b.length<=lim/\K (.d (.str (a++b)))
 |.eql,a,b,K=>K (.d (.bool (decide (a=b))))
 |.neq,a,b,K=>K (.d (.bool (decide (a≠b))))
 |.lss,a,b,K=>K (.d (.bool (Op.bytesLess a b)))
 |.gtr,a,b,K=>K (.d (.bool (Op.bytesLess b a)))
 |_,_,_,_=>False
def CM:BinOp->Bool->Bool->(SV->Prop)->Prop
 |.eql,a,b,K=>K (.d (.bool (a ==b)))
 |.neq,a,b,K=>K (.d (.bool (!(a ==b))))
 |_,_,_,_=>False
def Yq:BinOp->Option Bool->(SV->Prop)->Prop
 |.eql,some b,K=>K (.d (.bool b))
 |.neq,some b,K=>K (.d (.bool (!b)))
 |_,_,_=>False
def sM(op:BinOp)(k j:IntKind)(a b:Int)(K:SV->Prop):Prop :=match op with
 |.shr=>0<=b/\K (.d (.int k (a.fdiv (2 ^ min b.toNat k.bits))))
 |.shl=>0<=b/\K (.d (.int k (k.wrap (a*2 ^ min b.toNat k.bits))))
 |op=>k=j/\Ns op k a b K
def Wh(P:Program)(op:BinOp)(t:TypeId)(c:Bool)(H:Prop):SV->SV->(SV->Prop)->Prop
 |.d (.int k a),.d (.int j b),K=>sM op k j a b K
 |.d (.str a),.d (.str b),K=>JF op a b K
 |.d (.bool a),.d (.bool b),K=>P.underlying t=some .bool/\CM op a b K
 |.d .Hd,.d .Hd,K=>c=true/\Dy P t=true/\Yq op (some true) K
 |.d (.iface _ _),.d .Hd,K=>c=true/\Dy P t=true/\Yq op (some false) K
 |x,.d .Mo,K=>ni P t=true/\Yq op (Rf x) K
 |x,.d .nil,K=>(E9 P t).isSome=true/\Yq op (Qz x) K
 |.agg _,.agg _,_=>H
 |_,_,_=>False
def Quiet(P:Program)(o:Oper)(sl:SL)(bx:Ac)(K:SV->Prop):Prop:=∃r,C1 P o (Aq sl) bx r bx []/\K r
variable {o:Oper} {sl:SL} {bx:Ac} {K:SV->Prop}
theorem G3b{op:BinOp}{t u:TypeId}{x y:Operand}(I:o.op=.binOp op t x y u){k:IntKind}{a b:Int}(L:Aq sl x=.d (.int k a))(J:Aq sl y=.d (.int k b))(h:Ns op k a b K):Quiet P o sl bx K:=by
 have cmp:∀{c:Bool},BO op a b=some c->K (.d (.bool c))->Quiet P o sl bx K:=λU O=>⟨_,H2o I L J U,O⟩;have E:∀{c:Int},kV op k a b=some c->K (.d (.int k c))->Quiet P o sl bx K:=λU O=>⟨_,G9w I L J U,O⟩;have w:∀{z:Int},k=.i64->B6 z->k.wrap z=z:=λW V=>by subst W;exact wrap_i64 V
 unfold Ns at h;split at h;exact E rfl (by grind);exact E rfl (by grind);exact E rfl (by grind);exact⟨_,fX I L J h.1,by grind⟩;exact E rfl h;exact E rfl h;exact E rfl h;exact⟨_,fX I L J h.1,h.2⟩;exact⟨_,F8x I L J h.1,h.2⟩;exact cmp rfl h;exact cmp rfl h;exact cmp rfl h;exact cmp rfl h;exact cmp rfl h;exact cmp rfl h;grind
def tZ{op:BinOp}{t u:TypeId}{x y:Operand}(J:o.op=.binOp op t x y u){k j:IntKind}{m n r:Int}(V:Aq sl x=.d (.int k m))(U:Aq sl y=.d (.int j n))(W:0<=n)
  (hr:(op=.shr/\r=m.fdiv (2 ^ min n.toNat k.bits))\/(op=.shl/\r=k.wrap (m*2 ^ min n.toNat k.bits))):C1 P o (Aq sl) bx (.d (.int k r)) bx [] :=
 .Ei λ_ _ w _ a _ O=>by
  have I:=(O x (mo J (by grind[Op.operands])));rw[V]at I;have I:=I.J6;have E:=(O y (mo J (by grind[Op.operands])));rw[U]at E;have E:=E.J6;refine⟨.int k r,?_,.int k r⟩;have L:¬n<0:=by omega
  rcases hr with⟨rfl,rfl⟩|⟨rfl,rfl⟩ <;> simp[execOp,J,I,E,WL,binOp,Op.shift,L]
def F5j{op:BinOp}{t u:TypeId}{x y:Operand}(I:o.op=.binOp op t x y u){H:Prop}(U:H->Quiet P o sl bx K)(h:Wh P op t (dI y) H (Aq sl x) (Aq sl y) K):Quiet P o sl bx K:=by unfold Wh at h;split at h;rename_i J E;unfold sM at h;split at h;exact⟨_,tZ I J E h.1 (.inl ⟨rfl,rfl⟩),h.2⟩;exact⟨_,tZ I J E h.1 (.inr ⟨rfl,rfl⟩),h.2⟩;grind[G3b];rename_i J E;unfold JF at h;split at h;exact⟨_,H4x I J E h.1,h.2⟩;exact⟨_,sO I J E rfl,h⟩;exact⟨_,sO I J E rfl,h⟩;exact⟨_,sO I J E rfl,h⟩;exact⟨_,sO I J E rfl,h⟩;grind;rename_i J E;obtain⟨ht,h⟩:=h;unfold CM at h;split at h;exact⟨_,tj I ht J E rfl,h⟩;exact⟨_,tj I ht J E rfl,h⟩;grind;rename_i J E;obtain⟨O,ht,h⟩:=h;unfold Yq at h;split at h;rename_i L;exact⟨_,vP I ht (by rw[J];exact L) E O rfl,h⟩;rename_i L;exact⟨_,vP I ht (by rw[J];exact L) E O rfl,h⟩;grind;rename_i J E;obtain⟨O,ht,h⟩:=h;unfold Yq at h;split at h;rename_i L;exact⟨_,vP I ht (by rw[J];exact L) E O rfl,h⟩;rename_i L;exact⟨_,vP I ht (by rw[J];exact L) E O rfl,h⟩;grind;rename_i E;obtain⟨ht,h⟩:=h;unfold Yq at h;split at h;rename_i L;exact⟨_,ue I ht L E rfl,h⟩;rename_i L;exact⟨_,ue I ht L E rfl,h⟩;grind;rename_i E;obtain⟨ht,h⟩:=h;obtain⟨e,ht⟩:=X3.1 ht;unfold Yq at h;split at h;rename_i L;exact⟨_,di I ht L E rfl,h⟩;rename_i L;exact⟨_,di I ht L E rfl,h⟩;grind;grind;grind
def cC(P:Program)(sl:SL)(bx:Ac)(op:Op)(r:SV):Prop:=∀o:Oper,o.op=op->C1 P o (Aq sl) bx r bx []
def yH(P:Program)(sl:SL)(bx:Ac)(op:Op)(K:SV->Prop):Prop:=∃r,cC P sl bx op r/\K r
def QK(P:Program)(sl:SL)(bx:Ac)(dst:Option Nat)(op:Op)(r:SV)(bx':Ac)(pg:List Nat):Prop:=∀o:Oper,o.op=op->o.dst=dst->C1 P o (Aq sl) bx r bx' pg
def aJ(P:Program)(sl:SL)(bx:Ac)(dst:Option Nat)(op:Op)(K:SV->Ac->List Nat->Prop):Prop:=∃r bx' pg,QK P sl bx dst op r bx' pg/\K r bx' pg
def Na{α:Type}:Option α->(α->Prop)->Prop
 |some c,K=>K c
 |none,_=>False
def fH:Option Nat->SV->(SV->Prop)->Prop
 |some d,.box k off,K=>K (.box k (off+d))
 |some d,.A8 c off,K=>K (.A8 c (off+d))
 |some d,.d (.ptr c),K=>K (.A8 c (0+d))
 |some d,.Fa k i off,K=>K (.Fa k i (off+d))
 |_,_,_=>False
def Dd(P:Program)(T:TypeId)(f:Nat):Option (Nat × Bool × Nat):=match P.underlying T with
 |some (.struct fs)=>match fs[f]? with
  |some fd=>match D2 P fd.type,Bp P fd.type with
   |some b,some n=>some (fd.offset,b,n)
   |_,_=>none
  |none=>none
 |_=>none
def jI:Option (Nat × Bool × Nat)->SV->(SV->Prop)->Prop
 |some (d,true,n),.agg cs,K=>K (.agg (part cs d n))
 |some (d,false,_),.agg cs,K=>Na (cs[d]?) K
 |_,_,_=>False
def yT:Option Ax->Nat->Nat->Int->(SV->Prop)->Prop
 |some (.rows sz rows),q,m,i,K=>sz=m/\0<=i/\i.toNat<rows.length/\K (.Fa q i.toNat 0)
 |_,_,_,_,_=>False
def mH(bx:Ac)(H:(SV->Prop)->Prop):Option Nat->SV->SV->(SV->Prop)->Prop
 |some m,.d (.slice rows),.d (.int _ i),K=>0<=i/\∃row,rows[i.toNat]?=some row/\row.length=m/\K (.A8 row 0)
 |some m,.acc q,.d (.int _ i),K=>yT (A9 bx q) q m i K
 |none,.box _ _,.d (.int _ _),K=>H K
 |none,.undef,.d (.int _ _),K=>H K
 |_,_,_,_=>False
def Xp(P:Program)(T:Nat):Option Nat:=(E9 P T).bind (Bp P)
def BN:Option Ax->(SV->Prop)->Prop
 |some (.rows _ rows),K=>K (.d (.int .i64 rows.length))
 |_,_=>False
def WJ:Option TypeDesc->Option Ax->(SV->Prop)->Prop
 |some (.map _ _),some (.map kvs),K=>K (.d (.int .i64 kvs.length))
 |_,_,_=>False
def Ze(P:Program)(bx:Ac)(T:Nat):SV->(SV->Prop)->Prop
 |.d (.slice rows),K=>(E9 P T).isSome=true/\K (.d (.int .i64 rows.length))
 |.d .nil,K=>(E9 P T).isSome=true/\K (.d (.int .i64 0))
 |.d .emp,K=>(E9 P T).isSome=true/\K (.d (.int .i64 0))
 |.d (.str s),K=>P.underlying T=some .string/\K (.d (.int .i64 s.length))
 |.acc q,K=>(E9 P T).isSome=true/\BN (A9 bx q) K
 |.mp q,K=>WJ (P.underlying T) (A9 bx q) K
 |.d (.map kvs),K=>WJ (P.underlying T) (some (.map kvs)) K
 |_,_=>False
def CO(P:Program)(args:List SV)(bx:Ac)(H:(SV->Prop)->Prop):SV->(SV->Prop)->Prop
 |.Bi f caps,K=>∃r,((∃E,Gz [] (args++caps)=some E/\Ab P f E r/\r.closed=true)\/(∃E,Gz bx (args++caps)=some E/\Ab P f E r/\r.scalar=true))/\K r
 |_,K=>H K
def YF(P:Program)(sl:SL)(bx:Ac):Callee->List Operand->List TypeId->(SV->Prop)->Prop
 |.value fo,args,Dr,K=>CO P (args.map (Aq sl)) bx (yH P sl bx (.call ⟨.value fo,args.toArray,Dr.toArray⟩)) (Aq sl fo) K
 |.builtin .len,[x],[T],K=>Ze P bx T (Aq sl x) K
 |c,args,Dr,K=>yH P sl bx (.call ⟨c,args.toArray,Dr.toArray⟩) K
def zO:SV->SV->SV->(SV->Prop)->Prop
 |.d (.bool t),x,y,K=>K (if t then x else y)
 |_,_,_,_=>False
def BP:SV->(SV->Prop)->Prop
 |.d (.bool b),K=>K (.d (.bool (!b)))
 |_,_=>False
def yO:SV->(SV->Prop)->Prop
 |.d (.int .i64 m),K=>B6 (0 - m)/\K (.d (.int .i64 (0 - m)))
 |_,_=>False
def IQ(P:Program)(T:Nat):SV->SV->(SV->Prop)->Prop
 |.d (.str s),.d (.int _ i),K=>P.underlying T=some .string/\0<=i/\∃c,s[i.toNat]?=some c/\K (.d (.int .u8 c.toNat))
 |_,_,_=>False
def ZQ:SV->Nat->(SV->Prop)->Prop
 |.tuple xs,i,K=>Na (xs[i]?) K
 |_,_,_=>False
def VJ:SV->(SV->Prop)->Prop
 |.box k off,K=>K (.box k off)
 |.A8 c off,K=>K (.A8 c off)
 |.d (.ptr c),K=>K (.d (.ptr c))
 |_,_=>False
def EM(H:(SV->Prop)->Prop):Option TypeDesc->Option TypeDesc->SV->(SV->Prop)->Prop
 |some (.int _),some (.int E),.d (.int _ m),K=>K (.d (.int E (E.wrap m)))
 |some .string,some .string,.d (.str t),K=>K (.d (.str t))
 |_,_,_,K=>H K
def qM(T:Nat):SV->(SV->Prop)->Prop
 |.d y,K=>K (.d (.iface T y))
 |.agg cs,K=>∃ds,cs=ds.map SV.d/\K (.d (.iface T (.agg ds)))
 |_,_=>False
def WN:Option (List SV)->Option (List (Nat × Nat))->Option (List (Nat × List SV))->(SV->Prop)->Prop
 |some E,some ps,some l,K=>Na (ID ps E l) λout=>out.all SV.one=true/\K (.agg out)
 |_,_,_,_=>False
def pI(m I:Nat):Option Nat->Option (List SV)->Option (List (List D))->(List (List D)->Prop)->Prop
 |some sz,some E,some rows,K=>1<=sz/\E.length=sz/\m*sz<=16777216/\I=m/\K rows
 |_,_,_,_=>False
def Lc(P:Program)(T:Nat):Nat:=(E9 P T).getD 0
def ie(ok:Bool)(E:D)(kvs:List (D × D))(K:SV->Prop)(z:SV):Prop:=K (UE ok E kvs z)
def QP(P:Program)(I et:TypeId)(ok:Bool)(kvs:List (D × D))(K:SV->Prop)(E:D):Prop :=E1 P I E/\Na (VG P et) (ie ok E kvs K)
def jP(P:Program)(E et:TypeId)(ok:Bool)(x:SV)(K:SV->Prop):Option Ax->Prop
 |some (.map kvs)=>Ny P E=true/\(∀kv,kv∈kvs->E1 P E kv.1)/\Na (Nu x) (QP P E et ok kvs K)
 |_=>False
def oK(P:Program)(bx:Ac)(ok:Bool)(x:SV):Option TypeDesc->SV->(SV->Prop)->Prop
 |some (.map E et),.mp k,K=>jP P E et ok x K (A9 bx k)
 |some (.map E et),.d (.map kvs),K=>Ny P E=true/\(∀kv,kv∈kvs->E1 P E kv.1)/\Na (Nu x) (QP P E et ok kvs K)
 |_,_,_=>False
def loV:Option SV->Option Int
 |none=>some 0
 |some (.d (.int _ i))=>some i
 |_=>none
def hiV(n:Nat):Option SV->Option Int
 |none=>some n
 |some (.d (.int _ i))=>some i
 |_=>none
def cutAt(n:Nat)(K:Nat->Nat->Prop):Option Int->Option Int->Prop
 |some l,some h=>0<=l/\l<=h/\h<=n/\K l.toNat h.toNat
 |_,_=>False
def eV(rows:List (List D))(E I:Option SV)(K:SV->Prop):Option Nat->Prop
 |some sz=>(∀row,row∈rows->row.length=sz)/\cutAt rows.length (λl h=>K (.d (.slice ((rows.take h).drop l)))) (loV E) (hiV rows.length I)
 |none=>False
def JI(P:Program)(T:TypeId)(E I:Option SV):SV->(SV->Prop)->Prop
 |.d (.slice rows),K=>eV rows E I K (Xp P T)
 |.d (.str s),K=>P.underlying T=some .string/\cutAt s.length (λl h=>K (.d (.str ((s.take h).drop l)))) (loV E) (hiV s.length I)
 |_,_=>False
def It(P:Program)(sl:SL)(bx:Ac):Op->(SV->Prop)->Prop
 |.move x,K=>K (Aq sl x)
 |.assign x,K=>K (Aq sl x)
 |.pick c x y,K=>zO (Aq sl c) (Aq sl x) (Aq sl y) K
 |.load T x,K=>Na (M8 P bx T (Aq sl x)) K
 |.binOp op t x y u,K=>Wh P op t (dI y) (yH P sl bx (.binOp op t x y u) K) (Aq sl x) (Aq sl y) K
 |.unOp .not _ x,K=>BP (Aq sl x) K
 |.unOp .neg _ x,K=>yO (Aq sl x) K
 |.fieldAddr T x f,K=>fH (D9 P T f) (Aq sl x) K
 |.field T x f,K=>jI (Dd P T f) (Aq sl x) K
 |.indexAddr T x y,K=>mH bx (yH P sl bx (.indexAddr T x y)) (Xp P T) (Aq sl x) (Aq sl y) K
 |.index T x y,K=>IQ P T (Aq sl x) (Aq sl y) K
 |.extract x i,K=>ZQ (Aq sl x) i K
 |.nilCheck x,K=>VJ (Aq sl x) K
 |.convert s d x,K=>EM (yH P sl bx (.convert s d x)) (P.underlying s) (P.underlying d) (Aq sl x) K
 |.makeInterface T x,K=>Dy P T=false/\(P.underlying T).isSome=true/\qM T (Aq sl x) K
 |.build T parts,K=>WN (Co P T) (Mi P T) (Zc (Aq sl) parts.toList) K
 |.buildSlice T m parts,K=>(E9 P T).isSome=true/\pI m parts.size (Bp P (Lc P T)) (Co P (Lc P T)) (rowsOf (Aq sl) ((Bp P (Lc P T)).getD 0) 0 parts.toList) λrows=>K (.d (.slice rows))
 |.call c,K=>YF P sl bx c.callee c.args.toList c.argTypes.toList K
 |.makeFunc (.func f) ⟨[]⟩ caps,K=>K (.Bi f (caps.toList.map (Aq sl)))
 |.slice T x E I none,K=>JI P T (E.map (Aq sl)) (I.map (Aq sl)) (Aq sl x) K
 |.lookup T m x ok,K=>oK P bx ok (Aq sl x) (P.underlying T) (Aq sl m) K
 |op,K=>yH P sl bx op K
theorem eP{c:Call}(I:o.op=.call c)(h:YF P sl bx c.callee c.args.toList c.argTypes.toList K):Quiet P o sl bx K:=by
 obtain⟨callee,args,Dr⟩:=c;simp only at h;unfold YF at h;split at h;rename_i fo _ _ _;unfold CO at h;split at h;rename_i hf;obtain⟨r,h1|h1,hK⟩:=h;obtain⟨J,L,Z,W⟩:=h1;exact⟨_,iw I hf L Z W,hK⟩;obtain⟨J,L,Z,W⟩:=h1;exact⟨_,H5g I hf L Z W,hK⟩;obtain⟨r,h1,L⟩:=h;exact⟨r,h1 o I,L⟩
 .rename_i x T E hT;have V:args = #[x]:=by apply L5;simpa using E
  have a0:Dr = #[T]:=by apply L5;simpa using hT
  subst V a0;unfold Ze at h;split at h;rename_i E;obtain⟨e,O⟩:=X3.1 h.1;exact⟨_,F5z I E O,h.2⟩;rename_i E;obtain⟨e,O⟩:=X3.1 h.1;exact⟨_,aY I (.inl E) O,h.2⟩;rename_i E;obtain⟨e,O⟩:=X3.1 h.1;exact⟨_,aY I (.inr E) O,h.2⟩;rename_i E;exact⟨_,zw I E h.1,h.2⟩;rename_i E;obtain⟨h1,h⟩:=h;obtain⟨e,O⟩:=X3.1 h1;unfold BN at h;split at h;rename_i U;exact⟨_,F7b I E (Ho U) O,h⟩;grind;rename_i E;generalize U:A9 bx _=ob at h;generalize hT:P.underlying _=ot at h;unfold WJ at h;split at h;exact⟨_,se I (by rw[E];exact .mp _ _ (Ho U)) hT,h⟩;grind;rename_i E;generalize hT:P.underlying _=ot at h;unfold WJ at h;split at h;rename_i U;simp only[B8,Ax.map.injEq]at U;subst U;exact⟨_,se I (by rw[E];exact .d _) hT,h⟩;grind;grind
 obtain⟨r,h1,L⟩:=h;exact⟨r,h1 o I,L⟩
theorem cL{T m:Nat}(h:Xp P T=some m):∃e,E9 P T=some e/\Bp P e=some m:=by grind[Xp,E9]
theorem H3y{T:TypeId}{m x:Operand}{ok:Bool}(U:o.op=.lookup T m x ok)(h:oK P bx ok (Aq sl x) (P.underlying T) (Aq sl m) K):Quiet P o sl bx K:=by
 have E:∀{J et:TypeId} {kvs:List (D × D)},P.underlying T=some (.map J et)->IsMap bx (Aq sl m) kvs->Ny P J=true->(∀kv,kv∈kvs->E1 P J kv.1)->Na (Nu (Aq sl x)) (QP P J et ok kvs K)->Quiet P o sl bx K:=by intro J et kvs hT L V I h;unfold Na at h;split at h;rename_i hx;obtain⟨Z,h⟩:=h;unfold Na at h;split at h;rename_i O;exact⟨_,H0a U L hT V hx Z I O,h⟩;grind;grind
 generalize L:Aq sl m=vm at h;generalize hT:P.underlying T=vT at h;unfold oK at h;split at h;generalize W:A9 bx _=ob at h;unfold jP at h;split at h;exact E hT (by rw[L];exact .mp _ _ (Ho W)) h.1 h.2.1 h.2.2;grind;exact E hT (by rw[L];exact .d _) h.1 h.2.1 h.2.2;grind
theorem ov{T:TypeId}{x:Operand}{f:Nat}(V:o.op=.field T x f)(h:jI (Dd P T f) (Aq sl x) K):Quiet P o sl bx K:=by generalize hp:Dd P T f=pl at h;unfold Dd at hp;split at hp;rename_i fs hT;split at hp;rename_i fd U;split at hp;rename_i b m W hs;subst hp;unfold jI at h;split at h;rename_i L O;simp only[B8,Gg]at L;obtain⟨J,E,I⟩:=L;subst J E I;exact⟨_,G3z V O hT U rfl rfl W hs,h⟩;rename_i L O;simp only[B8,Gg]at L;obtain⟨J,E,I⟩:=L;subst J E I;unfold Na at h;split at h;rename_i Z;exact⟨_,G6y V O hT U rfl rfl W Z,h⟩;grind;grind;subst hp;exact h.elim;subst hp;exact h.elim;subst hp;exact h.elim
def IZ{E:Option Operand}{l:Int}(h:loV (E.map (Aq sl))=some l)(I:0<=l):loN (Aq sl) E=some l.toNat:=by
 cases E with
 |none=>simp only[xJ,loV,B8]at h;subst h;rfl
 |some y =>simp only[Em]at h;unfold loN;simp only;generalize Aq sl y=v at h;cases v <;> simp only[loV,reduceCtorEq]at h;rename_i d;cases d <;> simp only[loV,reduceCtorEq]at h;simp only[B8]at h;subst h;simp[I]
def WW{E:Option Operand}{n:Nat}{l:Int}(h:hiV n (E.map (Aq sl))=some l)(I:0<=l):hiN (Aq sl) n E=some l.toNat:=by
 cases E with
 |none=>simp only[xJ,hiV,B8]at h;subst h;rfl
 |some y =>simp only[Em]at h;unfold hiN;simp only;generalize Aq sl y=v at h;cases v <;> simp only[hiV,reduceCtorEq]at h;rename_i d;cases d <;> simp only[hiV,reduceCtorEq]at h;simp only[B8]at h;subst h;simp[I]
def j0{n:Nat}{K:Nat->Nat->Prop}{a b:Option Int}(h:cutAt n K a b):∃l k,a=some l/\b=some k/\0<=l/\l<=k/\k<=n/\K l.toNat k.toNat:=by unfold cutAt at h;grind
theorem F9c{T:TypeId}{x:Operand}{U W:Option Operand}(V:o.op=.slice T x U W none)(h:JI P T (U.map (Aq sl)) (W.map (Aq sl)) (Aq sl x) K):Quiet P o sl bx K:=by
 unfold JI at h;split at h
 .rename_i O;generalize hs:Xp P T=os at h;cases os with
  |none=>exact h.elim
  |some sz =>obtain⟨e,hT,hs⟩:=cL hs;obtain⟨hr,h⟩:=h;obtain⟨l,k,L,I,J,h4,Z,E⟩:=j0 h;exact⟨_,G3p V O hT hs hr (IZ L J) (WW I (by omega)) (by omega) (by omega),E⟩
 rename_i O;obtain⟨hT,h⟩:=h;obtain⟨l,k,L,I,J,h4,Z,E⟩:=j0 h;exact⟨_,F8d V O hT (IZ L J) (WW I (by omega)) (by omega) (by omega),E⟩;grind
def SO(h:It P sl bx o.op K):Quiet P o sl bx K:=by
 unfold It at h;split at h;rename_i E;exact⟨_,H4t E,h⟩;rename_i E;exact⟨_,H3x E,h⟩;rename_i E;unfold zO at h;split at h;rename_i U;exact⟨_,F7m E U,h⟩;grind;rename_i E;unfold Na at h;split at h;rename_i U;exact⟨_,G0x E U,h⟩;grind;rename_i E;exact F5j E (λ⟨r,L,J⟩=>⟨r,L _ E,J⟩) h;rename_i E;unfold BP at h;split at h;rename_i U;exact⟨_,G2t E U,h⟩;grind;rename_i E;unfold yO at h;split at h;rename_i U;refine⟨_,H6q E U,?_⟩;rw[wrap_i64 h.1];grind;grind;rename_i E;unfold fH at h;split at h;rename_i O I;exact⟨_,yv E I O,h⟩;rename_i O I;exact⟨_,tf E (by rw[I];exact .A8 _ _) O,h⟩;rename_i O I;exact⟨_,tf E (by rw[I];exact .ptr _) O,h⟩;rename_i O I;exact⟨_,H5s E I O,h⟩;grind;grind[ov]
 .rename_i E;unfold mH at h;split at h;rename_i hs I hy;obtain⟨e,hT,hs⟩:=cL hs;obtain⟨h0,row,hr,hl,hK⟩:=h;exact⟨_,iv E I hy hT hs h0 hr hl,hK⟩
  .rename_i hs I hy;obtain⟨e,hT,hs⟩:=cL hs;generalize hb:A9 bx _=ob at h;cases ob with
   |none=>exact h.elim
   |some bc =>
    cases bc with
    |rows sz rows =>obtain⟨L,J,W,V⟩:=h;exact⟨_,mw E I (Ho hb) hy hT hs L J W,V⟩
    |cells _=>exact h.elim
    |map _=>exact h.elim
    |iter _ _=>exact h.elim
    |ghost _ _=>exact h.elim
  obtain⟨r,L,J⟩:=h;exact⟨r,L _ E,J⟩;obtain⟨r,L,J⟩:=h;exact⟨r,L _ E,J⟩;grind
 rename_i E;unfold IQ at h;split at h;rename_i I hy;obtain⟨L,J,c,W,V⟩:=h;exact⟨_,F6f E I hy L J W,V⟩;grind;rename_i E;unfold ZQ at h;split at h;rename_i I;unfold Na at h;split at h;rename_i hr;exact⟨_,G9h E I hr,h⟩;grind;grind;rename_i E;unfold VJ at h;split at h;rename_i I;exact⟨_,mu E I,h⟩;rename_i I;exact⟨_,Od E (by rw[I];exact .A8 _ _),by grind⟩;rename_i I;exact⟨_,Od E (by rw[I];exact .ptr _),by grind⟩;grind;rename_i E;unfold EM at h;split at h;rename_i hs hd I;exact⟨_,G9o E hs hd I,h⟩;rename_i hs hd I;exact⟨_,F6s E hs hd I,h⟩;obtain⟨r,L,J⟩:=h;exact⟨r,L o E,J⟩
 .rename_i E;obtain⟨L,J,h⟩:=h;obtain⟨d,hd⟩:=X3.1 J;have hn:(match d with| .interface _=>false|_=>true)=true:=by unfold Dy at L;rw[hd]at L;cases d <;> simp_all
  unfold qM at h;split at h;rename_i I;exact⟨_,G0w E I hd hn,h⟩;rename_i I;obtain⟨ds,W,V⟩:=h;exact⟨_,xr E (by grind) hd hn,V⟩;grind
 rename_i E;unfold WN at h;split at h;rename_i hz hp hl;unfold Na at h;split at h;rename_i O;exact⟨_,iu E hz hp hl O h.1,h.2⟩;grind;grind
 .rename_i T m parts E;obtain⟨h0,h⟩:=h;obtain⟨e,hT⟩:=X3.1 h0;have he:Lc P T=e:=by unfold Lc;rw[hT];rfl
  rw[he]at h;unfold pI at h;split at h
  .rename_i hs hz hr;obtain⟨h0,L,J,W,V⟩:=h;rw[hs]at hr;have Z:∀{m sz:Nat},m*sz<=16777216->1<=sz->m<=lim:=λ{m sz} h h'=>by have:m*1<=m*sz:=IG _ h';unfold lim;omega
   exact⟨_,uo E hT hs hz L J W hr (Z J h0),V⟩
  grind
 grind[eP];rename_i E;exact⟨_,H5m E,h⟩;grind[F9c];grind[H3y];obtain⟨r,L,J⟩:=h;exact⟨r,L o rfl,J⟩
end Go.iA
namespace Go.iA
open Go
variable {P:Program} {o:Oper} {sl:SL} {bx:Ac}
def Eu(P:Program)(e:TypeId):Option Nat:=(P.info? e).map (·.bytes)
abbrev KB:=SV->Ac->List Nat->Prop
def WR(bytes sz:Nat)(xs:List (List D))(bx:Ac)(k:Nat):Option Ax->KB->Prop
 |some (.rows E rs),K=>E=sz/\k<=999999/\(rs.length+xs.length)*bytes<=lim/\K (.acc k) ((k,.rows sz (rs++xs))::Hx k (Cu k bx)) [k]
 |_,_=>False
def uD(bytes sz:Nat)(xs:List (List D))(bx:Ac):SV->Option Nat->KB->Prop
 |.acc k,_,K=>WR bytes sz xs bx k (A9 bx k) K
 |.d .nil,some k,K=>k<=999999/\xs.length*bytes<=lim/\K (.acc k) ((k,.rows sz xs)::Hx k (Cu k bx)) [k]
 |_,_,_=>False
def nV(bytes sz:Nat)(bx:Ac)(x:SV)(dst:Option Nat):Option Ax->KB->Prop
 |some (.rows E xs),K=>E=sz/\uD bytes sz xs bx x dst K
 |_,_=>False
def GH(bytes sz:Nat)(bx:Ac)(x:SV)(dst:Option Nat):SV->KB->Prop
 |.d .nil,K=>uD bytes sz [] bx x dst K
 |.d .emp,K=>uD bytes sz [] bx x dst K
 |.d (.slice xs),K=>(∀row,row∈xs->row.length=sz)/\uD bytes sz xs bx x dst K
 |.acc q,K=>nV bytes sz bx x dst (A9 bx q) K
 |_,_=>False
def tP(bx:Ac)(dst:Option Nat)(x y:SV):Option Nat->Option (List SV)->Option Nat->KB->Prop
 |some sz,some E,some bytes,K=>E.length=sz/\bytes≠0/\GH bytes sz bx x dst y K
 |_,_,_,_=>False
def gT(bx:Ac)(k i off:Nat)(us:List SV):Option Ax->KB->Prop
 |some (.rows sz rows),K=>∃row ds,rows[i]?=some row/\us=ds.map SV.d/\off+us.length<=row.length/\K (.tuple []) ((k,.rows sz (rows.set i (Hr row off ds)))::Cu k bx) []
 |_,_=>False
def tT(bx:Ac)(k off:Nat)(us:List SV):Option Ax->KB->Prop
 |some (.cells cs),K=>off+us.length<=cs.length/\K (.tuple []) ((k,.cells (Hr cs off us))::Cu k bx) []
 |_,_=>False
def WK(bx:Ac)(size:Option Nat):SV->Option (List SV)->KB->Prop
 |.box k off,some us,K=>size=some us.length/\tT bx k off us (A9 bx k) K
 |.Fa k i off,some us,K=>size=some us.length/\gT bx k i off us (A9 bx k) K
 |_,_,_=>False
def vQ(P:Program)(args:List SV)(bx:Ac):SV->Option Nat->KB->Prop
 |.Bi f caps,some k,K=>k<=999999/\∃E q sz rows r,Gz [] (args++caps)=some E/\Ci P f E [] r [(q,.rows sz rows)]/\K (TH q k r) ((k,.rows sz rows)::Hx k (Cu k bx)) [k]
 |_,_,_=>False
def qI(bx:Ac):Option Nat->Option (List SV)->KB->Prop
 |some k,some cs,K=>k<=999999/\K (.box k 0) ((k,.cells (cs.map (Nr k)))::Hx k (Cu k bx)) [k]
 |_,_,_=>False
def XN(bx:Ac):Option Nat->Option Nat->List (List D)->KB->Prop
 |some k,some sz,rows,K=>k<=999999/\K (.acc k) ((k,.rows sz rows)::Hx k (Cu k bx)) [k]
 |_,_,_,_=>False
def MO(bx:Ac):Option Nat->KB->Prop
 |some k,K=>k<=999999/\K (.mp k) ((k,.map [])::Hx k (Cu k bx)) [k]
 |_,_=>False
def Dl(bx:Ac)(k:Nat)(K:KB)(kvs:List (D × D))(E I:D):Prop:=K (.tuple []) ((k,.map (Ro E I kvs))::Cu k bx) []
def ij(P:Program)(bx:Ac)(k:Nat)(y:SV)(K:KB)(I:TypeId)(kvs:List (D × D))(E:D):Prop:=E1 P I E/\Na (Nu y) (Dl bx k K kvs E)
def RO(P:Program)(bx:Ac)(k:Nat)(x y:SV)(K:KB)(E:TypeId):Option Ax->Prop
 |some (.map kvs)=>Ny P E=true/\(∀kv,kv∈kvs->E1 P E kv.1)/\Na (Nu x) (ij P bx k y K E kvs)
 |_=>False
def kQ(P:Program)(bx:Ac)(x y:SV):Option TypeDesc->SV->KB->Prop
 |some (.map E _),.mp k,K=>RO P bx k x y K E (A9 bx k)
 |_,_,_=>False
def wQ(bx:Ac)(sz k:Nat)(i:Int)(K:KB):Option Ax->Prop
 |some (.rows E rs)=>E=sz/\0<=i/\i<=rs.length/\K (.acc k) ((k,.rows sz (rs.drop i.toNat))::Hx k (Cu k bx)) [k]
 |_=>False
def XO(bx:Ac):Option Nat->SV->SV->KB->Prop
 |some sz,.acc k,.d (.int _ i),K=>k<=999999/\wQ bx sz k i K (A9 bx k)
 |_,_,_,_=>False
def MJ:List SV->Option Nat
 |[]=>none
 |.mp k::_=>some k
 |.box k _::_=>some k
 |_::r=>MJ r
def EI(own:List Nat):List SV->Option Nat
 |[]=>none
 |.acc k::r=>if own.contains (500000+k)=true then some k else EI own r
 |_::r=>EI own r
def orElse(a b:Option Nat):Option Nat:=match a with
 |some k=>some k
 |none=>b
def GP(P:Program)(args:List SV)(bx:Ac)(k:Nat):SV->Option Ax->KB->Prop
 |.Bi f caps,some c,K=>c.closed=true/\∃E r I,BD k 1000000 (args++caps)=some E/\I.closed=true /\Ci P f E [(1000000,c)] r [(1000000,I)]/\r.closed=true/\K r ((k,I)::Cu k bx) []
 |_,_,_=>False
def ZF(bx:Ac)(K:KB):SV->Prop:=λr=>K r bx []
def H7x(bx:Ac)(K:KB)(r:SV):ZF bx K r=K r bx []:=rfl
def rP(P:Program)(sl:SL)(bx:Ac)(fo:Operand)(args:List Operand)(Dr:List TypeId):Option Nat->KB->Prop
 |none,K=>YF P sl bx (.value fo) args Dr (ZF bx K)
 |some k,K=>GP P (args.map (Aq sl)) bx k (Aq sl fo) (A9 bx k) K
def unD:List SV->Option (List D)
 |[]=>some []
 |.d x::r=>match unD r with
  |some l=>some (x::l)
  |none=>none
 |_::_=>none
def jn:∀{I:List SV} {E:List D},unD I=some E->I=E.map SV.d
 |[],E,h=>by simp only[unD,B8]at h;subst h;rfl
 |x::r,E,h=>by
  cases x <;> simp only[unD,reduceCtorEq]at h;cases hr:unD r with
  |none=>grind
  |some l =>simp only[hr,B8]at h;subst h;rw[jn hr];rfl
def FQ(bx:Ac)(k sz:Nat)(n:Int)(K:KB):Option (List D)->Prop
 |some E=>E.all D.one=true/\K (.acc k) ((k,.rows sz (List.replicate n.toNat E))::Hx k (Cu k bx)) [k]
 |none=>False
def TQ(bx:Ac):Option Nat->SV->SV->Option Nat->Option (List SV)->Option Nat->KB->Prop
 |some k,.d (.int _ n),.d (.int _ m),some sz,some E,some bytes,K=>k<=999999/\1<=sz/\E.length=sz/\bytes≠0/\0<=n/\n<=m/\m*(bytes:Int)<=(lim:Int)/\FQ bx k sz n K (unD E)
 |_,_,_,_,_,_,_=>False
def SI(bx:Ac)(k sz:Nat)(xs:List (List D))(K:KB):Option Ax->Prop
 |some (.rows E rs)=>E=sz/\xs.length<=rs.length/\K (.d (.int .i64 xs.length)) ((k,.rows sz (xs++rs.drop xs.length))::Cu k bx) []
 |_=>False
def HV(bx:Ac)(k sz:Nat)(K:KB):Option Ax->Prop
 |some (.rows E xs)=>E=sz/\SI bx k sz xs K (A9 bx k)
 |_=>False
def DK(bx:Ac):Option Nat->SV->SV->KB->Prop
 |some sz,.acc k,.d (.slice xs),K=>(∀row,row∈xs->row.length=sz)/\SI bx k sz xs K (A9 bx k)
 |some sz,.acc k,.d .nil,K=>SI bx k sz [] K (A9 bx k)
 |some sz,.acc k,.acc q,K=>HV bx k sz K (A9 bx q)
 |_,_,_,_=>False
def DV:SV->Bool
 |.acc _=>true
 |_=>false
def IP(own:List Nat):Option Nat->Bool
 |some k=>own.contains k
 |none=>false
def QN(P:Program)(bx:Ac)(Y:Hq)(l:Nat)(K:KB):Option Nat->List SV->Prop
 |some j,[x]=>∃y,coerce [] x=some y/\Y.P=P/\Y.l=l/\j<Y.N/\Y.xs j=y/\K (.d (.bool (Y.go j))) ((1000000,.ghost Y (Y.next j))::Cu 1000000 bx) []
 |_,_=>False
def FM(P:Program)(bx:Ac)(Y:Hq)(st:Option Nat)(args:List SV)(K:KB):SV->Prop
 |.Bi f caps=>∃E r st',Gz [] (args++caps)=some E/\Ci P f E [(1000000,.ghost Y st)] r [(1000000,.ghost Y st')]/\r.closed=true/\K r ((1000000,.ghost Y st')::Cu 1000000 bx) []
 |.Fg l=>QN P bx Y l K st args
 |_=>False
def iO(P:Program)(bx:Ac)(f:SV)(args:List SV)(K:KB):Option Ax->Prop
 |some (.ghost Y st)=>FM P bx Y st args K f
 |_=>False
def AO(own:List Nat):Option Nat->Bool
 |some k=>own.contains (700000+k)
 |none=>own.contains 799999
def OL(P:Program)(E:List Nat)(sl:SL)(bx:Ac)(fo:Operand)(args:List Operand)(Dr:List TypeId)(K:KB):Bool->Prop
 |true=>iO P bx (Aq sl fo) (args.map (Aq sl)) K (A9 bx 1000000)
 |false=>rP P sl bx fo args Dr (orElse (EI E (args.map (Aq sl))) (MJ (args.map (Aq sl)))) K
def VK(own:List Nat):Option Nat->Bool
 |some k=>own.contains (800000+k)
 |none=>false
def BM(P:Program)(E:List Nat)(sl:SL)(bx:Ac)(dst:Option Nat)(fo:Operand)(args:List Operand)(Dr:List TypeId)(K:KB):Bool->Prop
 |true=>aJ P sl bx dst (.call ⟨.value fo,args.toArray,Dr.toArray⟩) K
 |false=>OL P E sl bx fo args Dr K (AO E dst)
def Yi(P:Program)(own:Bool)(E:List Nat)(sl:SL)(bx:Ac)(dst:Option Nat):Callee->List Operand->List TypeId->KB->Prop
 |.builtin .append,[x,y],[T,U],K=>Kw P U=true/\(E9 P T).isSome=true/\tP bx dst (Aq sl x) (Aq sl y) (Bp P (Lc P T)) (Co P (Lc P T)) (Eu P (Lc P T)) K
 |.builtin .copy,[x,y],[T,_],K=>DK bx (Xp P T) (Aq sl x) (Aq sl y) K
 |.value fo,args,Dr,K=>match own with
  |true=>vQ P (args.map (Aq sl)) bx (Aq sl fo) dst K
  |false=>BM P E sl bx dst fo args Dr K (VK E dst)
 |.builtin .delete,args,Dr,K=>aJ P sl bx dst (.call ⟨.builtin .delete,args.toArray,Dr.toArray⟩) K
 |c,args,Dr,K=>YF P sl bx c args Dr (ZF bx K)
def Ib(P:Program)(own:List Nat)(dst:Option Nat)(sl:SL)(bx:Ac):Op->KB->Prop
 |.alloc T,K=>qI bx dst (Co P T) K
 |.box _ x,K=>qI bx dst (content (Aq sl x)) K
 |.store T x y,K=>WK bx (Bp P T) (Aq sl x) (content (Aq sl y)) K
 |.call c,K=>Yi P (IP own dst) own sl bx dst c.callee c.args.toList c.argTypes.toList K
 |.makeMap _ none,K=>MO bx dst K
 |.makeSlice T x y,K=>(E9 P T).isSome=true/\TQ bx dst (Aq sl x) (Aq sl y) (Bp P (Lc P T)) (Co P (Lc P T)) (Eu P (Lc P T)) K
 |.mapUpdate T m x y,K=>kQ P bx (Aq sl x) (Aq sl y) (P.underlying T) (Aq sl m) K
 |.slice T x (some y) none none,K=>match DV (Aq sl x)with
  |true=>XO bx (Xp P T) (Aq sl x) (Aq sl y) K
  |false=>It P sl bx (.slice T x (some y) none none) (ZF bx K)
 |.buildSlice T m parts,K=>match IP own dst with
  |true=>(E9 P T).isSome=true/\pI m parts.size (Bp P (Lc P T)) (Co P (Lc P T)) (rowsOf (Aq sl) ((Bp P (Lc P T)).getD 0) 0 parts.toList) λrows=>XN bx dst (Bp P (Lc P T)) rows K
  |false=>It P sl bx (.buildSlice T m parts) (ZF bx K)
 |.insert T m x y,K=>aJ P sl bx dst (.insert T m x y) K
 |.range T x,K=>aJ P sl bx dst (.range T x) K
 |.next x b,K=>aJ P sl bx dst (.next x b) K
 |.entry x,K=>aJ P sl bx dst (.entry x) K
 |.makeFunc f E caps,K=>match VK own dst with
  |true=>yH P sl bx (.makeFunc f E caps) (ZF bx K)
  |false=>It P sl bx (.makeFunc f E caps) (ZF bx K)
 |op,K=>It P sl bx op (ZF bx K)
def UP{T U e sz bytes:Nat}{x y:Operand}(V:o.op=.call { callee:=.builtin .append,args:=#[x,y],argTypes:=#[T,U] }){xs:List (List D)}{K:KB}(hE:HI P T e sz bytes)(W:Kw P U=true)
  (hs:Xn bx sz (Aq sl y) xs)(h:uD bytes sz xs bx (Aq sl x) o.dst K):∃r bx' pg,C1 P o (Aq sl) bx r bx' pg/\K r bx' pg:=by
 generalize hx:Aq sl x=vx at h;generalize I:o.dst=dd at h;unfold uD at h;split at h
 .generalize hb:A9 bx _=ob at h;cases ob with
  |none=>exact h.elim
  |some J =>
   cases J with
   |rows E rs =>obtain⟨h1,Z,O,L⟩:=h;grind[G3j,Ho]
   |cells _=>exact h.elim
   |map _=>exact h.elim
   |iter _ _=>exact h.elim
   |ghost _ _=>exact h.elim
 grind[G5f];grind
def yt{own:Bool}{a2:List Nat}{c:Call}{K:KB}(L:o.op=.call c)(h:Yi P own a2 sl bx o.dst c.callee c.args.toList c.argTypes.toList K):∃r bx' pg,C1 P o (Aq sl) bx r bx' pg/\K r bx' pg:=by
 have q:∀{K':SV->Prop},Quiet P o sl bx K'->(∀r,K' r->K r bx [])->∃r bx' pg,C1 P o (Aq sl) bx r bx' pg/\K r bx' pg:=by rintro K' ⟨r,O,J⟩ hk;exact⟨r,bx,[],O,hk r J⟩
 obtain⟨callee,args,Dr⟩:=c;simp only at h;cases callee with
 |value fo =>
  simp only[Yi]at h;split at h;generalize hf:Aq sl fo=vf at h;generalize a':o.dst=dd at h;unfold vQ at h;grind[F5v]
  .generalize ac:VK a2 o.dst=I at h;cases I with
   |true =>simp only[BM]at h;obtain⟨r,bx',pg,O,J⟩:=h;exact⟨r,bx',pg,O o L rfl,J⟩
   |false =>
   simp only[BM]at h;generalize aa:AO a2 o.dst=gb at h;cases gb with
   |true =>
    simp only[OL]at h;generalize hf:Aq sl fo=vf at h;generalize I:A9 bx 1000000=ob at h;unfold iO at h;split at h
    .have ab:=Ho I;unfold FM at h;split at h;grind[H3c]
     .generalize a4:args.toList.map (Aq sl)=al at h;unfold QN at h;split at h
      .obtain⟨y,O,J,h3,hN,h4,h5⟩:=h;obtain⟨xo,a8⟩:∃xo,args = #[xo]:=by
        have hl:=F8 List.length a4;simp only[B7,Bg,Ck,qN]at hl;obtain⟨l⟩:=args
        match l,hl with
        |[xo],_=>simp
       subst a8;simp only[Cj,G5,Ya,Va]at a4;grind[H3s]
      grind
     grind
    grind
   |false =>
   simp only[OL]at h;unfold rP at h;split at h
   .exact q (eP (c:=⟨.value fo,args,Dr⟩) L h) λ_ h=>h
   .generalize hf:Aq sl fo=vf at h;generalize I:A9 bx _=ob at h;unfold GP at h;split at h
    .obtain⟨n2,a5,r,c',O,n4,J,h3,h4⟩:=h;exact⟨_,_,_,F9m L hf (Ho I) (by omega) n2 n4 O J h3,h4⟩
    grind
 |invoke r m =>simp only[Yi]at h;exact q (eP (c:=⟨.invoke r m,args,Dr⟩) L h) λ_ h=>h
 |builtin b =>
 unfold Yi at h;split at h
 .rename_i x y T U E hx hT;simp only[EW]at E;subst E;have W:args = #[x,y]:=by apply L5;simpa using hx
  have a0:Dr = #[T,U]:=by apply L5;simpa using hT
  subst W a0;obtain⟨hU,h0,h⟩:=h;obtain⟨e,he⟩:=X3.1 h0;have a7:Lc P T=e:=by unfold Lc;rw[he];rfl
  rw[a7]at h;generalize hs:Bp P e=os at h;generalize hz:Co P e=oz at h;generalize I:Eu P e=ob at h;unfold tP at h;split at h
  .rename_i sz zs bytes;obtain⟨O,J,h⟩:=h;have hE:HI P T e sz bytes:=⟨he,hs,by grind,I,J⟩;generalize hy:Aq sl y=vy at h;unfold GH at h;split at h
   .exact UP L hE hU (by rw[hy];exact .nil) h
   .exact UP L hE hU (by rw[hy];exact .emp) h
   .exact UP L hE hU (by rw[hy];exact .slice _ h.1) h.2
   .generalize I:A9 bx _=ob at h;cases ob with
    |none=>exact h.elim
    |some bc =>
     cases bc with
     |rows a3 rs =>obtain⟨h3,h⟩:=h;subst h3;exact UP L hE hU (by rw[hy];exact .acc _ _ (Ho I)) h
     |cells _=>exact h.elim
     |map _=>exact h.elim
     |iter _ _=>exact h.elim
     |ghost _ _=>exact h.elim
   grind
  grind
 .rename_i x y T U E hx hT;simp only[EW]at E;subst E;have W:args = #[x,y]:=by apply L5;simpa using hx
  have a0:Dr = #[T,U]:=by apply L5;simpa using hT
  subst W a0;generalize hs:Xp P T=os at h;have Z:∀{K2:KB} {sz k:Nat} {xs:List (List D)},some sz=Xp P T->Aq sl x=.acc k->Xn bx sz (Aq sl y) xs->SI bx k sz xs K2 (A9 bx k)->∃r bx' pg,C1 P o (Aq sl) bx r bx' pg/\K2 r bx' pg:=by
   intro K2 sz k xs a6 ad a9 h;obtain⟨e,hT,hs⟩:=cL a6.symm;generalize I:A9 bx k=ob at h;cases ob with
   |none=>exact h.elim
   |some bc =>
    cases bc with
    |rows a3 rs =>
     obtain⟨rfl,O,J⟩:=h
     grind[F7h,Ho]
    |cells _=>exact h.elim
    |map _=>exact h.elim
    |iter _ _=>exact h.elim
    |ghost _ _=>exact h.elim
  generalize a1:Aq sl x=vx at h;generalize V:Aq sl y=vy at h;unfold DK at h;split at h
  .exact Z hs.symm a1 (by rw[V];exact .slice _ h.1) h.2
  .exact Z hs.symm a1 (by rw[V];exact .nil) h
  .generalize I:A9 bx _=ob at h;cases ob with
   |none=>exact h.elim
   |some bc =>
    cases bc with
    |rows a3 xs =>obtain⟨rfl,h⟩:=h;exact Z hs.symm a1 (by rw[V];exact .acc _ _ (Ho I)) h
    |cells _=>exact h.elim
    |map _=>exact h.elim
    |iter _ _=>exact h.elim
    |ghost _ _=>exact h.elim
  grind
 .grind
 .rename_i E;simp only[EW]at E;subst E;obtain⟨r,bx',pg,O,J⟩:=h;exact⟨r,bx',pg,O o L rfl,J⟩
 .exact q (eP (c:=⟨.builtin b,args,Dr⟩) L h) λ_ h=>h
def BY{own:List Nat}{K:KB}(h:Ib P own o.dst sl bx o.op K):∃r bx' pg,C1 P o (Aq sl) bx r bx' pg/\K r bx' pg:=by
 have q:∀{K':SV->Prop},Quiet P o sl bx K'->(∀r,K' r->K r bx [])->∃r bx' pg,C1 P o (Aq sl) bx r bx' pg/\K r bx' pg:=by rintro K' ⟨r,J,I⟩ hk;exact⟨r,bx,[],J,hk r I⟩
 generalize E:o.op=op at h;unfold Ib at h;split at h;generalize hz:Co P _=oz at h;generalize L:o.dst=dd at h;unfold qI at h;grind[qh];generalize hz:content _=oz at h;generalize L:o.dst=dd at h;unfold qI at h;grind[H2r]
 .generalize U:Aq sl _=vx at h;generalize a0:content _=ous at h;unfold WK at h;split at h
  .obtain⟨hs,h⟩:=h;generalize O:A9 bx _=ob at h;cases ob with
   |none=>exact h.elim
   |some bc =>
    cases bc with
    |cells cs=>exact⟨_,_,_,Ob E U (Ho O) a0 hs h.1,h.2⟩
    |rows _ _=>exact h.elim
    |map _=>exact h.elim
    |iter _ _=>exact h.elim
    |ghost _ _=>exact h.elim
  .obtain⟨hs,h⟩:=h;generalize O:A9 bx _=ob at h;cases ob with
   |none=>exact h.elim
   |some bc =>
    cases bc with
    |rows sz rows =>obtain⟨row,ds,J,I,h3,h4⟩:=h;grind[F6r,Ho]
    |cells _=>exact h.elim
    |map _=>exact h.elim
    |iter _ _=>exact h.elim
    |ghost _ _=>exact h.elim
  grind
 exact yt E h;generalize L:o.dst=dd at h;unfold MO at h;grind[wx]
 .rename_i T x y;obtain⟨W,h⟩:=h;obtain⟨e,hT⟩:=X3.1 W;have he:Lc P T=e:=by unfold Lc;rw[hT];rfl
  rw[he]at h;generalize U:Aq sl x=vx at h;generalize Z:Aq sl y=vy at h;generalize hs:Bp P e=os at h;generalize hz:Co P e=oz at h;generalize O:Eu P e=ob at h;generalize L:o.dst=dd at h;unfold TQ at h;split at h;obtain⟨k1,k2,k3,k4,k5,k6,k7,h⟩:=h;unfold FQ at h;split at h;rename_i hu;have a2:=jn hu;exact⟨_,_,_,H3b k1 E U Z ⟨hT,hs,by grind,O,k4⟩ (by grind) (λd hd=>Dz.1 h.1 d hd) k5 k6 k7 k2,h.2⟩;grind;grind
 rename_i m x y;generalize hm:Aq sl m=vm at h;generalize hT:P.underlying _=vT at h;unfold kQ at h;split at h;generalize O:A9 bx _=ob at h;unfold RO at h;split at h;obtain⟨J,I,h⟩:=h;generalize U:Nu (Aq sl x)=vx at h;unfold Na at h;split at h;obtain⟨h3,h⟩:=h;generalize Z:Nu (Aq sl y)=vy at h;unfold Na at h;split at h;exact⟨_,_,_,H0x E hm (Ho O) hT J U h3 I Z,h⟩;grind;grind;grind;grind;split at h;generalize U:Aq sl _=vx at h;generalize Z:Aq sl _=vy at h;generalize hs:Xp P _=vs at h;unfold XO at h;split at h;obtain⟨W,h⟩:=h;generalize O:A9 bx _=ob at h;unfold wQ at h;grind[cL,H6t,Ho];grind;exact q (SO (by rw[E];exact h)) λ_ h=>h
 .rename_i T m parts;split at h
  .obtain⟨W,h⟩:=h;obtain⟨e,hT⟩:=X3.1 W;have he:Lc P T=e:=by unfold Lc;rw[hT];rfl
   rw[he]at h;generalize hs:Bp P e=os at h;generalize hz:Co P e=oz at h;generalize hr:rowsOf _ _ _ _=orr at h;generalize L:o.dst=dd at h;unfold pI at h;split at h
   .obtain⟨W,J,I,h3,h4⟩:=h;unfold XN at h4;split at h4
    .rename_i V;simp only[B8]at V;subst V;have a1:∀{m sz:Nat},m*sz<=16777216->1<=sz->m<=lim:=λ{m sz} h h'=>by have:m*1<=m*sz:=IG _ h';unfold lim;omega
     grind[G5v]
    grind
   grind
  exact q (SO (by rw[E];exact h)) λ_ h=>h
 obtain⟨r,bx',pg,J,I⟩:=h;exact⟨r,bx',pg,J o E rfl,I⟩;obtain⟨r,bx',pg,J,I⟩:=h;exact⟨r,bx',pg,J o E rfl,I⟩;obtain⟨r,bx',pg,J,I⟩:=h;exact⟨r,bx',pg,J o E rfl,I⟩;obtain⟨r,bx',pg,J,I⟩:=h;exact⟨r,bx',pg,J o E rfl,I⟩;split at h;obtain⟨r,J,I⟩:=h;exact⟨r,bx,[],J o E,I⟩;exact q (SO (by rw[E];exact h)) λ_ h=>h;exact q (SO (by rw[E];exact h)) λ_ h=>h
def T9(b E:Bool)(A B:Prop):Prop:=(b=E->A)/\(b = !E->B)
def G0(P:Program)(own:List Nat)(ops:Array Oper):List Oper->SL->Ac->(SL->Ac->Prop)->Prop
 |[],sl,bx,K=>K sl bx
 |o::os,sl,bx,K=>match o.guard with
  |none=>Ib P own o.dst sl bx o.op λr bx' pg=>G0 P own ops os (Gt (H0 pg sl) o.dst r) bx' K
  |some (j,E)=>match R7 ops j with
   |some t=>match Ae sl t with
    |.d (.bool b)=>T9 b E (Ib P own o.dst sl bx o.op λr bx' pg=>G0 P own ops os (Gt (H0 pg sl) o.dst r) bx' K) (G0 P own ops os (Gt sl o.dst (.tuple [])) bx K)
    |.tuple []=>G0 P own ops os (Gt sl o.dst (.tuple [])) bx K
    |_=>False
   |none=>False
def YI(P:Program)(own:List Nat)(ops:Array Oper)(os:List Oper)(sl:SL)(dst:Option Nat)(K:SL->Ac->Prop):KB:=λr bx pg=>G0 P own ops os (Gt (H0 pg sl) dst r) bx K
def MR(P:Program)(own:List Nat)(ops:Array Oper)(dst:Option Nat)(op:Op)(os:List Oper)(sl:SL)(bx:Ac)(E:Bool)(K:SL->Ac->Prop):SV->Prop
 |.d (.bool b)=>T9 b E (Ib P own dst sl bx op (YI P own ops os sl dst K)) (G0 P own ops os (Gt sl dst (.tuple [])) bx K)
 |.tuple []=>G0 P own ops os (Gt sl dst (.tuple [])) bx K
 |_=>False
def OR(P:Program)(own:List Nat)(ops:Array Oper)(dst:Option Nat)(op:Op)(os:List Oper)(sl:SL)(bx:Ac)(E:Bool)(K:SL->Ac->Prop):Option Nat->Prop
 |some t=>MR P own ops dst op os sl bx E K (Ae sl t)
 |none=>False
def gbV(P:Program)(own:List Nat)(ops:Array Oper)(dst:Option Nat)(op:Op)(os:List Oper)(sl:SL)(bx:Ac)(K:SL->Ac->Prop)(b E:Bool):Prop :=T9 b E (Ib P own dst sl bx op (YI P own ops os sl dst K)) (G0 P own ops os (Gt sl dst (.tuple [])) bx K)
section
variable (P:Program) (own:List Nat) (ops:Array Oper) (os:List Oper) (sl:SL) (bx:Ac) (K:SL->Ac->Prop) (dst:Option Nat) (op:Op) (ty:TypeId) (pos:String) (after:Array Edge)
def H0s:G0 P own ops [] sl bx K=K sl bx:=by rfl
def jz:G0 P own ops (⟨dst,op,ty,pos,after,none⟩::os) sl bx K=Ib P own dst sl bx op (YI P own ops os sl dst K):=by rfl
def G8k(j:Nat)(E:Bool):G0 P own ops (⟨dst,op,ty,pos,after,some (j,E)⟩::os) sl bx K=OR P own ops dst op os sl bx E K (R7 ops j):=by rfl
def F5m(r:SV)(pg:List Nat):YI P own ops os sl dst K r bx pg=G0 P own ops os (Gt (H0 pg sl) dst r) bx K:=rfl
def H3o(b E:Bool):MR P own ops dst op os sl bx E K (.d (.bool b))=gbV P own ops dst op os sl bx K b E:=rfl
def tw(E:Bool):MR P own ops dst op os sl bx E K (.tuple [])=G0 P own ops os (Gt sl dst (.tuple [])) bx K:=rfl
def F7p:gbV P own ops dst op os sl bx K true true=Ib P own dst sl bx op (YI P own ops os sl dst K):=by simp[gbV,T9]
def H1k:gbV P own ops dst op os sl bx K false false=Ib P own dst sl bx op (YI P own ops os sl dst K):=by simp[gbV,T9]
def G2f:gbV P own ops dst op os sl bx K true false=G0 P own ops os (Gt sl dst (.tuple [])) bx K:=by simp[gbV,T9]
def gu:gbV P own ops dst op os sl bx K false true=G0 P own ops os (Gt sl dst (.tuple [])) bx K:=by simp[gbV,T9]
end
section
variable (P:Program) (own:List Nat) (ops:Array Oper) (os:List Oper) (sl:SL) (bx:Ac) (K:SL->Prop) (dst:Option Nat) (op:Op) (ty:TypeId) (pos:String) (after:Array Edge)
end
def og{ops:Array Oper}{A B:Prop}(h:match o.guard with
  |none=>A
  |some (j,E)=>match R7 ops j with
   |some t=>match Ae sl t with
    |.d (.bool b)=>T9 b E A B
    |.tuple []=>B
    |_=>False
   |none=>False):∃g,Vh ops sl o=some g/\(g=true->A)/\(g=false->B):=by
 unfold Vh;cases I:o.guard with
 |none =>grind
 |some O =>
  obtain⟨j,E⟩:=O;simp only[I]at h;cases J:R7 ops j with
  |none=>grind
  |some t =>
   simp only[J]at h |-;split at h
   rename_i b hs;refine⟨b ==E,by rw[hs],λL=>h.1 (by grind),λL=>h.2 ?_⟩;cases b <;> grind <;> simp_all;simp_all;grind
def sH{n:Nat}{own:List Nat}{ops:Array Oper}{K:SL->Ac->Prop}:∀(os:List Oper)(sl:SL)(bx:Ac),F6 n os=true->G0 P own ops os sl bx K->Zz P n ops os sl bx K
 |[],sl,bx,_,h=>by rw[G0]at h;exact h
 |o::os,sl,bx,hd,h=>by simp only[F6,Qa,Bh]at hd;rw[G0]at h;obtain⟨g,U,L,O⟩:=og h;refine⟨g,U,JH (ops:=[o]) (by simp[F6,hd.1]) o (by simp),λE=>?_,λE=>sH os _ bx hd.2 (O E)⟩;obtain⟨r,bx',pg,I,J⟩:=BY (L E);exact⟨r,bx',pg,I,sH os _ bx' hd.2 J⟩
def I1(ks:List Nat)(K:SL->Ac->Prop):SL->Ac->Prop:=λsl bx=>K (Xs ks sl) (Tz ks bx)
def H7g(ks:List Nat)(K:SL->Ac->Prop)(sl:SL)(bx:Ac):I1 ks K sl bx=K (Xs ks sl) (Tz ks bx):=rfl
def UR(k:Nat):Option Ax->Ac->Ac
 |some c,r=>(k,c)::r
 |none,r=>r
def H6s(k:Nat)(ks:List Nat)(bx:Ac):Tz (k::ks) bx=UR k (A9 bx k) (Tz ks bx):=by rw[Tz];cases A9 bx k <;> rfl
def ux(bx:Ac):Tz [] bx=[]:=rfl
def RB{ro:Option Nat}{n:Nat}{Q:Exit->SL->Ac->Prop}{id:Nat}{ops:Array Oper}(ks own:List Nat)(hd:F6 n ops.toList=true)
  (h:G0 P own ops ops.toList sl bx (I1 ks (Q .normal))):A0 ro P n (.region id ops false) Q sl bx :=
 A0.region ks ks hd (sH _ _ _ hd h)
end Go.iA
namespace Go.iA
open Go
variable {P:Program}
mutual
def SV.bd:SV->Prop
 |.d x=>x.Bd
 |.agg cs=>sA cs
 |.tuple cs=>sA cs
 |.Bi _ cs=>sA cs
 |.A8 cells _=>∀d,d∈cells->d.Bd
 |.undef| .box _ _| .acc _| .Fa _ _ _| .mp _| .Fg _| .Fy _ _=>True
def sA:List SV->Prop
 |[]=>True
 |c::cs=>c.bd/\sA cs
end
mutual
theorem An.bd{S:Nat->Prop}{w:World}{β:Names}:∀{x:SV} {v:Value},An S w β x v->x.bd
 |.d x,v,h=>by simp only[SV.bd];exact h.Js.bd
 |.agg cs,v,h=>by cases h with|agg _ vs I _ E=>simp only[SV.bd];exact C7.bd ⟨I,E⟩
 |.tuple cs,v,h=>by cases h with|tuple _ vs I E=>simp only[SV.bd];exact C7.bd ⟨I,E⟩
 |.Bi f cs,v,h=>by cases h with|Bi _ _ vs I E=>simp only[SV.bd];exact C7.bd ⟨I,E⟩
 |.A8 cells off,v,h=>by obtain⟨b,base,hp⟩:=h.DL;simp only[SV.bd];intro d hd;obtain⟨j,J⟩:=Re.1 hd;obtain⟨u,O⟩:=hp.there j (Az.1 J).1;exact(hp.rep j d u J O).bd
 |.undef,v,h=>by simp[SV.bd]
 |.box _ _,v,h=>by simp[SV.bd]
 |.acc _,v,h=>by simp[SV.bd]
 |.Fa _ _ _,v,h=>by simp[SV.bd]
 |.mp _,v,h=>by simp[SV.bd]
 |.Fg _,v,h=>by simp[SV.bd]
 |.Fy _ _,v,h=>by simp[SV.bd]
theorem C7.bd{S:Nat->Prop}{w:World}{β:Names}:∀{cs:List SV} {vs:List Value},C7 S w β cs vs->sA cs
 |[],_,_=>by simp[sA]
 |c::cs,vs,h=>by
  simp only[sA];obtain⟨v,L,hr⟩:=h.get (j:=0) (c:=c) rfl;cases vs with
  |nil=>grind
  |cons v vs=>exact⟨(h.2 0 c v rfl rfl).bd,C7.bd ⟨by have:=h.1;simpa using this,λj c v U L=>h.2 (j+1) c v (by grind) (by grind)⟩⟩
end
def Ci.bd{f:FuncId}{args:List SV}{pre E:Ac}{r:SV}(L:Enters P f)(h:sA args->Ci P f args pre r E):Ci P f args pre r E :=⟨L,λC β vs J I=>(h I.bd).2 C β vs J I⟩
def Enters.of{f:FuncId}{fn:Func}{c:Code}(E:P.funcs[f]?=some fn)(J:fn.body=some c)(I:(fn.name == "runtime.NumGoroutine")=false):Enters P f:=⟨fn,E,I,by grind⟩
def hZ(P:Program)(fn:Func)(r:SV)(E:Ac)(e:Exit)(sl:SL)(bx:Ac):Prop :=match e with
 |.normal| .ret=>∃xs,Vv P bx sl fn.results.toList=some xs/\(Xu xs=r\/coerce [] (Xu xs)=some r)/\ble bx E
 |_=>False
def Ci.NP{f:FuncId}{fn:Func}{c:Code}{args:List SV}{pre E:Ac}{r:SV}(I:P.funcs[f]?=some fn)(Z:fn.body=some c)(hn:(fn.name == "runtime.NumGoroutine")=false)(hm:args.length<=fn.ntmps)
  (h:A0 none P fn.ntmps c (hZ P fn r E) (Ws 0 args) pre):Ci P f args pre r E:=by
 refine⟨⟨fn,I,hn,by grind⟩,?_⟩;intro C β vs W U;refine mW I Z ?_;refine PC (h C C.S0 C.w0 β _ (St.start W U hm)) ?_;rintro e L w' ⟨sl',bx',S',β',q,hs⟩;have key:(∃xs,Vv P bx' sl' fn.results.toList=some xs/\(Xu xs=r\/coerce [] (Xu xs)=some r)/\ble bx' E)->LeavesInM Fence.wide 0 P fn L.tmps (λe w'=>∃v S' β',e=.returned v/\Inv C S' w' β' E/\An S' w' β' r v) L.defers .returning w':=by rintro⟨xs,h1,h2,O⟩;refine hs.leave λw' hs=>?_;obtain⟨v,V,J⟩:=kS (P:=P) hs h1;refine⟨v,V,v,S',β',rfl,hs.inv.sub (LJ O),?_⟩;rcases h2 with rfl|h2;exact J;exact(aH (hs.inv.sub (bx':=[]) (by simp)) (Cg.refl _ _) (by simp) h2 J).1
 cases e with
 |normal=>exact key q
 |ret=>exact key q
 |_=>exact q.elim
section steps
variable {ro:Option Nat} {n:Nat} {Q:Exit->SL->Ac->Prop} {sl:SL} {bx:Ac}
def ZA{x y:Code}(h:∀K:SL->Ac->Prop,(∀sl' bx',A0 ro P n y Q sl' bx'->K sl' bx')->A0 ro P n x (Aa K Q) sl bx):A0 ro P n (.seq x y) Q sl bx :=A0.seq (h _ λ_ _ h=>h)
def xB{x y:Code}(h:∀K:SL->Ac->Prop,(∀sl' bx',A0 ro P n y Q sl' bx'->K sl' bx')->(∀{J L I E},sle J I->ble L E->K I E->K J L)->A0 ro P n x (Aa K Q) sl bx):A0 ro P n (.seq x y) Q sl bx :=A0.seq (h _ (λ_ _ h=>h) λa b c=>A0.ww a b c)
def jA{id:Nat}{ops:Array Oper}{y:Code}(ks own:List Nat)(hd:F6 n ops.toList=true)
  (h:∀K:SL->Ac->Prop,(∀sl' bx',A0 ro P n y Q sl' bx'->K sl' bx')->G0 P own ops ops.toList sl bx (I1 ks K)):A0 ro P n (.seq (.region id ops false) y) Q sl bx :=
 A0.seq (RB ks own hd (h _ λ_ _ h=>h))
def xA{id:Nat}{ops:Array Oper}(ks own:List Nat)(hd:F6 n ops.toList=true)
  (h:∀K:SL->Ac->Prop,(∀sl' bx',Q .normal sl' bx'->K sl' bx')->G0 P own ops ops.toList sl bx (I1 ks K)):A0 ro P n (.region id ops false) Q sl bx :=
 RB ks own hd (h _ λ_ _ h=>h)
def eA{c:Operand}{x y:Code}(E:Aq sl c=.d (.bool true))(h:A0 ro P n x Q sl bx):A0 ro P n (.cond c x y) Q sl bx:=A0.cond E (λ_=>h) (by simp)
def dA{c:Operand}{x y:Code}(E:Aq sl c=.d (.bool false))(h:A0 ro P n y Q sl bx):A0 ro P n (.cond c x y) Q sl bx:=A0.cond E (by simp) (λ_=>h)
end steps
end Go.iA
namespace Go.iA
open Go
variable {ro:Option Nat} {P:Program} {n:Nat} {Q:Exit->SL->Ac->Prop} {sl:SL} {bx:Ac}
def Ci.pub{f:FuncId}{args:List SV}{q sz:Nat}{rs:List (List D)}(h:Ci P f args [] (.acc q) [(q,.rows sz rs)]):Ab P f args (.d (.slice rs)):=by refine⟨h.1,λC β vs L E=>(h.2 C β vs L E).mono ?_⟩;rintro e w' ⟨v,S',β',rfl,I,E⟩;obtain⟨O,_,J⟩:=I.Km (k:=q) (sz:=sz) (rs:=rs) (by simp);cases E;exact⟨_,_,β',rfl,O.sub (by simp),.d _ _ J⟩
variable {c:Operand}
def kA{y z:Code}(E:Aq sl c=.d (.bool true))(h:A0 ro P n z Q sl bx):A0 ro P n (.seq (.cond c .skip y) z) Q sl bx :=A0.seq (eA E (cA h))
def A0.stop{x z:Code}{id:Nat}(E:Aq sl c=.d (.bool false))(h:Q (.exit id) sl bx):A0 ro P n (.seq (.cond c x (.exit id)) z) Q sl bx :=A0.seq (dA E (lA h))
variable {K:SL->Ac->Prop}
def pA{x z:Code}{b:Bool}(L:Aq sl c=.d (.bool b))(J:∀sl' bx',A0 ro P n z Q sl' bx'->K sl' bx')
  (U:b=true->A0 ro P n x (Aa (λ_ _=>False) Q) sl bx)(O:b=false->A0 ro P n z Q sl bx):A0 ro P n (.cond c x .skip) (Aa K Q) sl bx :=
 A0.cond L (λE=>(U E).mono λe _ _ I=>by cases e <;> first|exact I.elim|exact I) (λE=>cA (J _ _ (O E)))
def nG{x y:Code}(I:Aq sl c=.d (.bool true))(J:A0 ro P n x (Aa (λ_ _=>False) Q) sl bx):A0 ro P n (.cond c x y) (Aa K Q) sl bx :=eA I (J.mono λe _ _ E=>by cases e <;> first|exact E.elim|exact E)
def vG{x z:Code}(E:Aq sl c=.d (.bool false))(J:∀sl' bx',A0 ro P n z Q sl' bx'->K sl' bx')(I:A0 ro P n z Q sl bx):A0 ro P n (.cond c x .skip) (Aa K Q) sl bx :=dA E (cA (J _ _ I))
def mG{y z:Code}(E:Aq sl c=.d (.bool true))(J:∀sl' bx',A0 ro P n z Q sl' bx'->K sl' bx')(I:A0 ro P n z Q sl bx):A0 ro P n (.cond c .skip y) (Aa K Q) sl bx :=eA E (cA (J _ _ I))
def JK{x:Code}{id:Nat}(E:Aq sl c=.d (.bool false))(h:Q (.exit id) sl bx):A0 ro P n (.cond c x (.exit id)) (Aa K Q) sl bx :=dA E (lA h)
def A0.ii{α X:Type}(L:List α)(mk:Nat->X->SL)(mb:Nat->X->Ac)(I:Nat->X->Prop){c:Code}(O:X)(h0:I 0 O)(h1:sle sl (mk 0 O))(h2:ble bx (mb 0 O))
  (V:∀x,I L.length x->A0 ro P n c (Aa (λ_ _=>False) Q) (mk L.length x) (mb L.length x))
  (step:∀j x a,L[j]?=some a->a∈L->L.drop j=a::L.drop (j+1)->L.take (j+1)=L.take j++[a]->(j:Int)<(L.length:Int)->I j x -> A0 ro P n c (Aa (λsl' bx'=>∃J,I (j+1) J/\sle sl' (mk (j+1) J)/\ble bx' (mb (j+1) J)) Q) (mk j x) (mb j x)):A0 ro P n (.loop c) Q sl bx:=by
 refine A0.loop (X:=Nat × X) (λx=>mk x.1 x.2) (λx=>mb x.1 x.2) (λx=>x.1<=L.length/\I x.1 x.2) (λx=>L.length - x.1) (0,O) ⟨by simp,h0⟩ h1 h2 ?_;rintro⟨j,x⟩ ⟨hj,U⟩;simp only at hj U;by_cases E:j<L.length
 .refine(step j x L[j] (Bu E) (Gc E) (H7 E) (Kj E) (by omega) U).mono ?_;intro e sl' bx' W;cases e with
  |normal=>obtain⟨J,g1,g2,Z⟩:=W;exact⟨(j+1,J),⟨by omega,g1⟩,by omega,g2,Z⟩
  |_=>exact W
 grind
def bsize(l:List UInt8):(ByteArray.mk ⟨l⟩).size=l.length:=rfl
def G9g{n:Nat}(h:n<=1000):(n<=lim)=True:=by simp only[eq_iff_iff,iff_true];unfold lim;omega
end Go.iA
