/- The operations as one function; shapes of code; drawn regions with a new variable. Own framework. -/
import Derived.IntWalk
import Derived.Test.YtjneockcgjfhaaaGreatDoorKAb3
set_option linter.all false
namespace Go.Abs
open Go
variable {P:Program}
def B7(x:Int):Prop:=-9223372036854775808<=x/\x<9223372036854775808
def wrap_i64{x:Int}(h:B7 x):IntKind.i64.wrap x=x:=IntWalk.i64_in x (by unfold B7 at h;omega)
def My(op:BinOp)(k:IntKind)(x y:Int)(K:SV->Prop):Prop :=match k,op with
 |.i64,.add=>B7 (x+y)/\K (.d (.int .i64 (x+y)))
 |.i64,.sub=>B7 (x - y)/\K (.d (.int .i64 (x - y)))
 |.i64,.mul=>B7 (x*y)/\K (.d (.int .i64 (x*y)))
 |.i64,.quo=>y≠0/\B7 (x.tdiv y)/\K (.d (.int .i64 (x.tdiv y)))
 |k,.add=>K (.d (.int k (k.wrap (x+y))))
 |k,.sub=>K (.d (.int k (k.wrap (x - y))))
 |k,.mul=>K (.d (.int k (k.wrap (x*y))))
 |k,.quo=>y≠0/\K (.d (.int k (k.wrap (x.tdiv y))))
 |k,.rem=>y≠0/\K (.d (.int k (x.tmod y)))
 |_,.eql=>K (.d (.bool (decide (x=y))))
 |_,.neq=>K (.d (.bool (decide (x≠y))))
 |_,.lss=>K (.d (.bool (decide (x<y))))
 |_,.leq=>K (.d (.bool (decide (x<=y))))
 |_,.gtr=>K (.d (.bool (decide (y<x))))
 |_,.geq=>K (.d (.bool (decide (y<=x))))
 |_,_=>False
def D0g(P:Program)(t:TypeId):Bool:=(P.underlying t).any (λd=>match d with| .pointer _=>true|_=>false)
def E8(P:Program)(t:TypeId):Bool:=(P.underlying t).any (λd=>match d with| .interface _=>true|_=>false)
def A1j:BinOp->A2->A2->(SV->Prop)->Prop
 |.add,a,b,K=>a.length+b.length<=lim/\K (.d (.str (a++b)))
 |.eql,a,b,K=>K (.d (.bool (decide (a=b))))
 |.neq,a,b,K=>K (.d (.bool (decide (a≠b))))
 |.lss,a,b,K=>K (.d (.bool (Op.bytesLess a b)))
 |.gtr,a,b,K=>K (.d (.bool (Op.bytesLess b a)))
 |_,_,_,_=>False
def B4d:BinOp->Bool->Bool->(SV->Prop)->Prop
 |.eql,a,b,K=>K (.d (.bool (a ==b)))
 |.neq,a,b,K=>K (.d (.bool (!(a ==b))))
 |_,_,_,_=>False
def W4:BinOp->Option Bool->(SV->Prop)->Prop
 |.eql,some b,K=>K (.d (.bool b))
 |.neq,some b,K=>K (.d (.bool (!b)))
 |_,_,_=>False
def B2u(op:BinOp)(k j:IntKind)(a b:Int)(K:SV->Prop):Prop :=match op with
 |.shr=>0<=b/\K (.d (.int k (a.fdiv (2 ^ min b.toNat k.bits))))
 |.shl=>0<=b/\K (.d (.int k (k.wrap (a*2 ^ min b.toNat k.bits))))
 |op=>k=j/\My op k a b K
def Vo(P:Program)(op:BinOp)(t:TypeId)(c:Bool)(H:Prop):SV->SV->(SV->Prop)->Prop
 |.d (.int k a),.d (.int j b),K=>B2u op k j a b K
 |.d (.str a),.d (.str b),K=>A1j op a b K
 |.d (.bool a),.d (.bool b),K=>P.underlying t=some .bool/\B4d op a b K
 |.d .Kc,.d .Kc,K=>c=true/\E8 P t=true/\W4 op (some true) K
 |.d (.iface _ _),.d .Kc,K=>c=true/\E8 P t=true/\W4 op (some false) K
 |x,.d .Lb,K=>D0g P t=true/\W4 op (Qa x) K
 |x,.d .nil,K=>(Ec P t).isSome=true/\W4 op (Qi x) K
 |.agg _,.agg _,_=>H
 |_,_,_=>False
def Quiet(P:Program)(o:Oper)(sl:SL)(bx:Aa)(K:SV->Prop):Prop:=∃r,C1 P o (Ao sl) bx r bx []/\K r
variable {o:Oper} {sl:SL} {bx:Aa} {K:SV->Prop}
theorem F4a{op:BinOp}{t u:TypeId}{x y:Operand}(J:o.op=.binOp op t x y u){k:IntKind}{a b:Int}(I:Ao sl x=.d (.int k a))(L:Ao sl y=.d (.int k b))(h:My op k a b K):Quiet P o sl bx K:=by
 have cmp:∀{c:Bool},C0o op a b=some c->K (.d (.bool c))->Quiet P o sl bx K:=λO U=>⟨_,G5y J I L O,U⟩;have E:∀{c:Int},C2x op k a b=some c->K (.d (.int k c))->Quiet P o sl bx K:=λO U=>⟨_,E8j J I L O,U⟩;have w:∀{z:Int},k=.i64->B7 z->k.wrap z=z:=λW V=>by subst W;exact wrap_i64 V
 unfold My at h;split at h;exact E rfl (by grind);exact E rfl (by grind);exact E rfl (by grind);exact⟨_,D7e J I L h.1,by grind⟩;exact E rfl h;exact E rfl h;exact E rfl h;exact⟨_,D7e J I L h.1,h.2⟩;exact⟨_,E7w J I L h.1,h.2⟩;exact cmp rfl h;exact cmp rfl h;exact cmp rfl h;exact cmp rfl h;exact cmp rfl h;exact cmp rfl h;grind
def E1p{op:BinOp}{t u:TypeId}{x y:Operand}(J:o.op=.binOp op t x y u){k j:IntKind}{m n r:Int}(U:Ao sl x=.d (.int k m))(V:Ao sl y=.d (.int j n))(W:0<=n)
  (hr:(op=.shr/\r=m.fdiv (2 ^ min n.toNat k.bits))\/(op=.shl/\r=k.wrap (m*2 ^ min n.toNat k.bits))):C1 P o (Ao sl) bx (.d (.int k r)) bx [] :=
 .E3 λ_ _ w _ a _ O=>by
  have E:=(O x (mo J (by grind[Op.operands])));rw[U]at E;have E:=E.Ih;have I:=(O y (mo J (by grind[Op.operands])));rw[V]at I;have I:=I.Ih;refine⟨.int k r,?_,.int k r⟩;have L:¬n<0:=by omega
  rcases hr with⟨rfl,rfl⟩|⟨rfl,rfl⟩ <;> simp[execOp,J,E,I,B3d,binOp,Op.shift,L]
def G0x{op:BinOp}{t u:TypeId}{x y:Operand}(J:o.op=.binOp op t x y u){H:Prop}(U:H->Quiet P o sl bx K)(h:Vo P op t (B0b y) H (Ao sl x) (Ao sl y) K):Quiet P o sl bx K:=by unfold Vo at h;split at h;rename_i I E;unfold B2u at h;split at h;exact⟨_,E1p J I E h.1 (.inl ⟨rfl,rfl⟩),h.2⟩;exact⟨_,E1p J I E h.1 (.inr ⟨rfl,rfl⟩),h.2⟩;grind[F4a];rename_i I E;unfold A1j at h;split at h;exact⟨_,E9c J I E h.1,h.2⟩;exact⟨_,B6x J I E rfl,h⟩;exact⟨_,B6x J I E rfl,h⟩;exact⟨_,B6x J I E rfl,h⟩;exact⟨_,B6x J I E rfl,h⟩;grind;rename_i I E;obtain⟨ht,h⟩:=h;unfold B4d at h;split at h;exact⟨_,D9q J ht I E rfl,h⟩;exact⟨_,D9q J ht I E rfl,h⟩;grind;rename_i I E;obtain⟨O,ht,h⟩:=h;unfold W4 at h;split at h;rename_i L;exact⟨_,B9p J ht (by rw[I];exact L) E O rfl,h⟩;rename_i L;exact⟨_,B9p J ht (by rw[I];exact L) E O rfl,h⟩;grind;rename_i I E;obtain⟨O,ht,h⟩:=h;unfold W4 at h;split at h;rename_i L;exact⟨_,B9p J ht (by rw[I];exact L) E O rfl,h⟩;rename_i L;exact⟨_,B9p J ht (by rw[I];exact L) E O rfl,h⟩;grind;rename_i E;obtain⟨ht,h⟩:=h;unfold W4 at h;split at h;rename_i L;exact⟨_,E3g J ht L E rfl,h⟩;rename_i L;exact⟨_,E3g J ht L E rfl,h⟩;grind;rename_i E;obtain⟨ht,h⟩:=h;obtain⟨e,ht⟩:=Vq.1 ht;unfold W4 at h;split at h;rename_i L;exact⟨_,C9j J ht L E rfl,h⟩;rename_i L;exact⟨_,C9j J ht L E rfl,h⟩;grind;grind;grind
def OpQ(P:Program)(sl:SL)(bx:Aa)(op:Op)(r:SV):Prop:=∀o:Oper,o.op=op->C1 P o (Ao sl) bx r bx []
def A5e(P:Program)(sl:SL)(bx:Aa)(op:Op)(K:SV->Prop):Prop:=∃r,OpQ P sl bx op r/\K r
def OpB(P:Program)(sl:SL)(bx:Aa)(dst:Option Nat)(op:Op)(r:SV)(bx':Aa)(pg:List Nat):Prop:=∀o:Oper,o.op=op->o.dst=dst->C1 P o (Ao sl) bx r bx' pg
def A9g(P:Program)(sl:SL)(bx:Aa)(dst:Option Nat)(op:Op)(K:SV->Aa->List Nat->Prop):Prop:=∃r bx' pg,OpB P sl bx dst op r bx' pg/\K r bx' pg
def M5{α:Type}:Option α->(α->Prop)->Prop
 |some c,K=>K c
 |none,_=>False
def A6s:Option Nat->SV->(SV->Prop)->Prop
 |some d,.box k off,K=>K (.box k (off+d))
 |some d,.Aj c off,K=>K (.Aj c (off+d))
 |some d,.d (.ptr c),K=>K (.Aj c (0+d))
 |some d,.Ee k i off,K=>K (.Ee k i (off+d))
 |_,_,_=>False
def Cs(P:Program)(T:TypeId)(f:Nat):Option (Nat × Bool × Nat):=match P.underlying T with
 |some (.struct fs)=>match fs[f]? with
  |some fd=>match D2 P fd.type,C4 P fd.type with
   |some b,some n=>some (fd.offset,b,n)
   |_,_=>none
  |none=>none
 |_=>none
def A8o:Option (Nat × Bool × Nat)->SV->(SV->Prop)->Prop
 |some (d,true,n),.agg cs,K=>K (.agg (part cs d n))
 |some (d,false,_),.agg cs,K=>M5 (cs[d]?) K
 |_,_,_=>False
def C1q:Option Aq->Nat->Nat->Int->(SV->Prop)->Prop
 |some (.rows sz rows),q,m,i,K=>sz=m/\0<=i/\i.toNat<rows.length/\K (.Ee q i.toNat 0)
 |_,_,_,_,_=>False
def A6k(bx:Aa)(H:(SV->Prop)->Prop):Option Nat->SV->SV->(SV->Prop)->Prop
 |some m,.d (.slice rows),.d (.int _ i),K=>0<=i/\∃row,rows[i.toNat]?=some row/\row.length=m/\K (.Aj row 0)
 |some m,.acc q,.d (.int _ i),K=>C1q (A8 bx q) q m i K
 |none,.box _ _,.d (.int _ _),K=>H K
 |none,.undef,.d (.int _ _),K=>H K
 |_,_,_,_=>False
def Wu(P:Program)(T:Nat):Option Nat:=(Ec P T).bind (C4 P)
def B6w:Option Aq->(SV->Prop)->Prop
 |some (.rows _ rows),K=>K (.d (.int .i64 rows.length))
 |_,_=>False
def A8m:Option TypeDesc->Option Aq->(SV->Prop)->Prop
 |some (.map _ _),some (.map kvs),K=>K (.d (.int .i64 kvs.length))
 |_,_,_=>False
def Y6(P:Program)(bx:Aa)(T:Nat):SV->(SV->Prop)->Prop
 |.d (.slice rows),K=>(Ec P T).isSome=true/\K (.d (.int .i64 rows.length))
 |.d .nil,K=>(Ec P T).isSome=true/\K (.d (.int .i64 0))
 |.d .emp,K=>(Ec P T).isSome=true/\K (.d (.int .i64 0))
 |.d (.str s),K=>P.underlying T=some .string/\K (.d (.int .i64 s.length))
 |.acc q,K=>(Ec P T).isSome=true/\B6w (A8 bx q) K
 |.mp q,K=>A8m (P.underlying T) (A8 bx q) K
 |.d (.map kvs),K=>A8m (P.underlying T) (some (.map kvs)) K
 |_,_=>False
def B9o(P:Program)(args:List SV)(bx:Aa)(H:(SV->Prop)->Prop):SV->(SV->Prop)->Prop
 |.Bk f caps,K=>∃r,((∃E,H6 [] (args++caps)=some E/\Ab P f E r/\r.closed=true)\/(∃E,H6 bx (args++caps)=some E/\Ab P f E r/\r.scalar=true))/\K r
 |_,K=>H K
def A3f(P:Program)(sl:SL)(bx:Aa):Callee->List Operand->List TypeId->(SV->Prop)->Prop
 |.value fo,args,E2,K=>B9o P (args.map (Ao sl)) bx (A5e P sl bx (.call ⟨.value fo,args.toArray,E2.toArray⟩)) (Ao sl fo) K
 |.builtin .len,[x],[T],K=>Y6 P bx T (Ao sl x) K
 |c,args,E2,K=>A5e P sl bx (.call ⟨c,args.toArray,E2.toArray⟩) K
def B6g:SV->SV->SV->(SV->Prop)->Prop
 |.d (.bool t),x,y,K=>K (if t then x else y)
 |_,_,_,_=>False
def B9r:SV->(SV->Prop)->Prop
 |.d (.bool b),K=>K (.d (.bool (!b)))
 |_,_=>False
def B7o:SV->(SV->Prop)->Prop
 |.d (.int .i64 m),K=>B7 (0 - m)/\K (.d (.int .i64 (0 - m)))
 |_,_=>False
def B8w(P:Program)(T:Nat):SV->SV->(SV->Prop)->Prop
 |.d (.str s),.d (.int _ i),K=>P.underlying T=some .string/\0<=i/\∃c,s[i.toNat]?=some c/\K (.d (.int .u8 c.toNat))
 |_,_,_=>False
def B5i:SV->Nat->(SV->Prop)->Prop
 |.tuple xs,i,K=>M5 (xs[i]?) K
 |_,_,_=>False
def A8v:SV->(SV->Prop)->Prop
 |.box k off,K=>K (.box k off)
 |.Aj c off,K=>K (.Aj c off)
 |.d (.ptr c),K=>K (.d (.ptr c))
 |_,_=>False
def B1b(H:(SV->Prop)->Prop):Option TypeDesc->Option TypeDesc->SV->(SV->Prop)->Prop
 |some (.int _),some (.int E),.d (.int _ m),K=>K (.d (.int E (E.wrap m)))
 |some .string,some .string,.d (.str t),K=>K (.d (.str t))
 |_,_,_,K=>H K
def B0q(T:Nat):SV->(SV->Prop)->Prop
 |.d y,K=>K (.d (.iface T y))
 |.agg cs,K=>∃ds,cs=ds.map SV.d/\K (.d (.iface T (.agg ds)))
 |_,_=>False
def B6j:Option (List SV)->Option (List (Nat × Nat))->Option (List (Nat × List SV))->(SV->Prop)->Prop
 |some E,some ps,some l,K=>M5 (A2r ps E l) λout=>out.all SV.one=true/\K (.agg out)
 |_,_,_,_=>False
def A8f(m E:Nat):Option Nat->Option (List SV)->Option (List (List D))->(List (List D)->Prop)->Prop
 |some sz,some I,some rows,K=>1<=sz/\I.length=sz/\m*sz<=16777216/\E=m/\K rows
 |_,_,_,_=>False
def Kv(P:Program)(T:Nat):Nat:=(Ec P T).getD 0
def E5k(ok:Bool)(E:D)(kvs:List (D × D))(K:SV->Prop)(z:SV):Prop:=K (P8 ok E kvs z)
def B5b(P:Program)(I et:TypeId)(ok:Bool)(kvs:List (D × D))(K:SV->Prop)(E:D):Prop :=En P I E/\M5 (Z2 P et) (E5k ok E kvs K)
def C0h(P:Program)(E et:TypeId)(ok:Bool)(x:SV)(K:SV->Prop):Option Aq->Prop
 |some (.map kvs)=>Rw P E=true/\(∀kv,kv∈kvs->En P E kv.1)/\M5 (Nv x) (B5b P E et ok kvs K)
 |_=>False
def A9u(P:Program)(bx:Aa)(ok:Bool)(x:SV):Option TypeDesc->SV->(SV->Prop)->Prop
 |some (.map E et),.mp k,K=>C0h P E et ok x K (A8 bx k)
 |some (.map E et),.d (.map kvs),K=>Rw P E=true/\(∀kv,kv∈kvs->En P E kv.1)/\M5 (Nv x) (B5b P E et ok kvs K)
 |_,_,_=>False
def Yu:Option SV->Option Int
 |none=>some 0
 |some (.d (.int _ i))=>some i
 |_=>none
def Ys(n:Nat):Option SV->Option Int
 |none=>some n
 |some (.d (.int _ i))=>some i
 |_=>none
def cutAt(n:Nat)(K:Nat->Nat->Prop):Option Int->Option Int->Prop
 |some l,some h=>0<=l/\l<=h/\h<=n/\K l.toNat h.toNat
 |_,_=>False
def C2b(rows:List (List D))(E I:Option SV)(K:SV->Prop):Option Nat->Prop
 |some sz=>(∀row,row∈rows->row.length=sz)/\cutAt rows.length (λl h=>K (.d (.slice ((rows.take h).drop l)))) (Yu E) (Ys rows.length I)
 |none=>False
def A8i(P:Program)(T:TypeId)(E I:Option SV):SV->(SV->Prop)->Prop
 |.d (.slice rows),K=>C2b rows E I K (Wu P T)
 |.d (.str s),K=>P.underlying T=some .string/\cutAt s.length (λl h=>K (.d (.str ((s.take h).drop l)))) (Yu E) (Ys s.length I)
 |_,_=>False
def Ij(P:Program)(sl:SL)(bx:Aa):Op->(SV->Prop)->Prop
 |.move x,K=>K (Ao sl x)
 |.assign x,K=>K (Ao sl x)
 |.pick c x y,K=>B6g (Ao sl c) (Ao sl x) (Ao sl y) K
 |.load T x,K=>M5 (Lr P bx T (Ao sl x)) K
 |.binOp op t x y u,K=>Vo P op t (B0b y) (A5e P sl bx (.binOp op t x y u) K) (Ao sl x) (Ao sl y) K
 |.unOp .not _ x,K=>B9r (Ao sl x) K
 |.unOp .neg _ x,K=>B7o (Ao sl x) K
 |.fieldAddr T x f,K=>A6s (Cm P T f) (Ao sl x) K
 |.field T x f,K=>A8o (Cs P T f) (Ao sl x) K
 |.indexAddr T x y,K=>A6k bx (A5e P sl bx (.indexAddr T x y)) (Wu P T) (Ao sl x) (Ao sl y) K
 |.index T x y,K=>B8w P T (Ao sl x) (Ao sl y) K
 |.extract x i,K=>B5i (Ao sl x) i K
 |.nilCheck x,K=>A8v (Ao sl x) K
 |.convert s d x,K=>B1b (A5e P sl bx (.convert s d x)) (P.underlying s) (P.underlying d) (Ao sl x) K
 |.makeInterface T x,K=>E8 P T=false/\(P.underlying T).isSome=true/\B0q T (Ao sl x) K
 |.build T parts,K=>B6j (Cz P T) (Kp P T) (Z8 (Ao sl) parts.toList) K
 |.buildSlice T m parts,K=>(Ec P T).isSome=true/\A8f m parts.size (C4 P (Kv P T)) (Cz P (Kv P T)) (rowsOf (Ao sl) ((C4 P (Kv P T)).getD 0) 0 parts.toList) λrows=>K (.d (.slice rows))
 |.call c,K=>A3f P sl bx c.callee c.args.toList c.argTypes.toList K
 |.makeFunc (.func f) ⟨[]⟩ caps,K=>K (.Bk f (caps.toList.map (Ao sl)))
 |.slice T x E I none,K=>A8i P T (E.map (Ao sl)) (I.map (Ao sl)) (Ao sl x) K
 |.lookup T m x ok,K=>A9u P bx ok (Ao sl x) (P.underlying T) (Ao sl m) K
 |op,K=>A5e P sl bx op K
theorem B5o{c:Call}(I:o.op=.call c)(h:A3f P sl bx c.callee c.args.toList c.argTypes.toList K):Quiet P o sl bx K:=by
 obtain⟨callee,args,E2⟩:=c;simp only at h;unfold A3f at h;split at h;rename_i fo _ _ _;unfold B9o at h;split at h;rename_i hf;obtain⟨r,h1|h1,hK⟩:=h;obtain⟨J,O,V,h4⟩:=h1;exact⟨_,F2i I hf O V h4,hK⟩;obtain⟨J,O,V,h4⟩:=h1;exact⟨_,G5d I hf O V h4,hK⟩;obtain⟨r,h1,O⟩:=h;exact⟨r,h1 o I,O⟩
 .rename_i x T E hT;have W:args = #[x]:=by apply Lk;simpa using E
  have Z:E2 = #[T]:=by apply Lk;simpa using hT
  subst W Z;unfold Y6 at h;split at h;rename_i E;obtain⟨e,L⟩:=Vq.1 h.1;exact⟨_,H1f I E L,h.2⟩;rename_i E;obtain⟨e,L⟩:=Vq.1 h.1;exact⟨_,D6b I (.inl E) L,h.2⟩;rename_i E;obtain⟨e,L⟩:=Vq.1 h.1;exact⟨_,D6b I (.inr E) L,h.2⟩;rename_i E;exact⟨_,E9x I E h.1,h.2⟩;rename_i E;obtain⟨h1,h⟩:=h;obtain⟨e,L⟩:=Vq.1 h1;unfold B6w at h;split at h;rename_i U;exact⟨_,F2g I E (Hs U) L,h⟩;grind;rename_i E;generalize U:A8 bx _=ob at h;generalize hT:P.underlying _=ot at h;unfold A8m at h;split at h;exact⟨_,D5k I (by rw[E];exact .mp _ _ (Hs U)) hT,h⟩;grind;rename_i E;generalize hT:P.underlying _=ot at h;unfold A8m at h;split at h;rename_i U;simp only[B0,Aq.map.injEq]at U;subst U;exact⟨_,D5k I (by rw[E];exact .d _) hT,h⟩;grind;grind
 obtain⟨r,h1,O⟩:=h;exact⟨r,h1 o I,O⟩
theorem B2e{T m:Nat}(h:Wu P T=some m):∃e,Ec P T=some e/\C4 P e=some m:=by grind[Wu,Ec]
theorem E8b{T:TypeId}{m x:Operand}{ok:Bool}(V:o.op=.lookup T m x ok)(h:A9u P bx ok (Ao sl x) (P.underlying T) (Ao sl m) K):Quiet P o sl bx K:=by
 have I:∀{J et:TypeId} {kvs:List (D × D)},P.underlying T=some (.map J et)->IsMap bx (Ao sl m) kvs->Rw P J=true->(∀kv,kv∈kvs->En P J kv.1)->M5 (Nv (Ao sl x)) (B5b P J et ok kvs K)->Quiet P o sl bx K:=by intro J et kvs hT L hk E h;unfold M5 at h;split at h;rename_i O;obtain⟨W,h⟩:=h;unfold M5 at h;split at h;rename_i Z;exact⟨_,E7g V L hT hk O W E Z,h⟩;grind;grind
 generalize L:Ao sl m=vm at h;generalize hT:P.underlying T=vT at h;unfold A9u at h;split at h;generalize U:A8 bx _=ob at h;unfold C0h at h;split at h;exact I hT (by rw[L];exact .mp _ _ (Hs U)) h.1 h.2.1 h.2.2;grind;exact I hT (by rw[L];exact .d _) h.1 h.2.1 h.2.2;grind
theorem E9e{T:TypeId}{x:Operand}{f:Nat}(V:o.op=.field T x f)(h:A8o (Cs P T f) (Ao sl x) K):Quiet P o sl bx K:=by generalize E:Cs P T f=pl at h;unfold Cs at E;split at E;rename_i fs hT;split at E;rename_i fd W;split at E;rename_i b m Z hs;subst E;unfold A8o at h;split at h;rename_i O U;simp only[B0,Ew]at O;obtain⟨J,I,L⟩:=O;subst J I L;exact⟨_,G2i V U hT W rfl rfl Z hs,h⟩;rename_i O U;simp only[B0,Ew]at O;obtain⟨J,I,L⟩:=O;subst J I L;unfold M5 at h;split at h;rename_i hc;exact⟨_,G8t V U hT W rfl rfl Z hc,h⟩;grind;grind;subst E;exact h.elim;subst E;exact h.elim;subst E;exact h.elim
def E1g{E:Option Operand}{l:Int}(h:Yu (E.map (Ao sl))=some l)(I:0<=l):Za (Ao sl) E=some l.toNat:=by
 cases E with
 |none=>simp only[Ao6,Yu,B0]at h;subst h;rfl
 |some y =>simp only[Ef]at h;unfold Za;simp only;generalize Ao sl y=v at h;cases v <;> simp only[Yu,reduceCtorEq]at h;rename_i d;cases d <;> simp only[Yu,reduceCtorEq]at h;simp only[B0]at h;subst h;simp[I]
def D0e{E:Option Operand}{n:Nat}{l:Int}(h:Ys n (E.map (Ao sl))=some l)(I:0<=l):hiN (Ao sl) n E=some l.toNat:=by
 cases E with
 |none=>simp only[Ao6,Ys,B0]at h;subst h;rfl
 |some y =>simp only[Ef]at h;unfold hiN;simp only;generalize Ao sl y=v at h;cases v <;> simp only[Ys,reduceCtorEq]at h;rename_i d;cases d <;> simp only[Ys,reduceCtorEq]at h;simp only[B0]at h;subst h;simp[I]
def D5v{n:Nat}{K:Nat->Nat->Prop}{a b:Option Int}(h:cutAt n K a b):∃l k,a=some l/\b=some k/\0<=l/\l<=k/\k<=n/\K l.toNat k.toNat:=by unfold cutAt at h;grind
theorem F8w{T:TypeId}{x:Operand}{V W:Option Operand}(U:o.op=.slice T x V W none)(h:A8i P T (V.map (Ao sl)) (W.map (Ao sl)) (Ao sl x) K):Quiet P o sl bx K:=by
 unfold A8i at h;split at h
 .rename_i E;generalize hs:Wu P T=os at h;cases os with
  |none=>exact h.elim
  |some sz =>obtain⟨e,hT,hs⟩:=B2e hs;obtain⟨hr,h⟩:=h;obtain⟨l,k,I,O,L,h4,Z,J⟩:=D5v h;exact⟨_,F5v U E hT hs hr (E1g I L) (D0e O (by omega)) (by omega) (by omega),J⟩
 rename_i E;obtain⟨hT,h⟩:=h;obtain⟨l,k,I,O,L,h4,Z,J⟩:=D5v h;exact⟨_,F0f U E hT (E1g I L) (D0e O (by omega)) (by omega) (by omega),J⟩;grind
def B5j(h:Ij P sl bx o.op K):Quiet P o sl bx K:=by
 unfold Ij at h;split at h;rename_i E;exact⟨_,B5k E,h⟩;rename_i E;exact⟨_,B9x E,h⟩;rename_i E;unfold B6g at h;split at h;rename_i U;exact⟨_,G4o E U,h⟩;grind;rename_i E;unfold M5 at h;split at h;rename_i U;exact⟨_,F8f E U,h⟩;grind;rename_i E;exact G0x E (λ⟨r,J,L⟩=>⟨r,J _ E,L⟩) h;rename_i E;unfold B9r at h;split at h;rename_i U;exact⟨_,F9b E U,h⟩;grind;rename_i E;unfold B7o at h;split at h;rename_i U;refine⟨_,F5p E U,?_⟩;rw[wrap_i64 h.1];grind;grind;rename_i E;unfold A6s at h;split at h;rename_i O I;exact⟨_,D4o E I O,h⟩;rename_i O I;exact⟨_,E2i E (by rw[I];exact .Aj _ _) O,h⟩;rename_i O I;exact⟨_,E2i E (by rw[I];exact .ptr _) O,h⟩;rename_i O I;exact⟨_,G5r E I O,h⟩;grind;grind[E9e]
 .rename_i E;unfold A6k at h;split at h;rename_i hs I Z;obtain⟨e,hT,hs⟩:=B2e hs;obtain⟨h0,row,hr,hl,hK⟩:=h;exact⟨_,F9v E I Z hT hs h0 hr hl,hK⟩
  .rename_i hs I Z;obtain⟨e,hT,hs⟩:=B2e hs;generalize hb:A8 bx _=ob at h;cases ob with
   |none=>exact h.elim
   |some bc =>
    cases bc with
    |rows sz rows =>obtain⟨J,L,W,V⟩:=h;exact⟨_,H0s E I (Hs hb) Z hT hs J L W,V⟩
    |cells _=>exact h.elim
    |map _=>exact h.elim
    |iter _ _=>exact h.elim
    |ghost _ _=>exact h.elim
  obtain⟨r,J,L⟩:=h;exact⟨r,J _ E,L⟩;obtain⟨r,J,L⟩:=h;exact⟨r,J _ E,L⟩;grind
 rename_i E;unfold B8w at h;split at h;rename_i I Z;obtain⟨J,L,c,W,V⟩:=h;exact⟨_,H1a E I Z J L W,V⟩;grind;rename_i E;unfold B5i at h;split at h;rename_i I;unfold M5 at h;split at h;rename_i hr;exact⟨_,C4z E I hr,h⟩;grind;grind;rename_i E;unfold A8v at h;split at h;rename_i I;exact⟨_,F3b E I,h⟩;rename_i I;exact⟨_,E4i E (by rw[I];exact .Aj _ _),by grind⟩;rename_i I;exact⟨_,E4i E (by rw[I];exact .ptr _),by grind⟩;grind;rename_i E;unfold B1b at h;split at h;rename_i hs hd I;exact⟨_,F6c E hs hd I,h⟩;rename_i hs hd I;exact⟨_,F0u E hs hd I,h⟩;obtain⟨r,J,L⟩:=h;exact⟨r,J o E,L⟩
 .rename_i E;obtain⟨J,L,h⟩:=h;obtain⟨d,hd⟩:=Vq.1 L;have hn:(match d with| .interface _=>false|_=>true)=true:=by unfold E8 at J;rw[hd]at J;cases d <;> simp_all
  unfold B0q at h;split at h;rename_i I;exact⟨_,G8s E I hd hn,h⟩;rename_i I;obtain⟨ds,W,V⟩:=h;exact⟨_,F2y E (by grind) hd hn,V⟩;grind
 rename_i E;unfold B6j at h;split at h;rename_i hz hp hl;unfold M5 at h;split at h;rename_i O;exact⟨_,G8x E hz hp hl O h.1,h.2⟩;grind;grind
 .rename_i T m parts E;obtain⟨h0,h⟩:=h;obtain⟨e,hT⟩:=Vq.1 h0;have he:Kv P T=e:=by unfold Kv;rw[hT];rfl
  rw[he]at h;unfold A8f at h;split at h
  .rename_i hs hz hr;obtain⟨h0,J,L,W,V⟩:=h;rw[hs]at hr;have a0:∀{m sz:Nat},m*sz<=16777216->1<=sz->m<=lim:=λ{m sz} h h'=>by have:m*1<=m*sz:=Ak9 _ h';unfold lim;omega
   exact⟨_,F3h E hT hs hz J L W hr (a0 L h0),V⟩
  grind
 grind[B5o];rename_i E;exact⟨_,G6j E,h⟩;grind[F8w];grind[E8b];obtain⟨r,J,L⟩:=h;exact⟨r,J o rfl,L⟩
end Go.Abs
namespace Go.Abs
open Go
variable {P:Program} {o:Oper} {sl:SL} {bx:Aa}
def Eg(P:Program)(e:TypeId):Option Nat:=(P.info? e).map (·.bytes)
abbrev KB:=SV->Aa->List Nat->Prop
def C1p(bytes sz:Nat)(xs:List (List D))(bx:Aa)(k:Nat):Option Aq->KB->Prop
 |some (.rows E rs),K=>E=sz/\k<=999999/\(rs.length+xs.length)*bytes<=lim/\K (.acc k) ((k,.rows sz (rs++xs))::G7 k (C5 k bx)) [k]
 |_,_=>False
def A0i(bytes sz:Nat)(xs:List (List D))(bx:Aa):SV->Option Nat->KB->Prop
 |.acc k,_,K=>C1p bytes sz xs bx k (A8 bx k) K
 |.d .nil,some k,K=>k<=999999/\xs.length*bytes<=lim/\K (.acc k) ((k,.rows sz xs)::G7 k (C5 k bx)) [k]
 |_,_,_=>False
def C4c(bytes sz:Nat)(bx:Aa)(x:SV)(dst:Option Nat):Option Aq->KB->Prop
 |some (.rows E xs),K=>E=sz/\A0i bytes sz xs bx x dst K
 |_,_=>False
def A5i(bytes sz:Nat)(bx:Aa)(x:SV)(dst:Option Nat):SV->KB->Prop
 |.d .nil,K=>A0i bytes sz [] bx x dst K
 |.d .emp,K=>A0i bytes sz [] bx x dst K
 |.d (.slice xs),K=>(∀row,row∈xs->row.length=sz)/\A0i bytes sz xs bx x dst K
 |.acc q,K=>C4c bytes sz bx x dst (A8 bx q) K
 |_,_=>False
def B9w(bx:Aa)(dst:Option Nat)(x y:SV):Option Nat->Option (List SV)->Option Nat->KB->Prop
 |some sz,some E,some bytes,K=>E.length=sz/\bytes≠0/\A5i bytes sz bx x dst y K
 |_,_,_,_=>False
def C3z(bx:Aa)(k i off:Nat)(us:List SV):Option Aq->KB->Prop
 |some (.rows sz rows),K=>∃row ds,rows[i]?=some row/\us=ds.map SV.d/\off+us.length<=row.length/\K (.tuple []) ((k,.rows sz (rows.set i (H5 row off ds)))::C5 k bx) []
 |_,_=>False
def C8p(bx:Aa)(k off:Nat)(us:List SV):Option Aq->KB->Prop
 |some (.cells cs),K=>off+us.length<=cs.length/\K (.tuple []) ((k,.cells (H5 cs off us))::C5 k bx) []
 |_,_=>False
def B2t(bx:Aa)(size:Option Nat):SV->Option (List SV)->KB->Prop
 |.box k off,some us,K=>size=some us.length/\C8p bx k off us (A8 bx k) K
 |.Ee k i off,some us,K=>size=some us.length/\C3z bx k i off us (A8 bx k) K
 |_,_,_=>False
def B7b(P:Program)(args:List SV)(bx:Aa):SV->Option Nat->KB->Prop
 |.Bk f caps,some k,K=>k<=999999/\∃E q sz rows r,H6 [] (args++caps)=some E/\Ch P f E [] r [(q,.rows sz rows)]/\K (A5r q k r) ((k,.rows sz rows)::G7 k (C5 k bx)) [k]
 |_,_,_=>False
def A9c(bx:Aa):Option Nat->Option (List SV)->KB->Prop
 |some k,some cs,K=>k<=999999/\K (.box k 0) ((k,.cells (cs.map (N7 k)))::G7 k (C5 k bx)) [k]
 |_,_,_=>False
def B7c(bx:Aa):Option Nat->Option Nat->List (List D)->KB->Prop
 |some k,some sz,rows,K=>k<=999999/\K (.acc k) ((k,.rows sz rows)::G7 k (C5 k bx)) [k]
 |_,_,_,_=>False
def B5z(bx:Aa):Option Nat->KB->Prop
 |some k,K=>k<=999999/\K (.mp k) ((k,.map [])::G7 k (C5 k bx)) [k]
 |_,_=>False
def E4g(bx:Aa)(k:Nat)(K:KB)(kvs:List (D × D))(I E:D):Prop:=K (.tuple []) ((k,.map (Xt I E kvs))::C5 k bx) []
def D0d(P:Program)(bx:Aa)(k:Nat)(y:SV)(K:KB)(I:TypeId)(kvs:List (D × D))(E:D):Prop:=En P I E/\M5 (Nv y) (E4g bx k K kvs E)
def C0r(P:Program)(bx:Aa)(k:Nat)(x y:SV)(K:KB)(E:TypeId):Option Aq->Prop
 |some (.map kvs)=>Rw P E=true/\(∀kv,kv∈kvs->En P E kv.1)/\M5 (Nv x) (D0d P bx k y K E kvs)
 |_=>False
def C0n(P:Program)(bx:Aa)(x y:SV):Option TypeDesc->SV->KB->Prop
 |some (.map E _),.mp k,K=>C0r P bx k x y K E (A8 bx k)
 |_,_,_=>False
def B9b(bx:Aa)(sz k:Nat)(i:Int)(K:KB):Option Aq->Prop
 |some (.rows E rs)=>E=sz/\0<=i/\i<=rs.length/\K (.acc k) ((k,.rows sz (rs.drop i.toNat))::G7 k (C5 k bx)) [k]
 |_=>False
def B9m(bx:Aa):Option Nat->SV->SV->KB->Prop
 |some sz,.acc k,.d (.int _ i),K=>k<=999999/\B9b bx sz k i K (A8 bx k)
 |_,_,_,_=>False
def A7c:List SV->Option Nat
 |[]=>none
 |.mp k::_=>some k
 |.box k _::_=>some k
 |_::r=>A7c r
def A8t(own:List Nat):List SV->Option Nat
 |[]=>none
 |.acc k::r=>if own.contains (500000+k)=true then some k else A8t own r
 |_::r=>A8t own r
def orElse(a b:Option Nat):Option Nat:=match a with
 |some k=>some k
 |none=>b
def B6z(P:Program)(args:List SV)(bx:Aa)(k:Nat):SV->Option Aq->KB->Prop
 |.Bk f caps,some c,K=>c.closed=true/\∃E r I,A0x k 1000000 (args++caps)=some E/\I.closed=true /\Ch P f E [(1000000,c)] r [(1000000,I)]/\r.closed=true/\K r ((k,I)::C5 k bx) []
 |_,_,_=>False
def A1y(bx:Aa)(K:KB):SV->Prop:=λr=>K r bx []
def G3i(bx:Aa)(K:KB)(r:SV):A1y bx K r=K r bx []:=rfl
def B7w(P:Program)(sl:SL)(bx:Aa)(fo:Operand)(args:List Operand)(E2:List TypeId):Option Nat->KB->Prop
 |none,K=>A3f P sl bx (.value fo) args E2 (A1y bx K)
 |some k,K=>B6z P (args.map (Ao sl)) bx k (Ao sl fo) (A8 bx k) K
def Zw:List SV->Option (List D)
 |[]=>some []
 |.d x::r=>match Zw r with
  |some l=>some (x::l)
  |none=>none
 |_::_=>none
def D1w:∀{I:List SV} {E:List D},Zw I=some E->I=E.map SV.d
 |[],E,h=>by simp only[Zw,B0]at h;subst h;rfl
 |x::r,E,h=>by
  cases x <;> simp only[Zw,reduceCtorEq]at h;cases hr:Zw r with
  |none=>grind
  |some l =>simp only[hr,B0]at h;subst h;rw[D1w hr];rfl
def B9n(bx:Aa)(k sz:Nat)(n:Int)(K:KB):Option (List D)->Prop
 |some E=>E.all D.one=true/\K (.acc k) ((k,.rows sz (List.replicate n.toNat E))::G7 k (C5 k bx)) [k]
 |none=>False
def B9a(bx:Aa):Option Nat->SV->SV->Option Nat->Option (List SV)->Option Nat->KB->Prop
 |some k,.d (.int _ n),.d (.int _ m),some sz,some E,some bytes,K=>k<=999999/\1<=sz/\E.length=sz/\bytes≠0/\0<=n/\n<=m/\m*(bytes:Int)<=(lim:Int)/\B9n bx k sz n K (Zw E)
 |_,_,_,_,_,_,_=>False
def A7x(bx:Aa)(k sz:Nat)(xs:List (List D))(K:KB):Option Aq->Prop
 |some (.rows E rs)=>E=sz/\xs.length<=rs.length/\K (.d (.int .i64 xs.length)) ((k,.rows sz (xs++rs.drop xs.length))::C5 k bx) []
 |_=>False
def C5d(bx:Aa)(k sz:Nat)(K:KB):Option Aq->Prop
 |some (.rows E xs)=>E=sz/\A7x bx k sz xs K (A8 bx k)
 |_=>False
def B0e(bx:Aa):Option Nat->SV->SV->KB->Prop
 |some sz,.acc k,.d (.slice xs),K=>(∀row,row∈xs->row.length=sz)/\A7x bx k sz xs K (A8 bx k)
 |some sz,.acc k,.d .nil,K=>A7x bx k sz [] K (A8 bx k)
 |some sz,.acc k,.acc q,K=>C5d bx k sz K (A8 bx q)
 |_,_,_,_=>False
def C5p:SV->Bool
 |.acc _=>true
 |_=>false
def B7n(own:List Nat):Option Nat->Bool
 |some k=>own.contains k
 |none=>false
def C0b(P:Program)(bx:Aa)(Y:Ku)(l:Nat)(K:KB):Option Nat->List SV->Prop
 |some j,[x]=>∃y,coerce [] x=some y/\Y.P=P/\Y.l=l/\j<Y.N/\Y.xs j=y/\K (.d (.bool (Y.go j))) ((1000000,.ghost Y (Y.next j))::C5 1000000 bx) []
 |_,_=>False
def B3h(P:Program)(bx:Aa)(Y:Ku)(st:Option Nat)(args:List SV)(K:KB):SV->Prop
 |.Bk f caps=>∃E r st',H6 [] (args++caps)=some E/\Ch P f E [(1000000,.ghost Y st)] r [(1000000,.ghost Y st')]/\r.closed=true/\K r ((1000000,.ghost Y st')::C5 1000000 bx) []
 |.Fa l=>C0b P bx Y l K st args
 |_=>False
def B9h(P:Program)(bx:Aa)(f:SV)(args:List SV)(K:KB):Option Aq->Prop
 |some (.ghost Y st)=>B3h P bx Y st args K f
 |_=>False
def B6i(own:List Nat):Option Nat->Bool
 |some k=>own.contains (700000+k)
 |none=>own.contains 799999
def B2w(P:Program)(E:List Nat)(sl:SL)(bx:Aa)(fo:Operand)(args:List Operand)(E2:List TypeId)(K:KB):Bool->Prop
 |true=>B9h P bx (Ao sl fo) (args.map (Ao sl)) K (A8 bx 1000000)
 |false=>B7w P sl bx fo args E2 (orElse (A8t E (args.map (Ao sl))) (A7c (args.map (Ao sl)))) K
def B3y(own:List Nat):Option Nat->Bool
 |some k=>own.contains (800000+k)
 |none=>false
def B4y(P:Program)(E:List Nat)(sl:SL)(bx:Aa)(dst:Option Nat)(fo:Operand)(args:List Operand)(E2:List TypeId)(K:KB):Bool->Prop
 |true=>A9g P sl bx dst (.call ⟨.value fo,args.toArray,E2.toArray⟩) K
 |false=>B2w P E sl bx fo args E2 K (B6i E dst)
def Wq(P:Program)(own:Bool)(E:List Nat)(sl:SL)(bx:Aa)(dst:Option Nat):Callee->List Operand->List TypeId->KB->Prop
 |.builtin .append,[x,y],[T,U],K=>L5 P U=true/\(Ec P T).isSome=true/\B9w bx dst (Ao sl x) (Ao sl y) (C4 P (Kv P T)) (Cz P (Kv P T)) (Eg P (Kv P T)) K
 |.builtin .copy,[x,y],[T,_],K=>B0e bx (Wu P T) (Ao sl x) (Ao sl y) K
 |.value fo,args,E2,K=>match own with
  |true=>B7b P (args.map (Ao sl)) bx (Ao sl fo) dst K
  |false=>B4y P E sl bx dst fo args E2 K (B3y E dst)
 |.builtin .delete,args,E2,K=>A9g P sl bx dst (.call ⟨.builtin .delete,args.toArray,E2.toArray⟩) K
 |c,args,E2,K=>A3f P sl bx c args E2 (A1y bx K)
def Ie(P:Program)(own:List Nat)(dst:Option Nat)(sl:SL)(bx:Aa):Op->KB->Prop
 |.alloc T,K=>A9c bx dst (Cz P T) K
 |.box _ x,K=>A9c bx dst (content (Ao sl x)) K
 |.store T x y,K=>B2t bx (C4 P T) (Ao sl x) (content (Ao sl y)) K
 |.call c,K=>Wq P (B7n own dst) own sl bx dst c.callee c.args.toList c.argTypes.toList K
 |.makeMap _ none,K=>B5z bx dst K
 |.makeSlice T x y,K=>(Ec P T).isSome=true/\B9a bx dst (Ao sl x) (Ao sl y) (C4 P (Kv P T)) (Cz P (Kv P T)) (Eg P (Kv P T)) K
 |.mapUpdate T m x y,K=>C0n P bx (Ao sl x) (Ao sl y) (P.underlying T) (Ao sl m) K
 |.slice T x (some y) none none,K=>match C5p (Ao sl x)with
  |true=>B9m bx (Wu P T) (Ao sl x) (Ao sl y) K
  |false=>Ij P sl bx (.slice T x (some y) none none) (A1y bx K)
 |.buildSlice T m parts,K=>match B7n own dst with
  |true=>(Ec P T).isSome=true/\A8f m parts.size (C4 P (Kv P T)) (Cz P (Kv P T)) (rowsOf (Ao sl) ((C4 P (Kv P T)).getD 0) 0 parts.toList) λrows=>B7c bx dst (C4 P (Kv P T)) rows K
  |false=>Ij P sl bx (.buildSlice T m parts) (A1y bx K)
 |.insert T m x y,K=>A9g P sl bx dst (.insert T m x y) K
 |.range T x,K=>A9g P sl bx dst (.range T x) K
 |.next x b,K=>A9g P sl bx dst (.next x b) K
 |.entry x,K=>A9g P sl bx dst (.entry x) K
 |.makeFunc f E caps,K=>match B3y own dst with
  |true=>A5e P sl bx (.makeFunc f E caps) (A1y bx K)
  |false=>Ij P sl bx (.makeFunc f E caps) (A1y bx K)
 |op,K=>Ij P sl bx op (A1y bx K)
def B9e{T U e sz bytes:Nat}{x y:Operand}(V:o.op=.call { callee:=.builtin .append,args:=#[x,y],argTypes:=#[T,U] }){xs:List (List D)}{K:KB}(Z:A8s P T e sz bytes)(hU:L5 P U=true)
  (hs:Wf bx sz (Ao sl y) xs)(h:A0i bytes sz xs bx (Ao sl x) o.dst K):∃r bx' pg,C1 P o (Ao sl) bx r bx' pg/\K r bx' pg:=by
 generalize L:Ao sl x=vx at h;generalize J:o.dst=dd at h;unfold A0i at h;split at h
 .generalize W:A8 bx _=ob at h;cases ob with
  |none=>exact h.elim
  |some E =>
   cases E with
   |rows I rs =>obtain⟨O,h0,h4,h5⟩:=h;grind[G3d,Hs]
   |cells _=>exact h.elim
   |map _=>exact h.elim
   |iter _ _=>exact h.elim
   |ghost _ _=>exact h.elim
 grind[F1t];grind
def F6f{own:Bool}{V:List Nat}{c:Call}{K:KB}(O:o.op=.call c)(h:Wq P own V sl bx o.dst c.callee c.args.toList c.argTypes.toList K):∃r bx' pg,C1 P o (Ao sl) bx r bx' pg/\K r bx' pg:=by
 have q:∀{K':SV->Prop},Quiet P o sl bx K'->(∀r,K' r->K r bx [])->∃r bx' pg,C1 P o (Ao sl) bx r bx' pg/\K r bx' pg:=by rintro K' ⟨r,L,J⟩ hk;exact⟨r,bx,[],L,hk r J⟩
 obtain⟨callee,args,E2⟩:=c;simp only at h;cases callee with
 |value fo =>
  simp only[Wq]at h;split at h;generalize hf:Ao sl fo=vf at h;generalize ab:o.dst=dd at h;unfold B7b at h;grind[G3m]
  .generalize a':B3y V o.dst=I at h;cases I with
   |true =>simp only[B4y]at h;obtain⟨r,bx',pg,L,J⟩:=h;exact⟨r,bx',pg,L o O rfl,J⟩
   |false =>
   simp only[B4y]at h;generalize ad:B6i V o.dst=gb at h;cases gb with
   |true =>
    simp only[B2w]at h;generalize hf:Ao sl fo=vf at h;generalize I:A8 bx 1000000=ob at h;unfold B9h at h;split at h
    .have ac:=Hs I;unfold B3h at h;split at h;grind[F6x]
     .generalize a4:args.toList.map (Ao sl)=al at h;unfold C0b at h;split at h
      .obtain⟨y,L,J,h3,hN,h4,h5⟩:=h;obtain⟨xo,a5⟩:∃xo,args = #[xo]:=by
        have hl:=Gf List.length a4;simp only[Bc,Ar,Az,Ap1]at hl;obtain⟨l⟩:=args
        match l,hl with
        |[xo],_=>simp
       subst a5;simp only[Cp,It,An7,T9]at a4;grind[F7v]
      grind
     grind
    grind
   |false =>
   simp only[B2w]at h;unfold B7w at h;split at h
   .exact q (B5o (c:=⟨.value fo,args,E2⟩) O h) λ_ h=>h
   .generalize hf:Ao sl fo=vf at h;generalize I:A8 bx _=ob at h;unfold B6z at h;split at h
    .obtain⟨n2,a6,r,c',L,n4,J,h3,h4⟩:=h;exact⟨_,_,_,H1d O hf (Hs I) (by omega) n2 n4 L J h3,h4⟩
    grind
 |invoke r m =>simp only[Wq]at h;exact q (B5o (c:=⟨.invoke r m,args,E2⟩) O h) λ_ h=>h
 |builtin b =>
 unfold Wq at h;split at h
 .rename_i x y T U E hx hT;simp only[At2]at E;subst E;have W:args = #[x,y]:=by apply Lk;simpa using hx
  have Z:E2 = #[T,U]:=by apply Lk;simpa using hT
  subst W Z;obtain⟨hU,h0,h⟩:=h;obtain⟨e,he⟩:=Vq.1 h0;have a8:Kv P T=e:=by unfold Kv;rw[he];rfl
  rw[a8]at h;generalize hs:C4 P e=os at h;generalize hz:Cz P e=oz at h;generalize I:Eg P e=ob at h;unfold B9w at h;split at h
  .rename_i sz zs bytes;obtain⟨L,J,h⟩:=h;have hE:A8s P T e sz bytes:=⟨he,hs,by grind,I,J⟩;generalize hy:Ao sl y=vy at h;unfold A5i at h;split at h
   .exact B9e O hE hU (by rw[hy];exact .nil) h
   .exact B9e O hE hU (by rw[hy];exact .emp) h
   .exact B9e O hE hU (by rw[hy];exact .slice _ h.1) h.2
   .generalize I:A8 bx _=ob at h;cases ob with
    |none=>exact h.elim
    |some bc =>
     cases bc with
     |rows a3 rs =>obtain⟨h3,h⟩:=h;subst h3;exact B9e O hE hU (by rw[hy];exact .acc _ _ (Hs I)) h
     |cells _=>exact h.elim
     |map _=>exact h.elim
     |iter _ _=>exact h.elim
     |ghost _ _=>exact h.elim
   grind
  grind
 .rename_i x y T U E hx hT;simp only[At2]at E;subst E;have W:args = #[x,y]:=by apply Lk;simpa using hx
  have Z:E2 = #[T,U]:=by apply Lk;simpa using hT
  subst W Z;generalize hs:Wu P T=os at h;have a2:∀{K2:KB} {sz k:Nat} {xs:List (List D)},some sz=Wu P T->Ao sl x=.acc k->Wf bx sz (Ao sl y) xs->A7x bx k sz xs K2 (A8 bx k)->∃r bx' pg,C1 P o (Ao sl) bx r bx' pg/\K2 r bx' pg:=by
   intro K2 sz k xs a7 aa a9 h;obtain⟨e,hT,hs⟩:=B2e a7.symm;generalize I:A8 bx k=ob at h;cases ob with
   |none=>exact h.elim
   |some bc =>
    cases bc with
    |rows a3 rs =>
     obtain⟨rfl,L,J⟩:=h
     grind[G8k,Hs]
    |cells _=>exact h.elim
    |map _=>exact h.elim
    |iter _ _=>exact h.elim
    |ghost _ _=>exact h.elim
  generalize a1:Ao sl x=vx at h;generalize a0:Ao sl y=vy at h;unfold B0e at h;split at h
  .exact a2 hs.symm a1 (by rw[a0];exact .slice _ h.1) h.2
  .exact a2 hs.symm a1 (by rw[a0];exact .nil) h
  .generalize I:A8 bx _=ob at h;cases ob with
   |none=>exact h.elim
   |some bc =>
    cases bc with
    |rows a3 xs =>obtain⟨rfl,h⟩:=h;exact a2 hs.symm a1 (by rw[a0];exact .acc _ _ (Hs I)) h
    |cells _=>exact h.elim
    |map _=>exact h.elim
    |iter _ _=>exact h.elim
    |ghost _ _=>exact h.elim
  grind
 .grind
 .rename_i E;simp only[At2]at E;subst E;obtain⟨r,bx',pg,L,J⟩:=h;exact⟨r,bx',pg,L o O rfl,J⟩
 .exact q (B5o (c:=⟨.builtin b,args,E2⟩) O h) λ_ h=>h
def D7p{own:List Nat}{K:KB}(h:Ie P own o.dst sl bx o.op K):∃r bx' pg,C1 P o (Ao sl) bx r bx' pg/\K r bx' pg:=by
 have q:∀{K':SV->Prop},Quiet P o sl bx K'->(∀r,K' r->K r bx [])->∃r bx' pg,C1 P o (Ao sl) bx r bx' pg/\K r bx' pg:=by rintro K' ⟨r,I,J⟩ hk;exact⟨r,bx,[],I,hk r J⟩
 generalize E:o.op=op at h;unfold Ie at h;split at h;generalize hz:Cz P _=oz at h;generalize L:o.dst=dd at h;unfold A9c at h;grind[F9p];generalize hz:content _=oz at h;generalize L:o.dst=dd at h;unfold A9c at h;grind[F3f]
 .generalize U:Ao sl _=vx at h;generalize a0:content _=ous at h;unfold B2t at h;split at h
  .obtain⟨hs,h⟩:=h;generalize O:A8 bx _=ob at h;cases ob with
   |none=>exact h.elim
   |some bc =>
    cases bc with
    |cells cs=>exact⟨_,_,_,G7z E U (Hs O) a0 hs h.1,h.2⟩
    |rows _ _=>exact h.elim
    |map _=>exact h.elim
    |iter _ _=>exact h.elim
    |ghost _ _=>exact h.elim
  .obtain⟨hs,h⟩:=h;generalize O:A8 bx _=ob at h;cases ob with
   |none=>exact h.elim
   |some bc =>
    cases bc with
    |rows sz rows =>obtain⟨row,ds,I,J,h3,h4⟩:=h;grind[G4f,Hs]
    |cells _=>exact h.elim
    |map _=>exact h.elim
    |iter _ _=>exact h.elim
    |ghost _ _=>exact h.elim
  grind
 exact F6f E h;generalize L:o.dst=dd at h;unfold B5z at h;grind[D4j]
 .rename_i T x y;obtain⟨W,h⟩:=h;obtain⟨e,hT⟩:=Vq.1 W;have he:Kv P T=e:=by unfold Kv;rw[hT];rfl
  rw[he]at h;generalize U:Ao sl x=vx at h;generalize Z:Ao sl y=vy at h;generalize hs:C4 P e=os at h;generalize hz:Cz P e=oz at h;generalize O:Eg P e=ob at h;generalize L:o.dst=dd at h;unfold B9a at h;split at h;obtain⟨k1,k2,k3,k4,k5,k6,k7,h⟩:=h;unfold B9n at h;split at h;rename_i hu;have a2:=D1w hu;exact⟨_,_,_,F7u k1 E U Z ⟨hT,hs,by grind,O,k4⟩ (by grind) (λd hd=>Dr.1 h.1 d hd) k5 k6 k7 k2,h.2⟩;grind;grind
 rename_i m x y;generalize hm:Ao sl m=vm at h;generalize hT:P.underlying _=vT at h;unfold C0n at h;split at h;generalize O:A8 bx _=ob at h;unfold C0r at h;split at h;obtain⟨I,J,h⟩:=h;generalize U:Nv (Ao sl x)=vx at h;unfold M5 at h;split at h;obtain⟨h3,h⟩:=h;generalize Z:Nv (Ao sl y)=vy at h;unfold M5 at h;split at h;exact⟨_,_,_,G5g E hm (Hs O) hT I U h3 J Z,h⟩;grind;grind;grind;grind;split at h;generalize U:Ao sl _=vx at h;generalize Z:Ao sl _=vy at h;generalize hs:Wu P _=vs at h;unfold B9m at h;split at h;obtain⟨W,h⟩:=h;generalize O:A8 bx _=ob at h;unfold B9b at h;grind[B2e,F3c,Hs];grind;exact q (B5j (by rw[E];exact h)) λ_ h=>h
 .rename_i T m parts;split at h
  .obtain⟨W,h⟩:=h;obtain⟨e,hT⟩:=Vq.1 W;have he:Kv P T=e:=by unfold Kv;rw[hT];rfl
   rw[he]at h;generalize hs:C4 P e=os at h;generalize hz:Cz P e=oz at h;generalize hr:rowsOf _ _ _ _=orr at h;generalize L:o.dst=dd at h;unfold A8f at h;split at h
   .obtain⟨W,I,J,h3,h4⟩:=h;unfold B7c at h4;split at h4
    .rename_i V;simp only[B0]at V;subst V;have a1:∀{m sz:Nat},m*sz<=16777216->1<=sz->m<=lim:=λ{m sz} h h'=>by have:m*1<=m*sz:=Ak9 _ h';unfold lim;omega
     grind[F8q]
    grind
   grind
  exact q (B5j (by rw[E];exact h)) λ_ h=>h
 obtain⟨r,bx',pg,I,J⟩:=h;exact⟨r,bx',pg,I o E rfl,J⟩;obtain⟨r,bx',pg,I,J⟩:=h;exact⟨r,bx',pg,I o E rfl,J⟩;obtain⟨r,bx',pg,I,J⟩:=h;exact⟨r,bx',pg,I o E rfl,J⟩;obtain⟨r,bx',pg,I,J⟩:=h;exact⟨r,bx',pg,I o E rfl,J⟩;split at h;obtain⟨r,I,J⟩:=h;exact⟨r,bx,[],I o E,J⟩;exact q (B5j (by rw[E];exact h)) λ_ h=>h;exact q (B5j (by rw[E];exact h)) λ_ h=>h
def Su(b E:Bool)(A B:Prop):Prop:=(b=E->A)/\(b = !E->B)
def Fo(P:Program)(own:List Nat)(ops:Array Oper):List Oper->SL->Aa->(SL->Aa->Prop)->Prop
 |[],sl,bx,K=>K sl bx
 |o::os,sl,bx,K=>match o.guard with
  |none=>Ie P own o.dst sl bx o.op λr bx' pg=>Fo P own ops os (Gk (Gb pg sl) o.dst r) bx' K
  |some (j,E)=>match Qs ops j with
   |some t=>match Af sl t with
    |.d (.bool b)=>Su b E (Ie P own o.dst sl bx o.op λr bx' pg=>Fo P own ops os (Gk (Gb pg sl) o.dst r) bx' K) (Fo P own ops os (Gk sl o.dst (.tuple [])) bx K)
    |.tuple []=>Fo P own ops os (Gk sl o.dst (.tuple [])) bx K
    |_=>False
   |none=>False
def B0a(P:Program)(own:List Nat)(ops:Array Oper)(os:List Oper)(sl:SL)(dst:Option Nat)(K:SL->Aa->Prop):KB:=λr bx pg=>Fo P own ops os (Gk (Gb pg sl) dst r) bx K
def C7d(P:Program)(own:List Nat)(ops:Array Oper)(dst:Option Nat)(op:Op)(os:List Oper)(sl:SL)(bx:Aa)(E:Bool)(K:SL->Aa->Prop):SV->Prop
 |.d (.bool b)=>Su b E (Ie P own dst sl bx op (B0a P own ops os sl dst K)) (Fo P own ops os (Gk sl dst (.tuple [])) bx K)
 |.tuple []=>Fo P own ops os (Gk sl dst (.tuple [])) bx K
 |_=>False
def C8v(P:Program)(own:List Nat)(ops:Array Oper)(dst:Option Nat)(op:Op)(os:List Oper)(sl:SL)(bx:Aa)(E:Bool)(K:SL->Aa->Prop):Option Nat->Prop
 |some t=>C7d P own ops dst op os sl bx E K (Af sl t)
 |none=>False
def gbV(P:Program)(own:List Nat)(ops:Array Oper)(dst:Option Nat)(op:Op)(os:List Oper)(sl:SL)(bx:Aa)(K:SL->Aa->Prop)(b E:Bool):Prop :=Su b E (Ie P own dst sl bx op (B0a P own ops os sl dst K)) (Fo P own ops os (Gk sl dst (.tuple [])) bx K)
section
variable (P:Program) (own:List Nat) (ops:Array Oper) (os:List Oper) (sl:SL) (bx:Aa) (K:SL->Aa->Prop) (dst:Option Nat) (op:Op) (ty:TypeId) (pos:String) (after:Array Edge)
def G1y:Fo P own ops [] sl bx K=K sl bx:=by rfl
def G0o:Fo P own ops (⟨dst,op,ty,pos,after,none⟩::os) sl bx K=Ie P own dst sl bx op (B0a P own ops os sl dst K):=by rfl
def G5m(j:Nat)(E:Bool):Fo P own ops (⟨dst,op,ty,pos,after,some (j,E)⟩::os) sl bx K=C8v P own ops dst op os sl bx E K (Qs ops j):=by rfl
def F9y(r:SV)(pg:List Nat):B0a P own ops os sl dst K r bx pg=Fo P own ops os (Gk (Gb pg sl) dst r) bx K:=rfl
def G9r(b E:Bool):C7d P own ops dst op os sl bx E K (.d (.bool b))=gbV P own ops dst op os sl bx K b E:=rfl
def G0p(E:Bool):C7d P own ops dst op os sl bx E K (.tuple [])=Fo P own ops os (Gk sl dst (.tuple [])) bx K:=rfl
def G4i:gbV P own ops dst op os sl bx K true true=Ie P own dst sl bx op (B0a P own ops os sl dst K):=by simp[gbV,Su]
def G7r:gbV P own ops dst op os sl bx K false false=Ie P own dst sl bx op (B0a P own ops os sl dst K):=by simp[gbV,Su]
def F8u:gbV P own ops dst op os sl bx K true false=Fo P own ops os (Gk sl dst (.tuple [])) bx K:=by simp[gbV,Su]
def G6h:gbV P own ops dst op os sl bx K false true=Fo P own ops os (Gk sl dst (.tuple [])) bx K:=by simp[gbV,Su]
end
section
variable (P:Program) (own:List Nat) (ops:Array Oper) (os:List Oper) (sl:SL) (bx:Aa) (K:SL->Prop) (dst:Option Nat) (op:Op) (ty:TypeId) (pos:String) (after:Array Edge)
end
def D4b{ops:Array Oper}{A B:Prop}(h:match o.guard with
  |none=>A
  |some (j,E)=>match Qs ops j with
   |some t=>match Af sl t with
    |.d (.bool b)=>Su b E A B
    |.tuple []=>B
    |_=>False
   |none=>False):∃g,Vp ops sl o=some g/\(g=true->A)/\(g=false->B):=by
 unfold Vp;cases J:o.guard with
 |none =>grind
 |some L =>
  obtain⟨j,E⟩:=L;simp only[J]at h;cases O:Qs ops j with
  |none=>grind
  |some t =>
   simp only[O]at h |-;split at h
   rename_i b hs;refine⟨b ==E,by rw[hs],λI=>h.1 (by grind),λI=>h.2 ?_⟩;cases b <;> grind <;> simp_all;simp_all;grind
def B8t{n:Nat}{own:List Nat}{ops:Array Oper}{K:SL->Aa->Prop}:∀(os:List Oper)(sl:SL)(bx:Aa),Fu n os=true->Fo P own ops os sl bx K->Run P n ops os sl bx K
 |[],sl,bx,_,h=>by rw[Fo]at h;exact h
 |o::os,sl,bx,hd,h=>by simp only[Fu,Rx,Bi]at hd;rw[Fo]at h;obtain⟨g,I,U,J⟩:=D4b h;refine⟨g,I,B8f (ops:=[o]) (by simp[Fu,hd.1]) o (by simp),λE=>?_,λE=>B8t os _ bx hd.2 (J E)⟩;obtain⟨r,bx',pg,O,L⟩:=D7p (U E);exact⟨r,bx',pg,O,B8t os _ bx' hd.2 L⟩
def J0(ks:List Nat)(K:SL->Aa->Prop):SL->Aa->Prop:=λsl bx=>K (Vy ks sl) (T2 ks bx)
def F2w(ks:List Nat)(K:SL->Aa->Prop)(sl:SL)(bx:Aa):J0 ks K sl bx=K (Vy ks sl) (T2 ks bx):=rfl
def C4u(k:Nat):Option Aq->Aa->Aa
 |some c,r=>(k,c)::r
 |none,r=>r
def G1m(k:Nat)(ks:List Nat)(bx:Aa):T2 (k::ks) bx=C4u k (A8 bx k) (T2 ks bx):=by rw[T2];cases A8 bx k <;> rfl
def G7s(bx:Aa):T2 [] bx=[]:=rfl
def A0.reg{ro:Option Nat}{n:Nat}{Q:Exit->SL->Aa->Prop}{id:Nat}{ops:Array Oper}(ks own:List Nat)(hd:Fu n ops.toList=true)
  (h:Fo P own ops ops.toList sl bx (J0 ks (Q .normal))):A0 ro P n (.region id ops false) Q sl bx :=
 A0.region ks ks hd (B8t _ _ _ hd h)
end Go.Abs
namespace Go.Abs
open Go
variable {P:Program}
mutual
def SV.bd:SV->Prop
 |.d x=>x.Bd
 |.agg cs=>SV.Ub cs
 |.tuple cs=>SV.Ub cs
 |.Bk _ cs=>SV.Ub cs
 |.Aj cells _=>∀d,d∈cells->d.Bd
 |.undef| .box _ _| .acc _| .Ee _ _ _| .mp _| .Fa _| .Fv _ _=>True
def SV.Ub:List SV->Prop
 |[]=>True
 |c::cs=>c.bd/\SV.Ub cs
end
mutual
theorem An.bd{S:Nat->Prop}{w:World}{β:Names}:∀{x:SV} {v:Value},An S w β x v->x.bd
 |.d x,v,h=>by simp only[SV.bd];exact h.Gq.bd
 |.agg cs,v,h=>by cases h with|agg _ vs E _ I=>simp only[SV.bd];exact Bz.bd ⟨E,I⟩
 |.tuple cs,v,h=>by cases h with|tuple _ vs E I=>simp only[SV.bd];exact Bz.bd ⟨E,I⟩
 |.Bk f cs,v,h=>by cases h with|Bk _ _ vs E I=>simp only[SV.bd];exact Bz.bd ⟨E,I⟩
 |.Aj cells off,v,h=>by obtain⟨b,base,J⟩:=h.B9z;simp only[SV.bd];intro d hd;obtain⟨j,L⟩:=Wz.1 hd;obtain⟨u,U⟩:=J.there j (Aw.1 L).1;exact(J.rep j d u L U).bd
 |.undef,v,h=>by simp[SV.bd]
 |.box _ _,v,h=>by simp[SV.bd]
 |.acc _,v,h=>by simp[SV.bd]
 |.Ee _ _ _,v,h=>by simp[SV.bd]
 |.mp _,v,h=>by simp[SV.bd]
 |.Fa _,v,h=>by simp[SV.bd]
 |.Fv _ _,v,h=>by simp[SV.bd]
theorem Bz.bd{S:Nat->Prop}{w:World}{β:Names}:∀{cs:List SV} {vs:List Value},Bz S w β cs vs->SV.Ub cs
 |[],_,_=>by simp[SV.Ub]
 |c::cs,vs,h=>by
  simp only[SV.Ub];obtain⟨v,O,hr⟩:=h.get (j:=0) (c:=c) rfl;cases vs with
  |nil=>grind
  |cons v vs=>exact⟨(h.2 0 c v rfl rfl).bd,Bz.bd ⟨by have:=h.1;simpa using this,λj c v V O=>h.2 (j+1) c v (by grind) (by grind)⟩⟩
end
def Ch.bd{f:FuncId}{args:List SV}{pre E:Aa}{r:SV}(J:Enters P f)(h:SV.Ub args->Ch P f args pre r E):Ch P f args pre r E :=⟨J,λC β vs L I=>(h I.bd).2 C β vs L I⟩
def Enters.of{f:FuncId}{fn:Func}{c:Code}(I:P.funcs[f]?=some fn)(J:fn.body=some c)(E:(fn.name == "runtime.NumGoroutine")=false):Enters P f:=⟨fn,I,E,by grind⟩
def D2t(P:Program)(fn:Func)(r:SV)(E:Aa)(e:Exit)(sl:SL)(bx:Aa):Prop :=match e with
 |.normal| .ret=>∃xs,Ui P bx sl fn.results.toList=some xs/\(Xn xs=r\/coerce [] (Xn xs)=some r)/\ble bx E
 |_=>False
def Ch.C0v{f:FuncId}{fn:Func}{c:Code}{args:List SV}{pre E:Aa}{r:SV}(I:P.funcs[f]?=some fn)(V:fn.body=some c)(W:(fn.name == "runtime.NumGoroutine")=false)(hm:args.length<=fn.ntmps)
  (h:A0 none P fn.ntmps c (D2t P fn r E) (Vh 0 args) pre):Ch P f args pre r E:=by
 refine⟨⟨fn,I,W,by grind⟩,?_⟩;intro C β vs hi O;refine C6c I V ?_;refine As4 (h C C.S0 C.w0 β _ (St.start hi O hm)) ?_;rintro e J w' ⟨sl',bx',S',β',q,hs⟩;have key:(∃xs,Ui P bx' sl' fn.results.toList=some xs/\(Xn xs=r\/coerce [] (Xn xs)=some r)/\ble bx' E)->LeavesInM Fence.wide 0 P fn J.tmps (λe w'=>∃v S' β',e=.returned v/\Inv C S' w' β' E/\An S' w' β' r v) J.defers .returning w':=by rintro⟨xs,U,h2,h5⟩;refine hs.leave λw' hs=>?_;obtain⟨v,Z,L⟩:=C1u (P:=P) hs U;refine⟨v,Z,v,S',β',rfl,hs.inv.sub (A7e h5),?_⟩;rcases h2 with rfl|h2;exact L;exact(A5z (hs.inv.sub (bx':=[]) (by simp)) (C9.refl _ _) (by simp) h2 L).1
 cases e with
 |normal=>exact key q
 |ret=>exact key q
 |_=>exact q.elim
section steps
variable {ro:Option Nat} {n:Nat} {Q:Exit->SL->Aa->Prop} {sl:SL} {bx:Aa}
def A0.B0n{x y:Code}(h:∀K:SL->Aa->Prop,(∀sl' bx',A0 ro P n y Q sl' bx'->K sl' bx')->A0 ro P n x (A5 K Q) sl bx):A0 ro P n (.seq x y) Q sl bx :=A0.seq (h _ λ_ _ h=>h)
def A0.C5h{x y:Code}(h:∀K:SL->Aa->Prop,(∀sl' bx',A0 ro P n y Q sl' bx'->K sl' bx')->(∀{J E L I},sle J L->ble E I->K L I->K J E)->A0 ro P n x (A5 K Q) sl bx):A0 ro P n (.seq x y) Q sl bx :=A0.seq (h _ (λ_ _ h=>h) λa b c=>A0.ww a b c)
def A0.F9{id:Nat}{ops:Array Oper}{y:Code}(ks own:List Nat)(hd:Fu n ops.toList=true)
  (h:∀K:SL->Aa->Prop,(∀sl' bx',A0 ro P n y Q sl' bx'->K sl' bx')->Fo P own ops ops.toList sl bx (J0 ks K)):A0 ro P n (.seq (.region id ops false) y) Q sl bx :=
 A0.seq (A0.reg ks own hd (h _ λ_ _ h=>h))
def A0.A3a{id:Nat}{ops:Array Oper}(ks own:List Nat)(hd:Fu n ops.toList=true)
  (h:∀K:SL->Aa->Prop,(∀sl' bx',Q .normal sl' bx'->K sl' bx')->Fo P own ops ops.toList sl bx (J0 ks K)):A0 ro P n (.region id ops false) Q sl bx :=
 A0.reg ks own hd (h _ λ_ _ h=>h)
def A0.tt{c:Operand}{x y:Code}(E:Ao sl c=.d (.bool true))(h:A0 ro P n x Q sl bx):A0 ro P n (.cond c x y) Q sl bx:=A0.cond E (λ_=>h) (by simp)
def A0.ff{c:Operand}{x y:Code}(E:Ao sl c=.d (.bool false))(h:A0 ro P n y Q sl bx):A0 ro P n (.cond c x y) Q sl bx:=A0.cond E (by simp) (λ_=>h)
end steps
end Go.Abs
namespace Go.Abs
open Go
variable {ro:Option Nat} {P:Program} {n:Nat} {Q:Exit->SL->Aa->Prop} {sl:SL} {bx:Aa}
def Ch.pub{f:FuncId}{args:List SV}{q sz:Nat}{rs:List (List D)}(h:Ch P f args [] (.acc q) [(q,.rows sz rs)]):Ab P f args (.d (.slice rs)):=by refine⟨h.1,λC β vs O E=>(h.2 C β vs O E).mono ?_⟩;rintro e w' ⟨v,S',β',rfl,L,E⟩;obtain⟨I,_,J⟩:=L.Jh (k:=q) (sz:=sz) (rs:=rs) (by simp);cases E;exact⟨_,_,β',rfl,I.sub (by simp),.d _ _ J⟩
variable {c:Operand}
def A0.Ha{y z:Code}(E:Ao sl c=.d (.bool true))(h:A0 ro P n z Q sl bx):A0 ro P n (.seq (.cond c .skip y) z) Q sl bx :=A0.seq (A0.tt E (A0.kk h))
def A0.stop{x z:Code}{id:Nat}(E:Ao sl c=.d (.bool false))(h:Q (.exit id) sl bx):A0 ro P n (.seq (.cond c x (.exit id)) z) Q sl bx :=A0.seq (A0.ff E (A0.xx h))
variable {K:SL->Aa->Prop}
def A0.Nh{x z:Code}{b:Bool}(L:Ao sl c=.d (.bool b))(O:∀sl' bx',A0 ro P n z Q sl' bx'->K sl' bx')
  (J:b=true->A0 ro P n x (A5 (λ_ _=>False) Q) sl bx)(U:b=false->A0 ro P n z Q sl bx):A0 ro P n (.cond c x .skip) (A5 K Q) sl bx :=
 A0.cond L (λE=>(J E).mono λe _ _ I=>by cases e <;> first|exact I.elim|exact I) (λE=>A0.kk (O _ _ (U E)))
def A0.G1g{x y:Code}(J:Ao sl c=.d (.bool true))(I:A0 ro P n x (A5 (λ_ _=>False) Q) sl bx):A0 ro P n (.cond c x y) (A5 K Q) sl bx :=A0.tt J (I.mono λe _ _ E=>by cases e <;> first|exact E.elim|exact E)
def A0.F5x{x z:Code}(J:Ao sl c=.d (.bool false))(I:∀sl' bx',A0 ro P n z Q sl' bx'->K sl' bx')(E:A0 ro P n z Q sl bx):A0 ro P n (.cond c x .skip) (A5 K Q) sl bx :=A0.ff J (A0.kk (I _ _ E))
def A0.G8b{y z:Code}(J:Ao sl c=.d (.bool true))(I:∀sl' bx',A0 ro P n z Q sl' bx'->K sl' bx')(E:A0 ro P n z Q sl bx):A0 ro P n (.cond c .skip y) (A5 K Q) sl bx :=A0.tt J (A0.kk (I _ _ E))
def A0.ss{x:Code}{id:Nat}(E:Ao sl c=.d (.bool false))(h:Q (.exit id) sl bx):A0 ro P n (.cond c x (.exit id)) (A5 K Q) sl bx :=A0.ff E (A0.xx h)
def A0.ii{α X:Type}(L:List α)(mk:Nat->X->SL)(mb:Nat->X->Aa)(I:Nat->X->Prop){c:Code}(O:X)(h0:I 0 O)(Z:sle sl (mk 0 O))(h2:ble bx (mb 0 O))
  (V:∀x,I L.length x->A0 ro P n c (A5 (λ_ _=>False) Q) (mk L.length x) (mb L.length x))
  (step:∀j x a,L[j]?=some a->a∈L->L.drop j=a::L.drop (j+1)->L.take (j+1)=L.take j++[a]->(j:Int)<(L.length:Int)->I j x -> A0 ro P n c (A5 (λsl' bx'=>∃J,I (j+1) J/\sle sl' (mk (j+1) J)/\ble bx' (mb (j+1) J)) Q) (mk j x) (mb j x)):A0 ro P n (.loop c) Q sl bx:=by
 refine A0.loop (X:=Nat × X) (λx=>mk x.1 x.2) (λx=>mb x.1 x.2) (λx=>x.1<=L.length/\I x.1 x.2) (λx=>L.length - x.1) (0,O) ⟨by simp,h0⟩ Z h2 ?_;rintro⟨j,x⟩ ⟨hj,W⟩;simp only at hj W;by_cases E:j<L.length
 .refine(step j x L[j] (Br E) (Gi E) (Gv E) (La E) (by omega) W).mono ?_;intro e sl' bx' U;cases e with
  |normal=>obtain⟨J,g1,g2,g3⟩:=U;exact⟨(j+1,J),⟨by omega,g1⟩,by omega,g2,g3⟩
  |_=>exact U
 grind
def bsize(l:List UInt8):(ByteArray.mk ⟨l⟩).size=l.length:=rfl
def F7i{n:Nat}(h:n<=1000):(n<=lim)=True:=by simp only[eq_iff_iff,iff_true];unfold lim;omega
end Go.Abs
