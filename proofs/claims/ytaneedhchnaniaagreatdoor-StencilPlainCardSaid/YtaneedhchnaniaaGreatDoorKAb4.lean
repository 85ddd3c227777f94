/- The operations as one function; shapes of code; drawn regions with a new variable. Own framework. -/
import Derived.IntWalk
import Derived.Test.YtaneedhchnaniaaGreatDoorKAb3
set_option linter.all false
namespace Go.Abs
open Go
variable {P:Program}
def B7 (x:Int):Prop:=-9223372036854775808≤x∧x < 9223372036854775808
theorem wrap_i64 {x:Int} (h:B7 x):IntKind.i64.wrap x=x:=IntWalk.i64_in x (by unfold B7 at h;omega)
def Lw (op:BinOp)(k:IntKind)(x y:Int)(K:SV→Prop):Prop :=
 match k,op with
 |.i64,.add=>B7 (x+y)∧K (.d (.int .i64 (x+y)))
 |.i64,.sub=>B7 (x - y)∧K (.d (.int .i64 (x - y)))
 |.i64,.mul=>B7 (x*y)∧K (.d (.int .i64 (x*y)))
 |.i64,.quo=>y≠0∧B7 (x.tdiv y)∧K (.d (.int .i64 (x.tdiv y)))
 |k,.add=>K (.d (.int k (k.wrap (x+y))))
 |k,.sub=>K (.d (.int k (k.wrap (x - y))))
 |k,.mul=>K (.d (.int k (k.wrap (x*y))))
 |k,.quo=>y≠0∧K (.d (.int k (k.wrap (x.tdiv y))))
 |k,.rem=>y≠0∧K (.d (.int k (x.tmod y)))
 |_,.eql=>K (.d (.bool (decide (x=y))))
 |_,.neq=>K (.d (.bool (decide (x≠y))))
 |_,.lss=>K (.d (.bool (decide (x < y))))
 |_,.leq=>K (.d (.bool (decide (x≤y))))
 |_,.gtr=>K (.d (.bool (decide (y < x))))
 |_,.geq=>K (.d (.bool (decide (y≤x))))
 |_,_=>False
def C8i (P:Program)(t:TypeId):Bool:=(P.underlying t).any (fun d=>match d with| .pointer _=>true| _=>false)
def Ea (P:Program)(t:TypeId):Bool:=(P.underlying t).any (fun d=>match d with| .interface _=>true| _=>false)
def A1s:BinOp→A3→A3→(SV→Prop)→Prop
 |.add,a,b,K=>a.length+b.length≤lim∧K (.d (.str (a++b)))
 |.eql,a,b,K=>K (.d (.bool (decide (a=b))))
 |.neq,a,b,K=>K (.d (.bool (decide (a≠b))))
 |.lss,a,b,K=>K (.d (.bool (Op.bytesLess a b)))
 |.gtr,a,b,K=>K (.d (.bool (Op.bytesLess b a)))
 |_,_,_,_=>False
def A9r:BinOp→Bool→Bool→(SV→Prop)→Prop
 |.eql,a,b,K=>K (.d (.bool (a == b)))
 |.neq,a,b,K=>K (.d (.bool (!(a == b))))
 |_,_,_,_=>False
def V6:BinOp→Option Bool→(SV→Prop)→Prop
 |.eql,some b,K=>K (.d (.bool b))
 |.neq,some b,K=>K (.d (.bool (!b)))
 |_,_,_=>False
def A9u (op:BinOp)(k j:IntKind)(a b:Int)(K:SV→Prop):Prop :=
 match op with
 |.shr=>0≤b∧K (.d (.int k (a.fdiv (2 ^ min b.toNat k.bits))))
 |.shl=>0≤b∧K (.d (.int k (k.wrap (a*2 ^ min b.toNat k.bits))))
 |op=>k=j∧Lw op k a b K
def Tr (P:Program)(op:BinOp)(t:TypeId)(c:Bool)(H:Prop):SV→SV→(SV→Prop)→Prop
 |.d (.int k a),.d (.int j b),K=>A9u op k j a b K
 |.d (.str a),.d (.str b),K=>A1s op a b K
 |.d (.bool a),.d (.bool b),K=>P.underlying t=some .bool∧A9r op a b K
 |.d .J3,.d .J3,K=>c=true∧Ea P t=true∧V6 op (some true) K
 |.d (.iface _ _),.d .J3,K=>c=true∧Ea P t=true∧V6 op (some false) K
 |x,.d .Lb,K=>C8i P t=true∧V6 op (Pa x) K
 |x,.d .nil,K=>(Dv P t).isSome=true∧V6 op (Pu x) K
 |.agg _,.agg _,_=>H
 |_,_,_=>False
def Quiet (P:Program)(o:Oper)(sl:SL)(bx:Ab)(K:SV→Prop):Prop:=∃r,Bt P o (Ao sl) bx r bx []∧K r
variable {o:Oper} {sl:SL} {bx:Ab} {K:SV→Prop}
theorem E3p {op:BinOp} {t u:TypeId} {x y:Operand} (L:o.op=.binOp op t x y u) {k:IntKind} {a b:Int} (J:Ao sl x=.d (.int k a))(I:Ao sl y=.d (.int k b))(h:Lw op k a b K):Quiet P o sl bx K:=by
 have cmp:∀{c:Bool},B4t op a b=some c→K (.d (.bool c))→Quiet P o sl bx K:=fun R O=>⟨_,F3b L J I R,O⟩;have E:∀{c:Int},C3y op k a b=some c→K (.d (.int k c))→Quiet P o sl bx K:=fun R O=>⟨_,E5i L J I R,O⟩;have w:∀{z:Int},k=.i64→B7 z→k.wrap z=z:=fun U V=>by subst U;exact wrap_i64 V
 unfold Lw at h;split at h
 ·exact E rfl (by rw [w rfl h.1];exact h.2)
 ·exact E rfl (by rw [w rfl h.1];exact h.2)
 ·exact E rfl (by rw [w rfl h.1];exact h.2)
 ·exact⟨_,E0w L J I h.1,by rw [w rfl h.2.1];exact h.2.2⟩
 ·exact E rfl h
 ·exact E rfl h
 ·exact E rfl h
 ·exact⟨_,E0w L J I h.1,h.2⟩
 ·exact⟨_,G5a L J I h.1,h.2⟩
 ·exact cmp rfl h
 ·exact cmp rfl h
 ·exact cmp rfl h
 ·exact cmp rfl h
 ·exact cmp rfl h
 ·exact cmp rfl h
 ·exact h.elim
theorem C6f {op:BinOp} {t u:TypeId} {x y:Operand} (J:o.op=.binOp op t x y u) {k j:IntKind} {m n r:Int} (U:Ao sl x=.d (.int k m))(R:Ao sl y=.d (.int j n))(V:0≤n)
  (hr:(op=.shr∧r=m.fdiv (2 ^ min n.toNat k.bits))∨(op=.shl∧r=k.wrap (m*2 ^ min n.toNat k.bits))):Bt P o (Ao sl) bx (.d (.int k r)) bx [] :=
 .Ef fun _ _ w _ a _ O=>by
  have I:=(O x (mC J));rw [U] at I;have I:=I.J4;have E:=(O y (mC J));rw [R] at E;have E:=E.J4;refine⟨.int k r,?_,.int k r⟩;have L:¬n < 0:=by omega
  rcases hr with ⟨rfl,rfl⟩| ⟨rfl,rfl⟩ <;> simp [execOp,J,I,E,A9j,binOp,Op.shift,L]
theorem E6v {op:BinOp} {t u:TypeId} {x y:Operand} (J:o.op=.binOp op t x y u) {H:Prop} (R:H→Quiet P o sl bx K)(h:Tr P op t (A8d y) H (Ao sl x) (Ao sl y) K):Quiet P o sl bx K:=by
 unfold Tr at h;split at h
 ·rename_i I E;unfold A9u at h;split at h
  ·exact⟨_,C6f J I E h.1 (.inl ⟨rfl,rfl⟩),h.2⟩
  ·exact⟨_,C6f J I E h.1 (.inr ⟨rfl,rfl⟩),h.2⟩
  ·obtain⟨rfl,h⟩:=h;exact E3p J I E h
 ·rename_i I E;unfold A1s at h;split at h
  ·exact⟨_,F5c J I E h.1,h.2⟩
  ·exact⟨_,B7c J I E rfl,h⟩
  ·exact⟨_,B7c J I E rfl,h⟩
  ·exact⟨_,B7c J I E rfl,h⟩
  ·exact⟨_,B7c J I E rfl,h⟩
  ·exact h.elim
 ·rename_i I E;obtain⟨ht,h⟩:=h;unfold A9r at h;split at h
  ·exact⟨_,D8u J ht I E rfl,h⟩
  ·exact⟨_,D8u J ht I E rfl,h⟩
  ·exact h.elim
 ·rename_i I E;obtain⟨O,ht,h⟩:=h;unfold V6 at h;split at h
  ·rename_i L;exact⟨_,B7b J ht (by rw [I];exact L) E O rfl,h⟩
  ·rename_i L;exact⟨_,B7b J ht (by rw [I];exact L) E O rfl,h⟩
  ·exact h.elim
 ·rename_i I E;obtain⟨O,ht,h⟩:=h;unfold V6 at h;split at h
  ·rename_i L;exact⟨_,B7b J ht (by rw [I];exact L) E O rfl,h⟩
  ·rename_i L;exact⟨_,B7b J ht (by rw [I];exact L) E O rfl,h⟩
  ·exact h.elim
 ·rename_i E;obtain⟨ht,h⟩:=h;unfold V6 at h;split at h
  ·rename_i L;exact⟨_,E0d J ht L E rfl,h⟩
  ·rename_i L;exact⟨_,E0d J ht L E rfl,h⟩
  ·exact h.elim
 ·rename_i E;obtain⟨ht,h⟩:=h;obtain⟨e,ht⟩:=Us.1 ht;unfold V6 at h;split at h
  ·rename_i L;exact⟨_,D7i J ht L E rfl,h⟩
  ·rename_i L;exact⟨_,D7i J ht L E rfl,h⟩
  ·exact h.elim
 ·exact R h
 ·exact h.elim
def OpQ (P:Program)(sl:SL)(bx:Ab)(op:Op)(r:SV):Prop:=∀o:Oper,o.op=op→Bt P o (Ao sl) bx r bx []
def A3b (P:Program)(sl:SL)(bx:Ab)(op:Op)(K:SV→Prop):Prop:=∃r,OpQ P sl bx op r∧K r
def OpB (P:Program)(sl:SL)(bx:Ab)(dst:Option Nat)(op:Op)(r:SV)(bx':Ab)(pg:List Nat):Prop:=∀o:Oper,o.op=op→o.dst=dst→Bt P o (Ao sl) bx r bx' pg
def A6u (P:Program)(sl:SL)(bx:Ab)(dst:Option Nat)(op:Op)(K:SV→Ab→List Nat→Prop):Prop:=∃r bx' pg,OpB P sl bx dst op r bx' pg∧K r bx' pg
def Lc {α:Type}:Option α→(α→Prop)→Prop
 |some c,K=>K c
 |none,_=>False
def A3e:Option Nat→SV→(SV→Prop)→Prop
 |some d,.box k off,K=>K (.box k (off+d))
 |some d,.Ag c off,K=>K (.Ag c (off+d))
 |some d,.d (.ptr c),K=>K (.Ag c (0+d))
 |some d,.Eb k i off,K=>K (.Eb k i (off+d))
 |_,_,_=>False
def Cu (P:Program)(T:TypeId)(f:Nat):Option (Nat × Bool × Nat):=match P.underlying T with
 |some (.struct fs)=>match fs[f]? with
  |some fd=>match D4 P fd.type,Bs P fd.type with
   |some b,some n=>some (fd.offset,b,n)
   |_,_=>none
  |none=>none
 |_=>none
def A7m:Option (Nat × Bool × Nat)→SV→(SV→Prop)→Prop
 |some (d,true,n),.agg cs,K=>K (.agg (part cs d n))
 |some (d,false,_),.agg cs,K=>Lc (cs[d]?) K
 |_,_,_=>False
def C3u:Option Ar→Nat→Nat→Int→(SV→Prop)→Prop
 |some (.rows sz rows),q,m,i,K=>sz=m∧0≤i∧i.toNat < rows.length∧K (.Eb q i.toNat 0)
 |_,_,_,_,_=>False
def A3g (bx:Ab)(H:(SV→Prop)→Prop):Option Nat→SV→SV→(SV→Prop)→Prop
 |some m,.d (.slice rows),.d (.int _ i),K=>0≤i∧∃row,rows[i.toNat]? = some row∧row.length=m∧K (.Ag row 0)
 |some m,.acc q,.d (.int _ i),K=>C3u (A7 bx q) q m i K
 |none,.box _ _,.d (.int _ _),K=>H K
 |none,.undef,.d (.int _ _),K=>H K
 |_,_,_,_=>False
def Vn (P:Program)(T:Nat):Option Nat:=(Dv P T).bind (Bs P)
def B8c:Option Ar→(SV→Prop)→Prop
 |some (.rows _ rows),K=>K (.d (.int .i64 rows.length))
 |_,_=>False
def A7f:Option TypeDesc→Option Ar→(SV→Prop)→Prop
 |some (.map _ _),some (.map kvs),K=>K (.d (.int .i64 kvs.length))
 |_,_,_=>False
def Wn (P:Program)(bx:Ab)(T:Nat):SV→(SV→Prop)→Prop
 |.d (.slice rows),K=>(Dv P T).isSome=true∧K (.d (.int .i64 rows.length))
 |.d .nil,K=>(Dv P T).isSome=true∧K (.d (.int .i64 0))
 |.d .emp,K=>(Dv P T).isSome=true∧K (.d (.int .i64 0))
 |.d (.str s),K=>P.underlying T=some .string∧K (.d (.int .i64 s.length))
 |.acc q,K=>(Dv P T).isSome=true∧B8c (A7 bx q) K
 |.mp q,K=>A7f (P.underlying T) (A7 bx q) K
 |.d (.map kvs),K=>A7f (P.underlying T) (some (.map kvs)) K
 |_,_=>False
def B6y (P:Program)(args:List SV)(bx:Ab)(H:(SV→Prop)→Prop):SV→(SV→Prop)→Prop
 |.Bf f caps,K=>∃r,((∃E,Gy [] (args++caps)=some E∧Ac P f E r∧r.closed=true)∨(∃E,Gy bx (args++caps)=some E∧Ac P f E r∧r.scalar=true))∧K r
 |_,K=>H K
def A2e (P:Program)(sl:SL)(bx:Ab):Callee→List Operand→List TypeId→(SV→Prop)→Prop
 |.value fo,args,Co,K=>B6y P (args.map (Ao sl)) bx (A3b P sl bx (.call ⟨.value fo,args.toArray,Co.toArray⟩)) (Ao sl fo) K
 |.builtin .len,[x],[T],K=>Wn P bx T (Ao sl x) K
 |c,args,Co,K=>A3b P sl bx (.call ⟨c,args.toArray,Co.toArray⟩) K
def B8r:SV→SV→SV→(SV→Prop)→Prop
 |.d (.bool t),x,y,K=>K (if t then x else y)
 |_,_,_,_=>False
def B7u:SV→(SV→Prop)→Prop
 |.d (.bool b),K=>K (.d (.bool (!b)))
 |_,_=>False
def B3y:SV→(SV→Prop)→Prop
 |.d (.int .i64 m),K=>B7 (0 - m)∧K (.d (.int .i64 (0 - m)))
 |_,_=>False
def B7d (P:Program)(T:Nat):SV→SV→(SV→Prop)→Prop
 |.d (.str s),.d (.int _ i),K=>P.underlying T=some .string∧0≤i∧∃c,s[i.toNat]? = some c∧K (.d (.int .u8 c.toNat))
 |_,_,_=>False
def B5h:SV→Nat→(SV→Prop)→Prop
 |.tuple xs,i,K=>Lc (xs[i]?) K
 |_,_,_=>False
def A6s:SV→(SV→Prop)→Prop
 |.box k off,K=>K (.box k off)
 |.Ag c off,K=>K (.Ag c off)
 |.d (.ptr c),K=>K (.d (.ptr c))
 |_,_=>False
def A8z (H:(SV→Prop)→Prop):Option TypeDesc→Option TypeDesc→SV→(SV→Prop)→Prop
 |some (.int _),some (.int E),.d (.int _ m),K=>K (.d (.int E (E.wrap m)))
 |some .string,some .string,.d (.str t),K=>K (.d (.str t))
 |_,_,_,K=>H K
def B2b (T:Nat):SV→(SV→Prop)→Prop
 |.d y,K=>K (.d (.iface T y))
 |.agg cs,K=>∃ds,cs=ds.map SV.d∧K (.d (.iface T (.agg ds)))
 |_,_=>False
def B3q:Option (List SV)→Option (List (Nat × Nat))→Option (List (Nat × List SV))→(SV→Prop)→Prop
 |some E,some ps,some l,K=>Lc (A0i ps E l) fun out=>out.all SV.one=true∧K (.agg out)
 |_,_,_,_=>False
def A6z (m E:Nat):Option Nat→Option (List SV)→Option (List (List D))→(List (List D)→Prop)→Prop
 |some sz,some I,some rows,K=>1≤sz∧I.length=sz∧m*sz≤16777216∧E=m∧K rows
 |_,_,_,_=>False
def Jt (P:Program)(T:Nat):Nat:=(Dv P T).getD 0
def D5k (E:Bool)(I:D)(kvs:List (D × D))(K:SV→Prop)(z:SV):Prop:=K (A2n E I kvs z)
def B8e (P:Program)(I L:TypeId)(J:Bool)(kvs:List (D × D))(K:SV→Prop)(E:D):Prop :=
 Fq P I E∧Lc (A5n P L) (D5k J E kvs K)
def B6b (P:Program)(E J:TypeId)(I:Bool)(x:SV)(K:SV→Prop):Option Ar→Prop
 |some (.map kvs)=>Q1 P E=true∧(∀kv,kv∈kvs→Fq P E kv.1)∧Lc (N8 x) (B8e P E J I kvs K)
 |_=>False
def A8j (P:Program)(bx:Ab)(J:Bool)(x:SV):Option TypeDesc→SV→(SV→Prop)→Prop
 |some (.map E I),.mp k,K=>B6b P E I J x K (A7 bx k)
 |some (.map E I),.d (.map kvs),K=>Q1 P E=true∧(∀kv,kv∈kvs→Fq P E kv.1)∧Lc (N8 x) (B8e P E I J kvs K)
 |_,_,_=>False
def Yc:Option SV→Option Int
 |none=>some 0
 |some (.d (.int _ i))=>some i
 |_=>none
def hiV (n:Nat):Option SV→Option Int
 |none=>some n
 |some (.d (.int _ i))=>some i
 |_=>none
def cutAt (n:Nat)(K:Nat→Nat→Prop):Option Int→Option Int→Prop
 |some l,some h=>0≤l∧l≤h∧h≤n∧K l.toNat h.toNat
 |_,_=>False
def C4f (rows:List (List D))(E I:Option SV)(K:SV→Prop):Option Nat→Prop
 |some sz=>(∀row,row∈rows→row.length=sz)∧cutAt rows.length (fun l h=>K (.d (.slice ((rows.take h).drop l)))) (Yc E) (hiV rows.length I)
 |none=>False
def A8m (P:Program)(T:TypeId)(E I:Option SV):SV→(SV→Prop)→Prop
 |.d (.slice rows),K=>C4f rows E I K (Vn P T)
 |.d (.str s),K=>P.underlying T=some .string∧cutAt s.length (fun l h=>K (.d (.str ((s.take h).drop l)))) (Yc E) (hiV s.length I)
 |_,_=>False
def Hz (P:Program)(sl:SL)(bx:Ab):Op→(SV→Prop)→Prop
 |.move x,K=>K (Ao sl x)
 |.assign x,K=>K (Ao sl x)
 |.pick c x y,K=>B8r (Ao sl c) (Ao sl x) (Ao sl y) K
 |.load T x,K=>Lc (Kn P bx T (Ao sl x)) K
 |.binOp op t x y u,K=>Tr P op t (A8d y) (A3b P sl bx (.binOp op t x y u) K) (Ao sl x) (Ao sl y) K
 |.unOp .not _ x,K=>B7u (Ao sl x) K
 |.unOp .neg _ x,K=>B3y (Ao sl x) K
 |.fieldAddr T x f,K=>A3e (Cp P T f) (Ao sl x) K
 |.field T x f,K=>A7m (Cu P T f) (Ao sl x) K
 |.indexAddr T x y,K=>A3g bx (A3b P sl bx (.indexAddr T x y)) (Vn P T) (Ao sl x) (Ao sl y) K
 |.index T x y,K=>B7d P T (Ao sl x) (Ao sl y) K
 |.extract x i,K=>B5h (Ao sl x) i K
 |.nilCheck x,K=>A6s (Ao sl x) K
 |.convert s d x,K=>A8z (A3b P sl bx (.convert s d x)) (P.underlying s) (P.underlying d) (Ao sl x) K
 |.makeInterface T x,K=>Ea P T=false∧(P.underlying T).isSome=true∧B2b T (Ao sl x) K
 |.build T parts,K=>B3q (Cj P T) (L0 P T) (Yi (Ao sl) parts.toList) K
 |.buildSlice T m parts,K=>(Dv P T).isSome=true∧A6z m parts.size (Bs P (Jt P T)) (Cj P (Jt P T)) (rowsOf (Ao sl) ((Bs P (Jt P T)).getD 0) 0 parts.toList) fun rows=>K (.d (.slice rows))
 |.call c,K=>A2e P sl bx c.callee c.args.toList c.argTypes.toList K
 |.makeFunc (.func f) ⟨[]⟩ caps,K=>K (.Bf f (caps.toList.map (Ao sl)))
 |.slice T x I J none,K=>A8m P T (I.map (Ao sl)) (J.map (Ao sl)) (Ao sl x) K
 |.lookup T m x E,K=>A8j P bx E (Ao sl x) (P.underlying T) (Ao sl m) K
 |op,K=>A3b P sl bx op K
theorem B5x {c:Call} (I:o.op=.call c)(h:A2e P sl bx c.callee c.args.toList c.argTypes.toList K):Quiet P o sl bx K:=by
 obtain⟨callee,args,Co⟩:=c;simp only at h;unfold A2e at h;split at h
 ·rename_i fo _ _ _;unfold B6y at h;split at h
  ·rename_i hf;obtain⟨r,h1| h1,hK⟩:=h
   ·obtain⟨O,J,U,W⟩:=h1;exact⟨_,F9m I hf J U W,hK⟩
   ·obtain⟨O,J,U,W⟩:=h1;exact⟨_,E6m I hf J U W,hK⟩
  ·obtain⟨r,h1,J⟩:=h;exact⟨r,h1 o I,J⟩
 ·rename_i x T E hT;have V:args = #[x]:=by apply I6;simpa using E
  have Z:Co = #[T]:=by apply I6;simpa using hT
  subst V Z;unfold Wn at h;split at h
  ·rename_i E;obtain⟨e,L⟩:=Us.1 h.1;exact⟨_,F8k I E L,h.2⟩
  ·rename_i E;obtain⟨e,L⟩:=Us.1 h.1;exact⟨_,E1n I (.inl E) L,h.2⟩
  ·rename_i E;obtain⟨e,L⟩:=Us.1 h.1;exact⟨_,E1n I (.inr E) L,h.2⟩
  ·rename_i E;exact⟨_,E4f I E h.1,h.2⟩
  ·rename_i E;obtain⟨h1,h⟩:=h;obtain⟨e,L⟩:=Us.1 h1;unfold B8c at h;split at h
   ·rename_i R;exact⟨_,E3o I E (G0 R) L,h⟩
   ·exact h.elim
  ·rename_i E;generalize R:A7 bx _=ob at h;generalize hT:P.underlying _=ot at h;unfold A7f at h;split at h
   ·exact⟨_,D8t I (by rw [E];exact .mp _ _ (G0 R)) hT,h⟩
   ·exact h.elim
  ·rename_i E;generalize hT:P.underlying _=ot at h;unfold A7f at h;split at h
   ·rename_i R;simp only [Av,Ar.map.injEq] at R;subst R;exact⟨_,D8t I (by rw [E];exact .d _) hT,h⟩
   ·exact h.elim
  ·exact h.elim
 ·obtain⟨r,h1,J⟩:=h;exact⟨r,h1 o I,J⟩
theorem A9h {T m:Nat} (h:Vn P T=some m):∃e,Dv P T=some e∧Bs P e=some m:=by
 unfold Vn at h;cases E:Dv P T with
 |none=>simp [E] at h
 |some e=>exact⟨e,rfl,by simpa [E] using h⟩
theorem E3y {T:TypeId} {m x:Operand} {O:Bool} (V:o.op=.lookup T m x O)(h:A8j P bx O (Ao sl x) (P.underlying T) (Ao sl m) K):Quiet P o sl bx K:=by
 have E:∀{I R:TypeId} {kvs:List (D × D)},P.underlying T=some (.map I R)→IsMap bx (Ao sl m) kvs→Q1 P I=true→(∀kv,kv∈kvs→Fq P I kv.1)→Lc (N8 (Ao sl x)) (B8e P I R O kvs K)→Quiet P o sl bx K:=by
  intro I R kvs hT L W J h;unfold Lc at h;split at h
  ·rename_i U;obtain⟨h1,h⟩:=h;unfold Lc at h;split at h
   ·rename_i hz;exact⟨_,F7c V L hT W U h1 J hz,h⟩
   ·exact h.elim
  ·exact h.elim
 generalize L:Ao sl m=vm at h;generalize hT:P.underlying T=vT at h;unfold A8j at h;split at h
 ·generalize Z:A7 bx _=ob at h;unfold B6b at h;split at h
  ·exact E hT (by rw [L];exact .mp _ _ (G0 Z)) h.1 h.2.1 h.2.2
  ·exact h.elim
 ·exact E hT (by rw [L];exact .d _) h.1 h.2.1 h.2.2
 ·exact h.elim
theorem F6t {T:TypeId} {x:Operand} {f:Nat} (V:o.op=.field T x f)(h:A7m (Cu P T f) (Ao sl x) K):Quiet P o sl bx K:=by
 generalize E:Cu P T f=pl at h;unfold Cu at E;split at E
 ·rename_i fs hT;split at E
  ·rename_i fd W;split at E
   ·rename_i b m U hs;subst E;unfold A7m at h;split at h
    ·rename_i O R;simp only [Av,Df] at O;obtain⟨L,I,J⟩:=O;subst L I J;exact⟨_,E8t V R hT W rfl rfl U hs,h⟩
    ·rename_i O R;simp only [Av,Df] at O;obtain⟨L,I,J⟩:=O;subst L I J;unfold Lc at h;split at h
     ·rename_i Z;exact⟨_,E8w V R hT W rfl rfl U Z,h⟩
     ·exact h.elim
    ·exact h.elim
   ·subst E;exact h.elim
  ·subst E;exact h.elim
 ·subst E;exact h.elim
theorem E0o {E:Option Operand} {l:Int} (h:Yc (E.map (Ao sl))=some l)(I:0≤l):loN (Ao sl) E=some l.toNat:=by
 cases E with
 |none=>simp only [Ap8,Yc,Av] at h;subst h;rfl
 |some y =>simp only [E8] at h;unfold loN;simp only;generalize Ao sl y=v at h;cases v <;> simp only [Yc,reduceCtorEq] at h;rename_i d;cases d <;> simp only [Yc,reduceCtorEq] at h;simp only [Av] at h;subst h;simp [I]
theorem D9s {E:Option Operand} {n:Nat} {l:Int} (h:hiV n (E.map (Ao sl))=some l)(I:0≤l):hiN (Ao sl) n E=some l.toNat:=by
 cases E with
 |none=>simp only [Ap8,hiV,Av] at h;subst h;rfl
 |some y =>simp only [E8] at h;unfold hiN;simp only;generalize Ao sl y=v at h;cases v <;> simp only [hiV,reduceCtorEq] at h;rename_i d;cases d <;> simp only [hiV,reduceCtorEq] at h;simp only [Av] at h;subst h;simp [I]
theorem D4q {n:Nat} {K:Nat→Nat→Prop} {a b:Option Int} (h:cutAt n K a b):∃l k,a=some l∧b=some k∧0≤l∧l≤k∧k≤n∧K l.toNat k.toNat:=by
 unfold cutAt at h;split at h
 ·exact⟨_,_,rfl,rfl,h⟩
 ·exact h.elim
theorem G1d {T:TypeId} {x:Operand} {R U:Option Operand} (V:o.op=.slice T x R U none)(h:A8m P T (R.map (Ao sl)) (U.map (Ao sl)) (Ao sl x) K):Quiet P o sl bx K:=by
 unfold A8m at h;split at h
 ·rename_i I;generalize hs:Vn P T=os at h;cases os with
  |none=>exact h.elim
  |some sz =>obtain⟨e,hT,hs⟩:=A9h hs;obtain⟨hr,h⟩:=h;obtain⟨l,k,O,E,L,Z,W,J⟩:=D4q h;exact⟨_,G2h V I hT hs hr (E0o O L) (D9s E (by omega)) (by omega) (by omega),J⟩
 ·rename_i I;obtain⟨hT,h⟩:=h;obtain⟨l,k,O,E,L,Z,W,J⟩:=D4q h;exact⟨_,G0d V I hT (E0o O L) (D9s E (by omega)) (by omega) (by omega),J⟩
 ·exact h.elim
theorem B3e (h:Hz P sl bx o.op K):Quiet P o sl bx K:=by
 unfold Hz at h;split at h
 ·rename_i E;exact⟨_,F4i E,h⟩
 ·rename_i E;exact⟨_,G1q E,h⟩
 ·rename_i E;unfold B8r at h;split at h
  ·rename_i U;exact⟨_,E7e E U,h⟩
  ·exact h.elim
 ·rename_i E;unfold Lc at h;split at h
  ·rename_i U;exact⟨_,E7u E U,h⟩
  ·exact h.elim
 ·rename_i E;exact E6v E (fun⟨r,J,L⟩=>⟨r,J _ E,L⟩) h
 ·rename_i E;unfold B7u at h;split at h
  ·rename_i U;exact⟨_,E3t E U,h⟩
  ·exact h.elim
 ·rename_i E;unfold B3y at h;split at h
  ·rename_i U;refine⟨_,F4j E U,?_⟩;rw [wrap_i64 h.1];exact h.2
  ·exact h.elim
 ·rename_i E;unfold A3e at h;split at h
  ·rename_i O I;exact⟨_,G3r E I O,h⟩
  ·rename_i O I;exact⟨_,C6v E (by rw [I];exact .Ag _ _) O,h⟩
  ·rename_i O I;exact⟨_,C6v E (by rw [I];exact .ptr _) O,h⟩
  ·rename_i O I;exact⟨_,F5e E I O,h⟩
  ·exact h.elim
 ·rename_i E;exact F6t E h
 ·rename_i E;unfold A3g at h;split at h
  ·rename_i hs I Z;obtain⟨e,hT,hs⟩:=A9h hs;obtain⟨h0,row,hr,hl,hK⟩:=h;exact⟨_,F8g E I Z hT hs h0 hr hl,hK⟩
  ·rename_i hs I Z;obtain⟨e,hT,hs⟩:=A9h hs;generalize hb:A7 bx _=ob at h;cases ob with
   |none=>exact h.elim
   |some bc =>
    cases bc with
    |rows sz rows =>obtain⟨J,L,V,R⟩:=h;exact⟨_,F4m E I (G0 hb) Z hT hs J L V,R⟩
    |cells _=>exact h.elim
    |map _=>exact h.elim
    |iter _ _=>exact h.elim
    |ghost _ _=>exact h.elim
  ·obtain⟨r,J,L⟩:=h;exact⟨r,J _ E,L⟩
  ·obtain⟨r,J,L⟩:=h;exact⟨r,J _ E,L⟩
  ·exact h.elim
 ·rename_i E;unfold B7d at h;split at h
  ·rename_i I Z;obtain⟨J,L,c,V,R⟩:=h;exact⟨_,E9j E I Z J L V,R⟩
  ·exact h.elim
 ·rename_i E;unfold B5h at h;split at h
  ·rename_i I;unfold Lc at h;split at h
   ·rename_i hr;exact⟨_,G3p E I hr,h⟩
   ·exact h.elim
  ·exact h.elim
 ·rename_i E;unfold A6s at h;split at h
  ·rename_i I;exact⟨_,F9n E I,h⟩
  ·rename_i I;exact⟨_,E2b E (by rw [I];exact .Ag _ _),by rw [I];exact h⟩
  ·rename_i I;exact⟨_,E2b E (by rw [I];exact .ptr _),by rw [I];exact h⟩
  ·exact h.elim
 ·rename_i E;unfold A8z at h;split at h
  ·rename_i hs hd I;exact⟨_,E4z E hs hd I,h⟩
  ·rename_i hs hd I;exact⟨_,F7f E hs hd I,h⟩
  ·obtain⟨r,J,L⟩:=h;exact⟨r,J o E,L⟩
 ·rename_i E;obtain⟨J,L,h⟩:=h;obtain⟨d,hd⟩:=Us.1 L;have hn:(match d with| .interface _=>false| _=>true)=true:=by
   unfold Ea at J;rw [hd] at J;cases d <;> simp_all
  unfold B2b at h;split at h
  ·rename_i I;exact⟨_,F6u E I hd hn,h⟩
  ·rename_i I;obtain⟨ds,V,R⟩:=h;exact⟨_,G6a E (by rw [I,V]) hd hn,R⟩
  ·exact h.elim
 ·rename_i E;unfold B3q at h;split at h
  ·rename_i hz hp hl;unfold Lc at h;split at h
   ·rename_i O;exact⟨_,F1r E hz hp hl O h.1,h.2⟩
   ·exact h.elim
  ·exact h.elim
 ·rename_i T m parts E;obtain⟨h0,h⟩:=h;obtain⟨e,hT⟩:=Us.1 h0;have he:Jt P T=e:=by unfold Jt;rw [hT];rfl
  rw [he] at h;unfold A6z at h;split at h
  ·rename_i hs hz hr;obtain⟨h0,J,L,V,R⟩:=h;rw [hs] at hr;have W:∀{m sz:Nat},m*sz≤16777216→1≤sz→m≤lim:=fun {m sz} h h'=>by
    have:m*1≤m*sz:=Am5 _ h';unfold lim;omega
   exact⟨_,D6w E hT hs hz J L V hr (W L h0),R⟩
  ·exact h.elim
 ·rename_i E;exact B5x E h
 ·rename_i E;exact⟨_,G4a E,h⟩
 ·rename_i E;exact G1d E h
 ·rename_i E;exact E3y E h
 ·obtain⟨r,J,L⟩:=h;exact⟨r,J o rfl,L⟩
end Go.Abs
namespace Go.Abs
open Go
variable {P:Program} {o:Oper} {sl:SL} {bx:Ab}
def Ej (P:Program)(e:TypeId):Option Nat:=(P.info? e).map (·.bytes)
abbrev KB:=SV→Ab→List Nat→Prop
def C5b (bytes sz:Nat)(xs:List (List D))(bx:Ab)(k:Nat):Option Ar→KB→Prop
 |some (.rows E rs),K=>E=sz∧k≤999999∧(rs.length+xs.length)*bytes≤lim∧K (.acc k) ((k,.rows sz (rs++xs))::H7 k (C3 k bx)) [k]
 |_,_=>False
def Zo (bytes sz:Nat)(xs:List (List D))(bx:Ab):SV→Option Nat→KB→Prop
 |.acc k,_,K=>C5b bytes sz xs bx k (A7 bx k) K
 |.d .nil,some k,K=>k≤999999∧xs.length*bytes≤lim∧K (.acc k) ((k,.rows sz xs)::H7 k (C3 k bx)) [k]
 |_,_,_=>False
def C4g (bytes sz:Nat)(bx:Ab)(x:SV)(dst:Option Nat):Option Ar→KB→Prop
 |some (.rows E xs),K=>E=sz∧Zo bytes sz xs bx x dst K
 |_,_=>False
def A3r (bytes sz:Nat)(bx:Ab)(x:SV)(dst:Option Nat):SV→KB→Prop
 |.d .nil,K=>Zo bytes sz [] bx x dst K
 |.d .emp,K=>Zo bytes sz [] bx x dst K
 |.d (.slice xs),K=>(∀row,row∈xs→row.length=sz)∧Zo bytes sz xs bx x dst K
 |.acc q,K=>C4g bytes sz bx x dst (A7 bx q) K
 |_,_=>False
def B4n (bx:Ab)(dst:Option Nat)(x y:SV):Option Nat→Option (List SV)→Option Nat→KB→Prop
 |some sz,some E,some bytes,K=>E.length=sz∧bytes≠0∧A3r bytes sz bx x dst y K
 |_,_,_,_=>False
def C0u (bx:Ab)(k i off:Nat)(us:List SV):Option Ar→KB→Prop
 |some (.rows sz rows),K=>∃row ds,rows[i]? = some row∧us=ds.map SV.d∧off+us.length≤row.length∧K (.tuple []) ((k,.rows sz (rows.set i (Gs row off ds)))::C3 k bx) []
 |_,_=>False
def C4r (bx:Ab)(k off:Nat)(us:List SV):Option Ar→KB→Prop
 |some (.cells cs),K=>off+us.length≤cs.length∧K (.tuple []) ((k,.cells (Gs cs off us))::C3 k bx) []
 |_,_=>False
def A9g (bx:Ab)(size:Option Nat):SV→Option (List SV)→KB→Prop
 |.box k off,some us,K=>size=some us.length∧C4r bx k off us (A7 bx k) K
 |.Eb k i off,some us,K=>size=some us.length∧C0u bx k i off us (A7 bx k) K
 |_,_,_=>False
def B6e (P:Program)(args:List SV)(bx:Ab):SV→Option Nat→KB→Prop
 |.Bf f caps,some k,K=>k≤999999∧∃E q sz rows r,Gy [] (args++caps)=some E∧Cd P f E [] r [(q,.rows sz rows)]∧K (A3i q k r) ((k,.rows sz rows)::H7 k (C3 k bx)) [k]
 |_,_,_=>False
def A7g (bx:Ab):Option Nat→Option (List SV)→KB→Prop
 |some k,some cs,K=>k≤999999∧K (.box k 0) ((k,.cells (cs.map (L6 k)))::H7 k (C3 k bx)) [k]
 |_,_,_=>False
def B5g (bx:Ab):Option Nat→Option Nat→List (List D)→KB→Prop
 |some k,some sz,rows,K=>k≤999999∧K (.acc k) ((k,.rows sz rows)::H7 k (C3 k bx)) [k]
 |_,_,_,_=>False
def B4o (bx:Ab):Option Nat→KB→Prop
 |some k,K=>k≤999999∧K (.mp k) ((k,.map [])::H7 k (C3 k bx)) [k]
 |_,_=>False
def E0m (bx:Ab)(k:Nat)(K:KB)(kvs:List (D × D))(E I:D):Prop:=K (.tuple []) ((k,.map (Y6 E I kvs))::C3 k bx) []
def C6t (P:Program)(bx:Ab)(k:Nat)(y:SV)(K:KB)(I:TypeId)(kvs:List (D × D))(E:D):Prop:=Fq P I E∧Lc (N8 y) (E0m bx k K kvs E)
def B6h (P:Program)(bx:Ab)(k:Nat)(x y:SV)(K:KB)(E:TypeId):Option Ar→Prop
 |some (.map kvs)=>Q1 P E=true∧(∀kv,kv∈kvs→Fq P E kv.1)∧Lc (N8 x) (C6t P bx k y K E kvs)
 |_=>False
def B7o (P:Program)(bx:Ab)(x y:SV):Option TypeDesc→SV→KB→Prop
 |some (.map E _),.mp k,K=>B6h P bx k x y K E (A7 bx k)
 |_,_,_=>False
def B3f (bx:Ab)(sz k:Nat)(i:Int)(K:KB):Option Ar→Prop
 |some (.rows E rs)=>E=sz∧0≤i∧i≤rs.length∧K (.acc k) ((k,.rows sz (rs.drop i.toNat))::H7 k (C3 k bx)) [k]
 |_=>False
def B3o (bx:Ab):Option Nat→SV→SV→KB→Prop
 |some sz,.acc k,.d (.int _ i),K=>k≤999999∧B3f bx sz k i K (A7 bx k)
 |_,_,_,_=>False
def A5m:List SV→Option Nat
 |[]=>none
 |.mp k::_=>some k
 |.box k _::_=>some k
 |_::r=>A5m r
def A8s (own:List Nat):List SV→Option Nat
 |[]=>none
 |.acc k::r=>if own.contains (500000+k)=true then some k else A8s own r
 |_::r=>A8s own r
def orElse (a b:Option Nat):Option Nat:=match a with
 |some k=>some k
 |none=>b
def B8t (P:Program)(args:List SV)(bx:Ab)(k:Nat):SV→Option Ar→KB→Prop
 |.Bf f caps,some c,K=>c.closed=true∧∃E r I,W0 k 1000000 (args++caps)=some E∧I.closed=true ∧
   Cd P f E [(1000000,c)] r [(1000000,I)]∧r.closed=true∧K r ((k,I)::C3 k bx) []
 |_,_,_=>False
def A1h (bx:Ab)(K:KB):SV→Prop:=fun r=>K r bx []
theorem F4e (bx:Ab)(K:KB)(r:SV):A1h bx K r=K r bx []:=rfl
def B6a (P:Program)(sl:SL)(bx:Ab)(fo:Operand)(args:List Operand)(Co:List TypeId):Option Nat→KB→Prop
 |none,K=>A2e P sl bx (.value fo) args Co (A1h bx K)
 |some k,K=>B8t P (args.map (Ao sl)) bx k (Ao sl fo) (A7 bx k) K
def Yp:List SV→Option (List D)
 |[]=>some []
 |.d x::r=>match Yp r with
  |some l=>some (x::l)
  |none=>none
 |_::_=>none
theorem D4n:∀{I:List SV} {E:List D},Yp I=some E→I=E.map SV.d
 |[],E,h=>by simp only [Yp,Av] at h;subst h;rfl
 |x::r,E,h=>by
  cases x <;> simp only [Yp,reduceCtorEq] at h;cases hr:Yp r with
  |none=>simp [hr] at h
  |some l =>simp only [hr,Av] at h;subst h;rw [D4n hr];rfl
def B4e (bx:Ab)(k sz:Nat)(n:Int)(K:KB):Option (List D)→Prop
 |some E=>E.all D.one=true∧K (.acc k) ((k,.rows sz (List.replicate n.toNat E))::H7 k (C3 k bx)) [k]
 |none=>False
def B6n (bx:Ab):Option Nat→SV→SV→Option Nat→Option (List SV)→Option Nat→KB→Prop
 |some k,.d (.int _ n),.d (.int _ m),some sz,some E,some bytes,K=>k≤999999∧1≤sz∧E.length=sz∧bytes≠0∧0≤n∧n≤m∧m*(bytes:Int)≤(lim:Int)∧B4e bx k sz n K (Yp E)
 |_,_,_,_,_,_,_=>False
def A6c (bx:Ab)(k sz:Nat)(xs:List (List D))(K:KB):Option Ar→Prop
 |some (.rows E rs)=>E=sz∧xs.length≤rs.length∧K (.d (.int .i64 xs.length)) ((k,.rows sz (xs++rs.drop xs.length))::C3 k bx) []
 |_=>False
def C5o (bx:Ab)(k sz:Nat)(K:KB):Option Ar→Prop
 |some (.rows E xs)=>E=sz∧A6c bx k sz xs K (A7 bx k)
 |_=>False
def A7n (bx:Ab):Option Nat→SV→SV→KB→Prop
 |some sz,.acc k,.d (.slice xs),K=>(∀row,row∈xs→row.length=sz)∧A6c bx k sz xs K (A7 bx k)
 |some sz,.acc k,.d .nil,K=>A6c bx k sz [] K (A7 bx k)
 |some sz,.acc k,.acc q,K=>C5o bx k sz K (A7 bx q)
 |_,_,_,_=>False
def C5i:SV→Bool
 |.acc _=>true
 |_=>false
def B3j (own:List Nat):Option Nat→Bool
 |some k=>own.contains k
 |none=>false
def B6x (P:Program)(bx:Ab)(Y:Hj)(l:Nat)(K:KB):Option Nat→List SV→Prop
 |some j,[x]=>∃y,coerce [] x=some y∧Y.P=P∧Y.l=l∧j < Y.N∧Y.xs j=y∧K (.d (.bool (Y.go j))) ((1000000,.ghost Y (Y.next j))::C3 1000000 bx) []
 |_,_=>False
def B2i (P:Program)(bx:Ab)(Y:Hj)(st:Option Nat)(args:List SV)(K:KB):SV→Prop
 |.Bf f caps=>∃E r I,Gy [] (args++caps)=some E∧Cd P f E [(1000000,.ghost Y st)] r [(1000000,.ghost Y I)]∧r.closed=true∧K r ((1000000,.ghost Y I)::C3 1000000 bx) []
 |.Fm l=>B6x P bx Y l K st args
 |_=>False
def B4x (P:Program)(bx:Ab)(f:SV)(args:List SV)(K:KB):Option Ar→Prop
 |some (.ghost Y st)=>B2i P bx Y st args K f
 |_=>False
def B4q (own:List Nat):Option Nat→Bool
 |some k=>own.contains (700000+k)
 |none=>own.contains 799999
def B2d (P:Program)(E:List Nat)(sl:SL)(bx:Ab)(fo:Operand)(args:List Operand)(Co:List TypeId)(K:KB):Bool→Prop
 |true=>B4x P bx (Ao sl fo) (args.map (Ao sl)) K (A7 bx 1000000)
 |false=>B6a P sl bx fo args Co (orElse (A8s E (args.map (Ao sl))) (A5m (args.map (Ao sl)))) K
def B1g (own:List Nat):Option Nat→Bool
 |some k=>own.contains (800000+k)
 |none=>false
def B1s (P:Program)(E:List Nat)(sl:SL)(bx:Ab)(dst:Option Nat)(fo:Operand)(args:List Operand)(Co:List TypeId)(K:KB):Bool→Prop
 |true=>A6u P sl bx dst (.call ⟨.value fo,args.toArray,Co.toArray⟩) K
 |false=>B2d P E sl bx fo args Co K (B4q E dst)
def Vv (P:Program)(own:Bool)(E:List Nat)(sl:SL)(bx:Ab)(dst:Option Nat):Callee→List Operand→List TypeId→KB→Prop
 |.builtin .append,[x,y],[T,U],K=>Ji P U=true∧(Dv P T).isSome=true∧B4n bx dst (Ao sl x) (Ao sl y) (Bs P (Jt P T)) (Cj P (Jt P T)) (Ej P (Jt P T)) K
 |.builtin .copy,[x,y],[T,_],K=>A7n bx (Vn P T) (Ao sl x) (Ao sl y) K
 |.value fo,args,Co,K=>match own with
  |true=>B6e P (args.map (Ao sl)) bx (Ao sl fo) dst K
  |false=>B1s P E sl bx dst fo args Co K (B1g E dst)
 |.builtin .delete,args,Co,K=>A6u P sl bx dst (.call ⟨.builtin .delete,args.toArray,Co.toArray⟩) K
 |c,args,Co,K=>A2e P sl bx c args Co (A1h bx K)
def Hp (P:Program)(own:List Nat)(dst:Option Nat)(sl:SL)(bx:Ab):Op→KB→Prop
 |.alloc T,K=>A7g bx dst (Cj P T) K
 |.box _ x,K=>A7g bx dst (content (Ao sl x)) K
 |.store T x y,K=>A9g bx (Bs P T) (Ao sl x) (content (Ao sl y)) K
 |.call c,K=>Vv P (B3j own dst) own sl bx dst c.callee c.args.toList c.argTypes.toList K
 |.makeMap _ none,K=>B4o bx dst K
 |.makeSlice T x y,K=>(Dv P T).isSome=true∧B6n bx dst (Ao sl x) (Ao sl y) (Bs P (Jt P T)) (Cj P (Jt P T)) (Ej P (Jt P T)) K
 |.mapUpdate T m x y,K=>B7o P bx (Ao sl x) (Ao sl y) (P.underlying T) (Ao sl m) K
 |.slice T x (some y) none none,K=>match C5i (Ao sl x) with
  |true=>B3o bx (Vn P T) (Ao sl x) (Ao sl y) K
  |false=>Hz P sl bx (.slice T x (some y) none none) (A1h bx K)
 |.buildSlice T m parts,K=>match B3j own dst with
  |true=>(Dv P T).isSome=true∧A6z m parts.size (Bs P (Jt P T)) (Cj P (Jt P T)) (rowsOf (Ao sl) ((Bs P (Jt P T)).getD 0) 0 parts.toList) fun rows=>B5g bx dst (Bs P (Jt P T)) rows K
  |false=>Hz P sl bx (.buildSlice T m parts) (A1h bx K)
 |.insert T m x y,K=>A6u P sl bx dst (.insert T m x y) K
 |.range T x,K=>A6u P sl bx dst (.range T x) K
 |.next x b,K=>A6u P sl bx dst (.next x b) K
 |.entry x,K=>A6u P sl bx dst (.entry x) K
 |.makeFunc f E caps,K=>match B1g own dst with
  |true=>A3b P sl bx (.makeFunc f E caps) (A1h bx K)
  |false=>Hz P sl bx (.makeFunc f E caps) (A1h bx K)
 |op,K=>Hz P sl bx op (A1h bx K)
theorem B8p {T U e sz bytes:Nat} {x y:Operand} (J:o.op=.call { callee:=.builtin .append,args:=#[x,y],argTypes:=#[T,U] }) {xs:List (List D)} {K:KB} (E:A7t P T e sz bytes)(L:Ji P U=true)
  (hs:V2 bx sz (Ao sl y) xs) (h:Zo bytes sz xs bx (Ao sl x) o.dst K):∃r bx' pg,Bt P o (Ao sl) bx r bx' pg∧K r bx' pg:=by
 generalize I:Ao sl x=vx at h;generalize a1:o.dst=dd at h;unfold Zo at h;split at h
 ·generalize W:A7 bx _=ob at h;cases ob with
  |none=>exact h.elim
  |some R =>
   cases R with
   |rows a0 rs =>obtain⟨h1,V,Z,O⟩:=h;subst h1;exact⟨_,_,_,F8q V J E L I (G0 W) hs Z,O⟩
   |cells _=>exact h.elim
   |map _=>exact h.elim
   |iter _ _=>exact h.elim
   |ghost _ _=>exact h.elim
 ·exact⟨_,_,_,G4z h.1 J E L I hs h.2.1,h.2.2⟩
 ·exact h.elim
theorem F8j {own:Bool} {a4:List Nat} {c:Call} {K:KB} (L:o.op=.call c)(h:Vv P own a4 sl bx o.dst c.callee c.args.toList c.argTypes.toList K):∃r bx' pg,Bt P o (Ao sl) bx r bx' pg∧K r bx' pg:=by
 have q:∀{K':SV→Prop},Quiet P o sl bx K'→(∀r,K' r→K r bx [])→∃r bx' pg,Bt P o (Ao sl) bx r bx' pg∧K r bx' pg:=by rintro K' ⟨r,I,J⟩ hk;exact⟨r,bx,[],I,hk r J⟩
 obtain⟨callee,args,Co⟩:=c;simp only at h;cases callee with
 |value fo =>
  simp only [Vv] at h;split at h
  ·generalize hf:Ao sl fo=vf at h;generalize ac:o.dst=dd at h;unfold B6e at h;split at h
   ·obtain⟨h0,R,q,sz,rows,r,I,J,V⟩:=h;exact⟨_,_,_,G2v h0 L hf I J,V⟩
   ·exact h.elim
  ·generalize ae:B1g a4 o.dst=O at h;cases O with
   |true =>simp only [B1s] at h;obtain⟨r,bx',pg,I,J⟩:=h;exact⟨r,bx',pg,I o L rfl,J⟩
   |false =>
   simp only [B1s] at h;generalize ab:B4q a4 o.dst=gb at h;cases gb with
   |true =>
    simp only [B2d] at h;generalize hf:Ao sl fo=vf at h;generalize O:A7 bx 1000000=ob at h;unfold B4x at h;split at h
    ·have a5:=G0 O;unfold B2i at h;split at h
     ·obtain⟨R,r,ad,I,J,V,h4⟩:=h;exact⟨_,_,_,E6h L hf a5 I J V,h4⟩
     ·generalize Z:args.toList.map (Ao sl)=al at h;unfold B6x at h;split at h
      ·obtain⟨y,I,J,V,hN,h4,h5⟩:=h;obtain⟨xo,a'⟩:∃xo,args = #[xo]:=by
        have hl:=K9 List.length Z;simp only [B6,Bg,Ch,V3] at hl;obtain⟨l⟩:=args
        match l,hl with
        |[xo],_=>exact⟨xo,rfl⟩
       subst a';simp only [Cz,Hr,Aq4,S8] at Z;exact⟨_,_,_,E7h L hf a5 (by rw [Z];exact I) J V hN h4,h5⟩
      ·exact h.elim
     ·exact h.elim
    ·exact h.elim
   |false =>
   simp only [B2d] at h;unfold B6a at h;split at h
   ·exact q (B5x (c:=⟨.value fo,args,Co⟩) L h) fun _ h=>h
   ·generalize hf:Ao sl fo=vf at h;generalize O:A7 bx _=ob at h;unfold B8t at h;split at h
    ·obtain⟨n2,R,r,c',I,n4,J,V,h4⟩:=h;exact⟨_,_,_,G3c L hf (G0 O) (by omega) n2 n4 I J V,h4⟩
    ·exact h.elim
 |invoke r m =>simp only [Vv] at h;exact q (B5x (c:=⟨.invoke r m,args,Co⟩) L h) fun _ h=>h
 |builtin b =>
 unfold Vv at h;split at h
 ·rename_i x y T U E hx hT;simp only [Au4] at E;subst E;have a3:args = #[x,y]:=by apply I6;simpa using hx
  have W:Co = #[T,U]:=by apply I6;simpa using hT
  subst a3 W;obtain⟨hU,h0,h⟩:=h;obtain⟨e,he⟩:=Us.1 h0;have a8:Jt P T=e:=by unfold Jt;rw [he];rfl
  rw [a8] at h;generalize hs:Bs P e=os at h;generalize hz:Cj P e=oz at h;generalize O:Ej P e=ob at h;unfold B4n at h;split at h
  ·rename_i sz zs bytes;obtain⟨I,J,h⟩:=h;have hE:A7t P T e sz bytes:=⟨he,hs,by rw [hz];simp [I],O,J⟩;generalize hy:Ao sl y=vy at h;unfold A3r at h;split at h
   ·exact B8p L hE hU (by rw [hy];exact .nil) h
   ·exact B8p L hE hU (by rw [hy];exact .emp) h
   ·exact B8p L hE hU (by rw [hy];exact .slice _ h.1) h.2
   ·generalize O:A7 bx _=ob at h;cases ob with
    |none=>exact h.elim
    |some bc =>
     cases bc with
     |rows a6 rs =>obtain⟨V,h⟩:=h;subst V;exact B8p L hE hU (by rw [hy];exact .acc _ _ (G0 O)) h
     |cells _=>exact h.elim
     |map _=>exact h.elim
     |iter _ _=>exact h.elim
     |ghost _ _=>exact h.elim
   ·exact h.elim
  ·exact h.elim
 ·rename_i x y T U E hx hT;simp only [Au4] at E;subst E;have a3:args = #[x,y]:=by apply I6;simpa using hx
  have W:Co = #[T,U]:=by apply I6;simpa using hT
  subst a3 W;generalize hs:Vn P T=os at h;have a2:∀{K2:KB} {sz k:Nat} {xs:List (List D)},some sz=Vn P T→Ao sl x=.acc k→V2 bx sz (Ao sl y) xs→A6c bx k sz xs K2 (A7 bx k)→∃r bx' pg,Bt P o (Ao sl) bx r bx' pg∧K2 r bx' pg:=by
   intro K2 sz k xs a9 aa a7 h;obtain⟨e,hT,hs⟩:=A9h a9.symm;generalize O:A7 bx k=ob at h;cases ob with
   |none=>exact h.elim
   |some bc =>
    cases bc with
    |rows a6 rs =>obtain⟨rfl,I,J⟩:=h;exact⟨_,_,_,F8t L hT hs aa (G0 O) a7 I,J⟩
    |cells _=>exact h.elim
    |map _=>exact h.elim
    |iter _ _=>exact h.elim
    |ghost _ _=>exact h.elim
  generalize a1:Ao sl x=vx at h;generalize a0:Ao sl y=vy at h;unfold A7n at h;split at h
  ·exact a2 hs.symm a1 (by rw [a0];exact .slice _ h.1) h.2
  ·exact a2 hs.symm a1 (by rw [a0];exact .nil) h
  ·generalize O:A7 bx _=ob at h;cases ob with
   |none=>exact h.elim
   |some bc =>
    cases bc with
    |rows a6 xs =>obtain⟨rfl,h⟩:=h;exact a2 hs.symm a1 (by rw [a0];exact .acc _ _ (G0 O)) h
    |cells _=>exact h.elim
    |map _=>exact h.elim
    |iter _ _=>exact h.elim
    |ghost _ _=>exact h.elim
  ·exact h.elim
 ·rename_i E;simp at E
 ·rename_i E;simp only [Au4] at E;subst E;obtain⟨r,bx',pg,I,J⟩:=h;exact⟨r,bx',pg,I o L rfl,J⟩
 ·exact q (B5x (c:=⟨.builtin b,args,Co⟩) L h) fun _ h=>h
theorem D4m {own:List Nat} {K:KB} (h:Hp P own o.dst sl bx o.op K):∃r bx' pg,Bt P o (Ao sl) bx r bx' pg∧K r bx' pg:=by
 have q:∀{K':SV→Prop},Quiet P o sl bx K'→(∀r,K' r→K r bx [])→∃r bx' pg,Bt P o (Ao sl) bx r bx' pg∧K r bx' pg:=by rintro K' ⟨r,J,I⟩ hk;exact⟨r,bx,[],J,hk r I⟩
 generalize E:o.op=op at h;unfold Hp at h;split at h
 ·generalize V:Cj P _=oz at h;generalize L:o.dst=dd at h;unfold A7g at h;split at h
  ·exact⟨_,_,_,G0o h.1 E V,h.2⟩
  ·exact h.elim
 ·generalize V:content _=oz at h;generalize L:o.dst=dd at h;unfold A7g at h;split at h
  ·exact⟨_,_,_,E6t h.1 E V,h.2⟩
  ·exact h.elim
 ·generalize R:Ao sl _=vx at h;generalize a2:content _=ous at h;unfold A9g at h;split at h
  ·obtain⟨hs,h⟩:=h;generalize O:A7 bx _=ob at h;cases ob with
   |none=>exact h.elim
   |some bc =>
    cases bc with
    |cells cs=>exact⟨_,_,_,F5m E R (G0 O) a2 hs h.1,h.2⟩
    |rows _ _=>exact h.elim
    |map _=>exact h.elim
    |iter _ _=>exact h.elim
    |ghost _ _=>exact h.elim
  ·obtain⟨hs,h⟩:=h;generalize O:A7 bx _=ob at h;cases ob with
   |none=>exact h.elim
   |some bc =>
    cases bc with
    |rows sz rows =>obtain⟨row,ds,J,I,U,Z⟩:=h;subst I;simp only [B6] at hs U;exact⟨_,_,_,F3e E R (G0 O) J a2 hs U,Z⟩
    |cells _=>exact h.elim
    |map _=>exact h.elim
    |iter _ _=>exact h.elim
    |ghost _ _=>exact h.elim
  ·exact h.elim
 ·exact F8j E h
 ·generalize L:o.dst=dd at h;unfold B4o at h;split at h
  ·exact⟨_,_,_,F1g h.1 E,h.2⟩
  ·exact h.elim
 ·rename_i T x y;obtain⟨W,h⟩:=h;obtain⟨e,hT⟩:=Us.1 W;have he:Jt P T=e:=by unfold Jt;rw [hT];rfl
  rw [he] at h;generalize R:Ao sl x=vx at h;generalize hy:Ao sl y=vy at h;generalize hs:Bs P e=os at h;generalize V:Cj P e=oz at h;generalize O:Ej P e=ob at h;generalize L:o.dst=dd at h;unfold B6n at h;split at h
  ·obtain⟨k1,k2,k3,k4,k5,k6,k7,h⟩:=h;unfold B4e at h;split at h
   ·rename_i hu;have a3:=D4n hu;exact⟨_,_,_,F7y k1 E R hy ⟨hT,hs,by rw [V];simp [k3],O,k4⟩ (by rw [V,a3]) (fun d hd=>Cf.1 h.1 d hd) k5 k6 k7 k2,h.2⟩
   ·exact h.elim
  ·exact h.elim
 ·rename_i m x y;generalize hm:Ao sl m=vm at h;generalize hT:P.underlying _=vT at h;unfold B7o at h;split at h
  ·generalize O:A7 bx _=ob at h;unfold B6h at h;split at h
   ·obtain⟨J,I,h⟩:=h;generalize R:N8 (Ao sl x)=vx at h;unfold Lc at h;split at h
    ·obtain⟨U,h⟩:=h;generalize hy:N8 (Ao sl y)=vy at h;unfold Lc at h;split at h
     ·exact⟨_,_,_,E8s E hm (G0 O) hT J R U I hy,h⟩
     ·exact h.elim
    ·exact h.elim
   ·exact h.elim
  ·exact h.elim
 ·split at h
  ·generalize R:Ao sl _=vx at h;generalize hy:Ao sl _=vy at h;generalize hs:Vn P _=vs at h;unfold B3o at h;split at h
   ·obtain⟨W,h⟩:=h;generalize O:A7 bx _=ob at h;unfold B3f at h;split at h
    ·obtain⟨rfl,J,I,U⟩:=h;obtain⟨e,hT,hs⟩:=A9h hs;exact⟨_,_,_,F4b E W R (G0 O) hy hT hs J I,U⟩
    ·exact h.elim
   ·exact h.elim
  ·exact q (B3e (by rw [E];exact h)) fun _ h=>h
 ·rename_i T m parts;split at h
  ·obtain⟨W,h⟩:=h;obtain⟨e,hT⟩:=Us.1 W;have he:Jt P T=e:=by unfold Jt;rw [hT];rfl
   rw [he] at h;generalize hs:Bs P e=os at h;generalize V:Cj P e=oz at h;generalize hr:rowsOf _ _ _ _=orr at h;generalize L:o.dst=dd at h;unfold A6z at h;split at h
   ·obtain⟨W,J,I,U,Z⟩:=h;unfold B5g at Z;split at Z
    ·rename_i a1;simp only [Av] at a1;subst a1;have a0:∀{m sz:Nat},m*sz≤16777216→1≤sz→m≤lim:=fun {m sz} h h'=>by
      have:m*1≤m*sz:=Am5 _ h';unfold lim;omega
     exact⟨_,_,_,G5r Z.1 E hT hs V J I U hr (a0 I W),Z.2⟩
    ·exact Z.elim
   ·exact h.elim
  ·exact q (B3e (by rw [E];exact h)) fun _ h=>h
 ·obtain⟨r,bx',pg,J,I⟩:=h;exact⟨r,bx',pg,J o E rfl,I⟩
 ·obtain⟨r,bx',pg,J,I⟩:=h;exact⟨r,bx',pg,J o E rfl,I⟩
 ·obtain⟨r,bx',pg,J,I⟩:=h;exact⟨r,bx',pg,J o E rfl,I⟩
 ·obtain⟨r,bx',pg,J,I⟩:=h;exact⟨r,bx',pg,J o E rfl,I⟩
 ·split at h
  ·obtain⟨r,J,I⟩:=h;exact⟨r,bx,[],J o E,I⟩
  ·exact q (B3e (by rw [E];exact h)) fun _ h=>h
 ·exact q (B3e (by rw [E];exact h)) fun _ h=>h
def Qx (b E:Bool)(A B:Prop):Prop:=(b=E→A)∧(b = !E→B)
def Ee (P:Program)(own:List Nat)(ops:Array Oper):List Oper→SL→Ab→(SL→Ab→Prop)→Prop
 |[],sl,bx,K=>K sl bx
 |o::os,sl,bx,K=>match o.guard with
  |none=>Hp P own o.dst sl bx o.op fun r bx' pg=>Ee P own ops os (Fi (Fb pg sl) o.dst r) bx' K
  |some (j,E)=>match M1 ops j with
   |some t=>match Ae sl t with
    |.d (.bool b)=>Qx b E (Hp P own o.dst sl bx o.op fun r bx' pg=>Ee P own ops os (Fi (Fb pg sl) o.dst r) bx' K) (Ee P own ops os (Fi sl o.dst (.tuple [])) bx K)
    |.tuple []=>Ee P own ops os (Fi sl o.dst (.tuple [])) bx K
    |_=>False
   |none=>False
def A6j (P:Program)(own:List Nat)(ops:Array Oper)(os:List Oper)(sl:SL)(dst:Option Nat)(K:SL→Ab→Prop):KB:=fun r bx pg=>Ee P own ops os (Fi (Fb pg sl) dst r) bx K
def B5v (P:Program)(own:List Nat)(ops:Array Oper)(dst:Option Nat)(op:Op)(os:List Oper)(sl:SL)(bx:Ab)(E:Bool)(K:SL→Ab→Prop):SV→Prop
 |.d (.bool b)=>Qx b E (Hp P own dst sl bx op (A6j P own ops os sl dst K)) (Ee P own ops os (Fi sl dst (.tuple [])) bx K)
 |.tuple []=>Ee P own ops os (Fi sl dst (.tuple [])) bx K
 |_=>False
def B7k (P:Program)(own:List Nat)(ops:Array Oper)(dst:Option Nat)(op:Op)(os:List Oper)(sl:SL)(bx:Ab)(E:Bool)(K:SL→Ab→Prop):Option Nat→Prop
 |some t=>B5v P own ops dst op os sl bx E K (Ae sl t)
 |none=>False
def Zu (P:Program)(own:List Nat)(ops:Array Oper)(dst:Option Nat)(op:Op)(os:List Oper)(sl:SL)(bx:Ab)(K:SL→Ab→Prop)(b E:Bool):Prop :=
 Qx b E (Hp P own dst sl bx op (A6j P own ops os sl dst K)) (Ee P own ops os (Fi sl dst (.tuple [])) bx K)
section
variable (P:Program) (own:List Nat) (ops:Array Oper) (os:List Oper) (sl:SL) (bx:Ab) (K:SL→Ab→Prop) (dst:Option Nat) (op:Op) (ty:TypeId) (pos:String) (after:Array Edge)
theorem F9o:Ee P own ops [] sl bx K=K sl bx:=by rw [Ee]
theorem F1b:Ee P own ops (⟨dst,op,ty,pos,after,none⟩::os) sl bx K=Hp P own dst sl bx op (A6j P own ops os sl dst K):=by rw [Ee];rfl
theorem E6k (j:Nat)(E:Bool):Ee P own ops (⟨dst,op,ty,pos,after,some (j,E)⟩::os) sl bx K=B7k P own ops dst op os sl bx E K (M1 ops j):=by
 rw [Ee];simp only;cases M1 ops j with
 |none=>rfl
 |some t =>simp only [B7k,B5v];split <;> rfl
theorem E9h (r:SV)(pg:List Nat):A6j P own ops os sl dst K r bx pg=Ee P own ops os (Fi (Fb pg sl) dst r) bx K:=rfl
theorem F3v (b E:Bool):B5v P own ops dst op os sl bx E K (.d (.bool b))=Zu P own ops dst op os sl bx K b E:=rfl
theorem F7j (E:Bool):B5v P own ops dst op os sl bx E K (.tuple [])=Ee P own ops os (Fi sl dst (.tuple [])) bx K:=rfl
theorem G3k:Zu P own ops dst op os sl bx K true true=Hp P own dst sl bx op (A6j P own ops os sl dst K):=by simp [Zu,Qx]
theorem F6z:Zu P own ops dst op os sl bx K false false=Hp P own dst sl bx op (A6j P own ops os sl dst K):=by simp [Zu,Qx]
theorem G1n:Zu P own ops dst op os sl bx K true false=Ee P own ops os (Fi sl dst (.tuple [])) bx K:=by simp [Zu,Qx]
theorem F9s:Zu P own ops dst op os sl bx K false true=Ee P own ops os (Fi sl dst (.tuple [])) bx K:=by simp [Zu,Qx]
end
section
variable (P:Program) (own:List Nat) (ops:Array Oper) (os:List Oper) (sl:SL) (bx:Ab) (K:SL→Prop) (dst:Option Nat) (op:Op) (ty:TypeId) (pos:String) (after:Array Edge)
end
theorem D5t {ops:Array Oper} {A B:Prop} (h:match o.guard with
  |none=>A
  |some (j,E)=>match M1 ops j with
   |some t=>match Ae sl t with
    |.d (.bool b)=>Qx b E A B
    |.tuple []=>B
    |_=>False
   |none=>False):∃g,Qn ops sl o=some g∧(g=true→A)∧(g=false→B):=by
 unfold Qn;cases I:o.guard with
 |none =>simp only [I] at h;exact⟨true,rfl,fun _=>h,by simp⟩
 |some O =>
  obtain⟨j,E⟩:=O;simp only [I] at h;cases J:M1 ops j with
  |none=>simp only [J] at h
  |some t =>
   simp only [J] at h ⊢;split at h
   ·rename_i b hs;refine⟨b == E,by rw [hs],fun L=>h.1 (by simpa using L),fun L=>h.2 ?_⟩;cases b <;> cases E <;> simp_all
   ·rename_i hs;exact⟨false,by rw [hs],by simp,fun _=>h⟩
   ·exact h.elim
theorem Zf {n:Nat} {own:List Nat} {ops:Array Oper} {K:SL→Ab→Prop}:∀(os:List Oper)(sl:SL)(bx:Ab),E4 n os=true→Ee P own ops os sl bx K→Xh P n ops os sl bx K
 |[],sl,bx,_,h=>by rw [Ee] at h;exact h
 |o::os,sl,bx,hd,h=>by simp only [E4,Na,B1] at hd;rw [Ee] at h;obtain⟨g,J,I,O⟩:=D5t h;refine⟨g,J,Vm (ops:=[o]) (by simp [E4,hd.1]) o (by simp),fun E=>?_,fun E=>Zf os _ bx hd.2 (O E)⟩;obtain⟨r,bx',pg,L,R⟩:=D4m (I E);exact⟨r,bx',pg,L,Zf os _ bx' hd.2 R⟩
def H9 (ks:List Nat)(K:SL→Ab→Prop):SL→Ab→Prop:=fun sl bx=>K (V4 ks sl) (Re ks bx)
theorem F5d (ks:List Nat)(K:SL→Ab→Prop)(sl:SL)(bx:Ab):H9 ks K sl bx=K (V4 ks sl) (Re ks bx):=rfl
def C4v (k:Nat):Option Ar→Ab→Ab
 |some c,r=>(k,c)::r
 |none,r=>r
theorem E5m (k:Nat)(ks:List Nat)(bx:Ab):Re (k::ks) bx=C4v k (A7 bx k) (Re ks bx):=by rw [Re];cases A7 bx k <;> rfl
theorem G0t (bx:Ab):Re [] bx=[]:=rfl
theorem A0.reg {ro:Option Nat} {n:Nat} {Q:Exit→SL→Ab→Prop} {id:Nat} {ops:Array Oper} (ks own:List Nat)(hd:E4 n ops.toList=true)
  (h:Ee P own ops ops.toList sl bx (H9 ks (Q .normal))):A0 ro P n (.region id ops false) Q sl bx :=
 A0.region ks ks hd (Zf _ _ _ hd h)
end Go.Abs
namespace Go.Abs
open Go
variable {P:Program}
mutual
def SV.bd:SV→Prop
 |.d x=>x.Bd
 |.agg cs=>SV.Sy cs
 |.tuple cs=>SV.Sy cs
 |.Bf _ cs=>SV.Sy cs
 |.Ag cells _=>∀d,d∈cells→d.Bd
 |.undef| .box _ _| .acc _| .Eb _ _ _| .mp _| .Fm _| .Fh _ _=>True
def SV.Sy:List SV→Prop
 |[]=>True
 |c::cs=>c.bd∧SV.Sy cs
end
mutual
theorem Am.bd {S:Nat→Prop} {w:World} {β:Names}:∀{x:SV} {v:Value},Am S w β x v→x.bd
 |.d x,v,h=>by simp only [SV.bd];exact h.Gp.bd
 |.agg cs,v,h=>by cases h with| agg _ vs I _ E=>simp only [SV.bd];exact Bm.bd ⟨I,E⟩
 |.tuple cs,v,h=>by cases h with| tuple _ vs I E=>simp only [SV.bd];exact Bm.bd ⟨I,E⟩
 |.Bf f cs,v,h=>by cases h with| Bf _ _ vs I E=>simp only [SV.bd];exact Bm.bd ⟨I,E⟩
 |.Ag cells off,v,h=>by obtain⟨b,base,L⟩:=h.A9q;simp only [SV.bd];intro d hd;obtain⟨j,O⟩:=Nt.1 hd;obtain⟨u,R⟩:=L.there j (Ay.1 O).1;exact (L.rep j d u O R).bd
 |.undef,v,h=>by simp [SV.bd]
 |.box _ _,v,h=>by simp [SV.bd]
 |.acc _,v,h=>by simp [SV.bd]
 |.Eb _ _ _,v,h=>by simp [SV.bd]
 |.mp _,v,h=>by simp [SV.bd]
 |.Fm _,v,h=>by simp [SV.bd]
 |.Fh _ _,v,h=>by simp [SV.bd]
theorem Bm.bd {S:Nat→Prop} {w:World} {β:Names}:∀{cs:List SV} {vs:List Value},Bm S w β cs vs→SV.Sy cs
 |[],_,_=>by simp [SV.Sy]
 |c::cs,vs,h=>by
  simp only [SV.Sy];obtain⟨v,J,hr⟩:=h.get (j:=0) (c:=c) rfl;cases vs with
  |nil=>simp at J
  |cons v vs=>exact⟨(h.2 0 c v rfl rfl).bd,Bm.bd ⟨by have:=h.1;simpa using this,fun j c v U J=>h.2 (j+1) c v (by simpa using U) (by simpa using J)⟩⟩
end
theorem Cd.bd {f:FuncId} {args:List SV} {pre E:Ab} {r:SV} (J:Enters P f)(h:SV.Sy args→Cd P f args pre r E):Cd P f args pre r E :=
 ⟨J,fun C β vs L I=>(h I.bd).2 C β vs L I⟩
theorem Enters.of {f:FuncId} {fn:Func} {c:Code} (I:P.funcs[f]? = some fn)(J:fn.body=some c)(E:(fn.name == "runtime.NumGoroutine")=false):Enters P f:=⟨fn,I,E,by rw [J];rfl⟩
def D7b (P:Program)(fn:Func)(r:SV)(E:Ab)(e:Exit)(sl:SL)(bx:Ab):Prop :=
 match e with
 |.normal| .ret=>∃xs,U9 P bx sl fn.results.toList=some xs∧(Xy xs=r∨coerce [] (Xy xs)=some r)∧ble bx E
 |_=>False
theorem Cd.A7y {f:FuncId} {fn:Func} {c:Code} {args:List SV} {pre E:Ab} {r:SV} (O:P.funcs[f]? = some fn)(J:fn.body=some c)(V:(fn.name == "runtime.NumGoroutine")=false)(W:args.length≤fn.ntmps)
  (h:A0 none P fn.ntmps c (D7b P fn r E) (Uc 0 args) pre):Cd P f args pre r E:=by
 refine⟨⟨fn,O,V,by rw [J];rfl⟩,?_⟩;intro C β vs U hv;refine C0h O J ?_;refine At5 (h C C.S0 C.w0 β _ (St.start U hv W)) ?_;rintro e I w' ⟨sl',bx',S',β',q,hs⟩;have key:(∃xs,U9 P bx' sl' fn.results.toList=some xs∧(Xy xs=r∨coerce [] (Xy xs)=some r)∧ble bx' E)→LeavesInM Fence.wide 0 P fn I.tmps (fun e w'=>∃v S' β',e=.returned v∧Inv C S' w' β' E∧Am S' w' β' r v) I.defers .returning w':=by
  rintro⟨xs,h1,h2,R⟩;refine hs.leave fun w' hs=>?_;obtain⟨v,Z,L⟩:=C2y (P:=P) hs h1;refine⟨v,Z,v,S',β',rfl,hs.inv.sub (A5z R),?_⟩;rcases h2 with rfl| h2
  ·exact L
  ·exact (A5e (hs.inv.sub (bx':=[]) (by simp)) (Bo.refl _ _) (by simp) h2 L).1
 cases e with
 |normal=>exact key q
 |ret=>exact key q
 |_=>exact q.elim
section steps
variable {ro:Option Nat} {n:Nat} {Q:Exit→SL→Ab→Prop} {sl:SL} {bx:Ab}
theorem A0.A5o {x y:Code} (h:∀K:SL→Ab→Prop,(∀sl' bx',A0 ro P n y Q sl' bx'→K sl' bx')→A0 ro P n x (A4 K Q) sl bx):A0 ro P n (.seq x y) Q sl bx :=
 A0.seq (h _ fun _ _ h=>h)
theorem A0.D6f {x y:Code} (h:∀K:SL→Ab→Prop,(∀sl' bx',A0 ro P n y Q sl' bx'→K sl' bx')→(∀{J L I E},sle J I→ble L E→K I E→K J L)→A0 ro P n x (A4 K Q) sl bx):A0 ro P n (.seq x y) Q sl bx :=
 A0.seq (h _ (fun _ _ h=>h) fun a b c=>A0.ww a b c)
theorem A0.F6 {id:Nat} {ops:Array Oper} {y:Code} (ks own:List Nat)(hd:E4 n ops.toList=true)
  (h:∀K:SL→Ab→Prop,(∀sl' bx',A0 ro P n y Q sl' bx'→K sl' bx')→Ee P own ops ops.toList sl bx (H9 ks K)):A0 ro P n (.seq (.region id ops false) y) Q sl bx :=
 A0.seq (A0.reg ks own hd (h _ fun _ _ h=>h))
theorem A0.A0q {id:Nat} {ops:Array Oper} (ks own:List Nat)(hd:E4 n ops.toList=true)
  (h:∀K:SL→Ab→Prop,(∀sl' bx',Q .normal sl' bx'→K sl' bx')→Ee P own ops ops.toList sl bx (H9 ks K)):A0 ro P n (.region id ops false) Q sl bx :=
 A0.reg ks own hd (h _ fun _ _ h=>h)
theorem A0.tt {c:Operand} {x y:Code} (E:Ao sl c=.d (.bool true))(h:A0 ro P n x Q sl bx):A0 ro P n (.cond c x y) Q sl bx:=A0.cond E (fun _=>h) (by simp)
theorem A0.ff {c:Operand} {x y:Code} (E:Ao sl c=.d (.bool false))(h:A0 ro P n y Q sl bx):A0 ro P n (.cond c x y) Q sl bx:=A0.cond E (by simp) (fun _=>h)
end steps
end Go.Abs
namespace Go.Abs
open Go
variable {ro:Option Nat} {P:Program} {n:Nat} {Q:Exit→SL→Ab→Prop} {sl:SL} {bx:Ab}
theorem Cd.pub {f:FuncId} {args:List SV} {q sz:Nat} {rs:List (List D)} (h:Cd P f args [] (.acc q) [(q,.rows sz rs)]):Ac P f args (.d (.slice rs)):=by refine⟨h.1,fun C β vs I E=>(h.2 C β vs I E).mono ?_⟩;rintro e w' ⟨v,S',β',rfl,L,E⟩;obtain⟨O,_,J⟩:=L.Kx (k:=q) (sz:=sz) (rs:=rs) (by simp);cases E;exact⟨_,_,β',rfl,O.sub (by simp),.d _ _ J⟩
variable {c:Operand}
theorem A0.E5 {y z:Code} (E:Ao sl c=.d (.bool true))(h:A0 ro P n z Q sl bx):A0 ro P n (.seq (.cond c .skip y) z) Q sl bx :=
 A0.seq (A0.tt E (A0.kk h))
theorem A0.stop {x z:Code} {id:Nat} (E:Ao sl c=.d (.bool false))(h:Q (.exit id) sl bx):A0 ro P n (.seq (.cond c x (.exit id)) z) Q sl bx :=
 A0.seq (A0.ff E (A0.xx h))
variable {K:SL→Ab→Prop}
theorem A0.Nk {x z:Code} {b:Bool} (O:Ao sl c=.d (.bool b))(L:∀sl' bx',A0 ro P n z Q sl' bx'→K sl' bx')
  (R:b=true→A0 ro P n x (A4 (fun _ _=>False) Q) sl bx) (J:b=false→A0 ro P n z Q sl bx):A0 ro P n (.cond c x .skip) (A4 K Q) sl bx :=
 A0.cond O (fun E=>(R E).mono fun e _ _ I=>by cases e <;> first| exact I.elim| exact I) (fun E=>A0.kk (L _ _ (J E)))
theorem A0.F3f {x y:Code} (I:Ao sl c=.d (.bool true))(J:A0 ro P n x (A4 (fun _ _=>False) Q) sl bx):A0 ro P n (.cond c x y) (A4 K Q) sl bx :=
 A0.tt I (J.mono fun e _ _ E=>by cases e <;> first| exact E.elim| exact E)
theorem A0.F8w {x z:Code} (J:Ao sl c=.d (.bool false))(I:∀sl' bx',A0 ro P n z Q sl' bx'→K sl' bx')(E:A0 ro P n z Q sl bx):A0 ro P n (.cond c x .skip) (A4 K Q) sl bx :=
 A0.ff J (A0.kk (I _ _ E))
theorem A0.F7x {y z:Code} (J:Ao sl c=.d (.bool true))(I:∀sl' bx',A0 ro P n z Q sl' bx'→K sl' bx')(E:A0 ro P n z Q sl bx):A0 ro P n (.cond c .skip y) (A4 K Q) sl bx :=
 A0.tt J (A0.kk (I _ _ E))
theorem A0.ss {x:Code} {id:Nat} (E:Ao sl c=.d (.bool false))(h:Q (.exit id) sl bx):A0 ro P n (.cond c x (.exit id)) (A4 K Q) sl bx :=
 A0.ff E (A0.xx h)
theorem A0.ii {α X:Type} (L:List α)(mk:Nat→X→SL)(mb:Nat→X→Ab)(I:Nat→X→Prop) {c:Code} (U:X)(h0:I 0 U)(h1:sle sl (mk 0 U))(Z:ble bx (mb 0 U))
  (O:∀x,I L.length x→A0 ro P n c (A4 (fun _ _=>False) Q) (mk L.length x) (mb L.length x))
  (step:∀j x a,L[j]? = some a→a∈L→L.drop j=a::L.drop (j+1)→L.take (j+1)=L.take j++[a]→(j:Int) < (L.length:Int)→I j x →
   A0 ro P n c (A4 (fun sl' bx'=>∃J,I (j+1) J∧sle sl' (mk (j+1) J)∧ble bx' (mb (j+1) J)) Q) (mk j x) (mb j x)):A0 ro P n (.loop c) Q sl bx:=by
 refine A0.loop (X:=Nat × X) (fun x=>mk x.1 x.2) (fun x=>mb x.1 x.2) (fun x=>x.1≤L.length∧I x.1 x.2) (fun x=>L.length - x.1) (0,U) ⟨by simp,h0⟩ h1 Z ?_;rintro⟨j,x⟩ ⟨hj,V⟩;simp only at hj V;by_cases E:j < L.length
 ·refine (step j x L[j] (Ba E) (F7 E) (Fy E) (L5 E) (by omega) V).mono ?_;intro e sl' bx' R;cases e with
  |normal=>obtain⟨J,g1,g2,W⟩:=R;exact⟨(j+1,J),⟨by simp only;omega,g1⟩,by simp only;omega,g2,W⟩
  |_=>exact R
 ·have:j=L.length:=by omega
  subst this;refine (O x V).mono ?_;intro e sl' bx' R;cases e with
  |normal=>exact R.elim
  |_=>exact R
theorem bsize (l:List UInt8):(ByteArray.mk ⟨l⟩).size=l.length:=rfl
theorem G4k {n:Nat} (h:n≤1000):(n≤lim)=True:=by simp only [eq_iff_iff,iff_true];unfold lim;omega
end Go.Abs
