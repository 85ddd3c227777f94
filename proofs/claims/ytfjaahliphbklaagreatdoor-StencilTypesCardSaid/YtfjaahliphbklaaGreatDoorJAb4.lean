/- The operations as one function; shapes of code; drawn regions with a new variable. Own framework. -/
import Derived.IntWalk
import Derived.Test.YtfjaahliphbklaaGreatDoorJAb3
set_option linter.unusedVariables false
set_option linter.unusedSimpArgs false
namespace Go.Abs
open Go
variable {P:Program}
def InR (x:Int):Prop:=-9223372036854775808≤x∧x < 9223372036854775808
theorem wrap_i64 {x:Int} (h:InR x):IntKind.i64.wrap x=x:=IntWalk.i64_in x (by unfold InR at h;omega)
def arK (op:BinOp)(k:IntKind)(x y:Int)(K:SV→Prop):Prop :=
 match k,op with
 | .i64,.add=>InR (x+y)∧K (.d (.int .i64 (x+y)))
 | .i64,.sub=>InR (x - y)∧K (.d (.int .i64 (x - y)))
 | .i64,.mul=>InR (x*y)∧K (.d (.int .i64 (x*y)))
 | .i64,.quo=>y≠0∧InR (x.tdiv y)∧K (.d (.int .i64 (x.tdiv y)))
 | k,.add=>K (.d (.int k (k.wrap (x+y))))
 | k,.sub=>K (.d (.int k (k.wrap (x - y))))
 | k,.mul=>K (.d (.int k (k.wrap (x*y))))
 | k,.quo=>y≠0∧K (.d (.int k (k.wrap (x.tdiv y))))
 | k,.rem=>y≠0∧K (.d (.int k (x.tmod y)))
 | _,.eql=>K (.d (.bool (decide (x=y))))
 | _,.neq=>K (.d (.bool (decide (x≠y))))
 | _,.lss=>K (.d (.bool (decide (x < y))))
 | _,.leq=>K (.d (.bool (decide (x≤y))))
 | _,.gtr=>K (.d (.bool (decide (y < x))))
 | _,.geq=>K (.d (.bool (decide (y≤x))))
 | _,_=>False
def F8y (P:Program)(t:TypeId):Bool:=(P.underlying t).any (fun d=>match d with | .pointer _=>true | _=>false)
def A0q (P:Program)(t:TypeId):Bool:=(P.underlying t).any (fun d=>match d with | .interface _=>true | _=>false)
def F7x:BinOp→Str→Str→(SV→Prop)→Prop
 | .add,a,b,K=>a.length+b.length≤lim∧K (.d (.str (a++b)))
 | .eql,a,b,K=>K (.d (.bool (decide (a=b))))
 | .neq,a,b,K=>K (.d (.bool (decide (a≠b))))
 | .lss,a,b,K=>K (.d (.bool (Op.bytesLess a b)))
 | .gtr,a,b,K=>K (.d (.bool (Op.bytesLess b a)))
 | _,_,_,_=>False
def E9a:BinOp→Bool→Bool→(SV→Prop)→Prop
 | .eql,a,b,K=>K (.d (.bool (a == b)))
 | .neq,a,b,K=>K (.d (.bool (!(a == b))))
 | _,_,_,_=>False
def E8z:BinOp→Option Bool→(SV→Prop)→Prop
 | .eql,some b,K=>K (.d (.bool b))
 | .neq,some b,K=>K (.d (.bool (!b)))
 | _,_,_=>False
def G2k (op:BinOp)(k j:IntKind)(a b:Int)(K:SV→Prop):Prop :=
 match op with
 | .shr=>0≤b∧K (.d (.int k (a.fdiv (2 ^ min b.toNat k.bits))))
 | .shl=>0≤b∧K (.d (.int k (k.wrap (a*2 ^ min b.toNat k.bits))))
 | op=>k=j∧arK op k a b K
def E6n (P:Program)(op:BinOp)(t:TypeId)(c:Bool)(H:Prop):SV→SV→(SV→Prop)→Prop
 | .d (.int k a),.d (.int j b),K=>G2k op k j a b K
 | .d (.str a),.d (.str b),K=>F7x op a b K
 | .d (.bool a),.d (.bool b),K=>P.underlying t=some .bool∧E9a op a b K
 | .d .niliface,.d .niliface,K=>c=true∧A0q P t=true∧E8z op (some true) K
 | .d (.iface _ _),.d .niliface,K=>c=true∧A0q P t=true∧E8z op (some false) K
 | x,.d .nilptr,K=>F8y P t=true∧E8z op (ptrNil x) K
 | x,.d .nil,K=>(A2m P t).isSome=true∧E8z op (sliceNil x) K
 | .agg _,.agg _,_=>H
 | _,_,_=>False
def B7r (P:Program)(o:Oper)(sl:SL)(bx:A0b)(K:SV→Prop):Prop:=∃ r,OpT P o (opnd sl) bx r bx []∧K r
variable {o:Oper} {sl:SL} {bx:A0b} {K:SV→Prop}
theorem E7v {op:BinOp} {t u:TypeId} {x y:Operand} (ho:o.op=.binOp op t x y u) {k:IntKind} {a b:Int} (hx:opnd sl x=.d (.int k a))(hy:opnd sl y=.d (.int k b))(h:arK op k a b K):B7r P o sl bx K:=by
 have cmp:∀ {c:Bool},E1i op a b=some c→K (.d (.bool c))→B7r P o sl bx K:=fun hc hK=>⟨_,E4r ho hx hy hc,hK⟩;have ar:∀ {c:Int},G0t op k a b=some c→K (.d (.int k c))→B7r P o sl bx K:=fun hc hK=>⟨_,F0q ho hx hy hc,hK⟩;have w:∀ {z:Int},k=.i64→InR z→k.wrap z=z:=fun hk hz=>by subst hk;exact wrap_i64 hz
 unfold arK at h;split at h
 ·exact ar rfl (by rw [w rfl h.1];exact h.2)
 ·exact ar rfl (by rw [w rfl h.1];exact h.2)
 ·exact ar rfl (by rw [w rfl h.1];exact h.2)
 ·exact⟨_,E7u ho hx hy h.1,by rw [w rfl h.2.1];exact h.2.2⟩
 ·exact ar rfl h
 ·exact ar rfl h
 ·exact ar rfl h
 ·exact⟨_,E7u ho hx hy h.1,h.2⟩
 ·exact⟨_,F9i ho hx hy h.1,h.2⟩
 ·exact cmp rfl h
 ·exact cmp rfl h
 ·exact cmp rfl h
 ·exact cmp rfl h
 ·exact cmp rfl h
 ·exact cmp rfl h
 ·exact h.elim
theorem D1r {op:BinOp} {t u:TypeId} {x y:Operand} (ho:o.op=.binOp op t x y u) {k j:IntKind} {m n r:Int} (hx:opnd sl x=.d (.int k m))(hy:opnd sl y=.d (.int j n))(hn:0≤n)
  (hr:(op=.shr∧r=m.fdiv (2 ^ min n.toNat k.bits))∨(op=.shl∧r=k.wrap (m*2 ^ min n.toNat k.bits))):OpT P o (opnd sl) bx (.d (.int k r)) bx [] :=
 .of_value fun _ _ w _ a _ ha=>by
  have h1:=(ha x (mC ho));rw [hx] at h1;have h1:=h1.inv_int;have h2:=(ha y (mC ho));rw [hy] at h2;have h2:=h2.inv_int;refine⟨.int k r,?_,.int k r⟩;have hn':¬ n < 0:=by omega
  rcases hr with ⟨rfl,rfl⟩ | ⟨rfl,rfl⟩ <;> simp [execOp,ho,h1,h2,A7n,binOp,Op.shift,hn']
theorem E4w {op:BinOp} {t u:TypeId} {x y:Operand} (ho:o.op=.binOp op t x y u) {H:Prop} (hH:H→B7r P o sl bx K)(h:E6n P op t (G1q y) H (opnd sl x) (opnd sl y) K):B7r P o sl bx K:=by
 unfold E6n at h;split at h
 ·rename_i hx hy;unfold G2k at h;split at h
  ·exact⟨_,D1r ho hx hy h.1 (.inl ⟨rfl,rfl⟩),h.2⟩
  ·exact⟨_,D1r ho hx hy h.1 (.inr ⟨rfl,rfl⟩),h.2⟩
  ·obtain⟨rfl,h⟩:=h;exact E7v ho hx hy h
 ·rename_i hx hy;unfold F7x at h;split at h
  ·exact⟨_,E3j ho hx hy h.1,h.2⟩
  ·exact⟨_,B2p ho hx hy rfl,h⟩
  ·exact⟨_,B2p ho hx hy rfl,h⟩
  ·exact⟨_,B2p ho hx hy rfl,h⟩
  ·exact⟨_,B2p ho hx hy rfl,h⟩
  ·exact h.elim
 ·rename_i hx hy;obtain⟨ht,h⟩:=h;unfold E9a at h;split at h
  ·exact⟨_,C2g ho ht hx hy rfl,h⟩
  ·exact⟨_,C2g ho ht hx hy rfl,h⟩
  ·exact h.elim
 ·rename_i hx hy;obtain⟨hc,ht,h⟩:=h;unfold E8z at h;split at h
  ·rename_i hb;exact⟨_,A8j ho ht (by rw [hx];exact hb) hy hc rfl,h⟩
  ·rename_i hb;exact⟨_,A8j ho ht (by rw [hx];exact hb) hy hc rfl,h⟩
  ·exact h.elim
 ·rename_i hx hy;obtain⟨hc,ht,h⟩:=h;unfold E8z at h;split at h
  ·rename_i hb;exact⟨_,A8j ho ht (by rw [hx];exact hb) hy hc rfl,h⟩
  ·rename_i hb;exact⟨_,A8j ho ht (by rw [hx];exact hb) hy hc rfl,h⟩
  ·exact h.elim
 ·rename_i hy;obtain⟨ht,h⟩:=h;unfold E8z at h;split at h
  ·rename_i hb;exact⟨_,C7f ho ht hb hy rfl,h⟩
  ·rename_i hb;exact⟨_,C7f ho ht hb hy rfl,h⟩
  ·exact h.elim
 ·rename_i hy;obtain⟨ht,h⟩:=h;obtain⟨e,ht⟩:=Option.isSome_iff_exists.1 ht;unfold E8z at h;split at h
  ·rename_i hb;exact⟨_,B9f ho ht hb hy rfl,h⟩
  ·rename_i hb;exact⟨_,B9f ho ht hb hy rfl,h⟩
  ·exact h.elim
 ·exact hH h
 ·exact h.elim
def OpQ (P:Program)(sl:SL)(bx:A0b)(op:Op)(r:SV):Prop:=∀ o:Oper,o.op=op→OpT P o (opnd sl) bx r bx []
def D7e (P:Program)(sl:SL)(bx:A0b)(op:Op)(K:SV→Prop):Prop:=∃ r,OpQ P sl bx op r∧K r
def OpB (P:Program)(sl:SL)(bx:A0b)(dst:Option Nat)(op:Op)(r:SV)(bx':A0b)(pg:List Nat):Prop:=∀ o:Oper,o.op=op→o.dst=dst→OpT P o (opnd sl) bx r bx' pg
def F0b (P:Program)(sl:SL)(bx:A0b)(dst:Option Nat)(op:Op)(K:SV→A0b→List Nat→Prop):Prop:=∃ r bx' pg,OpB P sl bx dst op r bx' pg∧K r bx' pg
def A9g {α:Type}:Option α→(α→Prop)→Prop
 | some c,K=>K c
 | none,_=>False
def C3r:Option Nat→SV→(SV→Prop)→Prop
 | some d,.box k off,K=>K (.box k (off+d))
 | some d,.dptr c off,K=>K (.dptr c (off+d))
 | some d,.d (.ptr c),K=>K (.dptr c (0+d))
 | some d,.aptr k i off,K=>K (.aptr k i (off+d))
 | _,_,_=>False
def A0s (P:Program)(T:TypeId)(f:Nat):Option (Nat × Bool × Nat):=match P.underlying T with
 | some (.struct fs)=>match fs[f]? with
  | some fd=>match A5d P fd.type,A0z P fd.type with
   | some b,some n=>some (fd.offset,b,n)
   | _,_=>none
  | none=>none
 | _=>none
def B8f:Option (Nat × Bool × Nat)→SV→(SV→Prop)→Prop
 | some (d,true,n),.agg cs,K=>K (.agg (part cs d n))
 | some (d,false,_),.agg cs,K=>A9g (cs[d]?) K
 | _,_,_=>False
def C2k:Option BoxC→Nat→Nat→Int→(SV→Prop)→Prop
 | some (.rows sz rows),q,m,i,K=>sz=m∧0≤i∧i.toNat < rows.length∧K (.aptr q i.toNat 0)
 | _,_,_,_,_=>False
def C3o (bx:A0b)(H:(SV→Prop)→Prop):Option Nat→SV→SV→(SV→Prop)→Prop
 | some m,.d (.slice rows),.d (.int _ i),K=>0≤i∧∃ row,rows[i.toNat]? = some row∧row.length=m∧K (.dptr row 0)
 | some m,.acc q,.d (.int _ i),K=>C2k (A0h bx q) q m i K
 | none,.box _ _,.d (.int _ _),K=>H K
 | none,.undef,.d (.int _ _),K=>H K
 | _,_,_,_=>False
def C1n (P:Program)(T:Nat):Option Nat:=(A2m P T).bind (A0z P)
def D0n:Option BoxC→(SV→Prop)→Prop
 | some (.rows _ rows),K=>K (.d (.int .i64 rows.length))
 | _,_=>False
def F9a (P:Program)(bx:A0b)(T:Nat):SV→(SV→Prop)→Prop
 | .d (.slice rows),K=>(A2m P T).isSome=true∧K (.d (.int .i64 rows.length))
 | .d .nil,K=>(A2m P T).isSome=true∧K (.d (.int .i64 0))
 | .d .emp,K=>(A2m P T).isSome=true∧K (.d (.int .i64 0))
 | .d (.str s),K=>P.underlying T=some .string∧K (.d (.int .i64 s.length))
 | .acc q,K=>(A2m P T).isSome=true∧D0n (A0h bx q) K
 | _,_=>False
def G4i (P:Program)(args:List SV)(bx:A0b)(H:(SV→Prop)→Prop):SV→(SV→Prop)→Prop
 | .clo f caps,K=>∃ r,((∃ args',A2e [] (args++caps)=some args'∧A0a P f args' r∧r.closed=true)∨(∃ args',A2e bx (args++caps)=some args'∧A0a P f args' r∧r.scalar=true))∧K r
 | _,K=>H K
def B8h (P:Program)(sl:SL)(bx:A0b):Callee→List Operand→List TypeId→(SV→Prop)→Prop
 | .value fo,args,tys,K=>G4i P (args.map (opnd sl)) bx (D7e P sl bx (.call ⟨.value fo,args.toArray,tys.toArray⟩)) (opnd sl fo) K
 | .builtin .len,[x],[T],K=>F9a P bx T (opnd sl x) K
 | c,args,tys,K=>D7e P sl bx (.call ⟨c,args.toArray,tys.toArray⟩) K
def F4c:SV→SV→SV→(SV→Prop)→Prop
 | .d (.bool t),x,y,K=>K (if t then x else y)
 | _,_,_,_=>False
def G3x:SV→(SV→Prop)→Prop
 | .d (.bool b),K=>K (.d (.bool (!b)))
 | _,_=>False
def G4e:SV→(SV→Prop)→Prop
 | .d (.int .i64 m),K=>InR (0 - m)∧K (.d (.int .i64 (0 - m)))
 | _,_=>False
def F5f (P:Program)(T:Nat):SV→SV→(SV→Prop)→Prop
 | .d (.str s),.d (.int _ i),K=>P.underlying T=some .string∧0≤i∧∃ c,s[i.toNat]? = some c∧K (.d (.int .u8 c.toNat))
 | _,_,_=>False
def B9y:SV→Nat→(SV→Prop)→Prop
 | .tuple xs,i,K=>A9g (xs[i]?) K
 | _,_,_=>False
def A9s:SV→(SV→Prop)→Prop
 | .box k off,K=>K (.box k off)
 | .dptr c off,K=>K (.dptr c off)
 | .d (.ptr c),K=>K (.d (.ptr c))
 | _,_=>False
def E6y (H:(SV→Prop)→Prop):Option TypeDesc→Option TypeDesc→SV→(SV→Prop)→Prop
 | some (.int _),some (.int k'),.d (.int _ m),K=>K (.d (.int k' (k'.wrap m)))
 | some .string,some .string,.d (.str t),K=>K (.d (.str t))
 | _,_,_,K=>H K
def D2d (T:Nat):SV→(SV→Prop)→Prop
 | .d y,K=>K (.d (.iface T y))
 | .agg cs,K=>∃ ds,cs=ds.map SV.d∧K (.d (.iface T (.agg ds)))
 | _,_=>False
def E0o:Option (List SV)→Option (List (Nat × Nat))→Option (List (Nat × List SV))→(SV→Prop)→Prop
 | some zs,some ps,some l,K=>A9g (B8t ps zs l) fun out=>out.all SV.one=true∧K (.agg out)
 | _,_,_,_=>False
def A5o (m np:Nat):Option Nat→Option (List SV)→Option (List (List D))→(List (List D)→Prop)→Prop
 | some sz,some zs,some rows,K=>1≤sz∧zs.length=sz∧m*sz≤16777216∧np=m∧K rows
 | _,_,_,_=>False
def A2v (P:Program)(T:Nat):Nat:=(A2m P T).getD 0
def F8g (ok:Bool)(kd:D)(kvs:List (D × D))(K:SV→Prop)(z:SV):Prop:=K (D3y ok kd kvs z)
def E1y (P:Program)(kt et:TypeId)(ok:Bool)(kvs:List (D × D))(K:SV→Prop)(kd:D):Prop :=
 KeyAt P kt kd∧A9g (G1t P et) (F8g ok kd kvs K)
def D9v (P:Program)(kt et:TypeId)(ok:Bool)(x:SV)(K:SV→Prop):Option BoxC→Prop
 | some (.map kvs)=>D5s P kt=true∧(∀ kv,kv∈kvs→KeyAt P kt kv.1)∧A9g (asD x) (E1y P kt et ok kvs K)
 | _=>False
def E3i (P:Program)(bx:A0b)(ok:Bool)(x:SV):Option TypeDesc→SV→(SV→Prop)→Prop
 | some (.map kt et),.mp k,K=>D9v P kt et ok x K (A0h bx k)
 | some (.map kt et),.d (.map kvs),K=>D5s P kt=true∧(∀ kv,kv∈kvs→KeyAt P kt kv.1)∧A9g (asD x) (E1y P kt et ok kvs K)
 | _,_,_=>False
def loV:Option SV→Option Int
 | none=>some 0
 | some (.d (.int _ i))=>some i
 | _=>none
def hiV (n:Nat):Option SV→Option Int
 | none=>some n
 | some (.d (.int _ i))=>some i
 | _=>none
def E5q (n:Nat)(K:Nat→Nat→Prop):Option Int→Option Int→Prop
 | some l,some h=>0≤l∧l≤h∧h≤n∧K l.toNat h.toNat
 | _,_=>False
def C8m (rows:List (List D))(lo hi:Option SV)(K:SV→Prop):Option Nat→Prop
 | some sz=>(∀ row,row∈rows→row.length=sz)∧E5q rows.length (fun l h=>K (.d (.slice ((rows.take h).drop l)))) (loV lo) (hiV rows.length hi)
 | none=>False
def G1s (P:Program)(T:TypeId)(lo hi:Option SV):SV→(SV→Prop)→Prop
 | .d (.slice rows),K=>C8m rows lo hi K (C1n P T)
 | .d (.str s),K=>P.underlying T=some .string∧E5q s.length (fun l h=>K (.d (.str ((s.take h).drop l)))) (loV lo) (hiV s.length hi)
 | _,_=>False
def A3a (P:Program)(sl:SL)(bx:A0b):Op→(SV→Prop)→Prop
 | .move x,K=>K (opnd sl x)
 | .assign x,K=>K (opnd sl x)
 | .pick c x y,K=>F4c (opnd sl c) (opnd sl x) (opnd sl y) K
 | .load T x,K=>A9g (A4j P bx T (opnd sl x)) K
 | .binOp op t x y u,K=>E6n P op t (G1q y) (D7e P sl bx (.binOp op t x y u) K) (opnd sl x) (opnd sl y) K
 | .unOp .not _ x,K=>G3x (opnd sl x) K
 | .unOp .neg _ x,K=>G4e (opnd sl x) K
 | .fieldAddr T x f,K=>C3r (A4e P T f) (opnd sl x) K
 | .field T x f,K=>B8f (A0s P T f) (opnd sl x) K
 | .indexAddr T x y,K=>C3o bx (D7e P sl bx (.indexAddr T x y)) (C1n P T) (opnd sl x) (opnd sl y) K
 | .index T x y,K=>F5f P T (opnd sl x) (opnd sl y) K
 | .extract x i,K=>B9y (opnd sl x) i K
 | .nilCheck x,K=>A9s (opnd sl x) K
 | .convert s d x,K=>E6y (D7e P sl bx (.convert s d x)) (P.underlying s) (P.underlying d) (opnd sl x) K
 | .makeInterface T x,K=>A0q P T=false∧(P.underlying T).isSome=true∧D2d T (opnd sl x) K
 | .build T parts,K=>E0o (A1t P T) (A2z P T) (B0k (opnd sl) parts.toList) K
 | .buildSlice T m parts,K=>(A2m P T).isSome=true∧A5o m parts.size (A0z P (A2v P T)) (A1t P (A2v P T)) (B0y (opnd sl) ((A0z P (A2v P T)).getD 0) 0 parts.toList) fun rows=>K (.d (.slice rows))
 | .call c,K=>B8h P sl bx c.callee c.args.toList c.argTypes.toList K
 | .makeFunc (.func f) ⟨[]⟩ caps,K=>K (.clo f (caps.toList.map (opnd sl)))
 | .slice T x lo hi none,K=>G1s P T (lo.map (opnd sl)) (hi.map (opnd sl)) (opnd sl x) K
 | .lookup T m x ok,K=>E3i P bx ok (opnd sl x) (P.underlying T) (opnd sl m) K
 | op,K=>D7e P sl bx op K
theorem A8e {c:Call} (ho:o.op=.call c)(h:B8h P sl bx c.callee c.args.toList c.argTypes.toList K):B7r P o sl bx K:=by
 obtain⟨callee,args,tys⟩:=c;simp only at h;unfold B8h at h;split at h
 ·rename_i fo _ _ _;unfold G4i at h;split at h
  ·rename_i hf;obtain⟨r,h1 | h1,hK⟩:=h
   ·obtain⟨args',h2,h3,h4⟩:=h1;exact⟨_,F5i ho hf h2 h3 h4,hK⟩
   ·obtain⟨args',h2,h3,h4⟩:=h1;exact⟨_,D3b ho hf h2 h3 h4,hK⟩
  ·obtain⟨r,h1,h2⟩:=h;exact⟨r,h1 o ho,h2⟩
 ·rename_i x T hx hT;have hx':args = #[x]:=by apply Array.ext';simpa using hx
  have hT':tys = #[T]:=by apply Array.ext';simpa using hT
  subst hx' hT';unfold F9a at h;split at h
  ·rename_i hx;obtain⟨e,he⟩:=Option.isSome_iff_exists.1 h.1;exact⟨_,D2m ho hx he,h.2⟩
  ·rename_i hx;obtain⟨e,he⟩:=Option.isSome_iff_exists.1 h.1;exact⟨_,C5i ho (.inl hx) he,h.2⟩
  ·rename_i hx;obtain⟨e,he⟩:=Option.isSome_iff_exists.1 h.1;exact⟨_,C5i ho (.inr hx) he,h.2⟩
  ·rename_i hx;exact⟨_,E2v ho hx h.1,h.2⟩
  ·rename_i hx;obtain⟨h1,h⟩:=h;obtain⟨e,he⟩:=Option.isSome_iff_exists.1 h1;unfold D0n at h;split at h
   ·rename_i hb;exact⟨_,E5x ho hx (A0j hb) he,h⟩
   ·exact h.elim
  ·exact h.elim
 ·obtain⟨r,h1,h2⟩:=h;exact⟨r,h1 o ho,h2⟩
theorem A9q {T m:Nat} (h:C1n P T=some m):∃ e,A2m P T=some e∧A0z P e=some m:=by
 unfold C1n at h;cases he:A2m P T with
 | none=>simp [he] at h
 | some e=>exact⟨e,rfl,by simpa [he] using h⟩
theorem D6h {T:TypeId} {m x:Operand} {ok:Bool} (ho:o.op=.lookup T m x ok)(h:E3i P bx ok (opnd sl x) (P.underlying T) (opnd sl m) K):B7r P o sl bx K:=by
 have fin:∀ {kt et:TypeId} {kvs:List (D × D)},P.underlying T=some (.map kt et)→IsMap bx (opnd sl m) kvs→D5s P kt=true→(∀ kv,kv∈kvs→KeyAt P kt kv.1)→A9g (asD (opnd sl x)) (E1y P kt et ok kvs K)→B7r P o sl bx K:=by
  intro kt et kvs hT hm hk hall h;unfold A9g at h;split at h
  ·rename_i hx;obtain⟨h1,h⟩:=h;unfold A9g at h;split at h
   ·rename_i hz;exact⟨_,E3r ho hm hT hk hx h1 hall hz,h⟩
   ·exact h.elim
  ·exact h.elim
 generalize hm:opnd sl m=vm at h;generalize hT:P.underlying T=vT at h;unfold E3i at h;split at h
 ·generalize hb:A0h bx _=ob at h;unfold D9v at h;split at h
  ·exact fin hT (by rw [hm];exact .mp _ _ (A0j hb)) h.1 h.2.1 h.2.2
  ·exact h.elim
 ·exact fin hT (by rw [hm];exact .d _) h.1 h.2.1 h.2.2
 ·exact h.elim
theorem C8k {T:TypeId} {x:Operand} {f:Nat} (ho:o.op=.field T x f)(h:B8f (A0s P T f) (opnd sl x) K):B7r P o sl bx K:=by
 generalize hp:A0s P T f=pl at h;unfold A0s at hp;split at hp
 ·rename_i fs hT;split at hp
  ·rename_i fd hf;split at hp
   ·rename_i b m ha hs;subst hp;unfold B8f at h;split at h
    ·rename_i hq hx;simp only [Option.some.injEq,Prod.mk.injEq] at hq;obtain⟨hq1,hq2,hq3⟩:=hq;subst hq1 hq2 hq3;exact⟨_,D4d ho hx hT hf rfl rfl ha hs,h⟩
    ·rename_i hq hx;simp only [Option.some.injEq,Prod.mk.injEq] at hq;obtain⟨hq1,hq2,hq3⟩:=hq;subst hq1 hq2 hq3;unfold A9g at h;split at h
     ·rename_i hc;exact⟨_,D1y ho hx hT hf rfl rfl ha hc,h⟩
     ·exact h.elim
    ·exact h.elim
   ·subst hp;exact h.elim
  ·subst hp;exact h.elim
 ·subst hp;exact h.elim
theorem F9b {lo:Option Operand} {l:Int} (h:loV (lo.map (opnd sl))=some l)(h0:0≤l):loN (opnd sl) lo=some l.toNat:=by
 cases lo with
 | none=>simp only [Option.map_none,loV,Option.some.injEq] at h;subst h;rfl
 | some y =>simp only [Option.map_some] at h;unfold loN;simp only;generalize opnd sl y=v at h;cases v <;> simp only [loV,reduceCtorEq] at h;rename_i d;cases d <;> simp only [reduceCtorEq] at h;simp only [Option.some.injEq] at h;subst h;simp [h0]
theorem F8v {hi:Option Operand} {n:Nat} {l:Int} (h:hiV n (hi.map (opnd sl))=some l)(h0:0≤l):hiN (opnd sl) n hi=some l.toNat:=by
 cases hi with
 | none=>simp only [Option.map_none,hiV,Option.some.injEq] at h;subst h;rfl
 | some y =>simp only [Option.map_some] at h;unfold hiN;simp only;generalize opnd sl y=v at h;cases v <;> simp only [hiV,reduceCtorEq] at h;rename_i d;cases d <;> simp only [reduceCtorEq] at h;simp only [Option.some.injEq] at h;subst h;simp [h0]
theorem D9e {n:Nat} {K:Nat→Nat→Prop} {a b:Option Int} (h:E5q n K a b):∃ l k,a=some l∧b=some k∧0≤l∧l≤k∧k≤n∧K l.toNat k.toNat:=by
 unfold E5q at h;split at h
 ·exact⟨_,_,rfl,rfl,h⟩
 ·exact h.elim
theorem E3s {T:TypeId} {x:Operand} {lo hi:Option Operand} (ho:o.op=.slice T x lo hi none)(h:G1s P T (lo.map (opnd sl)) (hi.map (opnd sl)) (opnd sl x) K):B7r P o sl bx K:=by
 unfold G1s at h;split at h
 ·rename_i hx;generalize hs:C1n P T=os at h;cases os with
  | none=>exact h.elim
  | some sz =>obtain⟨e,hT,hs⟩:=A9q hs;obtain⟨hr,h⟩:=h;obtain⟨l,k,h1,h2,h3,h4,h5,h6⟩:=D9e h;exact⟨_,D2t ho hx hT hs hr (F9b h1 h3) (F8v h2 (by omega)) (by omega) (by omega),h6⟩
 ·rename_i hx;obtain⟨hT,h⟩:=h;obtain⟨l,k,h1,h2,h3,h4,h5,h6⟩:=D9e h;exact⟨_,E4n ho hx hT (F9b h1 h3) (F8v h2 (by omega)) (by omega) (by omega),h6⟩
 ·exact h.elim
theorem A7w (h:A3a P sl bx o.op K):B7r P o sl bx K:=by
 unfold A3a at h;split at h
 ·rename_i ho;exact⟨_,F6g ho,h⟩
 ·rename_i ho;exact⟨_,E2s ho,h⟩
 ·rename_i ho;unfold F4c at h;split at h
  ·rename_i hc;exact⟨_,F5h ho hc,h⟩
  ·exact h.elim
 ·rename_i ho;unfold A9g at h;split at h
  ·rename_i hc;exact⟨_,F5z ho hc,h⟩
  ·exact h.elim
 ·rename_i ho;exact E4w ho (fun⟨r,h1,h2⟩=>⟨r,h1 _ ho,h2⟩) h
 ·rename_i ho;unfold G3x at h;split at h
  ·rename_i hc;exact⟨_,G0z ho hc,h⟩
  ·exact h.elim
 ·rename_i ho;unfold G4e at h;split at h
  ·rename_i hc;refine⟨_,G0h ho hc,?_⟩;rw [wrap_i64 h.1];exact h.2
  ·exact h.elim
 ·rename_i ho;unfold C3r at h;split at h
  ·rename_i hf hx;exact⟨_,D1j ho hx hf,h⟩
  ·rename_i hf hx;exact⟨_,B8j ho (by rw [hx];exact .dptr _ _) hf,h⟩
  ·rename_i hf hx;exact⟨_,B8j ho (by rw [hx];exact .ptr _) hf,h⟩
  ·rename_i hf hx;exact⟨_,D0b ho hx hf,h⟩
  ·exact h.elim
 ·rename_i ho;exact C8k ho h
 ·rename_i ho;unfold C3o at h;split at h
  ·rename_i hs hx hy;obtain⟨e,hT,hs⟩:=A9q hs;obtain⟨h0,row,hr,hl,hK⟩:=h;exact⟨_,C4q ho hx hy hT hs h0 hr hl,hK⟩
  ·rename_i hs hx hy;obtain⟨e,hT,hs⟩:=A9q hs;generalize hb:A0h bx _=ob at h;cases ob with
   | none=>exact h.elim
   | some bc =>
    cases bc with
    | rows sz rows =>obtain⟨h1,h2,h3,h4⟩:=h;exact⟨_,D1i ho hx (A0j hb) hy hT hs h1 h2 h3,h4⟩
    | cells _=>exact h.elim
    | map _=>exact h.elim
    | ghost _ _=>exact h.elim
  ·obtain⟨r,h1,h2⟩:=h;exact⟨r,h1 _ ho,h2⟩
  ·obtain⟨r,h1,h2⟩:=h;exact⟨r,h1 _ ho,h2⟩
  ·exact h.elim
 ·rename_i ho;unfold F5f at h;split at h
  ·rename_i hx hy;obtain⟨h1,h2,c,h3,h4⟩:=h;exact⟨_,D2i ho hx hy h1 h2 h3,h4⟩
  ·exact h.elim
 ·rename_i ho;unfold B9y at h;split at h
  ·rename_i hx;unfold A9g at h;split at h
   ·rename_i hr;exact⟨_,D8j ho hx hr,h⟩
   ·exact h.elim
  ·exact h.elim
 ·rename_i ho;unfold A9s at h;split at h
  ·rename_i hx;exact⟨_,E2y ho hx,h⟩
  ·rename_i hx;exact⟨_,C5n ho (by rw [hx];exact .dptr _ _),by rw [hx];exact h⟩
  ·rename_i hx;exact⟨_,C5n ho (by rw [hx];exact .ptr _),by rw [hx];exact h⟩
  ·exact h.elim
 ·rename_i ho;unfold E6y at h;split at h
  ·rename_i hs hd hx;exact⟨_,D6o ho hs hd hx,h⟩
  ·rename_i hs hd hx;exact⟨_,D6r ho hs hd hx,h⟩
  ·obtain⟨r,h1,h2⟩:=h;exact⟨r,h1 o ho,h2⟩
 ·rename_i ho;obtain⟨h1,h2,h⟩:=h;obtain⟨d,hd⟩:=Option.isSome_iff_exists.1 h2;have hn:(match d with | .interface _=>false | _=>true)=true:=by
   unfold A0q at h1;rw [hd] at h1;cases d <;> simp_all
  unfold D2d at h;split at h
  ·rename_i hx;exact⟨_,B7y ho hx hd hn,h⟩
  ·rename_i hx;obtain⟨ds,h3,h4⟩:=h;exact⟨_,B3j ho (by rw [hx,h3]) hd hn,h4⟩
  ·exact h.elim
 ·rename_i ho;unfold E0o at h;split at h
  ·rename_i hz hp hl;unfold A9g at h;split at h
   ·rename_i hf;exact⟨_,F0h ho hz hp hl hf h.1,h.2⟩
   ·exact h.elim
  ·exact h.elim
 ·rename_i T m parts ho;obtain⟨h0,h⟩:=h;obtain⟨e,hT⟩:=Option.isSome_iff_exists.1 h0;have he:A2v P T=e:=by unfold A2v;rw [hT];rfl
  rw [he] at h;unfold A5o at h;split at h
  ·rename_i hs hz hr;obtain⟨h0,h1,h2,h3,h4⟩:=h;rw [hs] at hr;have hlim:∀ {m sz:Nat},m*sz≤16777216→1≤sz→m≤lim:=fun {m sz} h h'=>by
    have:m*1≤m*sz:=Nat.mul_le_mul_left _ h';unfold lim;omega
   exact⟨_,B7q ho hT hs hz h1 h2 h3 hr (hlim h2 h0),h4⟩
  ·exact h.elim
 ·rename_i ho;exact A8e ho h
 ·rename_i ho;exact⟨_,D4f ho,h⟩
 ·rename_i ho;exact E3s ho h
 ·rename_i ho;exact D6h ho h
 ·obtain⟨r,h1,h2⟩:=h;exact⟨r,h1 o rfl,h2⟩
end Go.Abs
namespace Go.Abs
open Go
variable {P:Program} {o:Oper} {sl:SL} {bx:A0b}
def A1n (P:Program)(e:TypeId):Option Nat:=(P.info? e).map (·.bytes)
abbrev KB:=SV→A0b→List Nat→Prop
def C7r (bytes sz:Nat)(xs:List (List D))(bx:A0b)(k:Nat):Option BoxC→KB→Prop
 | some (.rows sz' rs),K=>sz'=sz∧k≤999999∧(rs.length+xs.length)*bytes≤lim∧K (.acc k) ((k,.rows sz (rs++xs))::A2p k (A0o k bx)) [k]
 | _,_=>False
def B6k (bytes sz:Nat)(xs:List (List D))(bx:A0b):SV→Option Nat→KB→Prop
 | .acc k,_,K=>C7r bytes sz xs bx k (A0h bx k) K
 | .d .nil,some k,K=>k≤999999∧xs.length*bytes≤lim∧K (.acc k) ((k,.rows sz xs)::A2p k (A0o k bx)) [k]
 | _,_,_=>False
def D0d (bytes sz:Nat)(bx:A0b)(x:SV)(dst:Option Nat):Option BoxC→KB→Prop
 | some (.rows sz' xs),K=>sz'=sz∧B6k bytes sz xs bx x dst K
 | _,_=>False
def G0w (bytes sz:Nat)(bx:A0b)(x:SV)(dst:Option Nat):SV→KB→Prop
 | .d .nil,K=>B6k bytes sz [] bx x dst K
 | .d .emp,K=>B6k bytes sz [] bx x dst K
 | .d (.slice xs),K=>(∀ row,row∈xs→row.length=sz)∧B6k bytes sz xs bx x dst K
 | .acc q,K=>D0d bytes sz bx x dst (A0h bx q) K
 | _,_=>False
def C8a (bx:A0b)(dst:Option Nat)(x y:SV):Option Nat→Option (List SV)→Option Nat→KB→Prop
 | some sz,some zs,some bytes,K=>zs.length=sz∧bytes≠0∧G0w bytes sz bx x dst y K
 | _,_,_,_=>False
def B7h (bx:A0b)(k i off:Nat)(us:List SV):Option BoxC→KB→Prop
 | some (.rows sz rows),K=>∃ row ds,rows[i]? = some row∧us=ds.map SV.d∧off+us.length≤row.length∧K (.tuple []) ((k,.rows sz (rows.set i (setAll row off ds)))::A0o k bx) []
 | _,_=>False
def B4g (bx:A0b)(k off:Nat)(us:List SV):Option BoxC→KB→Prop
 | some (.cells cs),K=>off+us.length≤cs.length∧K (.tuple []) ((k,.cells (setAll cs off us))::A0o k bx) []
 | _,_=>False
def D2k (bx:A0b)(size:Option Nat):SV→Option (List SV)→KB→Prop
 | .box k off,some us,K=>size=some us.length∧B4g bx k off us (A0h bx k) K
 | .aptr k i off,some us,K=>size=some us.length∧B7h bx k i off us (A0h bx k) K
 | _,_,_=>False
def C9q (P:Program)(args:List SV)(bx:A0b):SV→Option Nat→KB→Prop
 | .clo f caps,some k,K=>k≤999999∧∃ args' q sz rows r,A2e [] (args++caps)=some args'∧A1p P f args' [] r [(q,.rows sz rows)]∧K (C3s q k r) ((k,.rows sz rows)::A2p k (A0o k bx)) [k]
 | _,_,_=>False
def B7v (bx:A0b):Option Nat→Option (List SV)→KB→Prop
 | some k,some cs,K=>k≤999999∧K (.box k 0) ((k,.cells (cs.map (A4u k)))::A2p k (A0o k bx)) [k]
 | _,_,_=>False
def B9u (bx:A0b):Option Nat→Option Nat→List (List D)→KB→Prop
 | some k,some sz,rows,K=>k≤999999∧K (.acc k) ((k,.rows sz rows)::A2p k (A0o k bx)) [k]
 | _,_,_,_=>False
def D0c (bx:A0b):Option Nat→KB→Prop
 | some k,K=>k≤999999∧K (.mp k) ((k,.map [])::A2p k (A0o k bx)) [k]
 | _,_=>False
def G2z (bx:A0b)(k:Nat)(K:KB)(kvs:List (D × D))(kd vd:D):Prop:=K (.tuple []) ((k,.map (F3c kd vd kvs))::A0o k bx) []
def G2y (P:Program)(bx:A0b)(k:Nat)(y:SV)(K:KB)(kt:TypeId)(kvs:List (D × D))(kd:D):Prop:=KeyAt P kt kd∧A9g (asD y) (G2z bx k K kvs kd)
def G4b (P:Program)(bx:A0b)(k:Nat)(x y:SV)(K:KB)(kt:TypeId):Option BoxC→Prop
 | some (.map kvs)=>D5s P kt=true∧(∀ kv,kv∈kvs→KeyAt P kt kv.1)∧A9g (asD x) (G2y P bx k y K kt kvs)
 | _=>False
def C7z (P:Program)(bx:A0b)(x y:SV):Option TypeDesc→SV→KB→Prop
 | some (.map kt _),.mp k,K=>G4b P bx k x y K kt (A0h bx k)
 | _,_,_=>False
def B2v (bx:A0b)(sz k:Nat)(i:Int)(K:KB):Option BoxC→Prop
 | some (.rows sz' rs)=>sz'=sz∧0≤i∧i≤rs.length∧K (.acc k) ((k,.rows sz (rs.drop i.toNat))::A2p k (A0o k bx)) [k]
 | _=>False
def E0q (bx:A0b):Option Nat→SV→SV→KB→Prop
 | some sz,.acc k,.d (.int _ i),K=>k≤999999∧B2v bx sz k i K (A0h bx k)
 | _,_,_,_=>False
def B7x:List SV→Option Nat
 | []=>none
 | .mp k::_=>some k
 | .box k _::_=>some k
 | _::r=>B7x r
def B6z (own:List Nat):List SV→Option Nat
 | []=>none
 | .acc k::r=>if own.contains (500000+k)=true then some k else B6z own r
 | _::r=>B6z own r
def F2i (a b:Option Nat):Option Nat:=match a with
 | some k=>some k
 | none=>b
def C7p (P:Program)(args:List SV)(bx:A0b)(k:Nat):SV→Option BoxC→KB→Prop
 | .clo f caps,some c,K=>c.closed=true∧∃ args' r c',C1f k 1000000 (args++caps)=some args'∧c'.closed=true ∧
   A1p P f args' [(1000000,c)] r [(1000000,c')]∧r.closed=true∧K r ((k,c')::A0o k bx) []
 | _,_,_=>False
def D4n (bx:A0b)(K:KB):SV→Prop:=fun r=>K r bx []
theorem E6v (bx:A0b)(K:KB)(r:SV):D4n bx K r=K r bx []:=rfl
def E1u (P:Program)(sl:SL)(bx:A0b)(fo:Operand)(args:List Operand)(tys:List TypeId):Option Nat→KB→Prop
 | none,K=>B8h P sl bx (.value fo) args tys (D4n bx K)
 | some k,K=>C7p P (args.map (opnd sl)) bx k (opnd sl fo) (A0h bx k) K
def unD:List SV→Option (List D)
 | []=>some []
 | .d x::r=>match unD r with
  | some l=>some (x::l)
  | none=>none
 | _::_=>none
theorem F1b:∀ {zs:List SV} {zd:List D},unD zs=some zd→zs=zd.map SV.d
 | [],zd,h=>by simp only [unD,Option.some.injEq] at h;subst h;rfl
 | x::r,zd,h=>by
  cases x <;> simp only [unD,reduceCtorEq] at h;cases hr:unD r with
  | none=>simp [hr] at h
  | some l =>simp only [hr,Option.some.injEq] at h;subst h;rw [F1b hr];rfl
def E0g (bx:A0b)(k sz:Nat)(n:Int)(K:KB):Option (List D)→Prop
 | some zd=>zd.all D.one=true∧K (.acc k) ((k,.rows sz (List.replicate n.toNat zd))::A2p k (A0o k bx)) [k]
 | none=>False
def F3m (bx:A0b):Option Nat→SV→SV→Option Nat→Option (List SV)→Option Nat→KB→Prop
 | some k,.d (.int _ n),.d (.int _ m),some sz,some zs,some bytes,K=>k≤999999∧1≤sz∧zs.length=sz∧bytes≠0∧0≤n∧n≤m∧m*(bytes:Int)≤(lim:Int)∧E0g bx k sz n K (unD zs)
 | _,_,_,_,_,_,_=>False
def B7s (bx:A0b)(k sz:Nat)(xs:List (List D))(K:KB):Option BoxC→Prop
 | some (.rows sz' rs)=>sz'=sz∧xs.length≤rs.length∧K (.d (.int .i64 xs.length)) ((k,.rows sz (xs++rs.drop xs.length))::A0o k bx) []
 | _=>False
def C7m (bx:A0b)(k sz:Nat)(K:KB):Option BoxC→Prop
 | some (.rows sz' xs)=>sz'=sz∧B7s bx k sz xs K (A0h bx k)
 | _=>False
def E5i (bx:A0b):Option Nat→SV→SV→KB→Prop
 | some sz,.acc k,.d (.slice xs),K=>(∀ row,row∈xs→row.length=sz)∧B7s bx k sz xs K (A0h bx k)
 | some sz,.acc k,.d .nil,K=>B7s bx k sz [] K (A0h bx k)
 | some sz,.acc k,.acc q,K=>C7m bx k sz K (A0h bx q)
 | _,_,_,_=>False
def F9c:SV→Bool
 | .acc _=>true
 | _=>false
def F4x (own:List Nat):Option Nat→Bool
 | some k=>own.contains k
 | none=>false
def G4c (P:Program)(bx:A0b)(Y:Yld)(l:Nat)(K:KB):Option Nat→List SV→Prop
 | some j,[x]=>∃ y,A2a [] x=some y∧Y.P=P∧Y.l=l∧j < Y.N∧Y.xs j=y∧K (.d (.bool (Y.go j))) ((1000000,.ghost Y (Y.next j))::A0o 1000000 bx) []
 | _,_=>False
def B2g (P:Program)(bx:A0b)(Y:Yld)(st:Option Nat)(args:List SV)(K:KB):SV→Prop
 | .clo f caps=>∃ args' r st',A2e [] (args++caps)=some args'∧A1p P f args' [(1000000,.ghost Y st)] r [(1000000,.ghost Y st')]∧r.closed=true∧K r ((1000000,.ghost Y st')::A0o 1000000 bx) []
 | .yld l=>G4c P bx Y l K st args
 | _=>False
def D9c (P:Program)(bx:A0b)(f:SV)(args:List SV)(K:KB):Option BoxC→Prop
 | some (.ghost Y st)=>B2g P bx Y st args K f
 | _=>False
def C8z (own:List Nat):Option Nat→Bool
 | some k=>own.contains (700000+k)
 | none=>own.contains 799999
def D4e (P:Program)(lst:List Nat)(sl:SL)(bx:A0b)(fo:Operand)(args:List Operand)(tys:List TypeId)(K:KB):Bool→Prop
 | true=>D9c P bx (opnd sl fo) (args.map (opnd sl)) K (A0h bx 1000000)
 | false=>E1u P sl bx fo args tys (F2i (B6z lst (args.map (opnd sl))) (B7x (args.map (opnd sl)))) K
def D3h (own:List Nat):Option Nat→Bool
 | some k=>own.contains (800000+k)
 | none=>false
def D1t (P:Program)(lst:List Nat)(sl:SL)(bx:A0b)(dst:Option Nat)(fo:Operand)(args:List Operand)(tys:List TypeId)(K:KB):Bool→Prop
 | true=>F0b P sl bx dst (.call ⟨.value fo,args.toArray,tys.toArray⟩) K
 | false=>D4e P lst sl bx fo args tys K (C8z lst dst)
def C2j (P:Program)(own:Bool)(lst:List Nat)(sl:SL)(bx:A0b)(dst:Option Nat):Callee→List Operand→List TypeId→KB→Prop
 | .builtin .append,[x,y],[T,U],K=>A4a P U=true∧(A2m P T).isSome=true∧C8a bx dst (opnd sl x) (opnd sl y) (A0z P (A2v P T)) (A1t P (A2v P T)) (A1n P (A2v P T)) K
 | .builtin .copy,[x,y],[T,_],K=>E5i bx (C1n P T) (opnd sl x) (opnd sl y) K
 | .value fo,args,tys,K=>match own with
  | true=>C9q P (args.map (opnd sl)) bx (opnd sl fo) dst K
  | false=>D1t P lst sl bx dst fo args tys K (D3h lst dst)
 | .builtin .delete,args,tys,K=>F0b P sl bx dst (.call ⟨.builtin .delete,args.toArray,tys.toArray⟩) K
 | c,args,tys,K=>B8h P sl bx c args tys (D4n bx K)
def opK (P:Program)(own:List Nat)(dst:Option Nat)(sl:SL)(bx:A0b):Op→KB→Prop
 | .alloc T,K=>B7v bx dst (A1t P T) K
 | .box _ x,K=>B7v bx dst (content (opnd sl x)) K
 | .store T x y,K=>D2k bx (A0z P T) (opnd sl x) (content (opnd sl y)) K
 | .call c,K=>C2j P (F4x own dst) own sl bx dst c.callee c.args.toList c.argTypes.toList K
 | .makeMap _ none,K=>D0c bx dst K
 | .makeSlice T x y,K=>(A2m P T).isSome=true∧F3m bx dst (opnd sl x) (opnd sl y) (A0z P (A2v P T)) (A1t P (A2v P T)) (A1n P (A2v P T)) K
 | .mapUpdate T m x y,K=>C7z P bx (opnd sl x) (opnd sl y) (P.underlying T) (opnd sl m) K
 | .slice T x (some y) none none,K=>match F9c (opnd sl x) with
  | true=>E0q bx (C1n P T) (opnd sl x) (opnd sl y) K
  | false=>A3a P sl bx (.slice T x (some y) none none) (D4n bx K)
 | .buildSlice T m parts,K=>match F4x own dst with
  | true=>(A2m P T).isSome=true∧A5o m parts.size (A0z P (A2v P T)) (A1t P (A2v P T)) (B0y (opnd sl) ((A0z P (A2v P T)).getD 0) 0 parts.toList) fun rows=>B9u bx dst (A0z P (A2v P T)) rows K
  | false=>A3a P sl bx (.buildSlice T m parts) (D4n bx K)
 | .insert T m x y,K=>F0b P sl bx dst (.insert T m x y) K
 | .makeFunc f bs caps,K=>match D3h own dst with
  | true=>D7e P sl bx (.makeFunc f bs caps) (D4n bx K)
  | false=>A3a P sl bx (.makeFunc f bs caps) (D4n bx K)
 | op,K=>A3a P sl bx op (D4n bx K)
theorem A7z {T U e sz bytes:Nat} {x y:Operand} (ho:o.op=.call { callee:=.builtin .append,args:=#[x,y],argTypes:=#[T,U] }) {xs:List (List D)} {K:KB} (hE:ElemT P T e sz bytes)(hU:A4a P U=true)
  (hs:IsSrc bx sz (opnd sl y) xs) (h:B6k bytes sz xs bx (opnd sl x) o.dst K):∃ r bx' pg,OpT P o (opnd sl) bx r bx' pg∧K r bx' pg:=by
 generalize hx:opnd sl x=vx at h;generalize hdd:o.dst=dd at h;unfold B6k at h;split at h
 ·generalize hb:A0h bx _=ob at h;cases ob with
  | none=>exact h.elim
  | some bc =>
   cases bc with
   | rows sz' rs =>obtain⟨h1,h0,h4,h5⟩:=h;subst h1;exact⟨_,_,_,C9i h0 ho hE hU hx (A0j hb) hs h4,h5⟩
   | cells _=>exact h.elim
   | map _=>exact h.elim
   | ghost _ _=>exact h.elim
 ·exact⟨_,_,_,D0p h.1 ho hE hU hx hs h.2.1,h.2.2⟩
 ·exact h.elim
theorem D6p {own:Bool} {lst:List Nat} {c:Call} {K:KB} (ho:o.op=.call c)(h:C2j P own lst sl bx o.dst c.callee c.args.toList c.argTypes.toList K):∃ r bx' pg,OpT P o (opnd sl) bx r bx' pg∧K r bx' pg:=by
 have q:∀ {K':SV→Prop},B7r P o sl bx K'→(∀ r,K' r→K r bx [])→∃ r bx' pg,OpT P o (opnd sl) bx r bx' pg∧K r bx' pg:=by rintro K' ⟨r,h1,h2⟩ hk;exact⟨r,bx,[],h1,hk r h2⟩
 obtain⟨callee,args,tys⟩:=c;simp only at h;cases callee with
 | value fo =>
  simp only [C2j] at h;split at h
  ·generalize hf:opnd sl fo=vf at h;generalize hdd:o.dst=dd at h;unfold C9q at h;split at h
   ·obtain⟨h0,args',q,sz,rows,r,h1,h2,h3⟩:=h;exact⟨_,_,_,D8u h0 ho hf h1 h2,h3⟩
   ·exact h.elim
  ·generalize hhb:D3h lst o.dst=hb at h;cases hb with
   | true =>simp only [D1t] at h;obtain⟨r,bx',pg,h1,h2⟩:=h;exact⟨r,bx',pg,h1 o ho rfl,h2⟩
   | false =>
   simp only [D1t] at h;generalize hgb:C8z lst o.dst=gb at h;cases gb with
   | true =>
    simp only [D4e] at h;generalize hf:opnd sl fo=vf at h;generalize hb:A0h bx 1000000=ob at h;unfold D9c at h;split at h
    ·have hb':=A0j hb;unfold B2g at h;split at h
     ·obtain⟨args',r,st',h1,h2,h3,h4⟩:=h;exact⟨_,_,_,D0i ho hf hb' h1 h2 h3,h4⟩
     ·generalize hal:args.toList.map (opnd sl)=al at h;unfold G4c at h;split at h
      ·obtain⟨y,h1,h2,h3,hN,h4,h5⟩:=h;obtain⟨xo,hxo⟩:∃ xo,args = #[xo]:=by
        have hl:=congrArg List.length hal;simp only [List.length_map,List.length_cons,List.length_nil,Array.length_toList] at hl;obtain⟨l⟩:=args
        match l,hl with
        | [xo],_=>exact⟨xo,rfl⟩
       subst hxo;simp only [List.map_cons,List.map_nil,List.cons.injEq,and_true] at hal;exact⟨_,_,_,F1a ho hf hb' (by rw [hal];exact h1) h2 h3 hN h4,h5⟩
      ·exact h.elim
     ·exact h.elim
    ·exact h.elim
   | false =>
   simp only [D4e] at h;unfold E1u at h;split at h
   ·exact q (A8e (c:=⟨.value fo,args,tys⟩) ho h) fun _ h=>h
   ·generalize hf:opnd sl fo=vf at h;generalize hb:A0h bx _=ob at h;unfold C7p at h;split at h
    ·obtain⟨n2,args',r,c',h1,n4,h2,h3,h4⟩:=h;exact⟨_,_,_,D5w ho hf (A0j hb) (by omega) n2 n4 h1 h2 h3,h4⟩
    ·exact h.elim
 | invoke r m =>simp only [C2j] at h;exact q (A8e (c:=⟨.invoke r m,args,tys⟩) ho h) fun _ h=>h
 | builtin b =>
 unfold C2j at h;split at h
 ·rename_i x y T U hcal hx hT;simp only [Callee.builtin.injEq] at hcal;subst hcal;have hx':args = #[x,y]:=by apply Array.ext';simpa using hx
  have hT':tys = #[T,U]:=by apply Array.ext';simpa using hT
  subst hx' hT';obtain⟨hU,h0,h⟩:=h;obtain⟨e,he⟩:=Option.isSome_iff_exists.1 h0;have hee:A2v P T=e:=by unfold A2v;rw [he];rfl
  rw [hee] at h;generalize hs:A0z P e=os at h;generalize hz:A1t P e=oz at h;generalize hb:A1n P e=ob at h;unfold C8a at h;split at h
  ·rename_i sz zs bytes;obtain⟨h1,h2,h⟩:=h;have hE:ElemT P T e sz bytes:=⟨he,hs,by rw [hz];simp [h1],hb,h2⟩;generalize hy:opnd sl y=vy at h;unfold G0w at h;split at h
   ·exact A7z ho hE hU (by rw [hy];exact .nil) h
   ·exact A7z ho hE hU (by rw [hy];exact .emp) h
   ·exact A7z ho hE hU (by rw [hy];exact .slice _ h.1) h.2
   ·generalize hb:A0h bx _=ob at h;cases ob with
    | none=>exact h.elim
    | some bc =>
     cases bc with
     | rows sz' rs =>obtain⟨h3,h⟩:=h;subst h3;exact A7z ho hE hU (by rw [hy];exact .acc _ _ (A0j hb)) h
     | cells _=>exact h.elim
     | map _=>exact h.elim
     | ghost _ _=>exact h.elim
   ·exact h.elim
  ·exact h.elim
 ·rename_i x y T U hcal hx hT;simp only [Callee.builtin.injEq] at hcal;subst hcal;have hx':args = #[x,y]:=by apply Array.ext';simpa using hx
  have hT':tys = #[T,U]:=by apply Array.ext';simpa using hT
  subst hx' hT';generalize hs:C1n P T=os at h;have fin:∀ {K2:KB} {sz k:Nat} {xs:List (List D)},some sz=C1n P T→opnd sl x=.acc k→IsSrc bx sz (opnd sl y) xs→B7s bx k sz xs K2 (A0h bx k)→∃ r bx' pg,OpT P o (opnd sl) bx r bx' pg∧K2 r bx' pg:=by
   intro K2 sz k xs hsz hxx hsrc h;obtain⟨e,hT,hs⟩:=A9q hsz.symm;generalize hb:A0h bx k=ob at h;cases ob with
   | none=>exact h.elim
   | some bc =>
    cases bc with
    | rows sz' rs =>obtain⟨rfl,h1,h2⟩:=h;exact⟨_,_,_,F6b ho hT hs hxx (A0j hb) hsrc h1,h2⟩
    | cells _=>exact h.elim
    | map _=>exact h.elim
    | ghost _ _=>exact h.elim
  generalize hvx:opnd sl x=vx at h;generalize hvy:opnd sl y=vy at h;unfold E5i at h;split at h
  ·exact fin hs.symm hvx (by rw [hvy];exact .slice _ h.1) h.2
  ·exact fin hs.symm hvx (by rw [hvy];exact .nil) h
  ·generalize hb:A0h bx _=ob at h;cases ob with
   | none=>exact h.elim
   | some bc =>
    cases bc with
    | rows sz' xs =>obtain⟨rfl,h⟩:=h;exact fin hs.symm hvx (by rw [hvy];exact .acc _ _ (A0j hb)) h
    | cells _=>exact h.elim
    | map _=>exact h.elim
    | ghost _ _=>exact h.elim
  ·exact h.elim
 ·rename_i hcal;simp at hcal
 ·rename_i hcal;simp only [Callee.builtin.injEq] at hcal;subst hcal;obtain⟨r,bx',pg,h1,h2⟩:=h;exact⟨r,bx',pg,h1 o ho rfl,h2⟩
 ·exact q (A8e (c:=⟨.builtin b,args,tys⟩) ho h) fun _ h=>h
theorem D4k {own:List Nat} {K:KB} (h:opK P own o.dst sl bx o.op K):∃ r bx' pg,OpT P o (opnd sl) bx r bx' pg∧K r bx' pg:=by
 have q:∀ {K':SV→Prop},B7r P o sl bx K'→(∀ r,K' r→K r bx [])→∃ r bx' pg,OpT P o (opnd sl) bx r bx' pg∧K r bx' pg:=by rintro K' ⟨r,h1,h2⟩ hk;exact⟨r,bx,[],h1,hk r h2⟩
 generalize hop:o.op=op at h;unfold opK at h;split at h
 ·generalize hz:A1t P _=oz at h;generalize hdd:o.dst=dd at h;unfold B7v at h;split at h
  ·exact⟨_,_,_,E9r h.1 hop hz,h.2⟩
  ·exact h.elim
 ·generalize hz:content _=oz at h;generalize hdd:o.dst=dd at h;unfold B7v at h;split at h
  ·exact⟨_,_,_,F9m h.1 hop hz,h.2⟩
  ·exact h.elim
 ·generalize hx:opnd sl _=vx at h;generalize hus:content _=ous at h;unfold D2k at h;split at h
  ·obtain⟨hs,h⟩:=h;generalize hb:A0h bx _=ob at h;cases ob with
   | none=>exact h.elim
   | some bc =>
    cases bc with
    | cells cs=>exact⟨_,_,_,D1a hop hx (A0j hb) hus hs h.1,h.2⟩
    | rows _ _=>exact h.elim
    | map _=>exact h.elim
    | ghost _ _=>exact h.elim
  ·obtain⟨hs,h⟩:=h;generalize hb:A0h bx _=ob at h;cases ob with
   | none=>exact h.elim
   | some bc =>
    cases bc with
    | rows sz rows =>obtain⟨row,ds,h1,h2,h3,h4⟩:=h;subst h2;simp only [List.length_map] at hs h3;exact⟨_,_,_,C8y hop hx (A0j hb) h1 hus hs h3,h4⟩
    | cells _=>exact h.elim
    | map _=>exact h.elim
    | ghost _ _=>exact h.elim
  ·exact h.elim
 ·exact D6p hop h
 ·generalize hdd:o.dst=dd at h;unfold D0c at h;split at h
  ·exact⟨_,_,_,D8i h.1 hop,h.2⟩
  ·exact h.elim
 ·rename_i T x y;obtain⟨h0,h⟩:=h;obtain⟨e,hT⟩:=Option.isSome_iff_exists.1 h0;have he:A2v P T=e:=by unfold A2v;rw [hT];rfl
  rw [he] at h;generalize hx:opnd sl x=vx at h;generalize hy:opnd sl y=vy at h;generalize hs:A0z P e=os at h;generalize hz:A1t P e=oz at h;generalize hb:A1n P e=ob at h;generalize hdd:o.dst=dd at h;unfold F3m at h;split at h
  ·obtain⟨k1,k2,k3,k4,k5,k6,k7,h⟩:=h;unfold E0g at h;split at h
   ·rename_i hu;have hzz:=F1b hu;exact⟨_,_,_,C9v k1 hop hx hy ⟨hT,hs,by rw [hz];simp [k3],hb,k4⟩ (by rw [hz,hzz]) (fun d hd=>List.all_eq_true.1 h.1 d hd) k5 k6 k7 k2,h.2⟩
   ·exact h.elim
  ·exact h.elim
 ·rename_i m x y;generalize hm:opnd sl m=vm at h;generalize hT:P.underlying _=vT at h;unfold C7z at h;split at h
  ·generalize hb:A0h bx _=ob at h;unfold G4b at h;split at h
   ·obtain⟨h1,h2,h⟩:=h;generalize hx:asD (opnd sl x)=vx at h;unfold A9g at h;split at h
    ·obtain⟨h3,h⟩:=h;generalize hy:asD (opnd sl y)=vy at h;unfold A9g at h;split at h
     ·exact⟨_,_,_,C8b hop hm (A0j hb) hT h1 hx h3 h2 hy,h⟩
     ·exact h.elim
    ·exact h.elim
   ·exact h.elim
  ·exact h.elim
 ·split at h
  ·generalize hx:opnd sl _=vx at h;generalize hy:opnd sl _=vy at h;generalize hs:C1n P _=vs at h;unfold E0q at h;split at h
   ·obtain⟨h0,h⟩:=h;generalize hb:A0h bx _=ob at h;unfold B2v at h;split at h
    ·obtain⟨rfl,h1,h2,h3⟩:=h;obtain⟨e,hT,hs⟩:=A9q hs;exact⟨_,_,_,D1m hop h0 hx (A0j hb) hy hT hs h1 h2,h3⟩
    ·exact h.elim
   ·exact h.elim
  ·exact q (A7w (by rw [hop];exact h)) fun _ h=>h
 ·rename_i T m parts;split at h
  ·obtain⟨h0,h⟩:=h;obtain⟨e,hT⟩:=Option.isSome_iff_exists.1 h0;have he:A2v P T=e:=by unfold A2v;rw [hT];rfl
   rw [he] at h;generalize hs:A0z P e=os at h;generalize hz:A1t P e=oz at h;generalize hr:B0y _ _ _ _=orr at h;generalize hdd:o.dst=dd at h;unfold A5o at h;split at h
   ·obtain⟨h0,h1,h2,h3,h4⟩:=h;unfold B9u at h4;split at h4
    ·rename_i hss;simp only [Option.some.injEq] at hss;subst hss;have hlim:∀ {m sz:Nat},m*sz≤16777216→1≤sz→m≤lim:=fun {m sz} h h'=>by
      have:m*1≤m*sz:=Nat.mul_le_mul_left _ h';unfold lim;omega
     exact⟨_,_,_,B8e h4.1 hop hT hs hz h1 h2 h3 hr (hlim h2 h0),h4.2⟩
    ·exact h4.elim
   ·exact h.elim
  ·exact q (A7w (by rw [hop];exact h)) fun _ h=>h
 ·obtain⟨r,bx',pg,h1,h2⟩:=h;exact⟨r,bx',pg,h1 o hop rfl,h2⟩
 ·split at h
  ·obtain⟨r,h1,h2⟩:=h;exact⟨r,bx,[],h1 o hop,h2⟩
  ·exact q (A7w (by rw [hop];exact h)) fun _ h=>h
 ·exact q (A7w (by rw [hop];exact h)) fun _ h=>h
def A7v (b want:Bool)(A B:Prop):Prop:=(b=want→A)∧(b = !want→B)
def A7q (P:Program)(own:List Nat)(ops:Array Oper):List Oper→SL→A0b→(SL→A0b→Prop)→Prop
 | [],sl,bx,K=>K sl bx
 | o::os,sl,bx,K=>match o.guard with
  | none=>opK P own o.dst sl bx o.op fun r bx' pg=>A7q P own ops os (B1b (A1e pg sl) o.dst r) bx' K
  | some (j,want)=>match B0j ops j with
   | some t=>match A0k sl t with
    | .d (.bool b)=>A7v b want (opK P own o.dst sl bx o.op fun r bx' pg=>A7q P own ops os (B1b (A1e pg sl) o.dst r) bx' K) (A7q P own ops os (B1b sl o.dst (.tuple [])) bx K)
    | .tuple []=>A7q P own ops os (B1b sl o.dst (.tuple [])) bx K
    | _=>False
   | none=>False
def E2o (P:Program)(own:List Nat)(ops:Array Oper)(os:List Oper)(sl:SL)(dst:Option Nat)(K:SL→A0b→Prop):KB:=fun r bx pg=>A7q P own ops os (B1b (A1e pg sl) dst r) bx K
def F4n (P:Program)(own:List Nat)(ops:Array Oper)(dst:Option Nat)(op:Op)(os:List Oper)(sl:SL)(bx:A0b)(want:Bool)(K:SL→A0b→Prop):SV→Prop
 | .d (.bool b)=>A7v b want (opK P own dst sl bx op (E2o P own ops os sl dst K)) (A7q P own ops os (B1b sl dst (.tuple [])) bx K)
 | .tuple []=>A7q P own ops os (B1b sl dst (.tuple [])) bx K
 | _=>False
def G4o (P:Program)(own:List Nat)(ops:Array Oper)(dst:Option Nat)(op:Op)(os:List Oper)(sl:SL)(bx:A0b)(want:Bool)(K:SL→A0b→Prop):Option Nat→Prop
 | some t=>F4n P own ops dst op os sl bx want K (A0k sl t)
 | none=>False
def gbV (P:Program)(own:List Nat)(ops:Array Oper)(dst:Option Nat)(op:Op)(os:List Oper)(sl:SL)(bx:A0b)(K:SL→A0b→Prop)(b want:Bool):Prop :=
 A7v b want (opK P own dst sl bx op (E2o P own ops os sl dst K)) (A7q P own ops os (B1b sl dst (.tuple [])) bx K)
section
variable (P:Program) (own:List Nat) (ops:Array Oper) (os:List Oper) (sl:SL) (bx:A0b) (K:SL→A0b→Prop) (dst:Option Nat) (op:Op) (ty:TypeId) (pos:String) (after:Array Edge)
theorem F4e:A7q P own ops [] sl bx K=K sl bx:=by rw [A7q]
theorem F0f:A7q P own ops (⟨dst,op,ty,pos,after,none⟩::os) sl bx K=opK P own dst sl bx op (E2o P own ops os sl dst K):=by rw [A7q];rfl
theorem E5y (j:Nat)(want:Bool):A7q P own ops (⟨dst,op,ty,pos,after,some (j,want)⟩::os) sl bx K=G4o P own ops dst op os sl bx want K (B0j ops j):=by
 rw [A7q];simp only;cases B0j ops j with
 | none=>rfl
 | some t =>simp only [G4o,F4n];split <;> rfl
theorem E7i (r:SV)(pg:List Nat):E2o P own ops os sl dst K r bx pg=A7q P own ops os (B1b (A1e pg sl) dst r) bx K:=rfl
theorem E4m (b want:Bool):F4n P own ops dst op os sl bx want K (.d (.bool b))=gbV P own ops dst op os sl bx K b want:=rfl
theorem E2m (want:Bool):F4n P own ops dst op os sl bx want K (.tuple [])=A7q P own ops os (B1b sl dst (.tuple [])) bx K:=rfl
theorem G3d:gbV P own ops dst op os sl bx K true true=opK P own dst sl bx op (E2o P own ops os sl dst K):=by simp [gbV,A7v]
theorem G2x:gbV P own ops dst op os sl bx K false false=opK P own dst sl bx op (E2o P own ops os sl dst K):=by simp [gbV,A7v]
theorem G2q:gbV P own ops dst op os sl bx K true false=A7q P own ops os (B1b sl dst (.tuple [])) bx K:=by simp [gbV,A7v]
theorem G2m:gbV P own ops dst op os sl bx K false true=A7q P own ops os (B1b sl dst (.tuple [])) bx K:=by simp [gbV,A7v]
end
section
variable (P:Program) (own:List Nat) (ops:Array Oper) (os:List Oper) (sl:SL) (bx:A0b) (K:SL→Prop) (dst:Option Nat) (op:Op) (ty:TypeId) (pos:String) (after:Array Edge)
end
theorem C0u {ops:Array Oper} {A B:Prop} (h:match o.guard with
  | none=>A
  | some (j,want)=>match B0j ops j with
   | some t=>match A0k sl t with
    | .d (.bool b)=>A7v b want A B
    | .tuple []=>B
    | _=>False
   | none=>False):∃ g,A7t ops sl o=some g∧(g=true→A)∧(g=false→B):=by
 unfold A7t;cases hg:o.guard with
 | none =>simp only [hg] at h;exact⟨true,rfl,fun _=>h,by simp⟩
 | some jw =>
  obtain⟨j,want⟩:=jw;simp only [hg] at h;cases hj:B0j ops j with
  | none=>simp only [hj] at h
  | some t =>
   simp only [hj] at h ⊢;split at h
   ·rename_i b hs;refine⟨b == want,by rw [hs],fun hb=>h.1 (by simpa using hb),fun hb=>h.2 ?_⟩;cases b <;> cases want <;> simp_all
   ·rename_i hs;exact⟨false,by rw [hs],by simp,fun _=>h⟩
   ·exact h.elim
theorem A6u {n:Nat} {own:List Nat} {ops:Array Oper} {K:SL→A0b→Prop}:∀ (os:List Oper)(sl:SL)(bx:A0b),A1r n os=true→A7q P own ops os sl bx K→Run P n ops os sl bx K
 | [],sl,bx,_,h=>by rw [A7q] at h;exact h
 | o::os,sl,bx,hd,h=>by simp only [A1r,List.all_cons,Bool.and_eq_true] at hd;rw [A7q] at h;obtain⟨g,h1,h2,h3⟩:=C0u h;refine⟨g,h1,A3w (ops:=[o]) (by simp [A1r,hd.1]) o (by simp),fun hg=>?_,fun hg=>A6u os _ bx hd.2 (h3 hg)⟩;obtain⟨r,bx',pg,q1,q2⟩:=D4k (h2 hg);exact⟨r,bx',pg,q1,A6u os _ bx' hd.2 q2⟩
def A5e (ks:List Nat)(K:SL→A0b→Prop):SL→A0b→Prop:=fun sl bx=>K (B1z ks sl) (A8i ks bx)
theorem F1f (ks:List Nat)(K:SL→A0b→Prop)(sl:SL)(bx:A0b):A5e ks K sl bx=K (B1z ks sl) (A8i ks bx):=rfl
def E7e (k:Nat):Option BoxC→A0b→A0b
 | some c,r=>(k,c)::r
 | none,r=>r
theorem D7a (k:Nat)(ks:List Nat)(bx:A0b):A8i (k::ks) bx=E7e k (A0h bx k) (A8i ks bx):=by rw [A8i];cases A0h bx k <;> rfl
theorem E3a (bx:A0b):A8i [] bx=[]:=rfl
theorem AWp.reg {ro:Option Nat} {n:Nat} {Q:Exit→SL→A0b→Prop} {id:Nat} {ops:Array Oper} (ks own:List Nat)(hd:A1r n ops.toList=true)
  (h:A7q P own ops ops.toList sl bx (A5e ks (Q .normal))):AWp ro P n (.region id ops false) Q sl bx :=
 AWp.region ks ks hd (A6u _ _ _ hd h)
end Go.Abs
namespace Go.Abs
open Go
variable {P:Program}
mutual
def SV.bd:SV→Prop
 | .d x=>x.Bd
 | .agg cs=>SV.bdL cs
 | .tuple cs=>SV.bdL cs
 | .clo _ cs=>SV.bdL cs
 | .dptr cells _=>∀ d,d∈cells→d.Bd
 | .undef | .box _ _ | .acc _ | .aptr _ _ _ | .mp _ | .yld _ | .vptr _ _=>True
def SV.bdL:List SV→Prop
 | []=>True
 | c::cs=>c.bd∧SV.bdL cs
end
mutual
theorem RepV.bd {S:Nat→Prop} {w:World} {β:A0y}:∀ {x:SV} {v:Value},RepV S w β x v→x.bd
 | .d x,v,h=>by simp only [SV.bd];exact h.inv_d.bd
 | .agg cs,v,h=>by cases h with | agg _ vs h1 _ h2=>simp only [SV.bd];exact A3e.bd ⟨h1,h2⟩
 | .tuple cs,v,h=>by cases h with | tuple _ vs h1 h2=>simp only [SV.bd];exact A3e.bd ⟨h1,h2⟩
 | .clo f cs,v,h=>by cases h with | clo _ _ vs h1 h2=>simp only [SV.bd];exact A3e.bd ⟨h1,h2⟩
 | .dptr cells off,v,h=>by obtain⟨b,base,hp⟩:=h.inv_dptr;simp only [SV.bd];intro d hd;obtain⟨j,hj⟩:=List.mem_iff_getElem?.1 hd;obtain⟨u,hu⟩:=hp.there j (List.getElem?_eq_some_iff.1 hj).1;exact (hp.rep j d u hj hu).bd
 | .undef,v,h=>by simp [SV.bd]
 | .box _ _,v,h=>by simp [SV.bd]
 | .acc _,v,h=>by simp [SV.bd]
 | .aptr _ _ _,v,h=>by simp [SV.bd]
 | .mp _,v,h=>by simp [SV.bd]
 | .yld _,v,h=>by simp [SV.bd]
 | .vptr _ _,v,h=>by simp [SV.bd]
theorem A3e.bd {S:Nat→Prop} {w:World} {β:A0y}:∀ {cs:List SV} {vs:List Value},A3e S w β cs vs→SV.bdL cs
 | [],_,_=>by simp [SV.bdL]
 | c::cs,vs,h=>by
  simp only [SV.bdL];obtain⟨v,hv,hr⟩:=h.get (j:=0) (c:=c) rfl;cases vs with
  | nil=>simp at hv
  | cons v vs=>exact⟨(h.2 0 c v rfl rfl).bd,A3e.bd ⟨by have:=h.1;simpa using this,fun j c v hc hv=>h.2 (j+1) c v (by simpa using hc) (by simpa using hv)⟩⟩
end
theorem A1p.bd {f:FuncId} {args:List SV} {pre post:A0b} {r:SV} (hE:A1q P f)(h:SV.bdL args→A1p P f args pre r post):A1p P f args pre r post :=
 ⟨hE,fun C β vs hi hv=>(h hv.bd).2 C β vs hi hv⟩
theorem A1q.of {f:FuncId} {fn:Func} {c:Code} (hf:P.funcs[f]? = some fn)(hb:fn.body=some c)(hn:(fn.name == "runtime.NumGoroutine")=false):A1q P f:=⟨fn,hf,hn,by rw [hb];rfl⟩
def G5p (P:Program)(fn:Func)(r:SV)(post:A0b)(e:Exit)(sl:SL)(bx:A0b):Prop :=
 match e with
 | .normal | .ret=>∃ xs,E6p P bx sl fn.results.toList=some xs∧(A8u xs=r∨A2a [] (A8u xs)=some r)∧ble bx post
 | _=>False
theorem A1p.of_body {f:FuncId} {fn:Func} {c:Code} {args:List SV} {pre post:A0b} {r:SV} (hf:P.funcs[f]? = some fn)(hb:fn.body=some c)(hn:(fn.name == "runtime.NumGoroutine")=false)(hm:args.length≤fn.ntmps)
  (h:AWp none P fn.ntmps c (G5p P fn r post) (B9k 0 args) pre):A1p P f args pre r post:=by
 refine⟨⟨fn,hf,hn,by rw [hb];rfl⟩,?_⟩;intro C β vs hi hv;refine A8p hf hb ?_;refine wpIn_mono (h C C.S0 C.w0 β _ (St.start hi hv hm)) ?_;rintro e a' w' ⟨sl',bx',S',β',q,hs⟩;have key:(∃ xs,E6p P bx' sl' fn.results.toList=some xs∧(A8u xs=r∨A2a [] (A8u xs)=some r)∧ble bx' post)→LeavesInM Fence.wide 0 P fn a'.tmps (fun e w'=>∃ v S' β',e=.returned v∧Inv C S' w' β' post∧RepV S' w' β' r v) a'.defers .returning w':=by
  rintro⟨xs,h1,h2,h5⟩;refine hs.leave fun w' hs=>?_;obtain⟨v,h3,h4⟩:=B4h (P:=P) hs h1;refine⟨v,h3,v,S',β',rfl,hs.inv.sub (D7x h5),?_⟩;rcases h2 with rfl | h2
  ·exact h4
  ·exact (A5j (hs.inv.sub (bx':=[]) (by simp)) (SExt.refl _ _) (by simp) h2 h4).1
 cases e with
 | normal=>exact key q
 | ret=>exact key q
 | _=>exact q.elim
section steps
variable {ro:Option Nat} {n:Nat} {Q:Exit→SL→A0b→Prop} {sl:SL} {bx:A0b}
theorem AWp.seqK {x y:Code} (h:∀ K:SL→A0b→Prop,(∀ sl' bx',AWp ro P n y Q sl' bx'→K sl' bx')→AWp ro P n x (A0c K Q) sl bx):AWp ro P n (.seq x y) Q sl bx :=
 AWp.seq (h _ fun _ _ h=>h)
theorem AWp.seqM {x y:Code} (h:∀ K:SL→A0b→Prop,(∀ sl' bx',AWp ro P n y Q sl' bx'→K sl' bx')→(∀ {sl1 bx1 sl2 bx2},sle sl1 sl2→ble bx1 bx2→K sl2 bx2→K sl1 bx1)→AWp ro P n x (A0c K Q) sl bx):AWp ro P n (.seq x y) Q sl bx :=
 AWp.seq (h _ (fun _ _ h=>h) fun a b c=>AWp.ww a b c)
theorem AWp.seqR {id:Nat} {ops:Array Oper} {y:Code} (ks own:List Nat)(hd:A1r n ops.toList=true)
  (h:∀ K:SL→A0b→Prop,(∀ sl' bx',AWp ro P n y Q sl' bx'→K sl' bx')→A7q P own ops ops.toList sl bx (A5e ks K)):AWp ro P n (.seq (.region id ops false) y) Q sl bx :=
 AWp.seq (AWp.reg ks own hd (h _ fun _ _ h=>h))
theorem AWp.lastR {id:Nat} {ops:Array Oper} (ks own:List Nat)(hd:A1r n ops.toList=true)
  (h:∀ K:SL→A0b→Prop,(∀ sl' bx',Q .normal sl' bx'→K sl' bx')→A7q P own ops ops.toList sl bx (A5e ks K)):AWp ro P n (.region id ops false) Q sl bx :=
 AWp.reg ks own hd (h _ fun _ _ h=>h)
theorem AWp.tt {c:Operand} {x y:Code} (hc:opnd sl c=.d (.bool true))(h:AWp ro P n x Q sl bx):AWp ro P n (.cond c x y) Q sl bx:=AWp.cond hc (fun _=>h) (by simp)
theorem AWp.ff {c:Operand} {x y:Code} (hc:opnd sl c=.d (.bool false))(h:AWp ro P n y Q sl bx):AWp ro P n (.cond c x y) Q sl bx:=AWp.cond hc (by simp) (fun _=>h)
end steps
end Go.Abs
namespace Go.Abs
open Go
variable {ro:Option Nat} {P:Program} {n:Nat} {Q:Exit→SL→A0b→Prop} {sl:SL} {bx:A0b}
theorem A1p.pub {f:FuncId} {args:List SV} {q sz:Nat} {rs:List (List D)} (h:A1p P f args [] (.acc q) [(q,.rows sz rs)]):A0a P f args (.d (.slice rs)):=by refine⟨h.1,fun C β vs hi hv=>(h.2 C β vs hi hv).mono ?_⟩;rintro e w' ⟨v,S',β',rfl,hk,hv⟩;obtain⟨h1,_,h3⟩:=hk.publish (k:=q) (sz:=sz) (rs:=rs) (by simp);cases hv;exact⟨_,_,β',rfl,h1.sub (by simp),.d _ _ h3⟩
variable {c:Operand}
theorem AWp.goOn {y z:Code} (hc:opnd sl c=.d (.bool true))(h:AWp ro P n z Q sl bx):AWp ro P n (.seq (.cond c .skip y) z) Q sl bx :=
 AWp.seq (AWp.tt hc (AWp.kk h))
theorem AWp.stop {x z:Code} {id:Nat} (hc:opnd sl c=.d (.bool false))(h:Q (.exit id) sl bx):AWp ro P n (.seq (.cond c x (.exit id)) z) Q sl bx :=
 AWp.seq (AWp.ff hc (AWp.xx h))
variable {K:SL→A0b→Prop}
theorem AWp.ifRetK {x z:Code} {b:Bool} (hc:opnd sl c=.d (.bool b))(hK:∀ sl' bx',AWp ro P n z Q sl' bx'→K sl' bx')
  (h1:b=true→AWp ro P n x (A0c (fun _ _=>False) Q) sl bx) (h2:b=false→AWp ro P n z Q sl bx):AWp ro P n (.cond c x .skip) (A0c K Q) sl bx :=
 AWp.cond hc (fun hb=>(h1 hb).mono fun e _ _ hq=>by cases e <;> first | exact hq.elim | exact hq) (fun hb=>AWp.kk (hK _ _ (h2 hb)))
theorem AWp.takeIfK {x y:Code} (hc:opnd sl c=.d (.bool true))(h1:AWp ro P n x (A0c (fun _ _=>False) Q) sl bx):AWp ro P n (.cond c x y) (A0c K Q) sl bx :=
 AWp.tt hc (h1.mono fun e _ _ hq=>by cases e <;> first | exact hq.elim | exact hq)
theorem AWp.skipIfK {x z:Code} (hc:opnd sl c=.d (.bool false))(hK:∀ sl' bx',AWp ro P n z Q sl' bx'→K sl' bx')(h2:AWp ro P n z Q sl bx):AWp ro P n (.cond c x .skip) (A0c K Q) sl bx :=
 AWp.ff hc (AWp.kk (hK _ _ h2))
theorem AWp.goOnK {y z:Code} (hc:opnd sl c=.d (.bool true))(hK:∀ sl' bx',AWp ro P n z Q sl' bx'→K sl' bx')(h2:AWp ro P n z Q sl bx):AWp ro P n (.cond c .skip y) (A0c K Q) sl bx :=
 AWp.tt hc (AWp.kk (hK _ _ h2))
theorem AWp.ss {x:Code} {id:Nat} (hc:opnd sl c=.d (.bool false))(h:Q (.exit id) sl bx):AWp ro P n (.cond c x (.exit id)) (A0c K Q) sl bx :=
 AWp.ff hc (AWp.xx h)
theorem AWp.ii {α X:Type} (L:List α)(mk:Nat→X→SL)(mb:Nat→X→A0b)(I:Nat→X→Prop) {c:Code} (x0:X)(h0:I 0 x0)(h1:sle sl (mk 0 x0))(h2:ble bx (mb 0 x0))
  (last:∀ x,I L.length x→AWp ro P n c (A0c (fun _ _=>False) Q) (mk L.length x) (mb L.length x))
  (step:∀ j x a,L[j]? = some a→a∈L→L.drop j=a::L.drop (j+1)→L.take (j+1)=L.take j++[a]→(j:Int) < (L.length:Int)→I j x →
   AWp ro P n c (A0c (fun sl' bx'=>∃ x',I (j+1) x'∧sle sl' (mk (j+1) x')∧ble bx' (mb (j+1) x')) Q) (mk j x) (mb j x)):AWp ro P n (.loop c) Q sl bx:=by
 refine AWp.loop (X:=Nat × X) (fun x=>mk x.1 x.2) (fun x=>mb x.1 x.2) (fun x=>x.1≤L.length∧I x.1 x.2) (fun x=>L.length - x.1) (0,x0) ⟨by simp,h0⟩ h1 h2 ?_;rintro⟨j,x⟩ ⟨hj,hI⟩;simp only at hj hI;by_cases hlt:j < L.length
 ·refine (step j x L[j] (List.getElem?_eq_getElem hlt) (List.getElem_mem hlt) (List.drop_eq_getElem_cons hlt) (List.take_succ_eq_append_getElem hlt) (by omega) hI).mono ?_;intro e sl' bx' hq;cases e with
  | normal=>obtain⟨x',g1,g2,g3⟩:=hq;exact⟨(j+1,x'),⟨by simp only;omega,g1⟩,by simp only;omega,g2,g3⟩
  | _=>exact hq
 ·have:j=L.length:=by omega
  subst this;refine (last x hI).mono ?_;intro e sl' bx' hq;cases e with
  | normal=>exact hq.elim
  | _=>exact hq
theorem G5i (l:List UInt8):(ByteArray.mk ⟨l⟩).size=l.length:=rfl
theorem G4r {n:Nat} (h:n≤1000):(n≤lim)=True:=by simp only [eq_iff_iff,iff_true];unfold lim;omega
end Go.Abs
