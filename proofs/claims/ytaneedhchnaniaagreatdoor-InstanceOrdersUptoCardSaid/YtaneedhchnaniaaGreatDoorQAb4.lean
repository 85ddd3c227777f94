/- The operations as one function; shapes of code; drawn regions with a new variable. Own framework. -/
import Derived.IntWalk
import Derived.Test.YtaneedhchnaniaaGreatDoorQAb3
set_option linter.unusedVariables false
set_option linter.unusedSimpArgs false
namespace Go.Abs
open Go
variable {P:Program}
def InR (x:Int):Prop:=-9223372036854775808≤x∧x < 9223372036854775808
theorem wrap_i64 {x:Int} (h:InR x):IntKind.i64.wrap x=x:=IntWalk.i64_in x (by unfold InR at h;omega)
def arK (op:BinOp)(k:IntKind)(x y:Int)(K:SV→Prop):Prop :=
 match k,op with
 | .i64,.add=>InR (x+y)∧K (.d (.int .i64 (x+y)))
 | .i64,.sub=>InR (x - y)∧K (.d (.int .i64 (x - y)))
 | .i64,.mul=>InR (x*y)∧K (.d (.int .i64 (x*y)))
 | .i64,.quo=>y≠0∧InR (x.tdiv y)∧K (.d (.int .i64 (x.tdiv y)))
 | k,.add=>K (.d (.int k (k.wrap (x+y))))
 | k,.sub=>K (.d (.int k (k.wrap (x - y))))
 | k,.mul=>K (.d (.int k (k.wrap (x*y))))
 | k,.quo=>y≠0∧K (.d (.int k (k.wrap (x.tdiv y))))
 | k,.rem=>y≠0∧K (.d (.int k (x.tmod y)))
 | _,.eql=>K (.d (.bool (decide (x=y))))
 | _,.neq=>K (.d (.bool (decide (x≠y))))
 | _,.lss=>K (.d (.bool (decide (x < y))))
 | _,.leq=>K (.d (.bool (decide (x≤y))))
 | _,.gtr=>K (.d (.bool (decide (y < x))))
 | _,.geq=>K (.d (.bool (decide (y≤x))))
 | _,_=>False
def isPtrT (P:Program)(t:TypeId):Bool:=(P.underlying t).any (fun d=>match d with | .pointer _=>true | _=>false)
def isIfaceT (P:Program)(t:TypeId):Bool:=(P.underlying t).any (fun d=>match d with | .interface _=>true | _=>false)
def strK:BinOp→Str→Str→(SV→Prop)→Prop
 | .add,a,b,K=>a.length+b.length≤lim∧K (.d (.str (a++b)))
 | .eql,a,b,K=>K (.d (.bool (decide (a=b))))
 | .neq,a,b,K=>K (.d (.bool (decide (a≠b))))
 | .lss,a,b,K=>K (.d (.bool (Op.bytesLess a b)))
 | .gtr,a,b,K=>K (.d (.bool (Op.bytesLess b a)))
 | _,_,_,_=>False
def boolK:BinOp→Bool→Bool→(SV→Prop)→Prop
 | .eql,a,b,K=>K (.d (.bool (a == b)))
 | .neq,a,b,K=>K (.d (.bool (!(a == b))))
 | _,_,_,_=>False
def nilK:BinOp→Option Bool→(SV→Prop)→Prop
 | .eql,some b,K=>K (.d (.bool b))
 | .neq,some b,K=>K (.d (.bool (!b)))
 | _,_,_=>False
def intK (op:BinOp)(k j:IntKind)(a b:Int)(K:SV→Prop):Prop :=
 match op with
 | .shr=>0≤b∧K (.d (.int k (a.fdiv (2 ^ min b.toNat k.bits))))
 | .shl=>0≤b∧K (.d (.int k (k.wrap (a*2 ^ min b.toNat k.bits))))
 | op=>k=j∧arK op k a b K
def binK (P:Program)(op:BinOp)(t:TypeId)(c:Bool)(H:Prop):SV→SV→(SV→Prop)→Prop
 | .d (.int k a),.d (.int j b),K=>intK op k j a b K
 | .d (.str a),.d (.str b),K=>strK op a b K
 | .d (.bool a),.d (.bool b),K=>P.underlying t=some .bool∧boolK op a b K
 | .d .niliface,.d .niliface,K=>c=true∧isIfaceT P t=true∧nilK op (some true) K
 | .d (.iface _ _),.d .niliface,K=>c=true∧isIfaceT P t=true∧nilK op (some false) K
 | x,.d .nilptr,K=>isPtrT P t=true∧nilK op (ptrNil x) K
 | x,.d .nil,K=>(selem P t).isSome=true∧nilK op (sliceNil x) K
 | .agg _,.agg _,_=>H
 | _,_,_=>False
def Quiet (P:Program)(o:Oper)(sl:SL)(bx:Boxes)(K:SV→Prop):Prop:=∃ r,OpT P o (opnd sl) bx r bx []∧K r
variable {o:Oper} {sl:SL} {bx:Boxes} {K:SV→Prop}
theorem arK_sound {op:BinOp} {t u:TypeId} {x y:Operand} (ho:o.op=.binOp op t x y u) {k:IntKind} {a b:Int} (hx:opnd sl x=.d (.int k a))(hy:opnd sl y=.d (.int k b))(h:arK op k a b K):Quiet P o sl bx K:=by
 have cmp:∀ {c:Bool},cmpInt op a b=some c→K (.d (.bool c))→Quiet P o sl bx K:=fun hc hK=>⟨_,opT_cmpInt ho hx hy hc,hK⟩
 have ar:∀ {c:Int},arInt op k a b=some c→K (.d (.int k c))→Quiet P o sl bx K:=fun hc hK=>⟨_,opT_arInt ho hx hy hc,hK⟩
 have w:∀ {z:Int},k=.i64→InR z→k.wrap z=z:=fun hk hz=>by subst hk;exact wrap_i64 hz
 unfold arK at h
 split at h
 ·exact ar rfl (by rw [w rfl h.1];exact h.2)
 ·exact ar rfl (by rw [w rfl h.1];exact h.2)
 ·exact ar rfl (by rw [w rfl h.1];exact h.2)
 ·exact⟨_,opT_quo ho hx hy h.1,by rw [w rfl h.2.1];exact h.2.2⟩
 ·exact ar rfl h
 ·exact ar rfl h
 ·exact ar rfl h
 ·exact⟨_,opT_quo ho hx hy h.1,h.2⟩
 ·exact⟨_,opT_rem ho hx hy h.1,h.2⟩
 ·exact cmp rfl h
 ·exact cmp rfl h
 ·exact cmp rfl h
 ·exact cmp rfl h
 ·exact cmp rfl h
 ·exact cmp rfl h
 ·exact h.elim
theorem opT_shift {op:BinOp} {t u:TypeId} {x y:Operand} (ho:o.op=.binOp op t x y u) {k j:IntKind} {m n r:Int} (hx:opnd sl x=.d (.int k m))(hy:opnd sl y=.d (.int j n))(hn:0≤n)
  (hr:(op=.shr∧r=m.fdiv (2 ^ min n.toNat k.bits))∨(op=.shl∧r=k.wrap (m*2 ^ min n.toNat k.bits))):OpT P o (opnd sl) bx (.d (.int k r)) bx [] :=
 .of_value fun _ _ w _ a _ ha=>by
  have h1:=(ha x (mC ho));rw [hx] at h1;have h1:=h1.inv_int
  have h2:=(ha y (mC ho));rw [hy] at h2;have h2:=h2.inv_int
  refine⟨.int k r,?_,.int k r⟩
  have hn':¬ n < 0:=by omega
  rcases hr with ⟨rfl,rfl⟩ | ⟨rfl,rfl⟩ <;> simp [execOp,ho,h1,h2,eqGuard_int,binOp,Op.shift,hn']
theorem binK_sound {op:BinOp} {t u:TypeId} {x y:Operand} (ho:o.op=.binOp op t x y u) {H:Prop} (hH:H→Quiet P o sl bx K)(h:binK P op t (nilC y) H (opnd sl x) (opnd sl y) K):Quiet P o sl bx K:=by
 unfold binK at h
 split at h
 ·rename_i hx hy
  unfold intK at h
  split at h
  ·exact⟨_,opT_shift ho hx hy h.1 (.inl ⟨rfl,rfl⟩),h.2⟩
  ·exact⟨_,opT_shift ho hx hy h.1 (.inr ⟨rfl,rfl⟩),h.2⟩
  ·obtain⟨rfl,h⟩:=h;exact arK_sound ho hx hy h
 ·rename_i hx hy
  unfold strK at h
  split at h
  ·exact⟨_,opT_addStr ho hx hy h.1,h.2⟩
  ·exact⟨_,opT_cmpStr ho hx hy rfl,h⟩
  ·exact⟨_,opT_cmpStr ho hx hy rfl,h⟩
  ·exact⟨_,opT_cmpStr ho hx hy rfl,h⟩
  ·exact⟨_,opT_cmpStr ho hx hy rfl,h⟩
  ·exact h.elim
 ·rename_i hx hy
  obtain⟨ht,h⟩:=h
  unfold boolK at h
  split at h
  ·exact⟨_,opT_cmpBool ho ht hx hy rfl,h⟩
  ·exact⟨_,opT_cmpBool ho ht hx hy rfl,h⟩
  ·exact h.elim
 ·rename_i hx hy
  obtain⟨hc,ht,h⟩:=h
  unfold nilK at h
  split at h
  ·rename_i hb;exact⟨_,opT_ifaceNil ho ht (by rw [hx];exact hb) hy hc rfl,h⟩
  ·rename_i hb;exact⟨_,opT_ifaceNil ho ht (by rw [hx];exact hb) hy hc rfl,h⟩
  ·exact h.elim
 ·rename_i hx hy
  obtain⟨hc,ht,h⟩:=h
  unfold nilK at h
  split at h
  ·rename_i hb;exact⟨_,opT_ifaceNil ho ht (by rw [hx];exact hb) hy hc rfl,h⟩
  ·rename_i hb;exact⟨_,opT_ifaceNil ho ht (by rw [hx];exact hb) hy hc rfl,h⟩
  ·exact h.elim
 ·rename_i hy
  obtain⟨ht,h⟩:=h
  unfold nilK at h
  split at h
  ·rename_i hb;exact⟨_,opT_ptrNil ho ht hb hy rfl,h⟩
  ·rename_i hb;exact⟨_,opT_ptrNil ho ht hb hy rfl,h⟩
  ·exact h.elim
 ·rename_i hy
  obtain⟨ht,h⟩:=h
  obtain⟨e,ht⟩:=Option.isSome_iff_exists.1 ht
  unfold nilK at h
  split at h
  ·rename_i hb;exact⟨_,opT_sliceNil ho ht hb hy rfl,h⟩
  ·rename_i hb;exact⟨_,opT_sliceNil ho ht hb hy rfl,h⟩
  ·exact h.elim
 ·exact hH h
 ·exact h.elim
def OpQ (P:Program)(sl:SL)(bx:Boxes)(op:Op)(r:SV):Prop:=∀ o:Oper,o.op=op→OpT P o (opnd sl) bx r bx []
def hookK (P:Program)(sl:SL)(bx:Boxes)(op:Op)(K:SV→Prop):Prop:=∃ r,OpQ P sl bx op r∧K r
def OpB (P:Program)(sl:SL)(bx:Boxes)(dst:Option Nat)(op:Op)(r:SV)(bx':Boxes)(pg:List Nat):Prop:=∀ o:Oper,o.op=op→o.dst=dst→OpT P o (opnd sl) bx r bx' pg
def hookBK (P:Program)(sl:SL)(bx:Boxes)(dst:Option Nat)(op:Op)(K:SV→Boxes→List Nat→Prop):Prop:=∃ r bx' pg,OpB P sl bx dst op r bx' pg∧K r bx' pg
def someK {α:Type}:Option α→(α→Prop)→Prop
 | some c,K=>K c
 | none,_=>False
def fieldK:Option Nat→SV→(SV→Prop)→Prop
 | some d,.box k off,K=>K (.box k (off+d))
 | some d,.dptr c off,K=>K (.dptr c (off+d))
 | some d,.d (.ptr c),K=>K (.dptr c (0+d))
 | some d,.aptr k i off,K=>K (.aptr k i (off+d))
 | _,_,_=>False
def fplace (P:Program)(T:TypeId)(f:Nat):Option (Nat × Bool × Nat):=match P.underlying T with
 | some (.struct fs)=>match fs[f]? with
  | some fd=>match tagg P fd.type,tsize P fd.type with
   | some b,some n=>some (fd.offset,b,n)
   | _,_=>none
  | none=>none
 | _=>none
def fieldVK:Option (Nat × Bool × Nat)→SV→(SV→Prop)→Prop
 | some (d,true,n),.agg cs,K=>K (.agg (part cs d n))
 | some (d,false,_),.agg cs,K=>someK (cs[d]?) K
 | _,_,_=>False
def indexRows:Option BoxC→Nat→Nat→Int→(SV→Prop)→Prop
 | some (.rows sz rows),q,m,i,K=>sz=m∧0≤i∧i.toNat < rows.length∧K (.aptr q i.toNat 0)
 | _,_,_,_,_=>False
def indexK (bx:Boxes)(H:(SV→Prop)→Prop):Option Nat→SV→SV→(SV→Prop)→Prop
 | some m,.d (.slice rows),.d (.int _ i),K=>0≤i∧∃ row,rows[i.toNat]? = some row∧row.length=m∧K (.dptr row 0)
 | some m,.acc q,.d (.int _ i),K=>indexRows (bget bx q) q m i K
 | none,.box _ _,.d (.int _ _),K=>H K
 | none,.undef,.d (.int _ _),K=>H K
 | _,_,_,_=>False
def esize (P:Program)(T:Nat):Option Nat:=(selem P T).bind (tsize P)
def lenRows:Option BoxC→(SV→Prop)→Prop
 | some (.rows _ rows),K=>K (.d (.int .i64 rows.length))
 | _,_=>False
def lenMapK:Option TypeDesc→Option BoxC→(SV→Prop)→Prop
 | some (.map _ _),some (.map kvs),K=>K (.d (.int .i64 kvs.length))
 | _,_,_=>False
def lenK (P:Program)(bx:Boxes)(T:Nat):SV→(SV→Prop)→Prop
 | .d (.slice rows),K=>(selem P T).isSome=true∧K (.d (.int .i64 rows.length))
 | .d .nil,K=>(selem P T).isSome=true∧K (.d (.int .i64 0))
 | .d .emp,K=>(selem P T).isSome=true∧K (.d (.int .i64 0))
 | .d (.str s),K=>P.underlying T=some .string∧K (.d (.int .i64 s.length))
 | .acc q,K=>(selem P T).isSome=true∧lenRows (bget bx q) K
 | .mp q,K=>lenMapK (P.underlying T) (bget bx q) K
 | .d (.map kvs),K=>lenMapK (P.underlying T) (some (.map kvs)) K
 | _,_=>False
def cloK (P:Program)(args:List SV)(bx:Boxes)(H:(SV→Prop)→Prop):SV→(SV→Prop)→Prop
 | .clo f caps,K=>∃ r,((∃ args',coerceL [] (args++caps)=some args'∧CallOK P f args' r∧r.closed=true)∨(∃ args',coerceL bx (args++caps)=some args'∧CallOK P f args' r∧r.scalar=true))∧K r
 | _,K=>H K
def callQK (P:Program)(sl:SL)(bx:Boxes):Callee→List Operand→List TypeId→(SV→Prop)→Prop
 | .value fo,args,tys,K=>cloK P (args.map (opnd sl)) bx (hookK P sl bx (.call ⟨.value fo,args.toArray,tys.toArray⟩)) (opnd sl fo) K
 | .builtin .len,[x],[T],K=>lenK P bx T (opnd sl x) K
 | c,args,tys,K=>hookK P sl bx (.call ⟨c,args.toArray,tys.toArray⟩) K
def pickK:SV→SV→SV→(SV→Prop)→Prop
 | .d (.bool t),x,y,K=>K (if t then x else y)
 | _,_,_,_=>False
def notK:SV→(SV→Prop)→Prop
 | .d (.bool b),K=>K (.d (.bool (!b)))
 | _,_=>False
def negK:SV→(SV→Prop)→Prop
 | .d (.int .i64 m),K=>InR (0 - m)∧K (.d (.int .i64 (0 - m)))
 | _,_=>False
def byteK (P:Program)(T:Nat):SV→SV→(SV→Prop)→Prop
 | .d (.str s),.d (.int _ i),K=>P.underlying T=some .string∧0≤i∧∃ c,s[i.toNat]? = some c∧K (.d (.int .u8 c.toNat))
 | _,_,_=>False
def extractK:SV→Nat→(SV→Prop)→Prop
 | .tuple xs,i,K=>someK (xs[i]?) K
 | _,_,_=>False
def nilCheckK:SV→(SV→Prop)→Prop
 | .box k off,K=>K (.box k off)
 | .dptr c off,K=>K (.dptr c off)
 | .d (.ptr c),K=>K (.d (.ptr c))
 | _,_=>False
def convK (H:(SV→Prop)→Prop):Option TypeDesc→Option TypeDesc→SV→(SV→Prop)→Prop
 | some (.int _),some (.int k'),.d (.int _ m),K=>K (.d (.int k' (k'.wrap m)))
 | some .string,some .string,.d (.str t),K=>K (.d (.str t))
 | _,_,_,K=>H K
def ifaceK (T:Nat):SV→(SV→Prop)→Prop
 | .d y,K=>K (.d (.iface T y))
 | .agg cs,K=>∃ ds,cs=ds.map SV.d∧K (.d (.iface T (.agg ds)))
 | _,_=>False
def buildK:Option (List SV)→Option (List (Nat × Nat))→Option (List (Nat × List SV))→(SV→Prop)→Prop
 | some zs,some ps,some l,K=>someK (fillSV ps zs l) fun out=>out.all SV.one=true∧K (.agg out)
 | _,_,_,_=>False
def buildSliceK (m np:Nat):Option Nat→Option (List SV)→Option (List (List D))→(List (List D)→Prop)→Prop
 | some sz,some zs,some rows,K=>1≤sz∧zs.length=sz∧m*sz≤16777216∧np=m∧K rows
 | _,_,_,_=>False
def elemOf' (P:Program)(T:Nat):Nat:=(selem P T).getD 0
def lookK2 (ok:Bool)(kd:D)(kvs:List (D × D))(K:SV→Prop)(z:SV):Prop:=K (lookR ok kd kvs z)
def lookK1 (P:Program)(kt et:TypeId)(ok:Bool)(kvs:List (D × D))(K:SV→Prop)(kd:D):Prop :=
 KeyAt P kt kd∧someK (zone P et) (lookK2 ok kd kvs K)
def lookKB (P:Program)(kt et:TypeId)(ok:Bool)(x:SV)(K:SV→Prop):Option BoxC→Prop
 | some (.map kvs)=>keyT P kt=true∧(∀ kv,kv∈kvs→KeyAt P kt kv.1)∧someK (asD x) (lookK1 P kt et ok kvs K)
 | _=>False
def lookK (P:Program)(bx:Boxes)(ok:Bool)(x:SV):Option TypeDesc→SV→(SV→Prop)→Prop
 | some (.map kt et),.mp k,K=>lookKB P kt et ok x K (bget bx k)
 | some (.map kt et),.d (.map kvs),K=>keyT P kt=true∧(∀ kv,kv∈kvs→KeyAt P kt kv.1)∧someK (asD x) (lookK1 P kt et ok kvs K)
 | _,_,_=>False
def loV:Option SV→Option Int
 | none=>some 0
 | some (.d (.int _ i))=>some i
 | _=>none
def hiV (n:Nat):Option SV→Option Int
 | none=>some n
 | some (.d (.int _ i))=>some i
 | _=>none
def cutAt (n:Nat)(K:Nat→Nat→Prop):Option Int→Option Int→Prop
 | some l,some h=>0≤l∧l≤h∧h≤n∧K l.toNat h.toNat
 | _,_=>False
def cutRowsK (rows:List (List D))(lo hi:Option SV)(K:SV→Prop):Option Nat→Prop
 | some sz=>(∀ row,row∈rows→row.length=sz)∧cutAt rows.length (fun l h=>K (.d (.slice ((rows.take h).drop l)))) (loV lo) (hiV rows.length hi)
 | none=>False
def cutK (P:Program)(T:TypeId)(lo hi:Option SV):SV→(SV→Prop)→Prop
 | .d (.slice rows),K=>cutRowsK rows lo hi K (esize P T)
 | .d (.str s),K=>P.underlying T=some .string∧cutAt s.length (fun l h=>K (.d (.str ((s.take h).drop l)))) (loV lo) (hiV s.length hi)
 | _,_=>False
def quietK (P:Program)(sl:SL)(bx:Boxes):Op→(SV→Prop)→Prop
 | .move x,K=>K (opnd sl x)
 | .assign x,K=>K (opnd sl x)
 | .pick c x y,K=>pickK (opnd sl c) (opnd sl x) (opnd sl y) K
 | .load T x,K=>someK (loadSV P bx T (opnd sl x)) K
 | .binOp op t x y u,K=>binK P op t (nilC y) (hookK P sl bx (.binOp op t x y u) K) (opnd sl x) (opnd sl y) K
 | .unOp .not _ x,K=>notK (opnd sl x) K
 | .unOp .neg _ x,K=>negK (opnd sl x) K
 | .fieldAddr T x f,K=>fieldK (foff P T f) (opnd sl x) K
 | .field T x f,K=>fieldVK (fplace P T f) (opnd sl x) K
 | .indexAddr T x y,K=>indexK bx (hookK P sl bx (.indexAddr T x y)) (esize P T) (opnd sl x) (opnd sl y) K
 | .index T x y,K=>byteK P T (opnd sl x) (opnd sl y) K
 | .extract x i,K=>extractK (opnd sl x) i K
 | .nilCheck x,K=>nilCheckK (opnd sl x) K
 | .convert s d x,K=>convK (hookK P sl bx (.convert s d x)) (P.underlying s) (P.underlying d) (opnd sl x) K
 | .makeInterface T x,K=>isIfaceT P T=false∧(P.underlying T).isSome=true∧ifaceK T (opnd sl x) K
 | .build T parts,K=>buildK (tzero P T) (splaces P T) (partsSV (opnd sl) parts.toList) K
 | .buildSlice T m parts,K=>(selem P T).isSome=true∧buildSliceK m parts.size (tsize P (elemOf' P T)) (tzero P (elemOf' P T)) (rowsOf (opnd sl) ((tsize P (elemOf' P T)).getD 0) 0 parts.toList) fun rows=>K (.d (.slice rows))
 | .call c,K=>callQK P sl bx c.callee c.args.toList c.argTypes.toList K
 | .makeFunc (.func f) ⟨[]⟩ caps,K=>K (.clo f (caps.toList.map (opnd sl)))
 | .slice T x lo hi none,K=>cutK P T (lo.map (opnd sl)) (hi.map (opnd sl)) (opnd sl x) K
 | .lookup T m x ok,K=>lookK P bx ok (opnd sl x) (P.underlying T) (opnd sl m) K
 | op,K=>hookK P sl bx op K
theorem callQK_sound {c:Call} (ho:o.op=.call c)(h:callQK P sl bx c.callee c.args.toList c.argTypes.toList K):Quiet P o sl bx K:=by
 obtain⟨callee,args,tys⟩:=c
 simp only at h
 unfold callQK at h
 split at h
 ·rename_i fo _ _ _
  unfold cloK at h
  split at h
  ·rename_i hf
   obtain⟨r,h1 | h1,hK⟩:=h
   ·obtain⟨args',h2,h3,h4⟩:=h1
    exact⟨_,opT_call ho hf h2 h3 h4,hK⟩
   ·obtain⟨args',h2,h3,h4⟩:=h1
    exact⟨_,opT_callLend ho hf h2 h3 h4,hK⟩
  ·obtain⟨r,h1,h2⟩:=h
   exact⟨r,h1 o ho,h2⟩
 ·rename_i x T hx hT
  have hx':args = #[x]:=by apply Array.ext';simpa using hx
  have hT':tys = #[T]:=by apply Array.ext';simpa using hT
  subst hx' hT'
  unfold lenK at h
  split at h
  ·rename_i hx;obtain⟨e,he⟩:=Option.isSome_iff_exists.1 h.1;exact⟨_,opT_lenSlice ho hx he,h.2⟩
  ·rename_i hx;obtain⟨e,he⟩:=Option.isSome_iff_exists.1 h.1;exact⟨_,opT_lenNil ho (.inl hx) he,h.2⟩
  ·rename_i hx;obtain⟨e,he⟩:=Option.isSome_iff_exists.1 h.1;exact⟨_,opT_lenNil ho (.inr hx) he,h.2⟩
  ·rename_i hx;exact⟨_,opT_lenStr ho hx h.1,h.2⟩
  ·rename_i hx
   obtain⟨h1,h⟩:=h
   obtain⟨e,he⟩:=Option.isSome_iff_exists.1 h1
   unfold lenRows at h
   split at h
   ·rename_i hb;exact⟨_,opT_lenAcc ho hx (mem_of_bget hb) he,h⟩
   ·exact h.elim
  ·rename_i hx
   generalize hb:bget bx _=ob at h
   generalize hT:P.underlying _=ot at h
   unfold lenMapK at h
   split at h
   ·exact⟨_,opT_lenMap ho (by rw [hx];exact .mp _ _ (mem_of_bget hb)) hT,h⟩
   ·exact h.elim
  ·rename_i hx
   generalize hT:P.underlying _=ot at h
   unfold lenMapK at h
   split at h
   ·rename_i hb
    simp only [Option.some.injEq,BoxC.map.injEq] at hb
    subst hb
    exact⟨_,opT_lenMap ho (by rw [hx];exact .d _) hT,h⟩
   ·exact h.elim
  ·exact h.elim
 ·obtain⟨r,h1,h2⟩:=h
  exact⟨r,h1 o ho,h2⟩
theorem esize_spec {T m:Nat} (h:esize P T=some m):∃ e,selem P T=some e∧tsize P e=some m:=by
 unfold esize at h
 cases he:selem P T with
 | none=>simp [he] at h
 | some e=>exact⟨e,rfl,by simpa [he] using h⟩
theorem lookK_sound {T:TypeId} {m x:Operand} {ok:Bool} (ho:o.op=.lookup T m x ok)(h:lookK P bx ok (opnd sl x) (P.underlying T) (opnd sl m) K):Quiet P o sl bx K:=by
 have fin:∀ {kt et:TypeId} {kvs:List (D × D)},P.underlying T=some (.map kt et)→IsMap bx (opnd sl m) kvs→keyT P kt=true→(∀ kv,kv∈kvs→KeyAt P kt kv.1)→someK (asD (opnd sl x)) (lookK1 P kt et ok kvs K)→Quiet P o sl bx K:=by
  intro kt et kvs hT hm hk hall h
  unfold someK at h
  split at h
  ·rename_i hx
   obtain⟨h1,h⟩:=h
   unfold someK at h
   split at h
   ·rename_i hz;exact⟨_,opT_lookup ho hm hT hk hx h1 hall hz,h⟩
   ·exact h.elim
  ·exact h.elim
 generalize hm:opnd sl m=vm at h
 generalize hT:P.underlying T=vT at h
 unfold lookK at h
 split at h
 ·generalize hb:bget bx _=ob at h
  unfold lookKB at h
  split at h
  ·exact fin hT (by rw [hm];exact .mp _ _ (mem_of_bget hb)) h.1 h.2.1 h.2.2
  ·exact h.elim
 ·exact fin hT (by rw [hm];exact .d _) h.1 h.2.1 h.2.2
 ·exact h.elim
theorem fieldVK_sound {T:TypeId} {x:Operand} {f:Nat} (ho:o.op=.field T x f)(h:fieldVK (fplace P T f) (opnd sl x) K):Quiet P o sl bx K:=by
 generalize hp:fplace P T f=pl at h
 unfold fplace at hp
 split at hp
 ·rename_i fs hT
  split at hp
  ·rename_i fd hf
   split at hp
   ·rename_i b m ha hs
    subst hp
    unfold fieldVK at h
    split at h
    ·rename_i hq hx
     simp only [Option.some.injEq,Prod.mk.injEq] at hq
     obtain⟨hq1,hq2,hq3⟩:=hq
     subst hq1 hq2 hq3
     exact⟨_,opT_fieldAgg ho hx hT hf rfl rfl ha hs,h⟩
    ·rename_i hq hx
     simp only [Option.some.injEq,Prod.mk.injEq] at hq
     obtain⟨hq1,hq2,hq3⟩:=hq
     subst hq1 hq2 hq3
     unfold someK at h
     split at h
     ·rename_i hc;exact⟨_,opT_fieldOne ho hx hT hf rfl rfl ha hc,h⟩
     ·exact h.elim
    ·exact h.elim
   ·subst hp;exact h.elim
  ·subst hp;exact h.elim
 ·subst hp;exact h.elim
theorem loN_of {lo:Option Operand} {l:Int} (h:loV (lo.map (opnd sl))=some l)(h0:0≤l):loN (opnd sl) lo=some l.toNat:=by
 cases lo with
 | none=>simp only [Option.map_none,loV,Option.some.injEq] at h;subst h;rfl
 | some y =>
  simp only [Option.map_some] at h
  unfold loN
  simp only
  generalize opnd sl y=v at h
  cases v <;> simp only [loV,reduceCtorEq] at h
  rename_i d
  cases d <;> simp only [loV,reduceCtorEq] at h
  simp only [Option.some.injEq] at h
  subst h
  simp [h0]
theorem hiN_of {hi:Option Operand} {n:Nat} {l:Int} (h:hiV n (hi.map (opnd sl))=some l)(h0:0≤l):hiN (opnd sl) n hi=some l.toNat:=by
 cases hi with
 | none=>simp only [Option.map_none,hiV,Option.some.injEq] at h;subst h;rfl
 | some y =>
  simp only [Option.map_some] at h
  unfold hiN
  simp only
  generalize opnd sl y=v at h
  cases v <;> simp only [hiV,reduceCtorEq] at h
  rename_i d
  cases d <;> simp only [hiV,reduceCtorEq] at h
  simp only [Option.some.injEq] at h
  subst h
  simp [h0]
theorem cutAt_ex {n:Nat} {K:Nat→Nat→Prop} {a b:Option Int} (h:cutAt n K a b):∃ l k,a=some l∧b=some k∧0≤l∧l≤k∧k≤n∧K l.toNat k.toNat:=by
 unfold cutAt at h
 split at h
 ·exact⟨_,_,rfl,rfl,h⟩
 ·exact h.elim
theorem cutK_sound {T:TypeId} {x:Operand} {lo hi:Option Operand} (ho:o.op=.slice T x lo hi none)(h:cutK P T (lo.map (opnd sl)) (hi.map (opnd sl)) (opnd sl x) K):Quiet P o sl bx K:=by
 unfold cutK at h
 split at h
 ·rename_i hx
  generalize hs:esize P T=os at h
  cases os with
  | none=>exact h.elim
  | some sz =>
   obtain⟨e,hT,hs⟩:=esize_spec hs
   obtain⟨hr,h⟩:=h
   obtain⟨l,k,h1,h2,h3,h4,h5,h6⟩:=cutAt_ex h
   exact⟨_,opT_cutSlice ho hx hT hs hr (loN_of h1 h3) (hiN_of h2 (by omega)) (by omega) (by omega),h6⟩
 ·rename_i hx
  obtain⟨hT,h⟩:=h
  obtain⟨l,k,h1,h2,h3,h4,h5,h6⟩:=cutAt_ex h
  exact⟨_,opT_cutStr ho hx hT (loN_of h1 h3) (hiN_of h2 (by omega)) (by omega) (by omega),h6⟩
 ·exact h.elim
theorem quietK_sound (h:quietK P sl bx o.op K):Quiet P o sl bx K:=by
 unfold quietK at h
 split at h
 ·rename_i ho;exact⟨_,opT_move ho,h⟩
 ·rename_i ho;exact⟨_,opT_assign ho,h⟩
 ·rename_i ho
  unfold pickK at h
  split at h
  ·rename_i hc;exact⟨_,opT_pick ho hc,h⟩
  ·exact h.elim
 ·rename_i ho
  unfold someK at h
  split at h
  ·rename_i hc;exact⟨_,opT_load ho hc,h⟩
  ·exact h.elim
 ·rename_i ho;exact binK_sound ho (fun⟨r,h1,h2⟩=>⟨r,h1 _ ho,h2⟩) h
 ·rename_i ho
  unfold notK at h
  split at h
  ·rename_i hc;exact⟨_,opT_not ho hc,h⟩
  ·exact h.elim
 ·rename_i ho
  unfold negK at h
  split at h
  ·rename_i hc
   refine⟨_,opT_neg ho hc,?_⟩
   rw [wrap_i64 h.1];exact h.2
  ·exact h.elim
 ·rename_i ho
  unfold fieldK at h
  split at h
  ·rename_i hf hx;exact⟨_,opT_fieldBox ho hx hf,h⟩
  ·rename_i hf hx;exact⟨_,opT_fieldPtr ho (by rw [hx];exact .dptr _ _) hf,h⟩
  ·rename_i hf hx;exact⟨_,opT_fieldPtr ho (by rw [hx];exact .ptr _) hf,h⟩
  ·rename_i hf hx;exact⟨_,opT_fieldAptr ho hx hf,h⟩
  ·exact h.elim
 ·rename_i ho;exact fieldVK_sound ho h
 ·rename_i ho
  unfold indexK at h
  split at h
  ·rename_i hs hx hy
   obtain⟨e,hT,hs⟩:=esize_spec hs
   obtain⟨h0,row,hr,hl,hK⟩:=h
   exact⟨_,opT_indexSlice ho hx hy hT hs h0 hr hl,hK⟩
  ·rename_i hs hx hy
   obtain⟨e,hT,hs⟩:=esize_spec hs
   generalize hb:bget bx _=ob at h
   cases ob with
   | none=>exact h.elim
   | some bc =>
    cases bc with
    | rows sz rows =>
     obtain⟨h1,h2,h3,h4⟩:=h
     exact⟨_,opT_indexAcc ho hx (mem_of_bget hb) hy hT hs h1 h2 h3,h4⟩
    | cells _=>exact h.elim
    | map _=>exact h.elim
    | iter _ _=>exact h.elim
    | ghost _ _=>exact h.elim
  ·obtain⟨r,h1,h2⟩:=h
   exact⟨r,h1 _ ho,h2⟩
  ·obtain⟨r,h1,h2⟩:=h
   exact⟨r,h1 _ ho,h2⟩
  ·exact h.elim
 ·rename_i ho
  unfold byteK at h
  split at h
  ·rename_i hx hy
   obtain⟨h1,h2,c,h3,h4⟩:=h
   exact⟨_,opT_indexStr ho hx hy h1 h2 h3,h4⟩
  ·exact h.elim
 ·rename_i ho
  unfold extractK at h
  split at h
  ·rename_i hx
   unfold someK at h
   split at h
   ·rename_i hr;exact⟨_,opT_extract ho hx hr,h⟩
   ·exact h.elim
  ·exact h.elim
 ·rename_i ho
  unfold nilCheckK at h
  split at h
  ·rename_i hx;exact⟨_,opT_nilBox ho hx,h⟩
  ·rename_i hx;exact⟨_,opT_nilPtr ho (by rw [hx];exact .dptr _ _),by rw [hx];exact h⟩
  ·rename_i hx;exact⟨_,opT_nilPtr ho (by rw [hx];exact .ptr _),by rw [hx];exact h⟩
  ·exact h.elim
 ·rename_i ho
  unfold convK at h
  split at h
  ·rename_i hs hd hx;exact⟨_,opT_convInt ho hs hd hx,h⟩
  ·rename_i hs hd hx;exact⟨_,opT_convStr ho hs hd hx,h⟩
  ·obtain⟨r,h1,h2⟩:=h
   exact⟨r,h1 o ho,h2⟩
 ·rename_i ho
  obtain⟨h1,h2,h⟩:=h
  obtain⟨d,hd⟩:=Option.isSome_iff_exists.1 h2
  have hn:(match d with | .interface _=>false | _=>true)=true:=by
   unfold isIfaceT at h1
   rw [hd] at h1
   cases d <;> simp_all
  unfold ifaceK at h
  split at h
  ·rename_i hx;exact⟨_,opT_makeInterface ho hx hd hn,h⟩
  ·rename_i hx
   obtain⟨ds,h3,h4⟩:=h
   exact⟨_,opT_makeInterfaceAgg ho (by rw [hx,h3]) hd hn,h4⟩
  ·exact h.elim
 ·rename_i ho
  unfold buildK at h
  split at h
  ·rename_i hz hp hl
   unfold someK at h
   split at h
   ·rename_i hf;exact⟨_,opT_build ho hz hp hl hf h.1,h.2⟩
   ·exact h.elim
  ·exact h.elim
 ·rename_i T m parts ho
  obtain⟨h0,h⟩:=h
  obtain⟨e,hT⟩:=Option.isSome_iff_exists.1 h0
  have he:elemOf' P T=e:=by unfold elemOf';rw [hT];rfl
  rw [he] at h
  unfold buildSliceK at h
  split at h
  ·rename_i hs hz hr
   obtain⟨h0,h1,h2,h3,h4⟩:=h
   rw [hs] at hr
   have hlim:∀ {m sz:Nat},m*sz≤16777216→1≤sz→m≤lim:=fun {m sz} h h'=>by
    have:m*1≤m*sz:=Nat.mul_le_mul_left _ h'
    unfold lim;omega
   exact⟨_,opT_buildSlicePub ho hT hs hz h1 h2 h3 hr (hlim h2 h0),h4⟩
  ·exact h.elim
 ·rename_i ho;exact callQK_sound ho h
 ·rename_i ho;exact⟨_,opT_makeFunc ho,h⟩
 ·rename_i ho;exact cutK_sound ho h
 ·rename_i ho;exact lookK_sound ho h
 ·obtain⟨r,h1,h2⟩:=h
  exact⟨r,h1 o rfl,h2⟩
end Go.Abs
namespace Go.Abs
open Go
variable {P:Program} {o:Oper} {sl:SL} {bx:Boxes}
def ebytes (P:Program)(e:TypeId):Option Nat:=(P.info? e).map (·.bytes)
abbrev KB:=SV→Boxes→List Nat→Prop
def appRowsK (bytes sz:Nat)(xs:List (List D))(bx:Boxes)(k:Nat):Option BoxC→KB→Prop
 | some (.rows sz' rs),K=>sz'=sz∧k≤999999∧(rs.length+xs.length)*bytes≤lim∧K (.acc k) ((k,.rows sz (rs++xs))::bpurge k (berase k bx)) [k]
 | _,_=>False
def appToK (bytes sz:Nat)(xs:List (List D))(bx:Boxes):SV→Option Nat→KB→Prop
 | .acc k,_,K=>appRowsK bytes sz xs bx k (bget bx k) K
 | .d .nil,some k,K=>k≤999999∧xs.length*bytes≤lim∧K (.acc k) ((k,.rows sz xs)::bpurge k (berase k bx)) [k]
 | _,_,_=>False
def srcRowsK (bytes sz:Nat)(bx:Boxes)(x:SV)(dst:Option Nat):Option BoxC→KB→Prop
 | some (.rows sz' xs),K=>sz'=sz∧appToK bytes sz xs bx x dst K
 | _,_=>False
def srcK (bytes sz:Nat)(bx:Boxes)(x:SV)(dst:Option Nat):SV→KB→Prop
 | .d .nil,K=>appToK bytes sz [] bx x dst K
 | .d .emp,K=>appToK bytes sz [] bx x dst K
 | .d (.slice xs),K=>(∀ row,row∈xs→row.length=sz)∧appToK bytes sz xs bx x dst K
 | .acc q,K=>srcRowsK bytes sz bx x dst (bget bx q) K
 | _,_=>False
def appendK (bx:Boxes)(dst:Option Nat)(x y:SV):Option Nat→Option (List SV)→Option Nat→KB→Prop
 | some sz,some zs,some bytes,K=>zs.length=sz∧bytes≠0∧srcK bytes sz bx x dst y K
 | _,_,_,_=>False
def storeRowsK (bx:Boxes)(k i off:Nat)(us:List SV):Option BoxC→KB→Prop
 | some (.rows sz rows),K=>∃ row ds,rows[i]? = some row∧us=ds.map SV.d∧off+us.length≤row.length∧K (.tuple []) ((k,.rows sz (rows.set i (setAll row off ds)))::berase k bx) []
 | _,_=>False
def storeCellsK (bx:Boxes)(k off:Nat)(us:List SV):Option BoxC→KB→Prop
 | some (.cells cs),K=>off+us.length≤cs.length∧K (.tuple []) ((k,.cells (setAll cs off us))::berase k bx) []
 | _,_=>False
def storeK (bx:Boxes)(size:Option Nat):SV→Option (List SV)→KB→Prop
 | .box k off,some us,K=>size=some us.length∧storeCellsK bx k off us (bget bx k) K
 | .aptr k i off,some us,K=>size=some us.length∧storeRowsK bx k i off us (bget bx k) K
 | _,_,_=>False
def cloAccK (P:Program)(args:List SV)(bx:Boxes):SV→Option Nat→KB→Prop
 | .clo f caps,some k,K=>k≤999999∧∃ args' q sz rows r,coerceL [] (args++caps)=some args'∧CallB P f args' [] r [(q,.rows sz rows)]∧K (accRes q k r) ((k,.rows sz rows)::bpurge k (berase k bx)) [k]
 | _,_,_=>False
def newBoxK (bx:Boxes):Option Nat→Option (List SV)→KB→Prop
 | some k,some cs,K=>k≤999999∧K (.box k 0) ((k,.cells (cs.map (spurge k)))::bpurge k (berase k bx)) [k]
 | _,_,_=>False
def ownRowsK (bx:Boxes):Option Nat→Option Nat→List (List D)→KB→Prop
 | some k,some sz,rows,K=>k≤999999∧K (.acc k) ((k,.rows sz rows)::bpurge k (berase k bx)) [k]
 | _,_,_,_=>False
def newMapK (bx:Boxes):Option Nat→KB→Prop
 | some k,K=>k≤999999∧K (.mp k) ((k,.map [])::bpurge k (berase k bx)) [k]
 | _,_=>False
def updK2 (bx:Boxes)(k:Nat)(K:KB)(kvs:List (D × D))(kd vd:D):Prop:=K (.tuple []) ((k,.map (kput kd vd kvs))::berase k bx) []
def updK1 (P:Program)(bx:Boxes)(k:Nat)(y:SV)(K:KB)(kt:TypeId)(kvs:List (D × D))(kd:D):Prop:=KeyAt P kt kd∧someK (asD y) (updK2 bx k K kvs kd)
def updK (P:Program)(bx:Boxes)(k:Nat)(x y:SV)(K:KB)(kt:TypeId):Option BoxC→Prop
 | some (.map kvs)=>keyT P kt=true∧(∀ kv,kv∈kvs→KeyAt P kt kv.1)∧someK (asD x) (updK1 P bx k y K kt kvs)
 | _=>False
def mapUpdK (P:Program)(bx:Boxes)(x y:SV):Option TypeDesc→SV→KB→Prop
 | some (.map kt _),.mp k,K=>updK P bx k x y K kt (bget bx k)
 | _,_,_=>False
def sliceRowsK (bx:Boxes)(sz k:Nat)(i:Int)(K:KB):Option BoxC→Prop
 | some (.rows sz' rs)=>sz'=sz∧0≤i∧i≤rs.length∧K (.acc k) ((k,.rows sz (rs.drop i.toNat))::bpurge k (berase k bx)) [k]
 | _=>False
def sliceK (bx:Boxes):Option Nat→SV→SV→KB→Prop
 | some sz,.acc k,.d (.int _ i),K=>k≤999999∧sliceRowsK bx sz k i K (bget bx k)
 | _,_,_,_=>False
def lendKey:List SV→Option Nat
 | []=>none
 | .mp k::_=>some k
 | .box k _::_=>some k
 | _::r=>lendKey r
def lendAcc (own:List Nat):List SV→Option Nat
 | []=>none
 | .acc k::r=>if own.contains (500000+k)=true then some k else lendAcc own r
 | _::r=>lendAcc own r
def orElse (a b:Option Nat):Option Nat:=match a with
 | some k=>some k
 | none=>b
def cloBoxK (P:Program)(args:List SV)(bx:Boxes)(k:Nat):SV→Option BoxC→KB→Prop
 | .clo f caps,some c,K=>c.closed=true∧∃ args' r c',lendL k 1000000 (args++caps)=some args'∧c'.closed=true ∧
   CallB P f args' [(1000000,c)] r [(1000000,c')]∧r.closed=true∧K r ((k,c')::berase k bx) []
 | _,_,_=>False
def liftK (bx:Boxes)(K:KB):SV→Prop:=fun r=>K r bx []
theorem liftK_app (bx:Boxes)(K:KB)(r:SV):liftK bx K r=K r bx []:=rfl
def callVK (P:Program)(sl:SL)(bx:Boxes)(fo:Operand)(args:List Operand)(tys:List TypeId):Option Nat→KB→Prop
 | none,K=>callQK P sl bx (.value fo) args tys (liftK bx K)
 | some k,K=>cloBoxK P (args.map (opnd sl)) bx k (opnd sl fo) (bget bx k) K
def unD:List SV→Option (List D)
 | []=>some []
 | .d x::r=>match unD r with
  | some l=>some (x::l)
  | none=>none
 | _::_=>none
theorem unD_map:∀ {zs:List SV} {zd:List D},unD zs=some zd→zs=zd.map SV.d
 | [],zd,h=>by simp only [unD,Option.some.injEq] at h;subst h;rfl
 | x::r,zd,h=>by
  cases x <;> simp only [unD,reduceCtorEq] at h
  cases hr:unD r with
  | none=>simp [hr] at h
  | some l =>
   simp only [hr,Option.some.injEq] at h
   subst h
   rw [unD_map hr];rfl
def makeZK (bx:Boxes)(k sz:Nat)(n:Int)(K:KB):Option (List D)→Prop
 | some zd=>zd.all D.one=true∧K (.acc k) ((k,.rows sz (List.replicate n.toNat zd))::bpurge k (berase k bx)) [k]
 | none=>False
def makeK (bx:Boxes):Option Nat→SV→SV→Option Nat→Option (List SV)→Option Nat→KB→Prop
 | some k,.d (.int _ n),.d (.int _ m),some sz,some zs,some bytes,K=>k≤999999∧1≤sz∧zs.length=sz∧bytes≠0∧0≤n∧n≤m∧m*(bytes:Int)≤(lim:Int)∧makeZK bx k sz n K (unD zs)
 | _,_,_,_,_,_,_=>False
def copyToK (bx:Boxes)(k sz:Nat)(xs:List (List D))(K:KB):Option BoxC→Prop
 | some (.rows sz' rs)=>sz'=sz∧xs.length≤rs.length∧K (.d (.int .i64 xs.length)) ((k,.rows sz (xs++rs.drop xs.length))::berase k bx) []
 | _=>False
def copySrcK (bx:Boxes)(k sz:Nat)(K:KB):Option BoxC→Prop
 | some (.rows sz' xs)=>sz'=sz∧copyToK bx k sz xs K (bget bx k)
 | _=>False
def copyK (bx:Boxes):Option Nat→SV→SV→KB→Prop
 | some sz,.acc k,.d (.slice xs),K=>(∀ row,row∈xs→row.length=sz)∧copyToK bx k sz xs K (bget bx k)
 | some sz,.acc k,.d .nil,K=>copyToK bx k sz [] K (bget bx k)
 | some sz,.acc k,.acc q,K=>copySrcK bx k sz K (bget bx q)
 | _,_,_,_=>False
def isAcc:SV→Bool
 | .acc _=>true
 | _=>false
def isOwn (own:List Nat):Option Nat→Bool
 | some k=>own.contains k
 | none=>false
def yldK (P:Program)(bx:Boxes)(Y:Yld)(l:Nat)(K:KB):Option Nat→List SV→Prop
 | some j,[x]=>∃ y,coerce [] x=some y∧Y.P=P∧Y.l=l∧j < Y.N∧Y.xs j=y∧K (.d (.bool (Y.go j))) ((1000000,.ghost Y (Y.next j))::berase 1000000 bx) []
 | _,_=>False
def ghostCloK (P:Program)(bx:Boxes)(Y:Yld)(st:Option Nat)(args:List SV)(K:KB):SV→Prop
 | .clo f caps=>∃ args' r st',coerceL [] (args++caps)=some args'∧CallB P f args' [(1000000,.ghost Y st)] r [(1000000,.ghost Y st')]∧r.closed=true∧K r ((1000000,.ghost Y st')::berase 1000000 bx) []
 | .yld l=>yldK P bx Y l K st args
 | _=>False
def ghostK (P:Program)(bx:Boxes)(f:SV)(args:List SV)(K:KB):Option BoxC→Prop
 | some (.ghost Y st)=>ghostCloK P bx Y st args K f
 | _=>False
def isGhost (own:List Nat):Option Nat→Bool
 | some k=>own.contains (700000+k)
 | none=>own.contains 799999
def callGK (P:Program)(lst:List Nat)(sl:SL)(bx:Boxes)(fo:Operand)(args:List Operand)(tys:List TypeId)(K:KB):Bool→Prop
 | true=>ghostK P bx (opnd sl fo) (args.map (opnd sl)) K (bget bx 1000000)
 | false=>callVK P sl bx fo args tys (orElse (lendAcc lst (args.map (opnd sl))) (lendKey (args.map (opnd sl)))) K
def isHook (own:List Nat):Option Nat→Bool
 | some k=>own.contains (800000+k)
 | none=>false
def callHK (P:Program)(lst:List Nat)(sl:SL)(bx:Boxes)(dst:Option Nat)(fo:Operand)(args:List Operand)(tys:List TypeId)(K:KB):Bool→Prop
 | true=>hookBK P sl bx dst (.call ⟨.value fo,args.toArray,tys.toArray⟩) K
 | false=>callGK P lst sl bx fo args tys K (isGhost lst dst)
def callK (P:Program)(own:Bool)(lst:List Nat)(sl:SL)(bx:Boxes)(dst:Option Nat):Callee→List Operand→List TypeId→KB→Prop
 | .builtin .append,[x,y],[T,U],K=>notInt P U=true∧(selem P T).isSome=true∧appendK bx dst (opnd sl x) (opnd sl y) (tsize P (elemOf' P T)) (tzero P (elemOf' P T)) (ebytes P (elemOf' P T)) K
 | .builtin .copy,[x,y],[T,_],K=>copyK bx (esize P T) (opnd sl x) (opnd sl y) K
 | .value fo,args,tys,K=>match own with
  | true=>cloAccK P (args.map (opnd sl)) bx (opnd sl fo) dst K
  | false=>callHK P lst sl bx dst fo args tys K (isHook lst dst)
 | .builtin .delete,args,tys,K=>hookBK P sl bx dst (.call ⟨.builtin .delete,args.toArray,tys.toArray⟩) K
 | c,args,tys,K=>callQK P sl bx c args tys (liftK bx K)
def opK (P:Program)(own:List Nat)(dst:Option Nat)(sl:SL)(bx:Boxes):Op→KB→Prop
 | .alloc T,K=>newBoxK bx dst (tzero P T) K
 | .box _ x,K=>newBoxK bx dst (content (opnd sl x)) K
 | .store T x y,K=>storeK bx (tsize P T) (opnd sl x) (content (opnd sl y)) K
 | .call c,K=>callK P (isOwn own dst) own sl bx dst c.callee c.args.toList c.argTypes.toList K
 | .makeMap _ none,K=>newMapK bx dst K
 | .makeSlice T x y,K=>(selem P T).isSome=true∧makeK bx dst (opnd sl x) (opnd sl y) (tsize P (elemOf' P T)) (tzero P (elemOf' P T)) (ebytes P (elemOf' P T)) K
 | .mapUpdate T m x y,K=>mapUpdK P bx (opnd sl x) (opnd sl y) (P.underlying T) (opnd sl m) K
 | .slice T x (some y) none none,K=>match isAcc (opnd sl x) with
  | true=>sliceK bx (esize P T) (opnd sl x) (opnd sl y) K
  | false=>quietK P sl bx (.slice T x (some y) none none) (liftK bx K)
 | .buildSlice T m parts,K=>match isOwn own dst with
  | true=>(selem P T).isSome=true∧buildSliceK m parts.size (tsize P (elemOf' P T)) (tzero P (elemOf' P T)) (rowsOf (opnd sl) ((tsize P (elemOf' P T)).getD 0) 0 parts.toList) fun rows=>ownRowsK bx dst (tsize P (elemOf' P T)) rows K
  | false=>quietK P sl bx (.buildSlice T m parts) (liftK bx K)
 | .insert T m x y,K=>hookBK P sl bx dst (.insert T m x y) K
 | .range T x,K=>hookBK P sl bx dst (.range T x) K
 | .next x b,K=>hookBK P sl bx dst (.next x b) K
 | .entry x,K=>hookBK P sl bx dst (.entry x) K
 | .makeFunc f bs caps,K=>match isHook own dst with
  | true=>hookK P sl bx (.makeFunc f bs caps) (liftK bx K)
  | false=>quietK P sl bx (.makeFunc f bs caps) (liftK bx K)
 | op,K=>quietK P sl bx op (liftK bx K)
theorem appToK_sound {T U e sz bytes:Nat} {x y:Operand} (ho:o.op=.call { callee:=.builtin .append,args:=#[x,y],argTypes:=#[T,U] }) {xs:List (List D)} {K:KB} (hE:ElemT P T e sz bytes)(hU:notInt P U=true)
  (hs:IsSrc bx sz (opnd sl y) xs) (h:appToK bytes sz xs bx (opnd sl x) o.dst K):∃ r bx' pg,OpT P o (opnd sl) bx r bx' pg∧K r bx' pg:=by
 generalize hx:opnd sl x=vx at h
 generalize hdd:o.dst=dd at h
 unfold appToK at h
 split at h
 ·generalize hb:bget bx _=ob at h
  cases ob with
  | none=>exact h.elim
  | some bc =>
   cases bc with
   | rows sz' rs =>
    obtain⟨h1,h0,h4,h5⟩:=h
    subst h1
    exact⟨_,_,_,opT_appendAcc h0 ho hE hU hx (mem_of_bget hb) hs h4,h5⟩
   | cells _=>exact h.elim
   | map _=>exact h.elim
   | iter _ _=>exact h.elim
   | ghost _ _=>exact h.elim
 ·exact⟨_,_,_,opT_appendNil h.1 ho hE hU hx hs h.2.1,h.2.2⟩
 ·exact h.elim
theorem callK_sound {own:Bool} {lst:List Nat} {c:Call} {K:KB} (ho:o.op=.call c)(h:callK P own lst sl bx o.dst c.callee c.args.toList c.argTypes.toList K):∃ r bx' pg,OpT P o (opnd sl) bx r bx' pg∧K r bx' pg:=by
 have q:∀ {K':SV→Prop},Quiet P o sl bx K'→(∀ r,K' r→K r bx [])→∃ r bx' pg,OpT P o (opnd sl) bx r bx' pg∧K r bx' pg:=by
  rintro K' ⟨r,h1,h2⟩ hk;exact⟨r,bx,[],h1,hk r h2⟩
 obtain⟨callee,args,tys⟩:=c
 simp only at h
 cases callee with
 | value fo =>
  simp only [callK] at h
  split at h
  ·generalize hf:opnd sl fo=vf at h
   generalize hdd:o.dst=dd at h
   unfold cloAccK at h
   split at h
   ·obtain⟨h0,args',q,sz,rows,r,h1,h2,h3⟩:=h
    exact⟨_,_,_,opT_callAcc h0 ho hf h1 h2,h3⟩
   ·exact h.elim
  ·generalize hhb:isHook lst o.dst=hb at h
   cases hb with
   | true =>
    simp only [callHK] at h
    obtain⟨r,bx',pg,h1,h2⟩:=h
    exact⟨r,bx',pg,h1 o ho rfl,h2⟩
   | false =>
   simp only [callHK] at h
   generalize hgb:isGhost lst o.dst=gb at h
   cases gb with
   | true =>
    simp only [callGK] at h
    generalize hf:opnd sl fo=vf at h
    generalize hb:bget bx 1000000=ob at h
    unfold ghostK at h
    split at h
    ·have hb':=mem_of_bget hb
     unfold ghostCloK at h
     split at h
     ·obtain⟨args',r,st',h1,h2,h3,h4⟩:=h
      exact⟨_,_,_,opT_callGhost ho hf hb' h1 h2 h3,h4⟩
     ·generalize hal:args.toList.map (opnd sl)=al at h
      unfold yldK at h
      split at h
      ·obtain⟨y,h1,h2,h3,hN,h4,h5⟩:=h
       obtain⟨xo,hxo⟩:∃ xo,args = #[xo]:=by
        have hl:=congrArg List.length hal
        simp only [List.length_map,List.length_cons,List.length_nil,Array.length_toList] at hl
        obtain⟨l⟩:=args
        match l,hl with
        | [xo],_=>exact⟨xo,rfl⟩
       subst hxo
       simp only [List.map_cons,List.map_nil,List.cons.injEq,and_true] at hal
       exact⟨_,_,_,opT_yield ho hf hb' (by rw [hal];exact h1) h2 h3 hN h4,h5⟩
      ·exact h.elim
     ·exact h.elim
    ·exact h.elim
   | false =>
   simp only [callGK] at h
   unfold callVK at h
   split at h
   ·exact q (callQK_sound (c:=⟨.value fo,args,tys⟩) ho h) fun _ h=>h
   ·generalize hf:opnd sl fo=vf at h
    generalize hb:bget bx _=ob at h
    unfold cloBoxK at h
    split at h
    ·obtain⟨n2,args',r,c',h1,n4,h2,h3,h4⟩:=h
     exact⟨_,_,_,opT_callBox ho hf (mem_of_bget hb) (by omega) n2 n4 h1 h2 h3,h4⟩
    ·exact h.elim
 | invoke r m =>
  simp only [callK] at h
  exact q (callQK_sound (c:=⟨.invoke r m,args,tys⟩) ho h) fun _ h=>h
 | builtin b =>
 unfold callK at h
 split at h
 ·rename_i x y T U hcal hx hT
  simp only [Callee.builtin.injEq] at hcal
  subst hcal
  have hx':args = #[x,y]:=by apply Array.ext';simpa using hx
  have hT':tys = #[T,U]:=by apply Array.ext';simpa using hT
  subst hx' hT'
  obtain⟨hU,h0,h⟩:=h
  obtain⟨e,he⟩:=Option.isSome_iff_exists.1 h0
  have hee:elemOf' P T=e:=by unfold elemOf';rw [he];rfl
  rw [hee] at h
  generalize hs:tsize P e=os at h
  generalize hz:tzero P e=oz at h
  generalize hb:ebytes P e=ob at h
  unfold appendK at h
  split at h
  ·rename_i sz zs bytes
   obtain⟨h1,h2,h⟩:=h
   have hE:ElemT P T e sz bytes:=⟨he,hs,by rw [hz];simp [h1],hb,h2⟩
   generalize hy:opnd sl y=vy at h
   unfold srcK at h
   split at h
   ·exact appToK_sound ho hE hU (by rw [hy];exact .nil) h
   ·exact appToK_sound ho hE hU (by rw [hy];exact .emp) h
   ·exact appToK_sound ho hE hU (by rw [hy];exact .slice _ h.1) h.2
   ·generalize hb:bget bx _=ob at h
    cases ob with
    | none=>exact h.elim
    | some bc =>
     cases bc with
     | rows sz' rs =>
      obtain⟨h3,h⟩:=h
      subst h3
      exact appToK_sound ho hE hU (by rw [hy];exact .acc _ _ (mem_of_bget hb)) h
     | cells _=>exact h.elim
     | map _=>exact h.elim
     | iter _ _=>exact h.elim
     | ghost _ _=>exact h.elim
   ·exact h.elim
  ·exact h.elim
 ·rename_i x y T U hcal hx hT
  simp only [Callee.builtin.injEq] at hcal
  subst hcal
  have hx':args = #[x,y]:=by apply Array.ext';simpa using hx
  have hT':tys = #[T,U]:=by apply Array.ext';simpa using hT
  subst hx' hT'
  generalize hs:esize P T=os at h
  have fin:∀ {K2:KB} {sz k:Nat} {xs:List (List D)},some sz=esize P T→opnd sl x=.acc k→IsSrc bx sz (opnd sl y) xs→copyToK bx k sz xs K2 (bget bx k)→∃ r bx' pg,OpT P o (opnd sl) bx r bx' pg∧K2 r bx' pg:=by
   intro K2 sz k xs hsz hxx hsrc h
   obtain⟨e,hT,hs⟩:=esize_spec hsz.symm
   generalize hb:bget bx k=ob at h
   cases ob with
   | none=>exact h.elim
   | some bc =>
    cases bc with
    | rows sz' rs =>
     obtain⟨rfl,h1,h2⟩:=h
     exact⟨_,_,_,opT_copy ho hT hs hxx (mem_of_bget hb) hsrc h1,h2⟩
    | cells _=>exact h.elim
    | map _=>exact h.elim
    | iter _ _=>exact h.elim
    | ghost _ _=>exact h.elim
  generalize hvx:opnd sl x=vx at h
  generalize hvy:opnd sl y=vy at h
  unfold copyK at h
  split at h
  ·exact fin hs.symm hvx (by rw [hvy];exact .slice _ h.1) h.2
  ·exact fin hs.symm hvx (by rw [hvy];exact .nil) h
  ·generalize hb:bget bx _=ob at h
   cases ob with
   | none=>exact h.elim
   | some bc =>
    cases bc with
    | rows sz' xs =>
     obtain⟨rfl,h⟩:=h
     exact fin hs.symm hvx (by rw [hvy];exact .acc _ _ (mem_of_bget hb)) h
    | cells _=>exact h.elim
    | map _=>exact h.elim
    | iter _ _=>exact h.elim
    | ghost _ _=>exact h.elim
  ·exact h.elim
 ·rename_i hcal;simp at hcal
 ·rename_i hcal
  simp only [Callee.builtin.injEq] at hcal
  subst hcal
  obtain⟨r,bx',pg,h1,h2⟩:=h
  exact⟨r,bx',pg,h1 o ho rfl,h2⟩
 ·exact q (callQK_sound (c:=⟨.builtin b,args,tys⟩) ho h) fun _ h=>h
theorem opK_sound {own:List Nat} {K:KB} (h:opK P own o.dst sl bx o.op K):∃ r bx' pg,OpT P o (opnd sl) bx r bx' pg∧K r bx' pg:=by
 have q:∀ {K':SV→Prop},Quiet P o sl bx K'→(∀ r,K' r→K r bx [])→∃ r bx' pg,OpT P o (opnd sl) bx r bx' pg∧K r bx' pg:=by
  rintro K' ⟨r,h1,h2⟩ hk;exact⟨r,bx,[],h1,hk r h2⟩
 generalize hop:o.op=op at h
 unfold opK at h
 split at h
 ·generalize hz:tzero P _=oz at h
  generalize hdd:o.dst=dd at h
  unfold newBoxK at h
  split at h
  ·exact⟨_,_,_,opT_alloc h.1 hop hz,h.2⟩
  ·exact h.elim
 ·generalize hz:content _=oz at h
  generalize hdd:o.dst=dd at h
  unfold newBoxK at h
  split at h
  ·exact⟨_,_,_,opT_box h.1 hop hz,h.2⟩
  ·exact h.elim
 ·generalize hx:opnd sl _=vx at h
  generalize hus:content _=ous at h
  unfold storeK at h
  split at h
  ·obtain⟨hs,h⟩:=h
   generalize hb:bget bx _=ob at h
   cases ob with
   | none=>exact h.elim
   | some bc =>
    cases bc with
    | cells cs=>exact⟨_,_,_,opT_storeBox hop hx (mem_of_bget hb) hus hs h.1,h.2⟩
    | rows _ _=>exact h.elim
    | map _=>exact h.elim
    | iter _ _=>exact h.elim
    | ghost _ _=>exact h.elim
  ·obtain⟨hs,h⟩:=h
   generalize hb:bget bx _=ob at h
   cases ob with
   | none=>exact h.elim
   | some bc =>
    cases bc with
    | rows sz rows =>
     obtain⟨row,ds,h1,h2,h3,h4⟩:=h
     subst h2
     simp only [List.length_map] at hs h3
     exact⟨_,_,_,opT_storeAptr hop hx (mem_of_bget hb) h1 hus hs h3,h4⟩
    | cells _=>exact h.elim
    | map _=>exact h.elim
    | iter _ _=>exact h.elim
    | ghost _ _=>exact h.elim
  ·exact h.elim
 ·exact callK_sound hop h
 ·generalize hdd:o.dst=dd at h
  unfold newMapK at h
  split at h
  ·exact⟨_,_,_,opT_makeMap h.1 hop,h.2⟩
  ·exact h.elim
 ·rename_i T x y
  obtain⟨h0,h⟩:=h
  obtain⟨e,hT⟩:=Option.isSome_iff_exists.1 h0
  have he:elemOf' P T=e:=by unfold elemOf';rw [hT];rfl
  rw [he] at h
  generalize hx:opnd sl x=vx at h
  generalize hy:opnd sl y=vy at h
  generalize hs:tsize P e=os at h
  generalize hz:tzero P e=oz at h
  generalize hb:ebytes P e=ob at h
  generalize hdd:o.dst=dd at h
  unfold makeK at h
  split at h
  ·obtain⟨k1,k2,k3,k4,k5,k6,k7,h⟩:=h
   unfold makeZK at h
   split at h
   ·rename_i hu
    have hzz:=unD_map hu
    exact⟨_,_,_,opT_makeSlice k1 hop hx hy ⟨hT,hs,by rw [hz];simp [k3],hb,k4⟩ (by rw [hz,hzz]) (fun d hd=>List.all_eq_true.1 h.1 d hd) k5 k6 k7 k2,h.2⟩
   ·exact h.elim
  ·exact h.elim
 ·rename_i m x y
  generalize hm:opnd sl m=vm at h
  generalize hT:P.underlying _=vT at h
  unfold mapUpdK at h
  split at h
  ·generalize hb:bget bx _=ob at h
   unfold updK at h
   split at h
   ·obtain⟨h1,h2,h⟩:=h
    generalize hx:asD (opnd sl x)=vx at h
    unfold someK at h
    split at h
    ·obtain⟨h3,h⟩:=h
     generalize hy:asD (opnd sl y)=vy at h
     unfold someK at h
     split at h
     ·exact⟨_,_,_,opT_mapUpdate hop hm (mem_of_bget hb) hT h1 hx h3 h2 hy,h⟩
     ·exact h.elim
    ·exact h.elim
   ·exact h.elim
  ·exact h.elim
 ·split at h
  ·generalize hx:opnd sl _=vx at h
   generalize hy:opnd sl _=vy at h
   generalize hs:esize P _=vs at h
   unfold sliceK at h
   split at h
   ·obtain⟨h0,h⟩:=h
    generalize hb:bget bx _=ob at h
    unfold sliceRowsK at h
    split at h
    ·obtain⟨rfl,h1,h2,h3⟩:=h
     obtain⟨e,hT,hs⟩:=esize_spec hs
     exact⟨_,_,_,opT_sliceAcc hop h0 hx (mem_of_bget hb) hy hT hs h1 h2,h3⟩
    ·exact h.elim
   ·exact h.elim
  ·exact q (quietK_sound (by rw [hop];exact h)) fun _ h=>h
 ·rename_i T m parts
  split at h
  ·obtain⟨h0,h⟩:=h
   obtain⟨e,hT⟩:=Option.isSome_iff_exists.1 h0
   have he:elemOf' P T=e:=by unfold elemOf';rw [hT];rfl
   rw [he] at h
   generalize hs:tsize P e=os at h
   generalize hz:tzero P e=oz at h
   generalize hr:rowsOf _ _ _ _=orr at h
   generalize hdd:o.dst=dd at h
   unfold buildSliceK at h
   split at h
   ·obtain⟨h0,h1,h2,h3,h4⟩:=h
    unfold ownRowsK at h4
    split at h4
    ·rename_i hss
     simp only [Option.some.injEq] at hss
     subst hss
     have hlim:∀ {m sz:Nat},m*sz≤16777216→1≤sz→m≤lim:=fun {m sz} h h'=>by
      have:m*1≤m*sz:=Nat.mul_le_mul_left _ h'
      unfold lim;omega
     exact⟨_,_,_,opT_buildSliceOwn h4.1 hop hT hs hz h1 h2 h3 hr (hlim h2 h0),h4.2⟩
    ·exact h4.elim
   ·exact h.elim
  ·exact q (quietK_sound (by rw [hop];exact h)) fun _ h=>h
 ·obtain⟨r,bx',pg,h1,h2⟩:=h
  exact⟨r,bx',pg,h1 o hop rfl,h2⟩
 ·obtain⟨r,bx',pg,h1,h2⟩:=h
  exact⟨r,bx',pg,h1 o hop rfl,h2⟩
 ·obtain⟨r,bx',pg,h1,h2⟩:=h
  exact⟨r,bx',pg,h1 o hop rfl,h2⟩
 ·obtain⟨r,bx',pg,h1,h2⟩:=h
  exact⟨r,bx',pg,h1 o hop rfl,h2⟩
 ·split at h
  ·obtain⟨r,h1,h2⟩:=h
   exact⟨r,bx,[],h1 o hop,h2⟩
  ·exact q (quietK_sound (by rw [hop];exact h)) fun _ h=>h
 ·exact q (quietK_sound (by rw [hop];exact h)) fun _ h=>h
def guardK (b want:Bool)(A B:Prop):Prop:=(b=want→A)∧(b = !want→B)
def runV (P:Program)(own:List Nat)(ops:Array Oper):List Oper→SL→Boxes→(SL→Boxes→Prop)→Prop
 | [],sl,bx,K=>K sl bx
 | o::os,sl,bx,K=>match o.guard with
  | none=>opK P own o.dst sl bx o.op fun r bx' pg=>runV P own ops os (sput (purgeSl pg sl) o.dst r) bx' K
  | some (j,want)=>match gslot ops j with
   | some t=>match sget sl t with
    | .d (.bool b)=>guardK b want (opK P own o.dst sl bx o.op fun r bx' pg=>runV P own ops os (sput (purgeSl pg sl) o.dst r) bx' K) (runV P own ops os (sput sl o.dst (.tuple [])) bx K)
    | .tuple []=>runV P own ops os (sput sl o.dst (.tuple [])) bx K
    | _=>False
   | none=>False
def restV (P:Program)(own:List Nat)(ops:Array Oper)(os:List Oper)(sl:SL)(dst:Option Nat)(K:SL→Boxes→Prop):KB:=fun r bx pg=>runV P own ops os (sput (purgeSl pg sl) dst r) bx K
def gselV (P:Program)(own:List Nat)(ops:Array Oper)(dst:Option Nat)(op:Op)(os:List Oper)(sl:SL)(bx:Boxes)(want:Bool)(K:SL→Boxes→Prop):SV→Prop
 | .d (.bool b)=>guardK b want (opK P own dst sl bx op (restV P own ops os sl dst K)) (runV P own ops os (sput sl dst (.tuple [])) bx K)
 | .tuple []=>runV P own ops os (sput sl dst (.tuple [])) bx K
 | _=>False
def gslV (P:Program)(own:List Nat)(ops:Array Oper)(dst:Option Nat)(op:Op)(os:List Oper)(sl:SL)(bx:Boxes)(want:Bool)(K:SL→Boxes→Prop):Option Nat→Prop
 | some t=>gselV P own ops dst op os sl bx want K (sget sl t)
 | none=>False
def gbV (P:Program)(own:List Nat)(ops:Array Oper)(dst:Option Nat)(op:Op)(os:List Oper)(sl:SL)(bx:Boxes)(K:SL→Boxes→Prop)(b want:Bool):Prop :=
 guardK b want (opK P own dst sl bx op (restV P own ops os sl dst K)) (runV P own ops os (sput sl dst (.tuple [])) bx K)
section
variable (P:Program) (own:List Nat) (ops:Array Oper) (os:List Oper) (sl:SL) (bx:Boxes) (K:SL→Boxes→Prop) (dst:Option Nat) (op:Op) (ty:TypeId) (pos:String) (after:Array Edge)
theorem runV_nil:runV P own ops [] sl bx K=K sl bx:=by rw [runV]
theorem runV_cons:runV P own ops (⟨dst,op,ty,pos,after,none⟩::os) sl bx K=opK P own dst sl bx op (restV P own ops os sl dst K):=by rw [runV];rfl
theorem runV_guard (j:Nat)(want:Bool):runV P own ops (⟨dst,op,ty,pos,after,some (j,want)⟩::os) sl bx K=gslV P own ops dst op os sl bx want K (gslot ops j):=by
 rw [runV]
 simp only
 cases gslot ops j with
 | none=>rfl
 | some t =>
  simp only [gslV,gselV]
  split <;> rfl
theorem restV_app (r:SV)(pg:List Nat):restV P own ops os sl dst K r bx pg=runV P own ops os (sput (purgeSl pg sl) dst r) bx K:=rfl
theorem gselV_bool (b want:Bool):gselV P own ops dst op os sl bx want K (.d (.bool b))=gbV P own ops dst op os sl bx K b want:=rfl
theorem gselV_skip (want:Bool):gselV P own ops dst op os sl bx want K (.tuple [])=runV P own ops os (sput sl dst (.tuple [])) bx K:=rfl
theorem gbV_tt:gbV P own ops dst op os sl bx K true true=opK P own dst sl bx op (restV P own ops os sl dst K):=by simp [gbV,guardK]
theorem gbV_ff:gbV P own ops dst op os sl bx K false false=opK P own dst sl bx op (restV P own ops os sl dst K):=by simp [gbV,guardK]
theorem gbV_tf:gbV P own ops dst op os sl bx K true false=runV P own ops os (sput sl dst (.tuple [])) bx K:=by simp [gbV,guardK]
theorem gbV_ft:gbV P own ops dst op os sl bx K false true=runV P own ops os (sput sl dst (.tuple [])) bx K:=by simp [gbV,guardK]
end
section
variable (P:Program) (own:List Nat) (ops:Array Oper) (os:List Oper) (sl:SL) (bx:Boxes) (K:SL→Prop) (dst:Option Nat) (op:Op) (ty:TypeId) (pos:String) (after:Array Edge)
end
theorem guard_cases {ops:Array Oper} {A B:Prop} (h:match o.guard with
  | none=>A
  | some (j,want)=>match gslot ops j with
   | some t=>match sget sl t with
    | .d (.bool b)=>guardK b want A B
    | .tuple []=>B
    | _=>False
   | none=>False):∃ g,guardV ops sl o=some g∧(g=true→A)∧(g=false→B):=by
 unfold guardV
 cases hg:o.guard with
 | none =>
  simp only [hg] at h
  exact⟨true,rfl,fun _=>h,by simp⟩
 | some jw =>
  obtain⟨j,want⟩:=jw
  simp only [hg] at h
  cases hj:gslot ops j with
  | none=>simp only [hj] at h
  | some t =>
   simp only [hj] at h ⊢
   split at h
   ·rename_i b hs
    refine⟨b == want,by rw [hs],fun hb=>h.1 (by simpa using hb),fun hb=>h.2 ?_⟩
    cases b <;> cases want <;> simp_all
   ·rename_i hs
    exact⟨false,by rw [hs],by simp,fun _=>h⟩
   ·exact h.elim
theorem runV_sound {n:Nat} {own:List Nat} {ops:Array Oper} {K:SL→Boxes→Prop}:∀ (os:List Oper)(sl:SL)(bx:Boxes),dstsOK n os=true→runV P own ops os sl bx K→Run P n ops os sl bx K
 | [],sl,bx,_,h=>by rw [runV] at h;exact h
 | o::os,sl,bx,hd,h=>by
  simp only [dstsOK,List.all_cons,Bool.and_eq_true] at hd
  rw [runV] at h
  obtain⟨g,h1,h2,h3⟩:=guard_cases h
  refine⟨g,h1,dstsOK_spec (ops:=[o]) (by simp [dstsOK,hd.1]) o (by simp),fun hg=>?_,fun hg=>runV_sound os _ bx hd.2 (h3 hg)⟩
  obtain⟨r,bx',pg,q1,q2⟩:=opK_sound (h2 hg)
  exact⟨r,bx',pg,q1,runV_sound os _ bx' hd.2 q2⟩
def keepK (ks:List Nat)(K:SL→Boxes→Prop):SL→Boxes→Prop:=fun sl bx=>K (keepSl ks sl) (keepBx ks bx)
theorem keepK_app (ks:List Nat)(K:SL→Boxes→Prop)(sl:SL)(bx:Boxes):keepK ks K sl bx=K (keepSl ks sl) (keepBx ks bx):=rfl
def consBx (k:Nat):Option BoxC→Boxes→Boxes
 | some c,r=>(k,c)::r
 | none,r=>r
theorem keepBx_cons (k:Nat)(ks:List Nat)(bx:Boxes):keepBx (k::ks) bx=consBx k (bget bx k) (keepBx ks bx):=by
 rw [keepBx];cases bget bx k <;> rfl
theorem keepBx_nil (bx:Boxes):keepBx [] bx=[]:=rfl
theorem AWp.reg {ro:Option Nat} {n:Nat} {Q:Exit→SL→Boxes→Prop} {id:Nat} {ops:Array Oper} (ks own:List Nat)(hd:dstsOK n ops.toList=true)
  (h:runV P own ops ops.toList sl bx (keepK ks (Q .normal))):AWp ro P n (.region id ops false) Q sl bx :=
 AWp.region ks ks hd (runV_sound _ _ _ hd h)
end Go.Abs
namespace Go.Abs
open Go
variable {P:Program}
mutual
def SV.bd:SV→Prop
 | .d x=>x.Bd
 | .agg cs=>SV.bdL cs
 | .tuple cs=>SV.bdL cs
 | .clo _ cs=>SV.bdL cs
 | .dptr cells _=>∀ d,d∈cells→d.Bd
 | .undef | .box _ _ | .acc _ | .aptr _ _ _ | .mp _ | .yld _ | .vptr _ _=>True
def SV.bdL:List SV→Prop
 | []=>True
 | c::cs=>c.bd∧SV.bdL cs
end
mutual
theorem RepV.bd {S:Nat→Prop} {w:World} {β:Names}:∀ {x:SV} {v:Value},RepV S w β x v→x.bd
 | .d x,v,h=>by simp only [SV.bd];exact h.inv_d.bd
 | .agg cs,v,h=>by cases h with | agg _ vs h1 _ h2=>simp only [SV.bd];exact RepL.bd ⟨h1,h2⟩
 | .tuple cs,v,h=>by cases h with | tuple _ vs h1 h2=>simp only [SV.bd];exact RepL.bd ⟨h1,h2⟩
 | .clo f cs,v,h=>by cases h with | clo _ _ vs h1 h2=>simp only [SV.bd];exact RepL.bd ⟨h1,h2⟩
 | .dptr cells off,v,h=>by
  obtain⟨b,base,hp⟩:=h.inv_dptr
  simp only [SV.bd]
  intro d hd
  obtain⟨j,hj⟩:=List.mem_iff_getElem?.1 hd
  obtain⟨u,hu⟩:=hp.there j (List.getElem?_eq_some_iff.1 hj).1
  exact (hp.rep j d u hj hu).bd
 | .undef,v,h=>by simp [SV.bd]
 | .box _ _,v,h=>by simp [SV.bd]
 | .acc _,v,h=>by simp [SV.bd]
 | .aptr _ _ _,v,h=>by simp [SV.bd]
 | .mp _,v,h=>by simp [SV.bd]
 | .yld _,v,h=>by simp [SV.bd]
 | .vptr _ _,v,h=>by simp [SV.bd]
theorem RepL.bd {S:Nat→Prop} {w:World} {β:Names}:∀ {cs:List SV} {vs:List Value},RepL S w β cs vs→SV.bdL cs
 | [],_,_=>by simp [SV.bdL]
 | c::cs,vs,h=>by
  simp only [SV.bdL]
  obtain⟨v,hv,hr⟩:=h.get (j:=0) (c:=c) rfl
  cases vs with
  | nil=>simp at hv
  | cons v vs=>exact⟨(h.2 0 c v rfl rfl).bd,RepL.bd ⟨by have:=h.1;simpa using this,fun j c v hc hv=>h.2 (j+1) c v (by simpa using hc) (by simpa using hv)⟩⟩
end
theorem CallB.bd {f:FuncId} {args:List SV} {pre post:Boxes} {r:SV} (hE:Enters P f)(h:SV.bdL args→CallB P f args pre r post):CallB P f args pre r post :=
 ⟨hE,fun C β vs hi hv=>(h hv.bd).2 C β vs hi hv⟩
theorem Enters.of {f:FuncId} {fn:Func} {c:Code} (hf:P.funcs[f]? = some fn)(hb:fn.body=some c)(hn:(fn.name == "runtime.NumGoroutine")=false):Enters P f:=⟨fn,hf,hn,by rw [hb];rfl⟩
def retB (P:Program)(fn:Func)(r:SV)(post:Boxes)(e:Exit)(sl:SL)(bx:Boxes):Prop :=
 match e with
 | .normal | .ret=>∃ xs,resL P bx sl fn.results.toList=some xs∧(wrapRes xs=r∨coerce [] (wrapRes xs)=some r)∧ble bx post
 | _=>False
theorem CallB.of_body {f:FuncId} {fn:Func} {c:Code} {args:List SV} {pre post:Boxes} {r:SV} (hf:P.funcs[f]? = some fn)(hb:fn.body=some c)(hn:(fn.name == "runtime.NumGoroutine")=false)(hm:args.length≤fn.ntmps)
  (h:AWp none P fn.ntmps c (retB P fn r post) (argSl 0 args) pre):CallB P f args pre r post:=by
 refine⟨⟨fn,hf,hn,by rw [hb];rfl⟩,?_⟩
 intro C β vs hi hv
 refine calls_of_marks hf hb ?_
 refine wpIn_mono (h C C.S0 C.w0 β _ (St.start hi hv hm)) ?_
 rintro e a' w' ⟨sl',bx',S',β',q,hs⟩
 have key:(∃ xs,resL P bx' sl' fn.results.toList=some xs∧(wrapRes xs=r∨coerce [] (wrapRes xs)=some r)∧ble bx' post)→LeavesInM Fence.wide 0 P fn a'.tmps (fun e w'=>∃ v S' β',e=.returned v∧Inv C S' w' β' post∧RepV S' w' β' r v) a'.defers .returning w':=by
  rintro⟨xs,h1,h2,h5⟩
  refine hs.leave fun w' hs=>?_
  obtain⟨v,h3,h4⟩:=run_results (P:=P) hs h1
  refine⟨v,h3,v,S',β',rfl,hs.inv.sub (ble_mem h5),?_⟩
  rcases h2 with rfl | h2
  ·exact h4
  ·exact (coerce_rep (hs.inv.sub (bx':=[]) (by simp)) (SExt.refl _ _) (by simp) h2 h4).1
 cases e with
 | normal=>exact key q
 | ret=>exact key q
 | _=>exact q.elim
section steps
variable {ro:Option Nat} {n:Nat} {Q:Exit→SL→Boxes→Prop} {sl:SL} {bx:Boxes}
theorem AWp.seqK {x y:Code} (h:∀ K:SL→Boxes→Prop,(∀ sl' bx',AWp ro P n y Q sl' bx'→K sl' bx')→AWp ro P n x (thenA K Q) sl bx):AWp ro P n (.seq x y) Q sl bx :=
 AWp.seq (h _ fun _ _ h=>h)
theorem AWp.seqR {id:Nat} {ops:Array Oper} {y:Code} (ks own:List Nat)(hd:dstsOK n ops.toList=true)
  (h:∀ K:SL→Boxes→Prop,(∀ sl' bx',AWp ro P n y Q sl' bx'→K sl' bx')→runV P own ops ops.toList sl bx (keepK ks K)):AWp ro P n (.seq (.region id ops false) y) Q sl bx :=
 AWp.seq (AWp.reg ks own hd (h _ fun _ _ h=>h))
theorem AWp.lastR {id:Nat} {ops:Array Oper} (ks own:List Nat)(hd:dstsOK n ops.toList=true)
  (h:∀ K:SL→Boxes→Prop,(∀ sl' bx',Q .normal sl' bx'→K sl' bx')→runV P own ops ops.toList sl bx (keepK ks K)):AWp ro P n (.region id ops false) Q sl bx :=
 AWp.reg ks own hd (h _ fun _ _ h=>h)
theorem AWp.condT {c:Operand} {x y:Code} (hc:opnd sl c=.d (.bool true))(h:AWp ro P n x Q sl bx):AWp ro P n (.cond c x y) Q sl bx:=AWp.cond hc (fun _=>h) (by simp)
theorem AWp.condF {c:Operand} {x y:Code} (hc:opnd sl c=.d (.bool false))(h:AWp ro P n y Q sl bx):AWp ro P n (.cond c x y) Q sl bx:=AWp.cond hc (by simp) (fun _=>h)
end steps
end Go.Abs
namespace Go.Abs
open Go
variable {ro:Option Nat} {P:Program} {n:Nat} {Q:Exit→SL→Boxes→Prop} {sl:SL} {bx:Boxes}
variable {c:Operand}
theorem AWp.goOn {y z:Code} (hc:opnd sl c=.d (.bool true))(h:AWp ro P n z Q sl bx):AWp ro P n (.seq (.cond c .skip y) z) Q sl bx :=
 AWp.seq (AWp.condT hc (AWp.skip h))
theorem AWp.stop {x z:Code} {id:Nat} (hc:opnd sl c=.d (.bool false))(h:Q (.exit id) sl bx):AWp ro P n (.seq (.cond c x (.exit id)) z) Q sl bx :=
 AWp.seq (AWp.condF hc (AWp.exit h))
variable {K:SL→Boxes→Prop}
theorem AWp.ifRetK {x z:Code} {b:Bool} (hc:opnd sl c=.d (.bool b))(hK:∀ sl' bx',AWp ro P n z Q sl' bx'→K sl' bx')
  (h1:b=true→AWp ro P n x (thenA (fun _ _=>False) Q) sl bx) (h2:b=false→AWp ro P n z Q sl bx):AWp ro P n (.cond c x .skip) (thenA K Q) sl bx :=
 AWp.cond hc (fun hb=>(h1 hb).mono fun e _ _ hq=>by cases e <;> first | exact hq.elim | exact hq) (fun hb=>AWp.skip (hK _ _ (h2 hb)))
theorem AWp.takeIfK {x y:Code} (hc:opnd sl c=.d (.bool true))(h1:AWp ro P n x (thenA (fun _ _=>False) Q) sl bx):AWp ro P n (.cond c x y) (thenA K Q) sl bx :=
 AWp.condT hc (h1.mono fun e _ _ hq=>by cases e <;> first | exact hq.elim | exact hq)
theorem AWp.skipIfK {x z:Code} (hc:opnd sl c=.d (.bool false))(hK:∀ sl' bx',AWp ro P n z Q sl' bx'→K sl' bx')(h2:AWp ro P n z Q sl bx):AWp ro P n (.cond c x .skip) (thenA K Q) sl bx :=
 AWp.condF hc (AWp.skip (hK _ _ h2))
theorem AWp.goOnK {y z:Code} (hc:opnd sl c=.d (.bool true))(hK:∀ sl' bx',AWp ro P n z Q sl' bx'→K sl' bx')(h2:AWp ro P n z Q sl bx):AWp ro P n (.cond c .skip y) (thenA K Q) sl bx :=
 AWp.condT hc (AWp.skip (hK _ _ h2))
theorem AWp.stopK {x:Code} {id:Nat} (hc:opnd sl c=.d (.bool false))(h:Q (.exit id) sl bx):AWp ro P n (.cond c x (.exit id)) (thenA K Q) sl bx :=
 AWp.condF hc (AWp.exit h)
theorem AWp.forIdx {α X:Type} (L:List α)(mk:Nat→X→SL)(mb:Nat→X→Boxes)(I:Nat→X→Prop) {c:Code} (x0:X)(h0:I 0 x0)(h1:sle sl (mk 0 x0))(h2:ble bx (mb 0 x0))
  (last:∀ x,I L.length x→AWp ro P n c (thenA (fun _ _=>False) Q) (mk L.length x) (mb L.length x))
  (step:∀ j x a,L[j]? = some a→a∈L→L.drop j=a::L.drop (j+1)→L.take (j+1)=L.take j++[a]→(j:Int) < (L.length:Int)→I j x →
   AWp ro P n c (thenA (fun sl' bx'=>∃ x',I (j+1) x'∧sle sl' (mk (j+1) x')∧ble bx' (mb (j+1) x')) Q) (mk j x) (mb j x)):AWp ro P n (.loop c) Q sl bx:=by
 refine AWp.loop (X:=Nat × X) (fun x=>mk x.1 x.2) (fun x=>mb x.1 x.2) (fun x=>x.1≤L.length∧I x.1 x.2) (fun x=>L.length - x.1) (0,x0) ⟨by simp,h0⟩ h1 h2 ?_
 rintro⟨j,x⟩ ⟨hj,hI⟩
 simp only at hj hI
 by_cases hlt:j < L.length
 ·refine (step j x L[j] (List.getElem?_eq_getElem hlt) (List.getElem_mem hlt) (List.drop_eq_getElem_cons hlt) (List.take_succ_eq_append_getElem hlt) (by omega) hI).mono ?_
  intro e sl' bx' hq
  cases e with
  | normal=>obtain⟨x',g1,g2,g3⟩:=hq;exact⟨(j+1,x'),⟨by simp only;omega,g1⟩,by simp only;omega,g2,g3⟩
  | _=>exact hq
 ·have:j=L.length:=by omega
  subst this
  refine (last x hI).mono ?_
  intro e sl' bx' hq
  cases e with
  | normal=>exact hq.elim
  | _=>exact hq
theorem bsize (l:List UInt8):(ByteArray.mk ⟨l⟩).size=l.length:=rfl
theorem leLim {n:Nat} (h:n≤1000):(n≤lim)=True:=by simp only [eq_iff_iff,iff_true];unfold lim;omega
end Go.Abs
