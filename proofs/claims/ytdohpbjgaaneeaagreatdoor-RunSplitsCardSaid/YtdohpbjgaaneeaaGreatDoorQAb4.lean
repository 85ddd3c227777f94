/- The operations as one function; shapes of code; drawn regions with a new variable. Own framework. -/
import Derived.IntWalk
import Derived.Test.YtdohpbjgaaneeaaGreatDoorQAb3
set_option linter.unusedVariables false
set_option linter.unusedSimpArgs false
namespace Go.Abs
open Go
variable {P:Program}
def InR (x:Int):Prop:=-9223372036854775808≤x∧x < 9223372036854775808
theorem wrap_i64 {x:Int} (h:InR x):IntKind.i64.wrap x=x:=IntWalk.i64_in x (by unfold InR at h;omega)
def arK (op:BinOp)(k:IntKind)(x y:Int)(K:SV→Prop):Prop :=
 match k,op with
 | .i64,.add=>InR (x+y)∧K (.d (.int .i64 (x+y)))
 | .i64,.sub=>InR (x - y)∧K (.d (.int .i64 (x - y)))
 | .i64,.mul=>InR (x*y)∧K (.d (.int .i64 (x*y)))
 | .i64,.quo=>y≠0∧InR (x.tdiv y)∧K (.d (.int .i64 (x.tdiv y)))
 | k,.add=>K (.d (.int k (k.wrap (x+y))))
 | k,.sub=>K (.d (.int k (k.wrap (x - y))))
 | k,.mul=>K (.d (.int k (k.wrap (x*y))))
 | k,.quo=>y≠0∧K (.d (.int k (k.wrap (x.tdiv y))))
 | k,.rem=>y≠0∧K (.d (.int k (x.tmod y)))
 | _,.eql=>K (.d (.bool (decide (x=y))))
 | _,.neq=>K (.d (.bool (decide (x≠y))))
 | _,.lss=>K (.d (.bool (decide (x < y))))
 | _,.leq=>K (.d (.bool (decide (x≤y))))
 | _,.gtr=>K (.d (.bool (decide (y < x))))
 | _,.geq=>K (.d (.bool (decide (y≤x))))
 | _,_=>False
def isPtrT (P:Program)(t:TypeId):Bool:=(P.underlying t).any (fun d=>match d with | .pointer _=>true | _=>false)
def isIfaceT (P:Program)(t:TypeId):Bool:=(P.underlying t).any (fun d=>match d with | .interface _=>true | _=>false)
def strK:BinOp→Str→Str→(SV→Prop)→Prop
 | .add,a,b,K=>a.length+b.length≤lim∧K (.d (.str (a++b)))
 | .eql,a,b,K=>K (.d (.bool (decide (a=b))))
 | .neq,a,b,K=>K (.d (.bool (decide (a≠b))))
 | .lss,a,b,K=>K (.d (.bool (Op.bytesLess a b)))
 | .gtr,a,b,K=>K (.d (.bool (Op.bytesLess b a)))
 | _,_,_,_=>False
def boolK:BinOp→Bool→Bool→(SV→Prop)→Prop
 | .eql,a,b,K=>K (.d (.bool (a == b)))
 | .neq,a,b,K=>K (.d (.bool (!(a == b))))
 | _,_,_,_=>False
def nilK:BinOp→Option Bool→(SV→Prop)→Prop
 | .eql,some b,K=>K (.d (.bool b))
 | .neq,some b,K=>K (.d (.bool (!b)))
 | _,_,_=>False
def intK (op:BinOp)(k j:IntKind)(a b:Int)(K:SV→Prop):Prop :=
 match op with
 | .shr=>0≤b∧K (.d (.int k (a.fdiv (2 ^ min b.toNat k.bits))))
 | .shl=>0≤b∧K (.d (.int k (k.wrap (a*2 ^ min b.toNat k.bits))))
 | op=>k=j∧arK op k a b K
def binK (P:Program)(op:BinOp)(t:TypeId)(c:Bool):SV→SV→(SV→Prop)→Prop
 | .d (.int k a),.d (.int j b),K=>intK op k j a b K
 | .d (.str a),.d (.str b),K=>strK op a b K
 | .d (.bool a),.d (.bool b),K=>P.underlying t=some .bool∧boolK op a b K
 | .d .niliface,.d .niliface,K=>c=true∧isIfaceT P t=true∧nilK op (some true) K
 | .d (.iface _ _),.d .niliface,K=>c=true∧isIfaceT P t=true∧nilK op (some false) K
 | x,.d .nilptr,K=>isPtrT P t=true∧nilK op (ptrNil x) K
 | x,.d .nil,K=>(selem P t).isSome=true∧nilK op (sliceNil x) K
 | _,_,_=>False
def Quiet (P:Program)(o:Oper)(sl:SL)(bx:Boxes)(K:SV→Prop):Prop:=∃ r,OpT P o (opnd sl) bx r bx []∧K r
variable {o:Oper} {sl:SL} {bx:Boxes} {K:SV→Prop}
theorem arK_sound {op:BinOp} {t u:TypeId} {x y:Operand} (ho:o.op=.binOp op t x y u) {k:IntKind} {a b:Int} (hx:opnd sl x=.d (.int k a))(hy:opnd sl y=.d (.int k b))(h:arK op k a b K):Quiet P o sl bx K:=by
 have cmp:∀ {c:Bool},cmpInt op a b=some c→K (.d (.bool c))→Quiet P o sl bx K:=fun hc hK=>⟨_,opT_cmpInt ho hx hy hc,hK⟩
 have ar:∀ {c:Int},arInt op k a b=some c→K (.d (.int k c))→Quiet P o sl bx K:=fun hc hK=>⟨_,opT_arInt ho hx hy hc,hK⟩
 have w:∀ {z:Int},k=.i64→InR z→k.wrap z=z:=fun hk hz=>by subst hk;exact wrap_i64 hz
 unfold arK at h
 split at h
 ·exact ar rfl (by rw [w rfl h.1];exact h.2)
 ·exact ar rfl (by rw [w rfl h.1];exact h.2)
 ·exact ar rfl (by rw [w rfl h.1];exact h.2)
 ·exact⟨_,opT_quo ho hx hy h.1,by rw [w rfl h.2.1];exact h.2.2⟩
 ·exact ar rfl h
 ·exact ar rfl h
 ·exact ar rfl h
 ·exact⟨_,opT_quo ho hx hy h.1,h.2⟩
 ·exact⟨_,opT_rem ho hx hy h.1,h.2⟩
 ·exact cmp rfl h
 ·exact cmp rfl h
 ·exact cmp rfl h
 ·exact cmp rfl h
 ·exact cmp rfl h
 ·exact cmp rfl h
 ·exact h.elim
theorem opT_shift {op:BinOp} {t u:TypeId} {x y:Operand} (ho:o.op=.binOp op t x y u) {k j:IntKind} {m n r:Int} (hx:opnd sl x=.d (.int k m))(hy:opnd sl y=.d (.int j n))(hn:0≤n)
  (hr:(op=.shr∧r=m.fdiv (2 ^ min n.toNat k.bits))∨(op=.shl∧r=k.wrap (m*2 ^ min n.toNat k.bits))):OpT P o (opnd sl) bx (.d (.int k r)) bx [] :=
 .of_value fun _ _ w _ a _ ha=>by
  have h1:=(ha x (mC ho));rw [hx] at h1;have h1:=h1.inv_int
  have h2:=(ha y (mC ho));rw [hy] at h2;have h2:=h2.inv_int
  refine⟨.int k r,?_,.int k r⟩
  have hn':¬ n < 0:=by omega
  rcases hr with ⟨rfl,rfl⟩ | ⟨rfl,rfl⟩ <;> simp [execOp,ho,h1,h2,eqGuard_int,binOp,Op.shift,hn']
theorem binK_sound {op:BinOp} {t u:TypeId} {x y:Operand} (ho:o.op=.binOp op t x y u)(h:binK P op t (nilC y) (opnd sl x) (opnd sl y) K):Quiet P o sl bx K:=by
 unfold binK at h
 split at h
 ·rename_i hx hy
  unfold intK at h
  split at h
  ·exact⟨_,opT_shift ho hx hy h.1 (.inl ⟨rfl,rfl⟩),h.2⟩
  ·exact⟨_,opT_shift ho hx hy h.1 (.inr ⟨rfl,rfl⟩),h.2⟩
  ·obtain⟨rfl,h⟩:=h;exact arK_sound ho hx hy h
 ·rename_i hx hy
  unfold strK at h
  split at h
  ·exact⟨_,opT_addStr ho hx hy h.1,h.2⟩
  ·exact⟨_,opT_cmpStr ho hx hy rfl,h⟩
  ·exact⟨_,opT_cmpStr ho hx hy rfl,h⟩
  ·exact⟨_,opT_cmpStr ho hx hy rfl,h⟩
  ·exact⟨_,opT_cmpStr ho hx hy rfl,h⟩
  ·exact h.elim
 ·rename_i hx hy
  obtain⟨ht,h⟩:=h
  unfold boolK at h
  split at h
  ·exact⟨_,opT_cmpBool ho ht hx hy rfl,h⟩
  ·exact⟨_,opT_cmpBool ho ht hx hy rfl,h⟩
  ·exact h.elim
 ·rename_i hx hy
  obtain⟨hc,ht,h⟩:=h
  unfold nilK at h
  split at h
  ·rename_i hb;exact⟨_,opT_ifaceNil ho ht (by rw [hx];exact hb) hy hc rfl,h⟩
  ·rename_i hb;exact⟨_,opT_ifaceNil ho ht (by rw [hx];exact hb) hy hc rfl,h⟩
  ·exact h.elim
 ·rename_i hx hy
  obtain⟨hc,ht,h⟩:=h
  unfold nilK at h
  split at h
  ·rename_i hb;exact⟨_,opT_ifaceNil ho ht (by rw [hx];exact hb) hy hc rfl,h⟩
  ·rename_i hb;exact⟨_,opT_ifaceNil ho ht (by rw [hx];exact hb) hy hc rfl,h⟩
  ·exact h.elim
 ·rename_i hy
  obtain⟨ht,h⟩:=h
  unfold nilK at h
  split at h
  ·rename_i hb;exact⟨_,opT_ptrNil ho ht hb hy rfl,h⟩
  ·rename_i hb;exact⟨_,opT_ptrNil ho ht hb hy rfl,h⟩
  ·exact h.elim
 ·rename_i hy
  obtain⟨ht,h⟩:=h
  obtain⟨e,ht⟩:=Option.isSome_iff_exists.1 ht
  unfold nilK at h
  split at h
  ·rename_i hb;exact⟨_,opT_sliceNil ho ht hb hy rfl,h⟩
  ·rename_i hb;exact⟨_,opT_sliceNil ho ht hb hy rfl,h⟩
  ·exact h.elim
 ·exact h.elim
def OpQ (P:Program)(sl:SL)(bx:Boxes)(op:Op)(r:SV):Prop:=∀ o:Oper,o.op=op→OpT P o (opnd sl) bx r bx []
def hookK (P:Program)(sl:SL)(bx:Boxes)(op:Op)(K:SV→Prop):Prop:=∃ r,OpQ P sl bx op r∧K r
def OpB (P:Program)(sl:SL)(bx:Boxes)(dst:Option Nat)(op:Op)(r:SV)(bx':Boxes)(pg:List Nat):Prop:=∀ o:Oper,o.op=op→o.dst=dst→OpT P o (opnd sl) bx r bx' pg
def hookBK (P:Program)(sl:SL)(bx:Boxes)(dst:Option Nat)(op:Op)(K:SV→Boxes→List Nat→Prop):Prop:=∃ r bx' pg,OpB P sl bx dst op r bx' pg∧K r bx' pg
def someK {α:Type}:Option α→(α→Prop)→Prop
 | some c,K=>K c
 | none,_=>False
def fieldK:Option Nat→SV→(SV→Prop)→Prop
 | some d,.box k off,K=>K (.box k (off+d))
 | some d,.dptr c off,K=>K (.dptr c (off+d))
 | some d,.d (.ptr c),K=>K (.dptr c (0+d))
 | some d,.aptr k i off,K=>K (.aptr k i (off+d))
 | _,_,_=>False
def fplace (P:Program)(T:TypeId)(f:Nat):Option (Nat × Bool × Nat):=match P.underlying T with
 | some (.struct fs)=>match fs[f]? with
  | some fd=>match tagg P fd.type,tsize P fd.type with
   | some b,some n=>some (fd.offset,b,n)
   | _,_=>none
  | none=>none
 | _=>none
def fieldVK:Option (Nat × Bool × Nat)→SV→(SV→Prop)→Prop
 | some (d,true,n),.agg cs,K=>K (.agg (part cs d n))
 | some (d,false,_),.agg cs,K=>someK (cs[d]?) K
 | _,_,_=>False
def indexRows:Option BoxC→Nat→Nat→Int→(SV→Prop)→Prop
 | some (.rows sz rows),q,m,i,K=>sz=m∧0≤i∧i.toNat < rows.length∧K (.aptr q i.toNat 0)
 | _,_,_,_,_=>False
def indexK (bx:Boxes)(H:(SV→Prop)→Prop):Option Nat→SV→SV→(SV→Prop)→Prop
 | some m,.d (.slice rows),.d (.int _ i),K=>0≤i∧∃ row,rows[i.toNat]? = some row∧row.length=m∧K (.dptr row 0)
 | some m,.acc q,.d (.int _ i),K=>indexRows (bget bx q) q m i K
 | none,.box _ _,.d (.int _ _),K=>H K
 | none,.undef,.d (.int _ _),K=>H K
 | _,_,_,_=>False
def esize (P:Program)(T:Nat):Option Nat:=(selem P T).bind (tsize P)
def lenRows:Option BoxC→(SV→Prop)→Prop
 | some (.rows _ rows),K=>K (.d (.int .i64 rows.length))
 | _,_=>False
def lenK (P:Program)(bx:Boxes)(T:Nat):SV→(SV→Prop)→Prop
 | .d (.slice rows),K=>(selem P T).isSome=true∧K (.d (.int .i64 rows.length))
 | .d .nil,K=>(selem P T).isSome=true∧K (.d (.int .i64 0))
 | .d .emp,K=>(selem P T).isSome=true∧K (.d (.int .i64 0))
 | .d (.str s),K=>P.underlying T=some .string∧K (.d (.int .i64 s.length))
 | .acc q,K=>(selem P T).isSome=true∧lenRows (bget bx q) K
 | _,_=>False
def cloK (P:Program)(args:List SV)(bx:Boxes)(H:(SV→Prop)→Prop):SV→(SV→Prop)→Prop
 | .clo f caps,K=>∃ r,((∃ args',coerceL [] (args++caps)=some args'∧CallOK P f args' r∧r.closed=true)∨(∃ args',coerceL bx (args++caps)=some args'∧CallOK P f args' r∧r.scalar=true))∧K r
 | _,K=>H K
def callQK (P:Program)(sl:SL)(bx:Boxes):Callee→List Operand→List TypeId→(SV→Prop)→Prop
 | .value fo,args,tys,K=>cloK P (args.map (opnd sl)) bx (hookK P sl bx (.call ⟨.value fo,args.toArray,tys.toArray⟩)) (opnd sl fo) K
 | .builtin .len,[x],[T],K=>lenK P bx T (opnd sl x) K
 | c,args,tys,K=>hookK P sl bx (.call ⟨c,args.toArray,tys.toArray⟩) K
def pickK:SV→SV→SV→(SV→Prop)→Prop
 | .d (.bool t),x,y,K=>K (if t then x else y)
 | _,_,_,_=>False
def notK:SV→(SV→Prop)→Prop
 | .d (.bool b),K=>K (.d (.bool (!b)))
 | _,_=>False
def negK:SV→(SV→Prop)→Prop
 | .d (.int .i64 m),K=>InR (0 - m)∧K (.d (.int .i64 (0 - m)))
 | _,_=>False
def byteK (P:Program)(T:Nat):SV→SV→(SV→Prop)→Prop
 | .d (.str s),.d (.int _ i),K=>P.underlying T=some .string∧0≤i∧∃ c,s[i.toNat]? = some c∧K (.d (.int .u8 c.toNat))
 | _,_,_=>False
def extractK:SV→Nat→(SV→Prop)→Prop
 | .tuple xs,i,K=>someK (xs[i]?) K
 | _,_,_=>False
def nilCheckK:SV→(SV→Prop)→Prop
 | .box k off,K=>K (.box k off)
 | .dptr c off,K=>K (.dptr c off)
 | .d (.ptr c),K=>K (.d (.ptr c))
 | _,_=>False
def convK (H:(SV→Prop)→Prop):Option TypeDesc→Option TypeDesc→SV→(SV→Prop)→Prop
 | some (.int _),some (.int k'),.d (.int _ m),K=>K (.d (.int k' (k'.wrap m)))
 | some .string,some .string,.d (.str t),K=>K (.d (.str t))
 | _,_,_,K=>H K
def ifaceK (T:Nat):SV→(SV→Prop)→Prop
 | .d y,K=>K (.d (.iface T y))
 | .agg cs,K=>∃ ds,cs=ds.map SV.d∧K (.d (.iface T (.agg ds)))
 | _,_=>False
def buildK:Option (List SV)→Option (List (Nat × Nat))→Option (List (Nat × List SV))→(SV→Prop)→Prop
 | some zs,some ps,some l,K=>someK (fillSV ps zs l) fun out=>out.all SV.one=true∧K (.agg out)
 | _,_,_,_=>False
def buildSliceK (m np:Nat):Option Nat→Option (List SV)→Option (List (List D))→(List (List D)→Prop)→Prop
 | some sz,some zs,some rows,K=>1≤sz∧zs.length=sz∧m*sz≤16777216∧np=m∧K rows
 | _,_,_,_=>False
def elemOf' (P:Program)(T:Nat):Nat:=(selem P T).getD 0
def lookK2 (ok:Bool)(kd:D)(kvs:List (D × D))(K:SV→Prop)(z:SV):Prop:=K (lookR ok kd kvs z)
def lookK1 (P:Program)(kt et:TypeId)(ok:Bool)(kvs:List (D × D))(K:SV→Prop)(kd:D):Prop :=
 KeyAt P kt kd∧someK (zone P et) (lookK2 ok kd kvs K)
def lookKB (P:Program)(kt et:TypeId)(ok:Bool)(x:SV)(K:SV→Prop):Option BoxC→Prop
 | some (.map kvs)=>keyT P kt=true∧(∀ kv,kv∈kvs→KeyAt P kt kv.1)∧someK (asD x) (lookK1 P kt et ok kvs K)
 | _=>False
def lookK (P:Program)(bx:Boxes)(ok:Bool)(x:SV):Option TypeDesc→SV→(SV→Prop)→Prop
 | some (.map kt et),.mp k,K=>lookKB P kt et ok x K (bget bx k)
 | some (.map kt et),.d (.map kvs),K=>keyT P kt=true∧(∀ kv,kv∈kvs→KeyAt P kt kv.1)∧someK (asD x) (lookK1 P kt et ok kvs K)
 | _,_,_=>False
def loV:Option SV→Option Int
 | none=>some 0
 | some (.d (.int _ i))=>some i
 | _=>none
def hiV (n:Nat):Option SV→Option Int
 | none=>some n
 | some (.d (.int _ i))=>some i
 | _=>none
def cutAt (n:Nat)(K:Nat→Nat→Prop):Option Int→Option Int→Prop
 | some l,some h=>0≤l∧l≤h∧h≤n∧K l.toNat h.toNat
 | _,_=>False
def cutRowsK (rows:List (List D))(lo hi:Option SV)(K:SV→Prop):Option Nat→Prop
 | some sz=>(∀ row,row∈rows→row.length=sz)∧cutAt rows.length (fun l h=>K (.d (.slice ((rows.take h).drop l)))) (loV lo) (hiV rows.length hi)
 | none=>False
def cutK (P:Program)(T:TypeId)(lo hi:Option SV):SV→(SV→Prop)→Prop
 | .d (.slice rows),K=>cutRowsK rows lo hi K (esize P T)
 | .d (.str s),K=>P.underlying T=some .string∧cutAt s.length (fun l h=>K (.d (.str ((s.take h).drop l)))) (loV lo) (hiV s.length hi)
 | _,_=>False
def quietK (P:Program)(sl:SL)(bx:Boxes):Op→(SV→Prop)→Prop
 | .move x,K=>K (opnd sl x)
 | .assign x,K=>K (opnd sl x)
 | .pick c x y,K=>pickK (opnd sl c) (opnd sl x) (opnd sl y) K
 | .load T x,K=>someK (loadSV P bx T (opnd sl x)) K
 | .binOp op t x y _,K=>binK P op t (nilC y) (opnd sl x) (opnd sl y) K
 | .unOp .not _ x,K=>notK (opnd sl x) K
 | .unOp .neg _ x,K=>negK (opnd sl x) K
 | .fieldAddr T x f,K=>fieldK (foff P T f) (opnd sl x) K
 | .field T x f,K=>fieldVK (fplace P T f) (opnd sl x) K
 | .indexAddr T x y,K=>indexK bx (hookK P sl bx (.indexAddr T x y)) (esize P T) (opnd sl x) (opnd sl y) K
 | .index T x y,K=>byteK P T (opnd sl x) (opnd sl y) K
 | .extract x i,K=>extractK (opnd sl x) i K
 | .nilCheck x,K=>nilCheckK (opnd sl x) K
 | .convert s d x,K=>convK (hookK P sl bx (.convert s d x)) (P.underlying s) (P.underlying d) (opnd sl x) K
 | .makeInterface T x,K=>isIfaceT P T=false∧(P.underlying T).isSome=true∧ifaceK T (opnd sl x) K
 | .build T parts,K=>buildK (tzero P T) (splaces P T) (partsSV (opnd sl) parts.toList) K
 | .buildSlice T m parts,K=>(selem P T).isSome=true∧buildSliceK m parts.size (tsize P (elemOf' P T)) (tzero P (elemOf' P T)) (rowsOf (opnd sl) ((tsize P (elemOf' P T)).getD 0) 0 parts.toList) fun rows=>K (.d (.slice rows))
 | .call c,K=>callQK P sl bx c.callee c.args.toList c.argTypes.toList K
 | .makeFunc (.func f) ⟨[]⟩ caps,K=>K (.clo f (caps.toList.map (opnd sl)))
 | .slice T x lo hi none,K=>cutK P T (lo.map (opnd sl)) (hi.map (opnd sl)) (opnd sl x) K
 | .lookup T m x ok,K=>lookK P bx ok (opnd sl x) (P.underlying T) (opnd sl m) K
 | op,K=>hookK P sl bx op K
theorem callQK_sound {c:Call} (ho:o.op=.call c)(h:callQK P sl bx c.callee c.args.toList c.argTypes.toList K):Quiet P o sl bx K:=by
 obtain⟨callee,args,tys⟩:=c
 simp only at h
 unfold callQK at h
 split at h
 ·rename_i fo _ _ _
  unfold cloK at h
  split at h
  ·rename_i hf
   obtain⟨r,h1 | h1,hK⟩:=h
   ·obtain⟨args',h2,h3,h4⟩:=h1
    exact⟨_,opT_call ho hf h2 h3 h4,hK⟩
   ·obtain⟨args',h2,h3,h4⟩:=h1
    exact⟨_,opT_callLend ho hf h2 h3 h4,hK⟩
  ·obtain⟨r,h1,h2⟩:=h
   exact⟨r,h1 o ho,h2⟩
 ·rename_i x T hx hT
  have hx':args = #[x]:=by apply Array.ext';simpa using hx
  have hT':tys = #[T]:=by apply Array.ext';simpa using hT
  subst hx' hT'
  unfold lenK at h
  split at h
  ·rename_i hx;obtain⟨e,he⟩:=Option.isSome_iff_exists.1 h.1;exact⟨_,opT_lenSlice ho hx he,h.2⟩
  ·rename_i hx;obtain⟨e,he⟩:=Option.isSome_iff_exists.1 h.1;exact⟨_,opT_lenNil ho (.inl hx) he,h.2⟩
  ·rename_i hx;obtain⟨e,he⟩:=Option.isSome_iff_exists.1 h.1;exact⟨_,opT_lenNil ho (.inr hx) he,h.2⟩
  ·rename_i hx;exact⟨_,opT_lenStr ho hx h.1,h.2⟩
  ·rename_i hx
   obtain⟨h1,h⟩:=h
   obtain⟨e,he⟩:=Option.isSome_iff_exists.1 h1
   unfold lenRows at h
   split at h
   ·rename_i hb;exact⟨_,opT_lenAcc ho hx (mem_of_bget hb) he,h⟩
   ·exact h.elim
  ·exact h.elim
 ·obtain⟨r,h1,h2⟩:=h
  exact⟨r,h1 o ho,h2⟩
theorem esize_spec {T m:Nat} (h:esize P T=some m):∃ e,selem P T=some e∧tsize P e=some m:=by
 unfold esize at h
 cases he:selem P T with
 | none=>simp [he] at h
 | some e=>exact⟨e,rfl,by simpa [he] using h⟩
theorem lookK_sound {T:TypeId} {m x:Operand} {ok:Bool} (ho:o.op=.lookup T m x ok)(h:lookK P bx ok (opnd sl x) (P.underlying T) (opnd sl m) K):Quiet P o sl bx K:=by
 have fin:∀ {kt et:TypeId} {kvs:List (D × D)},P.underlying T=some (.map kt et)→IsMap bx (opnd sl m) kvs→keyT P kt=true→(∀ kv,kv∈kvs→KeyAt P kt kv.1)→someK (asD (opnd sl x)) (lookK1 P kt et ok kvs K)→Quiet P o sl bx K:=by
  intro kt et kvs hT hm hk hall h
  unfold someK at h
  split at h
  ·rename_i hx
   obtain⟨h1,h⟩:=h
   unfold someK at h
   split at h
   ·rename_i hz;exact⟨_,opT_lookup ho hm hT hk hx h1 hall hz,h⟩
   ·exact h.elim
  ·exact h.elim
 generalize hm:opnd sl m=vm at h
 generalize hT:P.underlying T=vT at h
 unfold lookK at h
 split at h
 ·generalize hb:bget bx _=ob at h
  unfold lookKB at h
  split at h
  ·exact fin hT (by rw [hm];exact .mp _ _ (mem_of_bget hb)) h.1 h.2.1 h.2.2
  ·exact h.elim
 ·exact fin hT (by rw [hm];exact .d _) h.1 h.2.1 h.2.2
 ·exact h.elim
theorem fieldVK_sound {T:TypeId} {x:Operand} {f:Nat} (ho:o.op=.field T x f)(h:fieldVK (fplace P T f) (opnd sl x) K):Quiet P o sl bx K:=by
 generalize hp:fplace P T f=pl at h
 unfold fplace at hp
 split at hp
 ·rename_i fs hT
  split at hp
  ·rename_i fd hf
   split at hp
   ·rename_i b m ha hs
    subst hp
    unfold fieldVK at h
    split at h
    ·rename_i hq hx
     simp only [Option.some.injEq,Prod.mk.injEq] at hq
     obtain⟨hq1,hq2,hq3⟩:=hq
     subst hq1 hq2 hq3
     exact⟨_,opT_fieldAgg ho hx hT hf rfl rfl ha hs,h⟩
    ·rename_i hq hx
     simp only [Option.some.injEq,Prod.mk.injEq] at hq
     obtain⟨hq1,hq2,hq3⟩:=hq
     subst hq1 hq2 hq3
     unfold someK at h
     split at h
     ·rename_i hc;exact⟨_,opT_fieldOne ho hx hT hf rfl rfl ha hc,h⟩
     ·exact h.elim
    ·exact h.elim
   ·subst hp;exact h.elim
  ·subst hp;exact h.elim
 ·subst hp;exact h.elim
theorem loN_of {lo:Option Operand} {l:Int} (h:loV (lo.map (opnd sl))=some l)(h0:0≤l):loN (opnd sl) lo=some l.toNat:=by
 cases lo with
 | none=>simp only [Option.map_none,loV,Option.some.injEq] at h;subst h;rfl
 | some y =>
  simp only [Option.map_some] at h
  unfold loN
  simp only
  generalize opnd sl y=v at h
  cases v <;> simp only [loV,reduceCtorEq] at h
  rename_i d
  cases d <;> simp only [reduceCtorEq] at h
  simp only [Option.some.injEq] at h
  subst h
  simp [h0]
theorem hiN_of {hi:Option Operand} {n:Nat} {l:Int} (h:hiV n (hi.map (opnd sl))=some l)(h0:0≤l):hiN (opnd sl) n hi=some l.toNat:=by
 cases hi with
 | none=>simp only [Option.map_none,hiV,Option.some.injEq] at h;subst h;rfl
 | some y =>
  simp only [Option.map_some] at h
  unfold hiN
  simp only
  generalize opnd sl y=v at h
  cases v <;> simp only [hiV,reduceCtorEq] at h
  rename_i d
  cases d <;> simp only [reduceCtorEq] at h
  simp only [Option.some.injEq] at h
  subst h
  simp [h0]
theorem cutAt_ex {n:Nat} {K:Nat→Nat→Prop} {a b:Option Int} (h:cutAt n K a b):∃ l k,a=some l∧b=some k∧0≤l∧l≤k∧k≤n∧K l.toNat k.toNat:=by
 unfold cutAt at h
 split at h
 ·exact⟨_,_,rfl,rfl,h⟩
 ·exact h.elim
theorem cutK_sound {T:TypeId} {x:Operand} {lo hi:Option Operand} (ho:o.op=.slice T x lo hi none)(h:cutK P T (lo.map (opnd sl)) (hi.map (opnd sl)) (opnd sl x) K):Quiet P o sl bx K:=by
 unfold cutK at h
 split at h
 ·rename_i hx
  generalize hs:esize P T=os at h
  cases os with
  | none=>exact h.elim
  | some sz =>
   obtain⟨e,hT,hs⟩:=esize_spec hs
   obtain⟨hr,h⟩:=h
   obtain⟨l,k,h1,h2,h3,h4,h5,h6⟩:=cutAt_ex h
   exact⟨_,opT_cutSlice ho hx hT hs hr (loN_of h1 h3) (hiN_of h2 (by omega)) (by omega) (by omega),h6⟩
 ·rename_i hx
  obtain⟨hT,h⟩:=h
  obtain⟨l,k,h1,h2,h3,h4,h5,h6⟩:=cutAt_ex h
  exact⟨_,opT_cutStr ho hx hT (loN_of h1 h3) (hiN_of h2 (by omega)) (by omega) (by omega),h6⟩
 ·exact h.elim
theorem quietK_sound (h:quietK P sl bx o.op K):Quiet P o sl bx K:=by
 unfold quietK at h
 split at h
 ·rename_i ho;exact⟨_,opT_move ho,h⟩
 ·rename_i ho;exact⟨_,opT_assign ho,h⟩
 ·rename_i ho
  unfold pickK at h
  split at h
  ·rename_i hc;exact⟨_,opT_pick ho hc,h⟩
  ·exact h.elim
 ·rename_i ho
  unfold someK at h
  split at h
  ·rename_i hc;exact⟨_,opT_load ho hc,h⟩
  ·exact h.elim
 ·rename_i ho;exact binK_sound ho h
 ·rename_i ho
  unfold notK at h
  split at h
  ·rename_i hc;exact⟨_,opT_not ho hc,h⟩
  ·exact h.elim
 ·rename_i ho
  unfold negK at h
  split at h
  ·rename_i hc
   refine⟨_,opT_neg ho hc,?_⟩
   rw [wrap_i64 h.1];exact h.2
  ·exact h.elim
 ·rename_i ho
  unfold fieldK at h
  split at h
  ·rename_i hf hx;exact⟨_,opT_fieldBox ho hx hf,h⟩
  ·rename_i hf hx;exact⟨_,opT_fieldPtr ho (by rw [hx];exact .dptr _ _) hf,h⟩
  ·rename_i hf hx;exact⟨_,opT_fieldPtr ho (by rw [hx];exact .ptr _) hf,h⟩
  ·rename_i hf hx;exact⟨_,opT_fieldAptr ho hx hf,h⟩
  ·exact h.elim
 ·rename_i ho;exact fieldVK_sound ho h
 ·rename_i ho
  unfold indexK at h
  split at h
  ·rename_i hs hx hy
   obtain⟨e,hT,hs⟩:=esize_spec hs
   obtain⟨h0,row,hr,hl,hK⟩:=h
   exact⟨_,opT_indexSlice ho hx hy hT hs h0 hr hl,hK⟩
  ·rename_i hs hx hy
   obtain⟨e,hT,hs⟩:=esize_spec hs
   generalize hb:bget bx _=ob at h
   cases ob with
   | none=>exact h.elim
   | some bc =>
    cases bc with
    | rows sz rows =>
     obtain⟨h1,h2,h3,h4⟩:=h
     exact⟨_,opT_indexAcc ho hx (mem_of_bget hb) hy hT hs h1 h2 h3,h4⟩
    | cells _=>exact h.elim
    | map _=>exact h.elim
    | ghost _ _=>exact h.elim
  ·obtain⟨r,h1,h2⟩:=h
   exact⟨r,h1 _ ho,h2⟩
  ·obtain⟨r,h1,h2⟩:=h
   exact⟨r,h1 _ ho,h2⟩
  ·exact h.elim
 ·rename_i ho
  unfold byteK at h
  split at h
  ·rename_i hx hy
   obtain⟨h1,h2,c,h3,h4⟩:=h
   exact⟨_,opT_indexStr ho hx hy h1 h2 h3,h4⟩
  ·exact h.elim
 ·rename_i ho
  unfold extractK at h
  split at h
  ·rename_i hx
   unfold someK at h
   split at h
   ·rename_i hr;exact⟨_,opT_extract ho hx hr,h⟩
   ·exact h.elim
  ·exact h.elim
 ·rename_i ho
  unfold nilCheckK at h
  split at h
  ·rename_i hx;exact⟨_,opT_nilBox ho hx,h⟩
  ·rename_i hx;exact⟨_,opT_nilPtr ho (by rw [hx];exact .dptr _ _),by rw [hx];exact h⟩
  ·rename_i hx;exact⟨_,opT_nilPtr ho (by rw [hx];exact .ptr _),by rw [hx];exact h⟩
  ·exact h.elim
 ·rename_i ho
  unfold convK at h
  split at h
  ·rename_i hs hd hx;exact⟨_,opT_convInt ho hs hd hx,h⟩
  ·rename_i hs hd hx;exact⟨_,opT_convStr ho hs hd hx,h⟩
  ·obtain⟨r,h1,h2⟩:=h
   exact⟨r,h1 o ho,h2⟩
 ·rename_i ho
  obtain⟨h1,h2,h⟩:=h
  obtain⟨d,hd⟩:=Option.isSome_iff_exists.1 h2
  have hn:(match d with | .interface _=>false | _=>true)=true:=by
   unfold isIfaceT at h1
   rw [hd] at h1
   cases d <;> simp_all
  unfold ifaceK at h
  split at h
  ·rename_i hx;exact⟨_,opT_makeInterface ho hx hd hn,h⟩
  ·rename_i hx
   obtain⟨ds,h3,h4⟩:=h
   exact⟨_,opT_makeInterfaceAgg ho (by rw [hx,h3]) hd hn,h4⟩
  ·exact h.elim
 ·rename_i ho
  unfold buildK at h
  split at h
  ·rename_i hz hp hl
   unfold someK at h
   split at h
   ·rename_i hf;exact⟨_,opT_build ho hz hp hl hf h.1,h.2⟩
   ·exact h.elim
  ·exact h.elim
 ·rename_i T m parts ho
  obtain⟨h0,h⟩:=h
  obtain⟨e,hT⟩:=Option.isSome_iff_exists.1 h0
  have he:elemOf' P T=e:=by unfold elemOf';rw [hT];rfl
  rw [he] at h
  unfold buildSliceK at h
  split at h
  ·rename_i hs hz hr
   obtain⟨h0,h1,h2,h3,h4⟩:=h
   rw [hs] at hr
   have hlim:∀ {m sz:Nat},m*sz≤16777216→1≤sz→m≤lim:=fun {m sz} h h'=>by
    have:m*1≤m*sz:=Nat.mul_le_mul_left _ h'
    unfold lim;omega
   exact⟨_,opT_buildSlicePub ho hT hs hz h1 h2 h3 hr (hlim h2 h0),h4⟩
  ·exact h.elim
 ·rename_i ho;exact callQK_sound ho h
 ·rename_i ho;exact⟨_,opT_makeFunc ho,h⟩
 ·rename_i ho;exact cutK_sound ho h
 ·rename_i ho;exact lookK_sound ho h
 ·obtain⟨r,h1,h2⟩:=h
  exact⟨r,h1 o rfl,h2⟩
end Go.Abs
namespace Go.Abs
open Go
variable {P:Program} {o:Oper} {sl:SL} {bx:Boxes}
def ebytes (P:Program)(e:TypeId):Option Nat:=(P.info? e).map (·.bytes)
abbrev KB:=SV→Boxes→List Nat→Prop
def appRowsK (bytes sz:Nat)(xs:List (List D))(bx:Boxes)(k:Nat):Option BoxC→KB→Prop
 | some (.rows sz' rs),K=>sz'=sz∧k≤999999∧(rs.length+xs.length)*bytes≤lim∧K (.acc k) ((k,.rows sz (rs++xs))::bpurge k (berase k bx)) [k]
 | _,_=>False
def appToK (bytes sz:Nat)(xs:List (List D))(bx:Boxes):SV→Option Nat→KB→Prop
 | .acc k,_,K=>appRowsK bytes sz xs bx k (bget bx k) K
 | .d .nil,some k,K=>k≤999999∧xs.length*bytes≤lim∧K (.acc k) ((k,.rows sz xs)::bpurge k (berase k bx)) [k]
 | _,_,_=>False
def srcRowsK (bytes sz:Nat)(bx:Boxes)(x:SV)(dst:Option Nat):Option BoxC→KB→Prop
 | some (.rows sz' xs),K=>sz'=sz∧appToK bytes sz xs bx x dst K
 | _,_=>False
def srcK (bytes sz:Nat)(bx:Boxes)(x:SV)(dst:Option Nat):SV→KB→Prop
 | .d .nil,K=>appToK bytes sz [] bx x dst K
 | .d .emp,K=>appToK bytes sz [] bx x dst K
 | .d (.slice xs),K=>(∀ row,row∈xs→row.length=sz)∧appToK bytes sz xs bx x dst K
 | .acc q,K=>srcRowsK bytes sz bx x dst (bget bx q) K
 | _,_=>False
def appendK (bx:Boxes)(dst:Option Nat)(x y:SV):Option Nat→Option (List SV)→Option Nat→KB→Prop
 | some sz,some zs,some bytes,K=>zs.length=sz∧bytes≠0∧srcK bytes sz bx x dst y K
 | _,_,_,_=>False
def storeRowsK (bx:Boxes)(k i off:Nat)(us:List SV):Option BoxC→KB→Prop
 | some (.rows sz rows),K=>∃ row ds,rows[i]? = some row∧us=ds.map SV.d∧off+us.length≤row.length∧K (.tuple []) ((k,.rows sz (rows.set i (setAll row off ds)))::berase k bx) []
 | _,_=>False
def storeCellsK (bx:Boxes)(k off:Nat)(us:List SV):Option BoxC→KB→Prop
 | some (.cells cs),K=>off+us.length≤cs.length∧K (.tuple []) ((k,.cells (setAll cs off us))::berase k bx) []
 | _,_=>False
def storeK (bx:Boxes)(size:Option Nat):SV→Option (List SV)→KB→Prop
 | .box k off,some us,K=>size=some us.length∧storeCellsK bx k off us (bget bx k) K
 | .aptr k i off,some us,K=>size=some us.length∧storeRowsK bx k i off us (bget bx k) K
 | _,_,_=>False
def cloAccK (P:Program)(args:List SV)(bx:Boxes):SV→Option Nat→KB→Prop
 | .clo f caps,some k,K=>k≤999999∧∃ args' q sz rows r,coerceL [] (args++caps)=some args'∧CallB P f args' [] r [(q,.rows sz rows)]∧K (accRes q k r) ((k,.rows sz rows)::bpurge k (berase k bx)) [k]
 | _,_,_=>False
def newBoxK (bx:Boxes):Option Nat→Option (List SV)→KB→Prop
 | some k,some cs,K=>k≤999999∧K (.box k 0) ((k,.cells (cs.map (spurge k)))::bpurge k (berase k bx)) [k]
 | _,_,_=>False
def ownRowsK (bx:Boxes):Option Nat→Option Nat→List (List D)→KB→Prop
 | some k,some sz,rows,K=>k≤999999∧K (.acc k) ((k,.rows sz rows)::bpurge k (berase k bx)) [k]
 | _,_,_,_=>False
def newMapK (bx:Boxes):Option Nat→KB→Prop
 | some k,K=>k≤999999∧K (.mp k) ((k,.map [])::bpurge k (berase k bx)) [k]
 | _,_=>False
def updK2 (bx:Boxes)(k:Nat)(K:KB)(kvs:List (D × D))(kd vd:D):Prop:=K (.tuple []) ((k,.map (kput kd vd kvs))::berase k bx) []
def updK1 (P:Program)(bx:Boxes)(k:Nat)(y:SV)(K:KB)(kt:TypeId)(kvs:List (D × D))(kd:D):Prop:=KeyAt P kt kd∧someK (asD y) (updK2 bx k K kvs kd)
def updK (P:Program)(bx:Boxes)(k:Nat)(x y:SV)(K:KB)(kt:TypeId):Option BoxC→Prop
 | some (.map kvs)=>keyT P kt=true∧(∀ kv,kv∈kvs→KeyAt P kt kv.1)∧someK (asD x) (updK1 P bx k y K kt kvs)
 | _=>False
def mapUpdK (P:Program)(bx:Boxes)(x y:SV):Option TypeDesc→SV→KB→Prop
 | some (.map kt _),.mp k,K=>updK P bx k x y K kt (bget bx k)
 | _,_,_=>False
def sliceRowsK (bx:Boxes)(sz k:Nat)(i:Int)(K:KB):Option BoxC→Prop
 | some (.rows sz' rs)=>sz'=sz∧0≤i∧i≤rs.length∧K (.acc k) ((k,.rows sz (rs.drop i.toNat))::bpurge k (berase k bx)) [k]
 | _=>False
def sliceK (bx:Boxes):Option Nat→SV→SV→KB→Prop
 | some sz,.acc k,.d (.int _ i),K=>k≤999999∧sliceRowsK bx sz k i K (bget bx k)
 | _,_,_,_=>False
def lendKey:List SV→Option Nat
 | []=>none
 | .mp k::_=>some k
 | .box k _::_=>some k
 | _::r=>lendKey r
def lendAcc (own:List Nat):List SV→Option Nat
 | []=>none
 | .acc k::r=>if own.contains (500000+k)=true then some k else lendAcc own r
 | _::r=>lendAcc own r
def orElse (a b:Option Nat):Option Nat:=match a with
 | some k=>some k
 | none=>b
def cloBoxK (P:Program)(args:List SV)(bx:Boxes)(k:Nat):SV→Option BoxC→KB→Prop
 | .clo f caps,some c,K=>c.closed=true∧∃ args' r c',lendL k 1000000 (args++caps)=some args'∧c'.closed=true ∧
   CallB P f args' [(1000000,c)] r [(1000000,c')]∧r.closed=true∧K r ((k,c')::berase k bx) []
 | _,_,_=>False
def liftK (bx:Boxes)(K:KB):SV→Prop:=fun r=>K r bx []
theorem liftK_app (bx:Boxes)(K:KB)(r:SV):liftK bx K r=K r bx []:=rfl
def callVK (P:Program)(sl:SL)(bx:Boxes)(fo:Operand)(args:List Operand)(tys:List TypeId):Option Nat→KB→Prop
 | none,K=>callQK P sl bx (.value fo) args tys (liftK bx K)
 | some k,K=>cloBoxK P (args.map (opnd sl)) bx k (opnd sl fo) (bget bx k) K
def unD:List SV→Option (List D)
 | []=>some []
 | .d x::r=>match unD r with
  | some l=>some (x::l)
  | none=>none
 | _::_=>none
theorem unD_map:∀ {zs:List SV} {zd:List D},unD zs=some zd→zs=zd.map SV.d
 | [],zd,h=>by simp only [unD,Option.some.injEq] at h;subst h;rfl
 | x::r,zd,h=>by
  cases x <;> simp only [unD,reduceCtorEq] at h
  cases hr:unD r with
  | none=>simp [hr] at h
  | some l =>
   simp only [hr,Option.some.injEq] at h
   subst h
   rw [unD_map hr];rfl
def makeZK (bx:Boxes)(k sz:Nat)(n:Int)(K:KB):Option (List D)→Prop
 | some zd=>zd.all D.one=true∧K (.acc k) ((k,.rows sz (List.replicate n.toNat zd))::bpurge k (berase k bx)) [k]
 | none=>False
def makeK (bx:Boxes):Option Nat→SV→SV→Option Nat→Option (List SV)→Option Nat→KB→Prop
 | some k,.d (.int _ n),.d (.int _ m),some sz,some zs,some bytes,K=>k≤999999∧1≤sz∧zs.length=sz∧bytes≠0∧0≤n∧n≤m∧m*(bytes:Int)≤(lim:Int)∧makeZK bx k sz n K (unD zs)
 | _,_,_,_,_,_,_=>False
def copyToK (bx:Boxes)(k sz:Nat)(xs:List (List D))(K:KB):Option BoxC→Prop
 | some (.rows sz' rs)=>sz'=sz∧xs.length≤rs.length∧K (.d (.int .i64 xs.length)) ((k,.rows sz (xs++rs.drop xs.length))::berase k bx) []
 | _=>False
def copySrcK (bx:Boxes)(k sz:Nat)(K:KB):Option BoxC→Prop
 | some (.rows sz' xs)=>sz'=sz∧copyToK bx k sz xs K (bget bx k)
 | _=>False
def copyK (bx:Boxes):Option Nat→SV→SV→KB→Prop
 | some sz,.acc k,.d (.slice xs),K=>(∀ row,row∈xs→row.length=sz)∧copyToK bx k sz xs K (bget bx k)
 | some sz,.acc k,.d .nil,K=>copyToK bx k sz [] K (bget bx k)
 | some sz,.acc k,.acc q,K=>copySrcK bx k sz K (bget bx q)
 | _,_,_,_=>False
def isAcc:SV→Bool
 | .acc _=>true
 | _=>false
def isOwn (own:List Nat):Option Nat→Bool
 | some k=>own.contains k
 | none=>false
def yldK (P:Program)(bx:Boxes)(Y:Yld)(l:Nat)(K:KB):Option Nat→List SV→Prop
 | some j,[x]=>∃ y,coerce [] x=some y∧Y.P=P∧Y.l=l∧j < Y.N∧Y.xs j=y∧K (.d (.bool (Y.go j))) ((1000000,.ghost Y (Y.next j))::berase 1000000 bx) []
 | _,_=>False
def ghostCloK (P:Program)(bx:Boxes)(Y:Yld)(st:Option Nat)(args:List SV)(K:KB):SV→Prop
 | .clo f caps=>∃ args' r st',coerceL [] (args++caps)=some args'∧CallB P f args' [(1000000,.ghost Y st)] r [(1000000,.ghost Y st')]∧r.closed=true∧K r ((1000000,.ghost Y st')::berase 1000000 bx) []
 | .yld l=>yldK P bx Y l K st args
 | _=>False
def ghostK (P:Program)(bx:Boxes)(f:SV)(args:List SV)(K:KB):Option BoxC→Prop
 | some (.ghost Y st)=>ghostCloK P bx Y st args K f
 | _=>False
def isGhost (own:List Nat):Option Nat→Bool
 | some k=>own.contains (700000+k)
 | none=>own.contains 799999
def callGK (P:Program)(lst:List Nat)(sl:SL)(bx:Boxes)(fo:Operand)(args:List Operand)(tys:List TypeId)(K:KB):Bool→Prop
 | true=>ghostK P bx (opnd sl fo) (args.map (opnd sl)) K (bget bx 1000000)
 | false=>callVK P sl bx fo args tys (orElse (lendAcc lst (args.map (opnd sl))) (lendKey (args.map (opnd sl)))) K
def isHook (own:List Nat):Option Nat→Bool
 | some k=>own.contains (800000+k)
 | none=>false
def callHK (P:Program)(lst:List Nat)(sl:SL)(bx:Boxes)(dst:Option Nat)(fo:Operand)(args:List Operand)(tys:List TypeId)(K:KB):Bool→Prop
 | true=>hookBK P sl bx dst (.call ⟨.value fo,args.toArray,tys.toArray⟩) K
 | false=>callGK P lst sl bx fo args tys K (isGhost lst dst)
def callK (P:Program)(own:Bool)(lst:List Nat)(sl:SL)(bx:Boxes)(dst:Option Nat):Callee→List Operand→List TypeId→KB→Prop
 | .builtin .append,[x,y],[T,U],K=>notInt P U=true∧(selem P T).isSome=true∧appendK bx dst (opnd sl x) (opnd sl y) (tsize P (elemOf' P T)) (tzero P (elemOf' P T)) (ebytes P (elemOf' P T)) K
 | .builtin .copy,[x,y],[T,_],K=>copyK bx (esize P T) (opnd sl x) (opnd sl y) K
 | .value fo,args,tys,K=>match own with
  | true=>cloAccK P (args.map (opnd sl)) bx (opnd sl fo) dst K
  | false=>callHK P lst sl bx dst fo args tys K (isHook lst dst)
 | .builtin .delete,args,tys,K=>hookBK P sl bx dst (.call ⟨.builtin .delete,args.toArray,tys.toArray⟩) K
 | c,args,tys,K=>callQK P sl bx c args tys (liftK bx K)
def opK (P:Program)(own:List Nat)(dst:Option Nat)(sl:SL)(bx:Boxes):Op→KB→Prop
 | .alloc T,K=>newBoxK bx dst (tzero P T) K
 | .box _ x,K=>newBoxK bx dst (content (opnd sl x)) K
 | .store T x y,K=>storeK bx (tsize P T) (opnd sl x) (content (opnd sl y)) K
 | .call c,K=>callK P (isOwn own dst) own sl bx dst c.callee c.args.toList c.argTypes.toList K
 | .makeMap _ none,K=>newMapK bx dst K
 | .makeSlice T x y,K=>(selem P T).isSome=true∧makeK bx dst (opnd sl x) (opnd sl y) (tsize P (elemOf' P T)) (tzero P (elemOf' P T)) (ebytes P (elemOf' P T)) K
 | .mapUpdate T m x y,K=>mapUpdK P bx (opnd sl x) (opnd sl y) (P.underlying T) (opnd sl m) K
 | .slice T x (some y) none none,K=>match isAcc (opnd sl x) with
  | true=>sliceK bx (esize P T) (opnd sl x) (opnd sl y) K
  | false=>quietK P sl bx (.slice T x (some y) none none) (liftK bx K)
 | .buildSlice T m parts,K=>match isOwn own dst with
  | true=>(selem P T).isSome=true∧buildSliceK m parts.size (tsize P (elemOf' P T)) (tzero P (elemOf' P T)) (rowsOf (opnd sl) ((tsize P (elemOf' P T)).getD 0) 0 parts.toList) fun rows=>ownRowsK bx dst (tsize P (elemOf' P T)) rows K
  | false=>quietK P sl bx (.buildSlice T m parts) (liftK bx K)
 | .insert T m x y,K=>hookBK P sl bx dst (.insert T m x y) K
 | op,K=>quietK P sl bx op (liftK bx K)
theorem appToK_sound {T U e sz bytes:Nat} {x y:Operand} (ho:o.op=.call { callee:=.builtin .append,args:=#[x,y],argTypes:=#[T,U] }) {xs:List (List D)} {K:KB} (hE:ElemT P T e sz bytes)(hU:notInt P U=true)
  (hs:IsSrc bx sz (opnd sl y) xs) (h:appToK bytes sz xs bx (opnd sl x) o.dst K):∃ r bx' pg,OpT P o (opnd sl) bx r bx' pg∧K r bx' pg:=by
 generalize hx:opnd sl x=vx at h
 generalize hdd:o.dst=dd at h
 unfold appToK at h
 split at h
 ·generalize hb:bget bx _=ob at h
  cases ob with
  | none=>exact h.elim
  | some bc =>
   cases bc with
   | rows sz' rs =>
    obtain⟨h1,h0,h4,h5⟩:=h
    subst h1
    exact⟨_,_,_,opT_appendAcc h0 ho hE hU hx (mem_of_bget hb) hs h4,h5⟩
   | cells _=>exact h.elim
   | map _=>exact h.elim
   | ghost _ _=>exact h.elim
 ·exact⟨_,_,_,opT_appendNil h.1 ho hE hU hx hs h.2.1,h.2.2⟩
 ·exact h.elim
theorem callK_sound {own:Bool} {lst:List Nat} {c:Call} {K:KB} (ho:o.op=.call c)(h:callK P own lst sl bx o.dst c.callee c.args.toList c.argTypes.toList K):∃ r bx' pg,OpT P o (opnd sl) bx r bx' pg∧K r bx' pg:=by
 have q:∀ {K':SV→Prop},Quiet P o sl bx K'→(∀ r,K' r→K r bx [])→∃ r bx' pg,OpT P o (opnd sl) bx r bx' pg∧K r bx' pg:=by
  rintro K' ⟨r,h1,h2⟩ hk;exact⟨r,bx,[],h1,hk r h2⟩
 obtain⟨callee,args,tys⟩:=c
 simp only at h
 cases callee with
 | value fo =>
  simp only [callK] at h
  split at h
  ·generalize hf:opnd sl fo=vf at h
   generalize hdd:o.dst=dd at h
   unfold cloAccK at h
   split at h
   ·obtain⟨h0,args',q,sz,rows,r,h1,h2,h3⟩:=h
    exact⟨_,_,_,opT_callAcc h0 ho hf h1 h2,h3⟩
   ·exact h.elim
  ·generalize hhb:isHook lst o.dst=hb at h
   cases hb with
   | true =>
    simp only [callHK] at h
    obtain⟨r,bx',pg,h1,h2⟩:=h
    exact⟨r,bx',pg,h1 o ho rfl,h2⟩
   | false =>
   simp only [callHK] at h
   generalize hgb:isGhost lst o.dst=gb at h
   cases gb with
   | true =>
    simp only [callGK] at h
    generalize hf:opnd sl fo=vf at h
    generalize hb:bget bx 1000000=ob at h
    unfold ghostK at h
    split at h
    ·have hb':=mem_of_bget hb
     unfold ghostCloK at h
     split at h
     ·obtain⟨args',r,st',h1,h2,h3,h4⟩:=h
      exact⟨_,_,_,opT_callGhost ho hf hb' h1 h2 h3,h4⟩
     ·generalize hal:args.toList.map (opnd sl)=al at h
      unfold yldK at h
      split at h
      ·obtain⟨y,h1,h2,h3,hN,h4,h5⟩:=h
       obtain⟨xo,hxo⟩:∃ xo,args = #[xo]:=by
        have hl:=congrArg List.length hal
        simp only [List.length_map,List.length_cons,List.length_nil,Array.length_toList] at hl
        obtain⟨l⟩:=args
        match l,hl with
        | [xo],_=>exact⟨xo,rfl⟩
       subst hxo
       simp only [List.map_cons,List.map_nil,List.cons.injEq,and_true] at hal
       exact⟨_,_,_,opT_yield ho hf hb' (by rw [hal];exact h1) h2 h3 hN h4,h5⟩
      ·exact h.elim
     ·exact h.elim
    ·exact h.elim
   | false =>
   simp only [callGK] at h
   unfold callVK at h
   split at h
   ·exact q (callQK_sound (c:=⟨.value fo,args,tys⟩) ho h) fun _ h=>h
   ·generalize hf:opnd sl fo=vf at h
    generalize hb:bget bx _=ob at h
    unfold cloBoxK at h
    split at h
    ·obtain⟨n2,args',r,c',h1,n4,h2,h3,h4⟩:=h
     exact⟨_,_,_,opT_callBox ho hf (mem_of_bget hb) (by omega) n2 n4 h1 h2 h3,h4⟩
    ·exact h.elim
 | invoke r m =>
  simp only [callK] at h
  exact q (callQK_sound (c:=⟨.invoke r m,args,tys⟩) ho h) fun _ h=>h
 | builtin b =>
 unfold callK at h
 split at h
 ·rename_i x y T U hcal hx hT
  simp only [Callee.builtin.injEq] at hcal
  subst hcal
  have hx':args = #[x,y]:=by apply Array.ext';simpa using hx
  have hT':tys = #[T,U]:=by apply Array.ext';simpa using hT
  subst hx' hT'
  obtain⟨hU,h0,h⟩:=h
  obtain⟨e,he⟩:=Option.isSome_iff_exists.1 h0
  have hee:elemOf' P T=e:=by unfold elemOf';rw [he];rfl
  rw [hee] at h
  generalize hs:tsize P e=os at h
  generalize hz:tzero P e=oz at h
  generalize hb:ebytes P e=ob at h
  unfold appendK at h
  split at h
  ·rename_i sz zs bytes
   obtain⟨h1,h2,h⟩:=h
   have hE:ElemT P T e sz bytes:=⟨he,hs,by rw [hz];simp [h1],hb,h2⟩
   generalize hy:opnd sl y=vy at h
   unfold srcK at h
   split at h
   ·exact appToK_sound ho hE hU (by rw [hy];exact .nil) h
   ·exact appToK_sound ho hE hU (by rw [hy];exact .emp) h
   ·exact appToK_sound ho hE hU (by rw [hy];exact .slice _ h.1) h.2
   ·generalize hb:bget bx _=ob at h
    cases ob with
    | none=>exact h.elim
    | some bc =>
     cases bc with
     | rows sz' rs =>
      obtain⟨h3,h⟩:=h
      subst h3
      exact appToK_sound ho hE hU (by rw [hy];exact .acc _ _ (mem_of_bget hb)) h
     | cells _=>exact h.elim
     | map _=>exact h.elim
     | ghost _ _=>exact h.elim
   ·exact h.elim
  ·exact h.elim
 ·rename_i x y T U hcal hx hT
  simp only [Callee.builtin.injEq] at hcal
  subst hcal
  have hx':args = #[x,y]:=by apply Array.ext';simpa using hx
  have hT':tys = #[T,U]:=by apply Array.ext';simpa using hT
  subst hx' hT'
  generalize hs:esize P T=os at h
  have fin:∀ {K2:KB} {sz k:Nat} {xs:List (List D)},some sz=esize P T→opnd sl x=.acc k→IsSrc bx sz (opnd sl y) xs→copyToK bx k sz xs K2 (bget bx k)→∃ r bx' pg,OpT P o (opnd sl) bx r bx' pg∧K2 r bx' pg:=by
   intro K2 sz k xs hsz hxx hsrc h
   obtain⟨e,hT,hs⟩:=esize_spec hsz.symm
   generalize hb:bget bx k=ob at h
   cases ob with
   | none=>exact h.elim
   | some bc =>
    cases bc with
    | rows sz' rs =>
     obtain⟨rfl,h1,h2⟩:=h
     exact⟨_,_,_,opT_copy ho hT hs hxx (mem_of_bget hb) hsrc h1,h2⟩
    | cells _=>exact h.elim
    | map _=>exact h.elim
    | ghost _ _=>exact h.elim
  generalize hvx:opnd sl x=vx at h
  generalize hvy:opnd sl y=vy at h
  unfold copyK at h
  split at h
  ·exact fin hs.symm hvx (by rw [hvy];exact .slice _ h.1) h.2
  ·exact fin hs.symm hvx (by rw [hvy];exact .nil) h
  ·generalize hb:bget bx _=ob at h
   cases ob with
   | none=>exact h.elim
   | some bc =>
    cases bc with
    | rows sz' xs =>
     obtain⟨rfl,h⟩:=h
     exact fin hs.symm hvx (by rw [hvy];exact .acc _ _ (mem_of_bget hb)) h
    | cells _=>exact h.elim
    | map _=>exact h.elim
    | ghost _ _=>exact h.elim
  ·exact h.elim
 ·rename_i hcal;simp at hcal
 ·rename_i hcal
  simp only [Callee.builtin.injEq] at hcal
  subst hcal
  obtain⟨r,bx',pg,h1,h2⟩:=h
  exact⟨r,bx',pg,h1 o ho rfl,h2⟩
 ·exact q (callQK_sound (c:=⟨.builtin b,args,tys⟩) ho h) fun _ h=>h
theorem opK_sound {own:List Nat} {K:KB} (h:opK P own o.dst sl bx o.op K):∃ r bx' pg,OpT P o (opnd sl) bx r bx' pg∧K r bx' pg:=by
 have q:∀ {K':SV→Prop},Quiet P o sl bx K'→(∀ r,K' r→K r bx [])→∃ r bx' pg,OpT P o (opnd sl) bx r bx' pg∧K r bx' pg:=by
  rintro K' ⟨r,h1,h2⟩ hk;exact⟨r,bx,[],h1,hk r h2⟩
 generalize hop:o.op=op at h
 unfold opK at h
 split at h
 ·generalize hz:tzero P _=oz at h
  generalize hdd:o.dst=dd at h
  unfold newBoxK at h
  split at h
  ·exact⟨_,_,_,opT_alloc h.1 hop hz,h.2⟩
  ·exact h.elim
 ·generalize hz:content _=oz at h
  generalize hdd:o.dst=dd at h
  unfold newBoxK at h
  split at h
  ·exact⟨_,_,_,opT_box h.1 hop hz,h.2⟩
  ·exact h.elim
 ·generalize hx:opnd sl _=vx at h
  generalize hus:content _=ous at h
  unfold storeK at h
  split at h
  ·obtain⟨hs,h⟩:=h
   generalize hb:bget bx _=ob at h
   cases ob with
   | none=>exact h.elim
   | some bc =>
    cases bc with
    | cells cs=>exact⟨_,_,_,opT_storeBox hop hx (mem_of_bget hb) hus hs h.1,h.2⟩
    | rows _ _=>exact h.elim
    | map _=>exact h.elim
    | ghost _ _=>exact h.elim
  ·obtain⟨hs,h⟩:=h
   generalize hb:bget bx _=ob at h
   cases ob with
   | none=>exact h.elim
   | some bc =>
    cases bc with
    | rows sz rows =>
     obtain⟨row,ds,h1,h2,h3,h4⟩:=h
     subst h2
     simp only [List.length_map] at hs h3
     exact⟨_,_,_,opT_storeAptr hop hx (mem_of_bget hb) h1 hus hs h3,h4⟩
    | cells _=>exact h.elim
    | map _=>exact h.elim
    | ghost _ _=>exact h.elim
  ·exact h.elim
 ·exact callK_sound hop h
 ·generalize hdd:o.dst=dd at h
  unfold newMapK at h
  split at h
  ·exact⟨_,_,_,opT_makeMap h.1 hop,h.2⟩
  ·exact h.elim
 ·rename_i T x y
  obtain⟨h0,h⟩:=h
  obtain⟨e,hT⟩:=Option.isSome_iff_exists.1 h0
  have he:elemOf' P T=e:=by unfold elemOf';rw [hT];rfl
  rw [he] at h
  generalize hx:opnd sl x=vx at h
  generalize hy:opnd sl y=vy at h
  generalize hs:tsize P e=os at h
  generalize hz:tzero P e=oz at h
  generalize hb:ebytes P e=ob at h
  generalize hdd:o.dst=dd at h
  unfold makeK at h
  split at h
  ·obtain⟨k1,k2,k3,k4,k5,k6,k7,h⟩:=h
   unfold makeZK at h
   split at h
   ·rename_i hu
    have hzz:=unD_map hu
    exact⟨_,_,_,opT_makeSlice k1 hop hx hy ⟨hT,hs,by rw [hz];simp [k3],hb,k4⟩ (by rw [hz,hzz]) (fun d hd=>List.all_eq_true.1 h.1 d hd) k5 k6 k7 k2,h.2⟩
   ·exact h.elim
  ·exact h.elim
 ·rename_i m x y
  generalize hm:opnd sl m=vm at h
  generalize hT:P.underlying _=vT at h
  unfold mapUpdK at h
  split at h
  ·generalize hb:bget bx _=ob at h
   unfold updK at h
   split at h
   ·obtain⟨h1,h2,h⟩:=h
    generalize hx:asD (opnd sl x)=vx at h
    unfold someK at h
    split at h
    ·obtain⟨h3,h⟩:=h
     generalize hy:asD (opnd sl y)=vy at h
     unfold someK at h
     split at h
     ·exact⟨_,_,_,opT_mapUpdate hop hm (mem_of_bget hb) hT h1 hx h3 h2 hy,h⟩
     ·exact h.elim
    ·exact h.elim
   ·exact h.elim
  ·exact h.elim
 ·split at h
  ·generalize hx:opnd sl _=vx at h
   generalize hy:opnd sl _=vy at h
   generalize hs:esize P _=vs at h
   unfold sliceK at h
   split at h
   ·obtain⟨h0,h⟩:=h
    generalize hb:bget bx _=ob at h
    unfold sliceRowsK at h
    split at h
    ·obtain⟨rfl,h1,h2,h3⟩:=h
     obtain⟨e,hT,hs⟩:=esize_spec hs
     exact⟨_,_,_,opT_sliceAcc hop h0 hx (mem_of_bget hb) hy hT hs h1 h2,h3⟩
    ·exact h.elim
   ·exact h.elim
  ·exact q (quietK_sound (by rw [hop];exact h)) fun _ h=>h
 ·rename_i T m parts
  split at h
  ·obtain⟨h0,h⟩:=h
   obtain⟨e,hT⟩:=Option.isSome_iff_exists.1 h0
   have he:elemOf' P T=e:=by unfold elemOf';rw [hT];rfl
   rw [he] at h
   generalize hs:tsize P e=os at h
   generalize hz:tzero P e=oz at h
   generalize hr:rowsOf _ _ _ _=orr at h
   generalize hdd:o.dst=dd at h
   unfold buildSliceK at h
   split at h
   ·obtain⟨h0,h1,h2,h3,h4⟩:=h
    unfold ownRowsK at h4
    split at h4
    ·rename_i hss
     simp only [Option.some.injEq] at hss
     subst hss
     have hlim:∀ {m sz:Nat},m*sz≤16777216→1≤sz→m≤lim:=fun {m sz} h h'=>by
      have:m*1≤m*sz:=Nat.mul_le_mul_left _ h'
      unfold lim;omega
     exact⟨_,_,_,opT_buildSliceOwn h4.1 hop hT hs hz h1 h2 h3 hr (hlim h2 h0),h4.2⟩
    ·exact h4.elim
   ·exact h.elim
  ·exact q (quietK_sound (by rw [hop];exact h)) fun _ h=>h
 ·obtain⟨r,bx',pg,h1,h2⟩:=h
  exact⟨r,bx',pg,h1 o hop rfl,h2⟩
 ·exact q (quietK_sound (by rw [hop];exact h)) fun _ h=>h
def guardK (b want:Bool)(A B:Prop):Prop:=(b=want→A)∧(b = !want→B)
def runV (P:Program)(own:List Nat)(ops:Array Oper):List Oper→SL→Boxes→(SL→Boxes→Prop)→Prop
 | [],sl,bx,K=>K sl bx
 | o::os,sl,bx,K=>match o.guard with
  | none=>opK P own o.dst sl bx o.op fun r bx' pg=>runV P own ops os (sput (purgeSl pg sl) o.dst r) bx' K
  | some (j,want)=>match gslot ops j with
   | some t=>match sget sl t with
    | .d (.bool b)=>guardK b want (opK P own o.dst sl bx o.op fun r bx' pg=>runV P own ops os (sput (purgeSl pg sl) o.dst r) bx' K) (runV P own ops os (sput sl o.dst (.tuple [])) bx K)
    | .tuple []=>runV P own ops os (sput sl o.dst (.tuple [])) bx K
    | _=>False
   | none=>False
def restV (P:Program)(own:List Nat)(ops:Array Oper)(os:List Oper)(sl:SL)(dst:Option Nat)(K:SL→Boxes→Prop):KB:=fun r bx pg=>runV P own ops os (sput (purgeSl pg sl) dst r) bx K
def gselV (P:Program)(own:List Nat)(ops:Array Oper)(dst:Option Nat)(op:Op)(os:List Oper)(sl:SL)(bx:Boxes)(want:Bool)(K:SL→Boxes→Prop):SV→Prop
 | .d (.bool b)=>guardK b want (opK P own dst sl bx op (restV P own ops os sl dst K)) (runV P own ops os (sput sl dst (.tuple [])) bx K)
 | .tuple []=>runV P own ops os (sput sl dst (.tuple [])) bx K
 | _=>False
def gslV (P:Program)(own:List Nat)(ops:Array Oper)(dst:Option Nat)(op:Op)(os:List Oper)(sl:SL)(bx:Boxes)(want:Bool)(K:SL→Boxes→Prop):Option Nat→Prop
 | some t=>gselV P own ops dst op os sl bx want K (sget sl t)
 | none=>False
def gbV (P:Program)(own:List Nat)(ops:Array Oper)(dst:Option Nat)(op:Op)(os:List Oper)(sl:SL)(bx:Boxes)(K:SL→Boxes→Prop)(b want:Bool):Prop :=
 guardK b want (opK P own dst sl bx op (restV P own ops os sl dst K)) (runV P own ops os (sput sl dst (.tuple [])) bx K)
section
variable (P:Program) (own:List Nat) (ops:Array Oper) (os:List Oper) (sl:SL) (bx:Boxes) (K:SL→Boxes→Prop) (dst:Option Nat) (op:Op) (ty:TypeId) (pos:String) (after:Array Edge)
theorem runV_nil:runV P own ops [] sl bx K=K sl bx:=by rw [runV]
theorem runV_cons:runV P own ops (⟨dst,op,ty,pos,after,none⟩::os) sl bx K=opK P own dst sl bx op (restV P own ops os sl dst K):=by rw [runV];rfl
theorem runV_guard (j:Nat)(want:Bool):runV P own ops (⟨dst,op,ty,pos,after,some (j,want)⟩::os) sl bx K=gslV P own ops dst op os sl bx want K (gslot ops j):=by
 rw [runV]
 simp only
 cases gslot ops j with
 | none=>rfl
 | some t =>
  simp only [gslV,gselV]
  split <;> rfl
theorem restV_app (r:SV)(pg:List Nat):restV P own ops os sl dst K r bx pg=runV P own ops os (sput (purgeSl pg sl) dst r) bx K:=rfl
theorem gselV_bool (b want:Bool):gselV P own ops dst op os sl bx want K (.d (.bool b))=gbV P own ops dst op os sl bx K b want:=rfl
theorem gselV_skip (want:Bool):gselV P own ops dst op os sl bx want K (.tuple [])=runV P own ops os (sput sl dst (.tuple [])) bx K:=rfl
theorem gbV_tt:gbV P own ops dst op os sl bx K true true=opK P own dst sl bx op (restV P own ops os sl dst K):=by simp [gbV,guardK]
theorem gbV_ff:gbV P own ops dst op os sl bx K false false=opK P own dst sl bx op (restV P own ops os sl dst K):=by simp [gbV,guardK]
theorem gbV_tf:gbV P own ops dst op os sl bx K true false=runV P own ops os (sput sl dst (.tuple [])) bx K:=by simp [gbV,guardK]
theorem gbV_ft:gbV P own ops dst op os sl bx K false true=runV P own ops os (sput sl dst (.tuple [])) bx K:=by simp [gbV,guardK]
end
def qrunV (P:Program)(own:List Nat)(ops:Array Oper)(bx:Boxes):List Oper→SL→(SL→Prop)→Prop
 | [],sl,K=>K sl
 | o::os,sl,K=>match o.guard with
  | none=>quietK P sl bx o.op fun r=>qrunV P own ops bx os (sput sl o.dst r) K
  | some (j,want)=>match gslot ops j with
   | some t=>match sget sl t with
    | .d (.bool b)=>guardK b want (quietK P sl bx o.op fun r=>qrunV P own ops bx os (sput sl o.dst r) K) (qrunV P own ops bx os (sput sl o.dst (.tuple [])) K)
    | .tuple []=>qrunV P own ops bx os (sput sl o.dst (.tuple [])) K
    | _=>False
   | none=>False
def restQV (P:Program)(own:List Nat)(ops:Array Oper)(bx:Boxes)(os:List Oper)(sl:SL)(dst:Option Nat)(K:SL→Prop):SV→Prop:=fun r=>qrunV P own ops bx os (sput sl dst r) K
def gselQ (P:Program)(own:List Nat)(ops:Array Oper)(bx:Boxes)(dst:Option Nat)(op:Op)(os:List Oper)(sl:SL)(want:Bool)(K:SL→Prop):SV→Prop
 | .d (.bool b)=>guardK b want (quietK P sl bx op (restQV P own ops bx os sl dst K)) (qrunV P own ops bx os (sput sl dst (.tuple [])) K)
 | .tuple []=>qrunV P own ops bx os (sput sl dst (.tuple [])) K
 | _=>False
def gslQ (P:Program)(own:List Nat)(ops:Array Oper)(bx:Boxes)(dst:Option Nat)(op:Op)(os:List Oper)(sl:SL)(want:Bool)(K:SL→Prop):Option Nat→Prop
 | some t=>gselQ P own ops bx dst op os sl want K (sget sl t)
 | none=>False
def gbQ (P:Program)(own:List Nat)(ops:Array Oper)(bx:Boxes)(dst:Option Nat)(op:Op)(os:List Oper)(sl:SL)(K:SL→Prop)(b want:Bool):Prop :=
 guardK b want (quietK P sl bx op (restQV P own ops bx os sl dst K)) (qrunV P own ops bx os (sput sl dst (.tuple [])) K)
section
variable (P:Program) (own:List Nat) (ops:Array Oper) (os:List Oper) (sl:SL) (bx:Boxes) (K:SL→Prop) (dst:Option Nat) (op:Op) (ty:TypeId) (pos:String) (after:Array Edge)
theorem qrunV_nil:qrunV P own ops bx [] sl K=K sl:=by rw [qrunV]
theorem qrunV_cons:qrunV P own ops bx (⟨dst,op,ty,pos,after,none⟩::os) sl K=quietK P sl bx op (restQV P own ops bx os sl dst K):=by rw [qrunV];rfl
theorem qrunV_guard (j:Nat)(want:Bool):qrunV P own ops bx (⟨dst,op,ty,pos,after,some (j,want)⟩::os) sl K=gslQ P own ops bx dst op os sl want K (gslot ops j):=by
 rw [qrunV]
 simp only
 cases gslot ops j with
 | none=>rfl
 | some t =>
  simp only [gslQ,gselQ]
  split <;> rfl
theorem restQV_app (r:SV):restQV P own ops bx os sl dst K r=qrunV P own ops bx os (sput sl dst r) K:=rfl
theorem gselQ_bool (b want:Bool):gselQ P own ops bx dst op os sl want K (.d (.bool b))=gbQ P own ops bx dst op os sl K b want:=rfl
theorem gselQ_skip (want:Bool):gselQ P own ops bx dst op os sl want K (.tuple [])=qrunV P own ops bx os (sput sl dst (.tuple [])) K:=rfl
theorem gbQ_tt:gbQ P own ops bx dst op os sl K true true=quietK P sl bx op (restQV P own ops bx os sl dst K):=by simp [gbQ,guardK]
theorem gbQ_ff:gbQ P own ops bx dst op os sl K false false=quietK P sl bx op (restQV P own ops bx os sl dst K):=by simp [gbQ,guardK]
theorem gbQ_tf:gbQ P own ops bx dst op os sl K true false=qrunV P own ops bx os (sput sl dst (.tuple [])) K:=by simp [gbQ,guardK]
theorem gbQ_ft:gbQ P own ops bx dst op os sl K false true=qrunV P own ops bx os (sput sl dst (.tuple [])) K:=by simp [gbQ,guardK]
end
theorem guard_cases {ops:Array Oper} {A B:Prop} (h:match o.guard with
  | none=>A
  | some (j,want)=>match gslot ops j with
   | some t=>match sget sl t with
    | .d (.bool b)=>guardK b want A B
    | .tuple []=>B
    | _=>False
   | none=>False):∃ g,guardV ops sl o=some g∧(g=true→A)∧(g=false→B):=by
 unfold guardV
 cases hg:o.guard with
 | none =>
  simp only [hg] at h
  exact⟨true,rfl,fun _=>h,by simp⟩
 | some jw =>
  obtain⟨j,want⟩:=jw
  simp only [hg] at h
  cases hj:gslot ops j with
  | none=>simp only [hj] at h
  | some t =>
   simp only [hj] at h ⊢
   split at h
   ·rename_i b hs
    refine⟨b == want,by rw [hs],fun hb=>h.1 (by simpa using hb),fun hb=>h.2 ?_⟩
    cases b <;> cases want <;> simp_all
   ·rename_i hs
    exact⟨false,by rw [hs],by simp,fun _=>h⟩
   ·exact h.elim
theorem runV_sound {n:Nat} {own:List Nat} {ops:Array Oper} {K:SL→Boxes→Prop}:∀ (os:List Oper)(sl:SL)(bx:Boxes),dstsOK n os=true→runV P own ops os sl bx K→Run P n ops os sl bx K
 | [],sl,bx,_,h=>by rw [runV] at h;exact h
 | o::os,sl,bx,hd,h=>by
  simp only [dstsOK,List.all_cons,Bool.and_eq_true] at hd
  rw [runV] at h
  obtain⟨g,h1,h2,h3⟩:=guard_cases h
  refine⟨g,h1,dstsOK_spec (ops:=[o]) (by simp [dstsOK,hd.1]) o (by simp),fun hg=>?_,fun hg=>runV_sound os _ bx hd.2 (h3 hg)⟩
  obtain⟨r,bx',pg,q1,q2⟩:=opK_sound (h2 hg)
  exact⟨r,bx',pg,q1,runV_sound os _ bx' hd.2 q2⟩
theorem qrunV_sound {n:Nat} {own:List Nat} {ops:Array Oper} {K K':SL→Prop} (hK:∀ sl,K sl→K' sl):∀ (os:List Oper)(sl:SL),dstsOK n os=true→qrunV P own ops bx os sl K→QRun P n ops os sl bx K'
 | [],sl,_,h=>by rw [qrunV] at h;exact hK sl h
 | o::os,sl,hd,h=>by
  simp only [dstsOK,List.all_cons,Bool.and_eq_true] at hd
  rw [qrunV] at h
  obtain⟨g,h1,h2,h3⟩:=guard_cases h
  refine⟨g,h1,dstsOK_spec (ops:=[o]) (by simp [dstsOK,hd.1]) o (by simp),fun hg=>?_,fun hg=>qrunV_sound hK os _ hd.2 (h3 hg)⟩
  obtain⟨r,q1,q2⟩:=quietK_sound (h2 hg)
  exact⟨r,q1,qrunV_sound hK os _ hd.2 q2⟩
def keepK (ks:List Nat)(K:SL→Boxes→Prop):SL→Boxes→Prop:=fun sl bx=>K (keepSl ks sl) (keepBx ks bx)
theorem keepK_app (ks:List Nat)(K:SL→Boxes→Prop)(sl:SL)(bx:Boxes):keepK ks K sl bx=K (keepSl ks sl) (keepBx ks bx):=rfl
def consBx (k:Nat):Option BoxC→Boxes→Boxes
 | some c,r=>(k,c)::r
 | none,r=>r
theorem keepBx_cons (k:Nat)(ks:List Nat)(bx:Boxes):keepBx (k::ks) bx=consBx k (bget bx k) (keepBx ks bx):=by
 rw [keepBx];cases bget bx k <;> rfl
theorem keepBx_nil (bx:Boxes):keepBx [] bx=[]:=rfl
def tailV (P:Program)(own:List Nat)(ops:Array Oper)(os:List Oper)(bx:Boxes)(K:SL→Boxes→Prop):SL→Prop:=fun sl=>runV P own ops os sl bx K
theorem tailV_app (P:Program)(own:List Nat)(ops:Array Oper)(os:List Oper)(bx:Boxes)(K:SL→Boxes→Prop)(sl:SL):tailV P own ops os bx K sl=runV P own ops os sl bx K:=rfl
theorem AWp.reg {ro:Option Nat} {n:Nat} {Q:Exit→SL→Boxes→Prop} {id:Nat} {ops:Array Oper} (ks own:List Nat)(hd:dstsOK n ops.toList=true)
  (h:runV P own ops ops.toList sl bx (keepK ks (Q .normal))):AWp ro P n (.region id ops false) Q sl bx :=
 AWp.region ks ks hd (runV_sound _ _ _ hd h)
theorem AWp.regD {ro:Option Nat} {n:Nat} {Q:Exit→SL→Boxes→Prop} {id:Nat} {ops:Array Oper} (ks own:List Nat)(m:Nat)(hm:P.follows .mixedOrders=true)(hc:drawOK ops m (Region.before ops)=true)(hd:dstsOK n ops.toList=true)
  (h:qrunV P own ops bx (ops.toList.take m) sl (tailV P own ops (ops.toList.drop m) bx (keepK ks (Q .normal)))):AWp ro P n (.region id ops true) Q sl bx:=by
 have hd1:dstsOK n (ops.toList.take m)=true:=by
  unfold dstsOK at *;rw [List.all_eq_true] at *;exact fun o ho=>hd o (List.mem_of_mem_take ho)
 have hd2:dstsOK n (ops.toList.drop m)=true:=by
  unfold dstsOK at *;rw [List.all_eq_true] at *;exact fun o ho=>hd o (List.mem_of_mem_drop ho)
 exact AWp.regionDraw m _ ks ks hm hc hd (qrunV_sound (fun sl1 h=>runV_sound _ _ _ hd2 h) _ _ hd1 h)
end Go.Abs
namespace Go.Abs
open Go
variable {P:Program}
mutual
def SV.bd:SV→Prop
 | .d x=>x.Bd
 | .agg cs=>SV.bdL cs
 | .tuple cs=>SV.bdL cs
 | .clo _ cs=>SV.bdL cs
 | .dptr cells _=>∀ d,d∈cells→d.Bd
 | .undef | .box _ _ | .acc _ | .aptr _ _ _ | .mp _ | .yld _ | .vptr _ _=>True
def SV.bdL:List SV→Prop
 | []=>True
 | c::cs=>c.bd∧SV.bdL cs
end
mutual
theorem RepV.bd {S:Nat→Prop} {w:World} {β:Names}:∀ {x:SV} {v:Value},RepV S w β x v→x.bd
 | .d x,v,h=>by simp only [SV.bd];exact h.inv_d.bd
 | .agg cs,v,h=>by cases h with | agg _ vs h1 _ h2=>simp only [SV.bd];exact RepL.bd ⟨h1,h2⟩
 | .tuple cs,v,h=>by cases h with | tuple _ vs h1 h2=>simp only [SV.bd];exact RepL.bd ⟨h1,h2⟩
 | .clo f cs,v,h=>by cases h with | clo _ _ vs h1 h2=>simp only [SV.bd];exact RepL.bd ⟨h1,h2⟩
 | .dptr cells off,v,h=>by
  obtain⟨b,base,hp⟩:=h.inv_dptr
  simp only [SV.bd]
  intro d hd
  obtain⟨j,hj⟩:=List.mem_iff_getElem?.1 hd
  obtain⟨u,hu⟩:=hp.there j (List.getElem?_eq_some_iff.1 hj).1
  exact (hp.rep j d u hj hu).bd
 | .undef,v,h=>by simp [SV.bd]
 | .box _ _,v,h=>by simp [SV.bd]
 | .acc _,v,h=>by simp [SV.bd]
 | .aptr _ _ _,v,h=>by simp [SV.bd]
 | .mp _,v,h=>by simp [SV.bd]
 | .yld _,v,h=>by simp [SV.bd]
 | .vptr _ _,v,h=>by simp [SV.bd]
theorem RepL.bd {S:Nat→Prop} {w:World} {β:Names}:∀ {cs:List SV} {vs:List Value},RepL S w β cs vs→SV.bdL cs
 | [],_,_=>by simp [SV.bdL]
 | c::cs,vs,h=>by
  simp only [SV.bdL]
  obtain⟨v,hv,hr⟩:=h.get (j:=0) (c:=c) rfl
  cases vs with
  | nil=>simp at hv
  | cons v vs=>exact⟨(h.2 0 c v rfl rfl).bd,RepL.bd ⟨by have:=h.1;simpa using this,fun j c v hc hv=>h.2 (j+1) c v (by simpa using hc) (by simpa using hv)⟩⟩
end
theorem CallB.bd {f:FuncId} {args:List SV} {pre post:Boxes} {r:SV} (hE:Enters P f)(h:SV.bdL args→CallB P f args pre r post):CallB P f args pre r post :=
 ⟨hE,fun C β vs hi hv=>(h hv.bd).2 C β vs hi hv⟩
theorem Enters.of {f:FuncId} {fn:Func} {c:Code} (hf:P.funcs[f]? = some fn)(hb:fn.body=some c)(hn:(fn.name == "runtime.NumGoroutine")=false):Enters P f:=⟨fn,hf,hn,by rw [hb];rfl⟩
def retB (P:Program)(fn:Func)(r:SV)(post:Boxes)(e:Exit)(sl:SL)(bx:Boxes):Prop :=
 match e with
 | .normal | .ret=>∃ xs,resL P bx sl fn.results.toList=some xs∧(wrapRes xs=r∨coerce [] (wrapRes xs)=some r)∧ble bx post
 | _=>False
theorem CallB.of_body {f:FuncId} {fn:Func} {c:Code} {args:List SV} {pre post:Boxes} {r:SV} (hf:P.funcs[f]? = some fn)(hb:fn.body=some c)(hn:(fn.name == "runtime.NumGoroutine")=false)(hm:args.length≤fn.ntmps)
  (h:AWp none P fn.ntmps c (retB P fn r post) (argSl 0 args) pre):CallB P f args pre r post:=by
 refine⟨⟨fn,hf,hn,by rw [hb];rfl⟩,?_⟩
 intro C β vs hi hv
 refine calls_of_marks hf hb ?_
 refine wpIn_mono (h C C.S0 C.w0 β _ (St.start hi hv hm)) ?_
 rintro e a' w' ⟨sl',bx',S',β',q,hs⟩
 have key:(∃ xs,resL P bx' sl' fn.results.toList=some xs∧(wrapRes xs=r∨coerce [] (wrapRes xs)=some r)∧ble bx' post)→LeavesInM Fence.wide 0 P fn a'.tmps (fun e w'=>∃ v S' β',e=.returned v∧Inv C S' w' β' post∧RepV S' w' β' r v) a'.defers .returning w':=by
  rintro⟨xs,h1,h2,h5⟩
  refine hs.leave fun w' hs=>?_
  obtain⟨v,h3,h4⟩:=run_results (P:=P) hs h1
  refine⟨v,h3,v,S',β',rfl,hs.inv.sub (ble_mem h5),?_⟩
  rcases h2 with rfl | h2
  ·exact h4
  ·exact (coerce_rep (hs.inv.sub (bx':=[]) (by simp)) (SExt.refl _ _) (by simp) h2 h4).1
 cases e with
 | normal=>exact key q
 | ret=>exact key q
 | _=>exact q.elim
section steps
variable {ro:Option Nat} {n:Nat} {Q:Exit→SL→Boxes→Prop} {sl:SL} {bx:Boxes}
theorem AWp.seqK {x y:Code} (h:∀ K:SL→Boxes→Prop,(∀ sl' bx',AWp ro P n y Q sl' bx'→K sl' bx')→AWp ro P n x (thenA K Q) sl bx):AWp ro P n (.seq x y) Q sl bx :=
 AWp.seq (h _ fun _ _ h=>h)
theorem AWp.seqR {id:Nat} {ops:Array Oper} {y:Code} (ks own:List Nat)(hd:dstsOK n ops.toList=true)
  (h:∀ K:SL→Boxes→Prop,(∀ sl' bx',AWp ro P n y Q sl' bx'→K sl' bx')→runV P own ops ops.toList sl bx (keepK ks K)):AWp ro P n (.seq (.region id ops false) y) Q sl bx :=
 AWp.seq (AWp.reg ks own hd (h _ fun _ _ h=>h))
theorem AWp.lastR {id:Nat} {ops:Array Oper} (ks own:List Nat)(hd:dstsOK n ops.toList=true)
  (h:∀ K:SL→Boxes→Prop,(∀ sl' bx',Q .normal sl' bx'→K sl' bx')→runV P own ops ops.toList sl bx (keepK ks K)):AWp ro P n (.region id ops false) Q sl bx :=
 AWp.reg ks own hd (h _ fun _ _ h=>h)
theorem AWp.seqD {id:Nat} {ops:Array Oper} {y:Code} (ks own:List Nat)(m:Nat)(hm:P.follows .mixedOrders=true)(hc:drawOK ops m (Region.before ops)=true)(hd:dstsOK n ops.toList=true)
  (h:∀ K:SL→Boxes→Prop,(∀ sl' bx',AWp ro P n y Q sl' bx'→K sl' bx')→qrunV P own ops bx (ops.toList.take m) sl (tailV P own ops (ops.toList.drop m) bx (keepK ks K))) :
  AWp ro P n (.seq (.region id ops true) y) Q sl bx :=
 AWp.seq (AWp.regD ks own m hm hc hd (h _ fun _ _ h=>h))
theorem AWp.lastD {id:Nat} {ops:Array Oper} (ks own:List Nat)(m:Nat)(hm:P.follows .mixedOrders=true)(hc:drawOK ops m (Region.before ops)=true)(hd:dstsOK n ops.toList=true)
  (h:∀ K:SL→Boxes→Prop,(∀ sl' bx',Q .normal sl' bx'→K sl' bx')→qrunV P own ops bx (ops.toList.take m) sl (tailV P own ops (ops.toList.drop m) bx (keepK ks K))) :
  AWp ro P n (.region id ops true) Q sl bx :=
 AWp.regD ks own m hm hc hd (h _ fun _ _ h=>h)
theorem AWp.condT {c:Operand} {x y:Code} (hc:opnd sl c=.d (.bool true))(h:AWp ro P n x Q sl bx):AWp ro P n (.cond c x y) Q sl bx:=AWp.cond hc (fun _=>h) (by simp)
theorem AWp.condF {c:Operand} {x y:Code} (hc:opnd sl c=.d (.bool false))(h:AWp ro P n y Q sl bx):AWp ro P n (.cond c x y) Q sl bx:=AWp.cond hc (by simp) (fun _=>h)
end steps
end Go.Abs
namespace Go.Abs
open Go
variable {ro:Option Nat} {P:Program} {n:Nat} {Q:Exit→SL→Boxes→Prop} {sl:SL} {bx:Boxes}
variable {c:Operand}
theorem AWp.goOn {y z:Code} (hc:opnd sl c=.d (.bool true))(h:AWp ro P n z Q sl bx):AWp ro P n (.seq (.cond c .skip y) z) Q sl bx :=
 AWp.seq (AWp.condT hc (AWp.skip h))
theorem AWp.stop {x z:Code} {id:Nat} (hc:opnd sl c=.d (.bool false))(h:Q (.exit id) sl bx):AWp ro P n (.seq (.cond c x (.exit id)) z) Q sl bx :=
 AWp.seq (AWp.condF hc (AWp.exit h))
variable {K:SL→Boxes→Prop}
theorem AWp.ifRetK {x z:Code} {b:Bool} (hc:opnd sl c=.d (.bool b))(hK:∀ sl' bx',AWp ro P n z Q sl' bx'→K sl' bx')
  (h1:b=true→AWp ro P n x (thenA (fun _ _=>False) Q) sl bx) (h2:b=false→AWp ro P n z Q sl bx):AWp ro P n (.cond c x .skip) (thenA K Q) sl bx :=
 AWp.cond hc (fun hb=>(h1 hb).mono fun e _ _ hq=>by cases e <;> first | exact hq.elim | exact hq) (fun hb=>AWp.skip (hK _ _ (h2 hb)))
theorem AWp.takeIfK {x y:Code} (hc:opnd sl c=.d (.bool true))(h1:AWp ro P n x (thenA (fun _ _=>False) Q) sl bx):AWp ro P n (.cond c x y) (thenA K Q) sl bx :=
 AWp.condT hc (h1.mono fun e _ _ hq=>by cases e <;> first | exact hq.elim | exact hq)
theorem AWp.skipIfK {x z:Code} (hc:opnd sl c=.d (.bool false))(hK:∀ sl' bx',AWp ro P n z Q sl' bx'→K sl' bx')(h2:AWp ro P n z Q sl bx):AWp ro P n (.cond c x .skip) (thenA K Q) sl bx :=
 AWp.condF hc (AWp.skip (hK _ _ h2))
theorem AWp.goOnK {y z:Code} (hc:opnd sl c=.d (.bool true))(hK:∀ sl' bx',AWp ro P n z Q sl' bx'→K sl' bx')(h2:AWp ro P n z Q sl bx):AWp ro P n (.cond c .skip y) (thenA K Q) sl bx :=
 AWp.condT hc (AWp.skip (hK _ _ h2))
theorem AWp.stopK {x:Code} {id:Nat} (hc:opnd sl c=.d (.bool false))(h:Q (.exit id) sl bx):AWp ro P n (.cond c x (.exit id)) (thenA K Q) sl bx :=
 AWp.condF hc (AWp.exit h)
theorem AWp.forIdx {α X:Type} (L:List α)(mk:Nat→X→SL)(mb:Nat→X→Boxes)(I:Nat→X→Prop) {c:Code} (x0:X)(h0:I 0 x0)(h1:sle sl (mk 0 x0))(h2:ble bx (mb 0 x0))
  (last:∀ x,I L.length x→AWp ro P n c (thenA (fun _ _=>False) Q) (mk L.length x) (mb L.length x))
  (step:∀ j x a,L[j]? = some a→a∈L→L.drop j=a::L.drop (j+1)→L.take (j+1)=L.take j++[a]→(j:Int) < (L.length:Int)→I j x →
   AWp ro P n c (thenA (fun sl' bx'=>∃ x',I (j+1) x'∧sle sl' (mk (j+1) x')∧ble bx' (mb (j+1) x')) Q) (mk j x) (mb j x)):AWp ro P n (.loop c) Q sl bx:=by
 refine AWp.loop (X:=Nat × X) (fun x=>mk x.1 x.2) (fun x=>mb x.1 x.2) (fun x=>x.1≤L.length∧I x.1 x.2) (fun x=>L.length - x.1) (0,x0) ⟨by simp,h0⟩ h1 h2 ?_
 rintro⟨j,x⟩ ⟨hj,hI⟩
 simp only at hj hI
 by_cases hlt:j < L.length
 ·refine (step j x L[j] (List.getElem?_eq_getElem hlt) (List.getElem_mem hlt) (List.drop_eq_getElem_cons hlt) (List.take_succ_eq_append_getElem hlt) (by omega) hI).mono ?_
  intro e sl' bx' hq
  cases e with
  | normal=>obtain⟨x',g1,g2,g3⟩:=hq;exact⟨(j+1,x'),⟨by simp only;omega,g1⟩,by simp only;omega,g2,g3⟩
  | _=>exact hq
 ·have:j=L.length:=by omega
  subst this
  refine (last x hI).mono ?_
  intro e sl' bx' hq
  cases e with
  | normal=>exact hq.elim
  | _=>exact hq
theorem bsize (l:List UInt8):(ByteArray.mk ⟨l⟩).size=l.length:=rfl
theorem leLim {n:Nat} (h:n≤1000):(n≤lim)=True:=by simp only [eq_iff_iff,iff_true];unfold lim;omega
end Go.Abs
namespace Go.Abs
open Go
variable {ro:Option Nat} {P:Program} {n:Nat} {Q:Exit→SL→Boxes→Prop} {sl:SL} {bx:Boxes} {o:Oper} {ρ:Rho}
theorem OpT.frame {r:SV} (h:OpT P o ρ bx r bx []) {k:Nat} {c:BoxC} (hk:∀ x,(k,x) ∉ bx)(hcr:c.real=true):∀ (C:Ctx)(S:Nat→Prop)(w:World) (β:Names)(a:Act),Inv C S w β ((k,c)::bx)→(∀ x,x∈o.op.operands→RepV S w β (ρ x) (a.eval x)) →
  o.wpx P a w (fun a' w'=>∃ v S' β',a'=a.put o.dst v∧Inv C S' w' β' ((k,c)::bx)∧SExt S w S' w'∧RepV S' w' β' r v∧β' = β):=by
 intro C S w β a hi ha
 have hmem:∀ {j:Nat} {x:BoxC},(j,x)∈bx→(j,x)∈(k,c)::bx:=fun h=>List.mem_cons_of_mem _ h
 have hself:(k,c)∈(k,c)::bx:=List.mem_cons_self ..
 have hne:∀ {j:Nat} {x:BoxC} {b:Nat},(j,x)∈bx→(β j).base=some b→(β k).base≠some b:=fun hj h1 h2=>by
  obtain⟨rfl,_⟩:=hi.inj _ _ _ _ hself (hmem hj) _ h2 h1
  exact hk _ hj
 have hgm:∀ {j:Nat} {Y:Yld} {st:Option Nat},(j,BoxC.ghost Y st)∈(k,c)::bx→(j,BoxC.ghost Y st)∈bx:=fun hj=>by
  rcases List.mem_cons.1 hj with he | hj
  ·simp only [Prod.mk.injEq] at he
   obtain⟨_,rfl⟩:=he
   simp [BoxC.real] at hcr
  ·exact hj
 have hi':Inv ⟨w,S,fun b=>¬ S b∧(C.pre b∨C.w0.heap.size≤b)∧(β k).base≠some b,C.fixd,C.G⟩ S w β bx:={
  S0sub:=fun _ hb=>hb,Snew:=fun _ hb=>.inl hb,Slt:=hi.Slt,kept:=fun _ _ _=>rfl,os:=rfl,tape:=rfl,output:=rfl,size:=Nat.le_refl _,
  box:=fun j x hj=>hi.box j x (hmem hj)
  priv:=fun j x hj b hb=>⟨(hi.priv j x (hmem hj) b hb).1,(hi.priv j x (hmem hj) b hb).2.1,.inl ⟨(hi.priv j x (hmem hj) b hb).1,(hi.priv j x (hmem hj) b hb).2.2,hne hj hb⟩⟩
  inj:=fun j x j' x' hj hj'=>hi.inj j x j' x' (hmem hj) (hmem hj')
  tab:=hi.tab
  one:=fun j Y st j' Y' st' hj hj'=>hi.one j Y st j' Y' st' (hmem hj) (hmem hj')
  frn:=fun j Y st hj=>by
   obtain⟨h1,h2,h3,h4,B,h5,h6⟩:=hi.frn j Y st (hmem hj)
   exact⟨h1,h2,Nat.le_trans h3 hi.size,fun k' c' hk'=>h4 k' c' (hmem hk'),B,h5,fun b hb=>⟨(h6 b hb).1,(h6 b hb).2.1,.inl ⟨(h6 b hb).1,(h6 b hb).2.2.1,(h6 b hb).2.2.2 k c hself⟩,fun k' c' hk'=>(h6 b hb).2.2.2 k' c' (hmem hk')⟩⟩
  fix:=hi.fix }
 refine Oper.wpx_mono (h _ S w β a hi' ha) ?_
 rintro a' w' ⟨v,S',β',rfl,hI,he,hv,hb⟩
 have hββ:β' = β:=funext fun k=>hb k (by simp)
 subst hββ
 have hsz:w.heap.size≤w'.heap.size:=hI.size
 have hcsz:=hi.size
 refine⟨v,S',β',rfl,?_,he,hv,rfl⟩
 exact {
  S0sub:=fun b hb'=>hI.S0sub b (hi.S0sub b hb')
  Snew:=fun b hb'=>by
   rcases hI.Snew b hb' with h | h | h
   ·exact hi.Snew b h
   ·exact .inr h.2.1
   ·exact .inr (.inr (Nat.le_trans hi.size h))
  Slt:=hI.Slt
  kept:=fun b hb' hp=>by
   refine (hI.kept b (Nat.lt_of_lt_of_le hb' hi.size) ?_).trans (hi.kept b hb' hp)
   rintro⟨_,h | h,_⟩
   ·exact hp h
   ·omega
  os:=hI.os.trans hi.os
  tape:=hI.tape.trans hi.tape
  output:=hI.output.trans hi.output
  size:=Nat.le_trans hi.size hI.size
  box:=fun j x hj=>by
   rcases List.mem_cons.1 hj with he' | hj
   ·simp only [Prod.mk.injEq] at he'
    obtain⟨rfl,rfl⟩:=he'
    exact (hi.box _ _ hself).ext he (fun b hb'=>hI.kept b (hi.priv _ _ hself b hb').2.1 fun h=>h.2.2 hb') (fun _ _=>rfl)
   ·exact hI.box j x hj
  priv:=fun j x hj b hb'=>by
   rcases List.mem_cons.1 hj with he' | hj
   ·simp only [Prod.mk.injEq] at he'
    obtain⟨rfl,rfl⟩:=he'
    obtain⟨g1,g2,g3⟩:=hi.priv _ _ hself b hb'
    refine⟨fun hs=>?_,Nat.lt_of_lt_of_le g2 hI.size,g3⟩
    rcases hI.Snew b hs with h | h | h
    ·exact g1 h
    ·exact h.2.2 hb'
    ·simp only at h;omega
   ·exact⟨(hI.priv j x hj b hb').1,(hI.priv j x hj b hb').2.1,(hi.priv j x (hmem hj) b hb').2.2⟩
  inj:=hi.inj
  tab:=hI.tab
  one:=hi.one
  frn:=fun j Y st hj=>by
   obtain⟨h1,h2,h3,h4,B,h5,h6⟩:=hI.frn j Y st (hgm hj)
   obtain⟨_,_,f3,f4,_⟩:=hi.frn j Y st hj
   refine⟨h1,h2,f3,f4,B,h5,fun b hb'=>⟨(h6 b hb').1,(h6 b hb').2.1,?_,fun k' c' hk'=>?_⟩⟩
   ·rcases (h6 b hb').2.2.1 with h | h
    ·exact h.2.1
    ·exact .inr (Nat.le_trans hi.size h)
   ·rcases List.mem_cons.1 hk' with he' | hk'
    ·simp only [Prod.mk.injEq] at he'
     obtain⟨rfl,rfl⟩:=he'
     intro hbase
     rcases (h6 b hb').2.2.1 with h | h
     ·exact h.2.2 hbase
     ·have:=(hi.priv _ _ hself b hbase).2.1;simp only at h;omega
    ·exact (h6 b hb').2.2.2 k' c' hk'
  fix:=hi.fix }
def hasBx (k:Nat):Boxes→Bool
 | []=>false
 | (j,c)::r=>j == k || c.has k || hasBx k r
variable {k:Nat}
theorem hasBx_mem :∀ {bx:Boxes},hasBx k bx=false→∀ j c,(j,c)∈bx→j≠k∧c.has k=false
 | [],_,j,c,h=>by simp at h
 | (i,x)::r,h,j,c,hm=>by
  simp only [hasBx,Bool.or_eq_false_iff,beq_eq_false_iff_ne] at h
  rcases List.mem_cons.1 hm with he | hm
  ·simp only [Prod.mk.injEq] at he
   obtain⟨rfl,rfl⟩:=he
   exact⟨h.1.1,h.1.2⟩
  ·exact hasBx_mem h.2 j c hm
theorem BoxC.purge_of :∀ {c:BoxC},c.has k=false→c.purge k=c
 | .cells cs,h=>by
  simp only [BoxC.has] at h
  simp only [BoxC.purge,BoxC.cells.injEq]
  have:∀ l:List SV,SV.hasAny k l=false→l.map (spurge k)=l:=by
   intro l
   induction l with
   | nil=>intro _;rfl
   | cons x l ih =>
    intro hl
    simp only [SV.hasAny,Bool.or_eq_false_iff] at hl
    simp only [List.map_cons,ih hl.2,spurge,hl.1,Bool.false_eq_true,if_false]
  exact this cs h
 | .ghost _ _,_=>rfl
 | .rows _ _,_=>rfl
 | .map _,_=>rfl
theorem mem_new {c:BoxC} (h:hasBx k bx=false) {j:Nat} {x:BoxC} (hm:(j,x)∈(k,c)::bx):(j,x)∈(k,c)::bpurge k (berase k bx):=by
 rcases List.mem_cons.1 hm with he | hm
 ·rw [he];exact List.mem_cons_self ..
 ·refine List.mem_cons_of_mem _ ?_
  have:∀ l:Boxes,(∀ j c,(j,c)∈l→j≠k∧c.has k=false)→(j,x)∈l→(j,x)∈bpurge k (berase k l):=by
   intro l
   induction l with
   | nil=>intro _ h;simp at h
   | cons y l ih =>
    obtain⟨i,y⟩:=y
    intro hl hml
    obtain⟨h1,h2⟩:=hl i y (List.mem_cons_self ..)
    have e:berase k ((i,y)::l)=(i,y)::berase k l:=by simp [berase,h1]
    rw [e]
    simp only [bpurge,BoxC.purge_of h2]
    rcases List.mem_cons.1 hml with he | hml
    ·rw [he];exact List.mem_cons_self ..
    ·exact List.mem_cons_of_mem _ (ih (fun j c hj=>hl j c (List.mem_cons_of_mem _ hj)) hml)
  exact this bx (hasBx_mem h) hm
structure LateOK (P:Program)(ops:Array Oper)(m iL k:Nat)(zs:List SV)(T:TypeId):Prop where
 lt:iL < m
 op:∃ o,ops[iL]? = some o∧o.op=.alloc T∧o.guard=none∧o.dst=some k
 key:k≤999999
 zero:tzero P T=some zs
variable {ops:Array Oper}
theorem draw_late {C:Ctx} {m iL kL:Nat} {zs:List SV} {T:TypeId} {QQ:Exit→Act→World→Prop} {fs:List SV} {sls:List SL} {K:SL→Boxes→Prop} (hd:DrawOK ops m)(hdst:∀ o,o∈ops.toList→dstOK n o.dst)(hnd:∀ o,o∈ops.toList→notDefer o=true)(hL:LateOK P ops m iL kL zs T)
  (hK:∀ sl bx S w β a,K sl bx→St C n S w β a sl bx→QQ .normal a w) (h0:sls[0]? = some sl) (hfr:hasBx kL bx=false) (hsl:∀ t,t≠kL→(sget sl t).has kL=false)
  (hyL:∃ s,sls[iL]? = some s∧fs[iL]? = some (.box kL 0)∧sls[iL+1]? = some (sput s (some kL) (.box kL 0)))
  (hy:∀ (i:Nat) (o:Oper),i < m→i≠iL→ops[i]? = some o→∃ s f,sls[i]? = some s∧fs[i]? = some f∧Yield P ops s bx o f∧(o.dst≠none→f.has kL=false)∧sls[i+1]? = some (sput s o.dst f))
  (hend:∃ e,sls[m]? = some e∧Run P n ops (ops.toList.drop m) e ((kL,.cells (zs.map (spurge kL)))::bx) K) :
  ∀ (fuel:Nat) (listed:Array Bool) (a:Act) (w:World),listed.size=ops.size→left ops.size listed≤fuel →
   (∀ (i:Nat) (o:Oper),ops[i]? = some o→listed.getD i false=true→∀ e,e∈o.after→Region.binds .any e=true→listed.getD e.on false=true) →
   (((∀ i,listed.getD i false=true→i < m)∧∃ S β bxx,((listed.getD iL false=true∧bxx=(kL,.cells (zs.map (spurge kL)))::bx)∨(listed.getD iL false=false∧bxx=bx))∧Inv C S w β bxx∧a.tmps.size=n∧Marks C S w a.defers∧∀ t x,Cur ops fs sl (fun i=>listed.getD i false=true) t x→RepV S w β x (a.tmps.getD t undef)) ∨
    (∃ j,m≤j∧j≤ops.size∧(∀ i,listed.getD i false=true↔i < j)∧∃ sl' bx' S β,St C n S w β a sl' bx'∧Run P n ops (ops.toList.drop j) sl' bx' K)) →
   wpAnyIn (FW ro) 0 P .any ops QQ fuel listed a w:=by
 have hyA:∀ (i:Nat) (o:Oper),i < m→ops[i]? = some o→∃ s f,sls[i]? = some s∧fs[i]? = some f∧sls[i+1]? = some (sput s o.dst f):=by
  intro i o hi ho
  by_cases he:i=iL
  ·subst he
   obtain⟨s,h1,h2,h3⟩:=hyL
   obtain⟨oL,g1,_,_,g4⟩:=hL.op
   rw [ho] at g1;simp only [Option.some.injEq] at g1;subst g1
   exact⟨s,_,h1,h2,by rw [g4];exact h3⟩
  ·obtain⟨s,f,a1,a2,_,_,a3⟩:=hy i o hi he ho;exact⟨s,f,a1,a2,a3⟩
 have htext:=cur_text (fs:=fs) (sls:=sls) (sl:=sl) hd h0 hyA
 have conv:∀ (listed:Array Bool) (a:Act) (w:World),(∀ i,listed.getD i false=true→i < m)→(∀ i,i < m→listed.getD i false=true)→(∃ S β bxx,((listed.getD iL false=true∧bxx=(kL,.cells (zs.map (spurge kL)))::bx)∨(listed.getD iL false=false∧bxx=bx))∧Inv C S w β bxx∧a.tmps.size=n∧Marks C S w a.defers∧∀ t x,Cur ops fs sl (fun i=>listed.getD i false=true) t x→RepV S w β x (a.tmps.getD t undef)) →
   ∃ sl' bx' S β,St C n S w β a sl' bx'∧Run P n ops (ops.toList.drop m) sl' bx' K:=by
  rintro listed a w hA hall ⟨S,β,bxx,hbb,hi,hsz,hdf,hc⟩
  obtain⟨e,he,hr⟩:=hend
  have hbxx:bxx=(kL,.cells (zs.map (spurge kL)))::bx:=by
   rcases hbb with ⟨_,h⟩ | ⟨h,_⟩
   ·exact h
   ·rw [hall iL hL.lt] at h;simp at h
  subst hbxx
  refine⟨e,_,S,β,⟨hi,hsz,hdf,fun t=>hc t _ ?_⟩,hr⟩
  have:=htext m e (Nat.le_refl _) he t
  rcases this with ⟨i,o,h1,h2,h3,h4⟩ | ⟨h1,h2⟩
  ·exact .inl ⟨i,o,hall i h1,h2,h3,h4⟩
  ·exact .inr ⟨fun i o hx=>h1 i o (hA i hx),h2⟩
 have hall_of_ready:∀ listed:Array Bool,listed.size=ops.size→Region.ready .any ops listed=[]→∀ i,i < ops.size→listed.getD i false=true:=by
  intro listed hs hr i
  induction i using Nat.strongRecOn with
  | _ i ih =>
   intro hi
   cases hl:listed.getD i false with
   | true=>rfl
   | false =>
    exfalso
    have:i∈Region.ready .any ops listed:=by
     rw [mem_ready]
     refine⟨?_,ops[i],Array.getElem?_eq_getElem hi,fun e he hb=>?_⟩
     ·have hi':i < listed.size:=by omega
      simp [Array.getD,hi'] at hl ⊢;exact hl
     ·have hlt:=hd.back i _ (Array.getElem?_eq_getElem hi) e he hb
      exact ih e.on hlt (by omega)
    rw [hr] at this;simp at this
 intro fuel
 induction fuel with
 | zero =>
  intro listed a w hs hleft hdown hinv
  have hall:∀ i,i < ops.size→listed.getD i false=true:=by
   intro i hi
   cases hl:listed.getD i false with
   | true=>rfl
   | false =>
    exfalso
    have:0 < left ops.size listed:=by
     unfold left
     rw [List.countP_pos_iff]
     exact⟨i,List.mem_range.2 hi,by simp [hl]⟩
    omega
  have hready:Region.ready .any ops listed=[]:=by
   rw [List.eq_nil_iff_forall_not_mem]
   intro i hi
   rw [mem_ready] at hi
   obtain⟨h1,o,ho,_⟩:=hi
   have hlt:=(Array.getElem?_eq_some_iff.1 ho).1
   have:=hall i hlt
   have hi':i < listed.size:=by omega
   simp [Array.getD,hi'] at this h1
   rw [this] at h1;simp at h1
  refine⟨hready,?_⟩
  rcases hinv with ⟨hA,hA2⟩ | ⟨j,hj1,hj2,hj3,sl',bx',S,β,hst,hrun⟩
  ·have hm:m=ops.size:=by
    rcases Nat.lt_or_ge m ops.size with h | h
    ·have:=hA m (hall m h);omega
    ·have:=hd.le;omega
   obtain⟨sl',bx',S,β,hst,hrun⟩:=conv listed a w hA (fun i hi=>hall i (by omega)) hA2
   rw [List.drop_eq_nil_of_le (by simp;omega)] at hrun
   exact hK sl' bx' S w β a hrun hst
  ·have hj:j=ops.size:=by
    rcases Nat.lt_or_ge j ops.size with h | h
    ·have:=(hj3 j).1 (hall j h);omega
    ·omega
   rw [List.drop_eq_nil_of_le (by simp;omega)] at hrun
   exact hK sl' bx' S w β a hrun hst
 | succ fuel ih =>
  intro listed a w hs hleft hdown hinv
  refine⟨?_,?_⟩
  ·intro hready
   have hall:=hall_of_ready listed hs hready
   rcases hinv with ⟨hA,hA2⟩ | ⟨j,hj1,hj2,hj3,sl',bx',S,β,hst,hrun⟩
   ·have hm:m=ops.size:=by
     rcases Nat.lt_or_ge m ops.size with h | h
     ·have:=hA m (hall m h);omega
     ·have:=hd.le;omega
    obtain⟨sl',bx',S,β,hst,hrun⟩:=conv listed a w hA (fun i hi=>hall i (by omega)) hA2
    rw [List.drop_eq_nil_of_le (by simp;omega)] at hrun
    exact hK sl' bx' S w β a hrun hst
   ·have hj:j=ops.size:=by
     rcases Nat.lt_or_ge j ops.size with h | h
     ·have:=(hj3 j).1 (hall j h);omega
     ·omega
    rw [List.drop_eq_nil_of_le (by simp;omega)] at hrun
    exact hK sl' bx' S w β a hrun hst
  ·intro i hi
   rw [mem_ready] at hi
   obtain⟨hnot,o,ho,hpre⟩:=hi
   have hilt:i < ops.size:=(Array.getElem?_eq_some_iff.1 ho).1
   have hil:i < listed.size:=by omega
   have hnot':listed.getD i false=false:=by simp [Array.getD,hil] at hnot ⊢;exact hnot
   have hleft':left ops.size (listed.setIfInBounds i true)≤fuel:=by have:=left_set hs hilt hnot';omega
   have hX':∀ j,(listed.setIfInBounds i true).getD j false=true↔(j=i∨listed.getD j false=true):=by
    intro j
    by_cases hj:i=j
    ·subst hj;simp [hil]
    ·rw [getD_set_ne false hj];simp [Ne.symm hj]
   have hdown':∀ (k:Nat) (o':Oper),ops[k]? = some o'→(listed.setIfInBounds i true).getD k false=true→∀ e,e∈o'.after→Region.binds .any e=true→(listed.setIfInBounds i true).getD e.on false=true:=by
    intro k o' ho' hk e he hb
    rw [hX'] at hk ⊢
    rcases hk with rfl | hk
    ·rw [ho] at ho';simp only [Option.some.injEq] at ho';subst ho'
     exact .inr (hpre e he hb)
    ·exact .inr (hdown k o' ho' hk e he hb)
   have hbehind:m≤i→∀ j,j < i→listed.getD j false=true:=fun hm=>hd.tail _ hdown i o ho hm hpre
   simp only [wpOpIn,ho]
   have hmemo:o∈ops.toList:=by have:=Array.mem_of_getElem? ho;simpa using this
   have stepB:∀ (sl':SL) (bx':Boxes) (S:Nat→Prop) (β:Names),m≤i→(∀ k,listed.getD k false=true↔k < i)→St C n S w β a sl' bx'→Run P n ops (ops.toList.drop i) sl' bx' K →
     (if Region.wanted o (yielded ops a.tmps)=true then Oper.wpIn (FW ro) 0 P o a w (wpAnyIn (FW ro) 0 P .any ops QQ fuel (listed.setIfInBounds i true)) QQ
      else (∀ f,o.about P w a.eval=some f→(FW ro).fn f)∧wpAnyIn (FW ro) 0 P .any ops QQ fuel (listed.setIfInBounds i true) (a.put o.dst undef) w):=by
    intro sl' bx' S β hm hX hst hrun
    have dp:ops.toList.drop i=o::ops.toList.drop (i+1):=by
     rw [List.drop_eq_getElem_cons (by simpa using hilt)]
     have:=(Array.getElem?_eq_some_iff.1 ho).2
     simp [this]
    rw [dp] at hrun
    obtain⟨g,hg,hdo,h1,h2⟩:=hrun
    have hw:=guard_rep (a:=a) (S:=S) (w:=w) (β:=β) (fun t ht=>by
     obtain⟨j,want,_,hj⟩:=ht
     exact⟨hst.slot t,by rw [hst.size];exact dst_lt_of_gslot hdst hj⟩) hg
    rw [hw]
    have hXn:∀ k,(listed.setIfInBounds i true).getD k false=true↔k < i+1:=by intro k;rw [hX',hX];omega
    cases g with
    | true =>
     simp only [if_true]
     obtain⟨r,bx1,pg,hop,hrun'⟩:=h1 rfl
     refine Oper.wpIn_ofQ (hnd o hmemo) (hop C S w β a hst.inv fun x _=>hst.opnd x) ?_
     rintro a' w' ⟨v,S',β',rfl,hi',he,hv,hb⟩
     exact ih _ _ _ (by simpa using hs) hleft' hdown' (.inr ⟨i+1,by omega,by omega,hXn,_,bx1,S',β',hst.put hdo hi' he hv hb,hrun'⟩)
    | false =>
     simp only [Bool.false_eq_true,if_false]
     refine⟨fun _ _=>trivial,?_⟩
     exact ih _ _ _ (by simpa using hs) hleft' hdown' (.inr ⟨i+1,by omega,by omega,hXn,_,bx',S,β,hst.put (pg:=[]) hdo hst.inv (SExt.refl S w) (.tuple [] [] rfl (by simp)) (fun _ _=>rfl),h2 rfl⟩)
   rcases hinv with ⟨hA,hA2⟩ | ⟨j,hj1,hj2,hj3,sl',bx',S,β,hst,hrun⟩
   ·by_cases him:i < m
    ·
     obtain⟨s,f,q1,q2,q3⟩:=hyA i o him ho
     obtain⟨S,β,bxx,hbb,hi,hsz,hdf,hc⟩:=hA2
     have harg:∀ t,t∈o.looksAt ops→RepV S w β (sget s t) (a.tmps.getD t undef):=by
      intro t ht
      refine hc t _ ?_
      rcases htext i s (by omega) q1 t with ⟨k,ok,g1,g2,g3,g4⟩ | ⟨g1,g2⟩
      ·obtain⟨_,e,he,hb,hon⟩:=hd.reads i k o ok t him (by omega) ho g2 ht g3
       exact .inl ⟨k,ok,by rw [← hon];exact hpre e he hb,g2,g3,g4⟩
      ·refine .inr ⟨fun k ok hk hok hdk=>?_,g2⟩
       have hkm:=hA k hk
       obtain⟨hki,_⟩:=hd.reads i k o ok t him hkm ho hok ht hdk
       exact g1 k ok hki hok hdk
     have hput:∀ (S':Nat→Prop) (w':World) (β':Names) (v:Value),SExt S w S' w'→(∀ j,j≠kL→β' j = β j)→(i≠iL→β' = β)→RepV S' w' β' f v →
       ∀ t x,Cur ops fs sl (fun k=>(listed.setIfInBounds i true).getD k false=true) t x→RepV S' w' β' x ((a.put o.dst v).tmps.getD t undef):=by
      intro S' w' β' v he hβ1 hβ2 hv t x hcur
      have hdo:=hdst o hmemo
      have old:(∀ d,o.dst=some d→d≠t)→RepV S' w' β' x ((a.put o.dst v).tmps.getD t undef):=by
       intro hne
       have hsame:(a.put o.dst v).tmps.getD t undef=a.tmps.getD t undef:=by
        cases hdd:o.dst with
        | none=>rfl
        | some d=>rw [hdd] at hdo;rw [getD_put (by rw [hsz];exact hdo),if_neg (hne d hdd)]
       rw [hsame]
       refine (hc t x ?_).ext he (fun k hk=>?_)
       ·rcases hcur with ⟨k,ok,g1,g2,g3,g4⟩ | ⟨g1,g2⟩
        ·rw [hX'] at g1
         rcases g1 with rfl | g1
         ·rw [ho] at g2;simp only [Option.some.injEq] at g2;subst g2
          exact absurd rfl (hne t g3)
         ·exact .inl ⟨k,ok,g1,g2,g3,g4⟩
        ·exact .inr ⟨fun k ok hk hok=>g1 k ok ((hX' k).2 (.inr hk)) hok,g2⟩
       ·by_cases hiL:i=iL
        ·refine hβ1 k fun hkk=>?_
         subst hkk
         have hxk:x.has k=false:=by
          rcases hcur with ⟨j,oj,g1,g2,g3,g4⟩ | ⟨g1,g2⟩
          ·rw [hX'] at g1
           by_cases hji:j=i
           ·subst hji
            rw [ho] at g2;simp only [Option.some.injEq] at g2;subst g2
            exact absurd rfl (hne t g3)
           ·have hjl:=g1.resolve_left hji
            obtain⟨_,f',_,e2,_,e4,_⟩:=hy j oj (hA j hjl) (by rw [← hiL];exact hji) g2
            rw [g4] at e2;simp only [Option.some.injEq] at e2;subst e2;exact e4 (by rw [g3];simp)
          ·rw [g2]
           obtain⟨oL,q1',_,_,q4'⟩:=hL.op
           rw [← hiL,ho] at q1';simp only [Option.some.injEq] at q1';subst q1'
           exact hsl t (fun he=>hne _ q4' he.symm)
         rw [hxk] at hk;simp at hk
        ·rw [hβ2 hiL]
      cases hdd:o.dst with
      | none=>rw [← hdd];exact old (by simp [hdd])
      | some d =>
       by_cases hdt:d=t
       ·subst hdt
        rw [hdd] at hdo
        rw [getD_put (by rw [hsz];exact hdo),if_pos rfl]
        rcases hcur with ⟨k,ok,g1,g2,g3,g4⟩ | ⟨g1,g2⟩
        ·rw [hX'] at g1
         have hki:k=i:=by
          rcases g1 with h | h
          ·exact h
          ·exact hd.uniq k i ok o d (hA k h) him g2 ho g3 hdd
         subst hki
         rw [q2] at g4;simp only [Option.some.injEq] at g4;subst g4;exact hv
        ·exact absurd hdd (g1 i o ((hX' i).2 (.inl rfl)) ho)
       ·rw [← hdd];exact old (by intro d' hd';rw [hdd] at hd';simp only [Option.some.injEq] at hd';subst hd';exact hdt)
     have hA':∀ k,(listed.setIfInBounds i true).getD k false=true→k < m:=by
      intro k hk;rw [hX'] at hk;rcases hk with rfl | hk
      ·exact him
      ·exact hA k hk
     by_cases hiL:i=iL
     ·
      subst hiL
      obtain⟨oL,g1,g2,g3,g4⟩:=hL.op
      rw [ho] at g1;simp only [Option.some.injEq] at g1;subst g1
      obtain⟨_,_,e2,_⟩:=hyL
      rw [q2] at e2;simp only [Option.some.injEq] at e2;subst e2
      have hbx:bxx=bx:=by
       rcases hbb with ⟨h,_⟩ | ⟨_,h⟩
       ·rw [hnot'] at h;simp at h
       ·exact h
      subst hbx
      have hw:Region.wanted o (yielded ops a.tmps)=true:=by simp [Region.wanted,g3]
      rw [hw]
      simp only [if_true]
      refine Oper.wpIn_ofQ (hnd o hmemo) (opT_alloc (ρ:=fun _=>.undef) hL.key g2 hL.zero C S w β a hi (fun x hx=>.undef _)) ?_
      rintro a' w' ⟨v,S',β',rfl,hi',he,hv,hb⟩
      have hb':∀ j,j≠kL→β' j = β j:=fun j hj=>hb j (by simpa using hj)
      refine ih _ _ _ (by simpa using hs) hleft' hdown' (.inl ⟨hA',S',β',_,.inl ⟨(hX' i).2 (.inl rfl),rfl⟩,hi'.sub (fun j x hj=>mem_new hfr hj),by cases o.dst <;> simp [Act.put,hsz],hdf.put he,hput S' w' β' v he hb' (fun h=>absurd rfl h) hv⟩)
     ·obtain⟨s',f',r1,r2,hyd,r4,r5⟩:=hy i o him hiL ho
      rw [q1] at r1;simp only [Option.some.injEq] at r1;subst r1
      rw [q2] at r2;simp only [Option.some.injEq] at r2;subst r2
      obtain⟨g,hg⟩:=hyd.some
      have hw:=guard_rep (a:=a) (S:=S) (w:=w) (β:=β) (fun t ht=>by
       obtain⟨j,want,hgd,hj⟩:=ht
       exact⟨harg t (mem_looksAt_guard hgd hj),by rw [hsz];exact dst_lt_of_gslot hdst hj⟩) hg
      rw [hw]
      have hlate:∀ (w':World),((listed.setIfInBounds i true).getD iL false=true∧bxx=(kL,.cells (zs.map (spurge kL)))::bx)∨((listed.setIfInBounds i true).getD iL false=false∧bxx=bx):=by
       intro _
       rw [getD_set_ne false hiL]
       exact hbb
      cases g with
      | true =>
       simp only [if_true]
       have hargs:∀ x,x∈o.op.operands→RepV S w β (opnd s x) (a.eval x):=fun x hx=>by
        cases x with
        | tmp t=>exact harg t (mem_looksAt_op hx)
        | const v=>exact repV_const S w β v
        | global g=>exact .undef _
        | func f=>exact .clo f [] [] rfl (by simp)
       have hrun:o.wpx P a w (fun a' w'=>∃ v S' β',a'=a.put o.dst v∧Inv C S' w' β' bxx∧SExt S w S' w'∧RepV S' w' β' f v∧β' = β):=by
        rcases hbb with ⟨_,rfl⟩ | ⟨_,rfl⟩
        ·exact (hyd.yes hg).frame (fun x hx=>(hasBx_mem hfr _ _ hx).1 rfl) rfl C S w β a hi hargs
        ·refine Oper.wpx_mono (hyd.yes hg C S w β a hi hargs) ?_
         rintro a' w' ⟨v,S',β',e1,e2,e3,e4,e5⟩
         exact⟨v,S',β',e1,e2,e3,e4,funext fun k=>e5 k (by simp)⟩
       refine Oper.wpIn_ofQ (hnd o hmemo) hrun ?_
       rintro a' w' ⟨v,S',β',rfl,hi',he,hv,hb⟩
       subst hb
       exact ih _ _ _ (by simpa using hs) hleft' hdown' (.inl ⟨hA',S',β',bxx,hlate w',hi',by cases o.dst <;> simp [Act.put,hsz],hdf.put he,hput S' w' β' v he (fun _ _=>rfl) (fun _=>rfl) hv⟩)
      | false =>
       simp only [Bool.false_eq_true,if_false]
       have hf:=hyd.no hg
       refine⟨fun _ _=>trivial,?_⟩
       exact ih _ _ _ (by simpa using hs) hleft' hdown' (.inl ⟨hA',S,β,bxx,hlate w,hi,by cases o.dst <;> simp [Act.put,hsz],hdf.put (SExt.refl S w),hput S w β undef (SExt.refl S w) (fun _ _=>rfl) (fun _=>rfl) (by rw [hf];exact .tuple [] [] rfl (by simp))⟩)
    ·have hbe:=hbehind (by omega)
     have him':i=m:=by
      rcases Nat.lt_or_ge m i with h | h
      ·have:=hA m (hbe m h);omega
      ·omega
     subst him'
     obtain⟨sl',bx',S,β,hst,hrun⟩:=conv listed a w hA hbe hA2
     exact stepB sl' bx' S β (Nat.le_refl _) (fun k=>⟨hA k,hbe k⟩) hst hrun
   ·have hij:j≤i:=by
     rcases Nat.lt_or_ge i j with h | h
     ·have:=(hj3 i).2 h;rw [hnot'] at this;simp at this
     ·exact h
    have hbe:=hbehind (by omega)
    have:i=j:=by
     rcases Nat.lt_or_ge j i with h | h
     ·have:=(hj3 j).1 (hbe j h);omega
     ·omega
    subst this
    exact stepB sl' bx' S β (by omega) hj3 hst hrun
def freeSl (k:Nat):SL→Bool
 | []=>true
 | (u,x)::r=>(u == k || !x.has k) && freeSl k r
theorem freeSl_mem :∀ {sl:SL},freeSl k sl=true→∀ u x,(u,x)∈sl→u≠k→x.has k=false
 | [],_,u,x,h,_=>by simp at h
 | (v,y)::r,h,u,x,hm,hu=>by
  simp only [freeSl,Bool.and_eq_true,Bool.or_eq_true,beq_iff_eq,Bool.not_eq_true'] at h
  rcases List.mem_cons.1 hm with he | hm
  ·simp only [Prod.mk.injEq] at he
   obtain⟨rfl,rfl⟩:=he
   exact h.1.resolve_left hu
  ·exact freeSl_mem h.2 u x hm hu
theorem sget_mem:∀ {sl:SL} {t:Nat},(t,sget sl t)∈sl∨sget sl t=.undef
 | [],t=>.inr rfl
 | (u,x)::r,t=>by
  simp only [sget]
  split
  ·subst_vars;exact .inl (List.mem_cons_self ..)
  ·rcases sget_mem (sl:=r) (t:=t) with h | h
   ·exact .inl (List.mem_cons_of_mem _ h)
   ·exact .inr h
theorem sput_sub (sl:SL)(d:Option Nat)(r:SV):∀ p,p∈sl→p∈sput sl d r:=by
 intro p hp
 cases d with
 | none=>exact hp
 | some d=>exact List.mem_cons_of_mem _ hp
theorem sls_sub {os:List Oper} {fs:List SV} {sls:List SL} (h:∀ (i:Nat)(o:Oper),os[i]? = some o→∃ s f,sls[i]? = some s∧fs[i]? = some f∧sls[i+1]? = some (sput s o.dst f)) :
  ∀ (d i:Nat) (s s':SL),i+d≤os.length→sls[i]? = some s→sls[i+d]? = some s'→∀ p,p∈s→p∈s'
 | 0,i,s,s',_,h1,h2,p,hp=>by rw [Nat.add_zero,h1] at h2;simp only [Option.some.injEq] at h2;subst h2;exact hp
 | d+1,i,s,s',hl,h1,h2,p,hp=>by
  obtain⟨s0,f,g1,g2,g3⟩:=h (i+d) (os[i+d]'(by omega)) (List.getElem?_eq_getElem _)
  rw [show i+(d+1)=i+d+1 by omega,g3] at h2
  simp only [Option.some.injEq] at h2
  subst h2
  exact sput_sub _ _ _ p (sls_sub h d i s s0 (by omega) h1 g1 p hp)
variable {id:Nat}
theorem AWp.regionDrawL (m iL k:Nat)(T:TypeId)(zs:List SV)(B:Array Nat)(ks kb:List Nat)(hm:P.follows .mixedOrders=true)(hc:drawOK ops m B=true)(hd:dstsOK n ops.toList=true)(hL:LateOK P ops m iL k zs T)
  (h:QRun P n ops (ops.toList.take iL) sl bx fun sl1=>QRun P n ops ((ops.toList.take m).drop (iL+1)) (sput sl1 (some k) (.box k 0)) bx fun sl2=>freeSl k sl2=true∧hasBx k bx=false ∧
   Run P n ops (ops.toList.drop m) sl2 ((k,.cells (zs.map (spurge k)))::bx) fun sl' bx'=>Q .normal (keepSl ks sl') (keepBx kb bx')):AWp ro P n (.region id ops true) Q sl bx:=by
 intro C S w β a hs
 refine wpIn_region_any hm ?_
 have hdo:=drawOK_spec hc
 obtain⟨fs1,sls1,a1,a2,a3,⟨e1,a4,h2⟩,a5⟩:=h.yields
 obtain⟨fs2,sls2,b1,b2,b3,⟨e2,b4,hfree,hbx,hrun⟩,b5⟩:=h2.yields
 have hml:m≤ops.size:=hdo.le
 have hil:=hL.lt
 have hlen1:(ops.toList.take iL).length=iL:=by simp;omega
 have hlen2:((ops.toList.take m).drop (iL+1)).length=m - (iL+1):=by simp;omega
 rw [hlen1] at a1 a2 a4
 rw [hlen2] at b1 b2 b4
 have s1:∀ i,i≤iL→(sls1++sls2)[i]? = sls1[i]?:=fun i hi=>List.getElem?_append_left (by omega)
 have s2:∀ i,(sls1++sls2)[iL+1+i]? = sls2[i]?:=fun i=>by rw [List.getElem?_append_right (by omega)];congr 1;omega
 have f1:∀ i,i < iL→(fs1++.box k 0::fs2)[i]? = fs1[i]?:=fun i hi=>List.getElem?_append_left (by omega)
 have f2:(fs1++.box k 0::fs2)[iL]? = some (.box k 0):=by rw [List.getElem?_append_right (by omega),a1];simp
 have f3:∀ i,(fs1++.box k 0::fs2)[iL+1+i]? = fs2[i]?:=fun i=>by
  rw [List.getElem?_append_right (by omega),a1,show iL+1+i - iL=i+1 by omega,List.getElem?_cons_succ]
 have g1:∀ i,i < iL→(ops.toList.take iL)[i]? = ops[i]?:=fun i hi=>by rw [List.getElem?_take_of_lt hi];simp
 have g2:∀ i,iL+1+i < m→((ops.toList.take m).drop (iL+1))[i]? = ops[iL+1+i]?:=fun i hi=>by rw [List.getElem?_drop,List.getElem?_take_of_lt (by omega)];simp
 have sub1:=sls_sub (os:=ops.toList.take iL) (fs:=fs1) (sls:=sls1) (fun i o ho=>by obtain⟨s,f,c1,c2,_,c4⟩:=a5 i o ho;exact⟨s,f,c1,c2,c4⟩)
 have sub2:=sls_sub (os:=(ops.toList.take m).drop (iL+1)) (fs:=fs2) (sls:=sls2) (fun i o ho=>by obtain⟨s,f,c1,c2,_,c4⟩:=b5 i o ho;exact⟨s,f,c1,c2,c4⟩)
 have in2:∀ i s,i≤m - (iL+1)→sls2[i]? = some s→∀ p,p∈s→p∈e2:=fun i s hi hs p hp =>
  sub2 (m - (iL+1) - i) i s e2 (by rw [hlen2];omega) hs (by rw [show i+(m - (iL+1) - i)=m - (iL+1) by omega];exact b4) p hp
 have in1:∀ i s,i≤iL→sls1[i]? = some s→∀ p,p∈s→p∈e2:=fun i s hi hs p hp =>
  in2 0 _ (by omega) b3 p (sput_sub _ _ _ p (sub1 (iL - i) i s e1 (by rw [hlen1];omega) hs (by rw [show i+(iL - i)=iL by omega];exact a4) p hp))
 obtain⟨oL,l1,l2,l3,l4⟩:=hL.op
 have hfresh:∀ (i:Nat) (o:Oper) (f:SV) (s:SL),i < m→i≠iL→ops[i]? = some o→(∀ p,p∈sput s o.dst f→p∈e2)→o.dst≠none→f.has k=false:=by
  intro i o f s hi hne ho hin hdn
  cases hdd:o.dst with
  | none=>exact absurd hdd hdn
  | some d =>
   refine freeSl_mem hfree d f (hin _ (by rw [hdd];exact List.mem_cons_self ..)) fun he=>?_
   subst he
   exact hne (hdo.uniq i iL o oL d hi hil ho l1 hdd l4)
 refine draw_late (P:=P) (sl:=sl) (bx:=bx) (K:=fun sl' bx'=>Q .normal (keepSl ks sl') (keepBx kb bx')) hdo (dstsOK_spec hd) (dstsOK_nd hd) hL (fun sl' bx' S' w' β' a' hK hs'=>⟨_,_,S',β',hK,hs'.keep ks kb⟩) (sls:=sls1++sls2) (fs:=fs1++.box k 0::fs2)
  (by rw [s1 0 (by omega)];exact a3) hbx ?_ ⟨e1,by rw [s1 iL (Nat.le_refl _)];exact a4,f2,by have:=s2 0;rw [Nat.add_zero] at this;rw [this];exact b3⟩ ?_ ⟨e2,by have:=s2 (m - (iL+1));rw [show iL+1+(m - (iL+1))=m by omega] at this;rw [this];exact b4,hrun⟩
  ops.size _ a _ (by simp) ?_ ?_ (.inl ⟨?_,S,β,bx,.inr ⟨?_,rfl⟩,?_,hs.size,hs.defers.ext ⟨fun _ h=>h,fun _ _=>rfl⟩,?_⟩)
 ·intro t ht
  rcases sget_mem (sl:=sl) (t:=t) with h | h
  ·exact freeSl_mem hfree t _ (in1 0 sl (by omega) a3 _ h) ht
  ·rw [h];rfl
 ·intro i o hi hne ho
  by_cases hlt:i < iL
  ·obtain⟨s,f,c1,c2,c3,c4⟩:=a5 i o (by rw [g1 i hlt];exact ho)
   exact⟨s,f,by rw [s1 i (by omega)];exact c1,by rw [f1 i hlt];exact c2,c3,hfresh i o f s hi hne ho (in1 (i+1) _ (by omega) c4),by rw [s1 (i+1) (by omega)];exact c4⟩
  ·obtain⟨j,rfl⟩:∃ j,i=iL+1+j:=⟨i - (iL+1),by omega⟩
   obtain⟨s,f,c1,c2,c3,c4⟩:=b5 j o (by rw [g2 j hi];exact ho)
   exact⟨s,f,by rw [s2];exact c1,by rw [f3];exact c2,c3,hfresh _ o f s hi hne ho (in2 (j+1) _ (by omega) c4),by rw [show iL+1+j+1=iL+1+(j+1) by omega,s2];exact c4⟩
 ·unfold left
  exact Nat.le_trans (List.countP_le_length) (by simp)
 ·intro i o ho hx
  simp [Array.getD] at hx
 ·intro i hx
  simp [Array.getD] at hx
 ·simp [Array.getD]
 ·exact (hs.inv.grow (w':={ w with drawn:=w.drawn+1 }) (fun _ h=>h) (fun _ h=>.inl h) hs.inv.Slt (fun _ _=>rfl) rfl rfl rfl (Nat.le_refl _)).1
 ·intro t x hcur
  rcases hcur with ⟨i,o,h1,_⟩ | ⟨_,h2⟩
  ·simp [Array.getD] at h1
  ·rw [h2];exact (hs.slot t).ext ⟨fun _ h=>h,fun _ _=>rfl⟩ (fun _ _=>rfl)
def tailLV (P:Program)(own:List Nat)(ops:Array Oper)(os:List Oper)(k:Nat)(zs:List SV)(bx:Boxes)(K:SL→Boxes→Prop):SL→Prop:=fun sl=>freeSl k sl=true∧hasBx k bx=false∧runV P own ops os sl ((k,.cells (zs.map (spurge k)))::bx) K
theorem tailLV_app (P:Program)(own:List Nat)(ops:Array Oper)(os:List Oper)(k:Nat)(zs:List SV)(bx:Boxes)(K:SL→Boxes→Prop)(sl:SL) :
  tailLV P own ops os k zs bx K sl=(freeSl k sl=true∧hasBx k bx=false∧runV P own ops os sl ((k,.cells (zs.map (spurge k)))::bx) K):=rfl
def midLV (P:Program)(own:List Nat)(ops:Array Oper)(os:List Oper)(k:Nat)(bx:Boxes)(K:SL→Prop):SL→Prop:=fun sl=>qrunV P own ops bx os (sput sl (some k) (.box k 0)) K
theorem midLV_app (P:Program)(own:List Nat)(ops:Array Oper)(os:List Oper)(k:Nat)(bx:Boxes)(K:SL→Prop)(sl:SL):midLV P own ops os k bx K sl=qrunV P own ops bx os (sput sl (some k) (.box k 0)) K:=rfl
theorem QRun.mono {K K':SL→Prop} (hK:∀ sl,K sl→K' sl):∀ (os:List Oper)(sl:SL),QRun P n ops os sl bx K→QRun P n ops os sl bx K'
 | [],sl,h=>hK sl h
 | o::os,sl,h=>by
  obtain⟨g,h1,h2,h3,h4⟩:=h
  refine⟨g,h1,h2,fun hg=>?_,fun hg=>QRun.mono hK os _ (h4 hg)⟩
  obtain⟨r,q1,q2⟩:=h3 hg
  exact⟨r,q1,QRun.mono hK os _ q2⟩
theorem AWp.regDL (ks own:List Nat)(m iL k:Nat)(T:TypeId)(zs:List SV)(hm:P.follows .mixedOrders=true)(hc:drawOK ops m (Region.before ops)=true)(hd:dstsOK n ops.toList=true)(hL:LateOK P ops m iL k zs T)
  (h:qrunV P own ops bx (ops.toList.take iL) sl (midLV P own ops ((ops.toList.take m).drop (iL+1)) k bx (tailLV P own ops (ops.toList.drop m) k zs bx (keepK ks (Q .normal))))):AWp ro P n (.region id ops true) Q sl bx:=by
 have sub:∀ {l:List Oper},(∀ o,o∈l→o∈ops.toList)→dstsOK n l=true:=fun {l} hl=>by
  unfold dstsOK at *;rw [List.all_eq_true] at *;exact fun o ho=>hd o (hl o ho)
 have hd1:dstsOK n (ops.toList.take iL)=true:=sub fun o ho=>List.mem_of_mem_take ho
 have hd2:dstsOK n ((ops.toList.take m).drop (iL+1))=true:=sub fun o ho=>List.mem_of_mem_take (List.mem_of_mem_drop ho)
 have hd3:dstsOK n (ops.toList.drop m)=true:=sub fun o ho=>List.mem_of_mem_drop ho
 exact AWp.regionDrawL m iL k T zs _ ks ks hm hc hd hL (qrunV_sound (fun sl1 h1=>qrunV_sound (fun sl2 h2=>⟨h2.1,h2.2.1,runV_sound _ _ _ hd3 h2.2.2⟩) _ _ hd2 h1) _ _ hd1 h)
theorem AWp.seqDL {y:Code} (ks own:List Nat)(m iL k:Nat)(T:TypeId)(zs:List SV)(hm:P.follows .mixedOrders=true)(hc:drawOK ops m (Region.before ops)=true)(hd:dstsOK n ops.toList=true)(hL:LateOK P ops m iL k zs T)
  (h:∀ K:SL→Boxes→Prop,(∀ sl' bx',AWp ro P n y Q sl' bx'→K sl' bx')→qrunV P own ops bx (ops.toList.take iL) sl (midLV P own ops ((ops.toList.take m).drop (iL+1)) k bx (tailLV P own ops (ops.toList.drop m) k zs bx (keepK ks K)))) :
  AWp ro P n (.seq (.region id ops true) y) Q sl bx :=
 AWp.seq (AWp.regDL ks own m iL k T zs hm hc hd hL (h _ fun _ _ h=>h))
end Go.Abs
