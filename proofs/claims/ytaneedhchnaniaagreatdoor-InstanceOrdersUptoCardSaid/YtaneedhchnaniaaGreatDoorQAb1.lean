/- Data, abstract values, the operations that compute. Own framework. -/
import Derived.Calls
import Derived.CallsIn
import Derived.Below
import Derived.Laws.Rows
import Derived.Laws.Cells
import Derived.Laws.World
import Derived.Laws.Append
import Derived.Orders
import Derived.Laws.Slices
import Derived.Laws.Strings
import Derived.Laws.Small
import Derived.Test.YtaneedhchnaniaaGreatDoorQTab
set_option linter.unusedVariables false
set_option linter.unusedSimpArgs false
namespace Go.Abs
open Go
abbrev Str:=List UInt8
def mkStr (s:Str):ByteArray:=⟨⟨s⟩⟩
theorem mkStr_size (s:Str):(mkStr s).size=s.length:=rfl
def lim:Nat:=140737488355328
inductive D where
 | int (k:IntKind) (n:Int)
 | bool (b:Bool)
 | str (s:Str)
 | nil
 | emp
 | slice (rows:List (List D))
 | agg (cells:List D)
 | ptr (cells:List D)
 | nilptr
 | map (kvs:List (D × D))
 | nilmap
 | iface (t:TypeId) (x:D)
 | niliface
 | fn (f:FuncId) (caps:List D)
 | nilfn
 | cl (f:FuncId) (caps:List D)
instance:Inhabited D:=⟨.nil⟩
def D.one:D→Bool
 | .agg _=>false
 | _=>true
def BornOK (es:Array MapEntry)(clock:Nat):Prop:=(∀ x,x∈es.toList→x.born < clock)∧(es.toList.map (·.born)).Nodup
def MSz (es:Array MapEntry)(clock n:Nat):Prop:=es.size=n∧BornOK es clock
theorem BornOK.push {es:Array MapEntry} {clock:Nat} (h:BornOK es clock)(k v:Value):BornOK (es.push { key:=k,val:=v,born:=clock }) (clock+1):=by
 refine⟨?_,?_⟩
 ·intro x hx
  simp only [Array.toList_push,List.mem_append,List.mem_cons,List.not_mem_nil,or_false] at hx
  rcases hx with hx | rfl
  ·have:=h.1 x hx;omega
  ·simp
 ·simp only [Array.toList_push,List.map_append,List.map_cons,List.map_nil]
  rw [List.nodup_append]
  refine⟨h.2,by simp,?_⟩
  intro a ha b hb
  obtain⟨x,hx,rfl⟩:=List.mem_map.1 ha
  simp only [List.mem_cons,List.not_mem_nil,or_false] at hb
  have:=h.1 x hx;omega
theorem BornOK.modify {es:Array MapEntry} {clock:Nat} (h:BornOK es clock)(j:Nat)(f:MapEntry→MapEntry)(hf:∀ e,(f e).born=e.born):BornOK (es.modify j f) clock:=by
 have hm:(es.modify j f).toList.map (·.born)=es.toList.map (·.born):=by
  apply List.ext_getElem?
  intro i
  simp only [List.getElem?_map,Array.getElem?_toList,Array.getElem?_modify]
  split
  ·cases es[i]? <;> simp [hf]
  ·rfl
 refine⟨?_,by rw [hm];exact h.2⟩
 intro x hx
 have:x.born∈es.toList.map (·.born):=by rw [← hm];exact List.mem_map_of_mem hx
 obtain⟨y,hy,hxy⟩:=List.mem_map.1 this
 rw [← hxy];exact h.1 y hy
inductive RepC (S:Nat→Prop) (w:World):D→Value→Prop where
 | int (k:IntKind) (n:Int):RepC S w (.int k n) (.int k n)
 | bool (b:Bool):RepC S w (.bool b) (.bool b)
 | str (s:Str):s.length≤lim→RepC S w (.str s) (.string (mkStr s))
 | nil:RepC S w .nil (.slice none 0 0)
 | emp (a:Addr) (cap:Nat):RepC S w .emp (.slice (some a) 0 cap)
 | slice0 (a:Option Addr) (cap:Nat):(a=none→cap=0)→RepC S w (.slice []) (.slice a 0 cap)
 | slice (rows:List (List D)) (b off cap sz:Nat):S b→rows.length≤lim→rows.length≤cap →
   (∀ row,row∈rows→row.length=sz)→(∀ row,row∈rows→∀ d,d∈row→d.one=true) →
   (∀ i j,i < rows.length→j < sz→∃ v,w.cell? ⟨b,off+(i*sz+j),none⟩=some v) →
   (∀ (i j:Nat) (row:List D) (d:D) (v:Value),rows[i]? = some row→row[j]? = some d→w.cell? ⟨b,off+(i*sz+j),none⟩=some v→RepC S w d v) →
   RepC S w (.slice rows) (.slice (some ⟨b,off,none⟩) rows.length cap)
 | agg (cells:List D) (vs:List Value):vs.length=cells.length→(∀ d,d∈cells→d.one=true) →
   (∀ (j:Nat) (d:D) (v:Value),cells[j]? = some d→vs[j]? = some v→RepC S w d v) →
   RepC S w (.agg cells) (.agg ⟨vs⟩)
 | ptr (cells:List D) (b base:Nat):S b→(∀ d,d∈cells→d.one=true)→(∀ j,j < cells.length→∃ v,w.cell? ⟨b,base+j,none⟩=some v) →
   (∀ (j:Nat) (d:D) (v:Value),cells[j]? = some d→w.cell? ⟨b,base+j,none⟩=some v→RepC S w d v) →
   RepC S w (.ptr cells) (.pointer (some ⟨b,base,none⟩))
 | nilptr:RepC S w .nilptr (.pointer none)
 | map (kvs:List (D × D)) (r:Nat) (es:Array MapEntry) (clock:Nat):S r→w.heap[r]? = some (.map es clock)→MSz es clock kvs.length →
   (∀ (i:Nat) (kv:D × D) (e:MapEntry),kvs[i]? = some kv→es[i]? = some e→RepC S w kv.1 e.key) →
   (∀ (i:Nat) (kv:D × D) (e:MapEntry),kvs[i]? = some kv→es[i]? = some e→RepC S w kv.2 e.val) →
   RepC S w (.map kvs) (.map (some r))
 | nilmap:RepC S w .nilmap (.map none)
 | iface (t:TypeId) (d:D) (v:Value):RepC S w d v→RepC S w (.iface t d) (.iface t v)
 | niliface:RepC S w .niliface .nilIface
 | fn (f:FuncId) (caps:List D) (vs:List Value):vs.length=caps.length→(∀ (j:Nat) (d:D) (v:Value),caps[j]? = some d→vs[j]? = some v→RepC S w d v) →
   RepC S w (.fn f caps) (.func (.func f) ⟨vs⟩ #[])
 | nilfn:RepC S w .nilfn .nilFunc
 | cl (f:FuncId) (caps:List D) (vs:List Value):vs.length=caps.length→(∀ (j:Nat) (d:D) (v:Value),caps[j]? = some d→vs[j]? = some v→RepC S w d v) →
   RepC S w (.cl f caps) (.func (.func f) #[] ⟨vs⟩)
structure SExt (S:Nat→Prop)(w:World)(S':Nat→Prop)(w':World):Prop where
 sub:∀ b,S b→S' b
 same:∀ b,S b→w'.heap[b]? = w.heap[b]?
theorem SExt.refl (S:Nat→Prop)(w:World):SExt S w S w:=⟨fun _ h=>h,fun _ _=>rfl⟩
theorem SExt.trans {S1 S2 S3:Nat→Prop} {w1 w2 w3:World} (h:SExt S1 w1 S2 w2)(k:SExt S2 w2 S3 w3):SExt S1 w1 S3 w3 :=
 ⟨fun b hb=>k.sub b (h.sub b hb),fun b hb=>(k.same b (h.sub b hb)).trans (h.same b hb)⟩
theorem SExt.cell {S S':Nat→Prop} {w w':World} (h:SExt S w S' w') {b:Nat} (hb:S b)(off:Nat):w'.cell? ⟨b,off,none⟩=w.cell? ⟨b,off,none⟩ :=
 World.cell?_of_block (w:=w) (h.same b hb)
theorem RepC.ext {S S':Nat→Prop} {w w':World} {d:D} {v:Value} (h:RepC S w d v)(e:SExt S w S' w'):RepC S' w' d v:=by
 induction h with
 | int k n=>exact .int k n
 | bool b=>exact .bool b
 | str s hs=>exact .str s hs
 | nil=>exact .nil
 | emp a cap=>exact .emp a cap
 | slice0 a cap h=>exact .slice0 a cap h
 | slice rows b off cap sz hb h1 h2 h3 ho h4 _ ih =>
  refine .slice rows b off cap sz (e.sub b hb) h1 h2 h3 ho ?_ ?_
  ·intro i j hi hj;rw [e.cell hb];exact h4 i j hi hj
  ·intro i j row d v hr hd hv;rw [e.cell hb] at hv;exact ih i j row d v hr hd hv
 | agg cells vs h1 ho _ ih=>exact .agg cells vs h1 ho ih
 | ptr cells b base hb ho h1 _ ih =>
  refine .ptr cells b base (e.sub b hb) ho ?_ ?_
  ·intro j hj;rw [e.cell hb];exact h1 j hj
  ·intro j d v hd hv;rw [e.cell hb] at hv;exact ih j d v hd hv
 | nilptr=>exact .nilptr
 | map kvs r es clock hr hh hs _ _ ih1 ih2=>exact .map kvs r es clock (e.sub r hr) ((e.same r hr).trans hh) hs ih1 ih2
 | nilmap=>exact .nilmap
 | iface t d v _ ih=>exact .iface t d v ih
 | niliface=>exact .niliface
 | fn f caps vs h1 _ ih=>exact .fn f caps vs h1 ih
 | nilfn=>exact .nilfn
 | cl f caps vs h1 _ ih=>exact .cl f caps vs h1 ih
inductive D.Bd:D→Prop where
 | int (k:IntKind) (n:Int):D.Bd (.int k n)
 | bool (b:Bool):D.Bd (.bool b)
 | str (s:Str):s.length≤lim→D.Bd (.str s)
 | nil:D.Bd .nil
 | emp:D.Bd .emp
 | slice (rows:List (List D)):rows.length≤lim→(∀ (i j:Nat) (row:List D) (d:D),rows[i]? = some row→row[j]? = some d→D.Bd d)→D.Bd (.slice rows)
 | agg (cells:List D):(∀ (j:Nat) (d:D),cells[j]? = some d→D.Bd d)→D.Bd (.agg cells)
 | ptr (cells:List D):(∀ (j:Nat) (d:D),cells[j]? = some d→D.Bd d)→D.Bd (.ptr cells)
 | nilptr:D.Bd .nilptr
 | map (kvs:List (D × D)):(∀ (i:Nat) (kv:D × D),kvs[i]? = some kv→D.Bd kv.1)→(∀ (i:Nat) (kv:D × D),kvs[i]? = some kv→D.Bd kv.2)→D.Bd (.map kvs)
 | nilmap:D.Bd .nilmap
 | iface (t:TypeId) (d:D):D.Bd d→D.Bd (.iface t d)
 | niliface:D.Bd .niliface
 | fn (f:FuncId) (caps:List D):(∀ (j:Nat) (d:D),caps[j]? = some d→D.Bd d)→D.Bd (.fn f caps)
 | nilfn:D.Bd .nilfn
 | cl (f:FuncId) (caps:List D):(∀ (j:Nat) (d:D),caps[j]? = some d→D.Bd d)→D.Bd (.cl f caps)
variable {S:Nat→Prop} {w:World}
theorem RepC.bd {d:D} {v:Value} (h:RepC S w d v):d.Bd:=by
 induction h with
 | int k n=>exact .int k n
 | bool b=>exact .bool b
 | str s hs=>exact .str s hs
 | nil=>exact .nil
 | emp a cap=>exact .emp
 | slice0 a cap=>exact .slice [] (by simp [lim]) (by simp)
 | slice rows b off cap sz hb h1 h2 h3 ho h4 _ ih =>
  refine .slice rows h1 ?_
  intro i j row d hr hd
  have hi:i < rows.length:=(List.getElem?_eq_some_iff.1 hr).1
  have hj:j < sz:=by
   have:=h3 row (List.mem_of_getElem? hr)
   have:=(List.getElem?_eq_some_iff.1 hd).1
   omega
  obtain⟨v,hv⟩:=h4 i j hi hj
  exact ih i j row d v hr hd hv
 | agg cells vs h1 ho _ ih =>
  refine .agg cells ?_
  intro j d hd
  have hj:j < vs.length:=by have:=(List.getElem?_eq_some_iff.1 hd).1;omega
  exact ih j d vs[j] hd (List.getElem?_eq_getElem hj)
 | ptr cells b base hb ho h1 _ ih =>
  refine .ptr cells ?_
  intro j d hd
  obtain⟨v,hv⟩:=h1 j (List.getElem?_eq_some_iff.1 hd).1
  exact ih j d v hd hv
 | nilptr=>exact .nilptr
 | map kvs r es clock hr hh hs _ _ ih1 ih2 =>
  have hs:=hs.1
  refine .map kvs ?_ ?_
  ·intro i kv h
   have hi:i < es.size:=by have:=(List.getElem?_eq_some_iff.1 h).1;omega
   exact ih1 i kv es[i] h (Array.getElem?_eq_getElem hi)
  ·intro i kv h
   have hi:i < es.size:=by have:=(List.getElem?_eq_some_iff.1 h).1;omega
   exact ih2 i kv es[i] h (Array.getElem?_eq_getElem hi)
 | nilmap=>exact .nilmap
 | iface t d v _ ih=>exact .iface t d ih
 | niliface=>exact .niliface
 | fn f caps vs h1 _ ih =>
  refine .fn f caps ?_
  intro j d hd
  have hj:j < vs.length:=by have:=(List.getElem?_eq_some_iff.1 hd).1;omega
  exact ih j d vs[j] hd (List.getElem?_eq_getElem hj)
 | nilfn=>exact .nilfn
 | cl f caps vs h1 _ ih =>
  refine .cl f caps ?_
  intro j d hd
  have hj:j < vs.length:=by have:=(List.getElem?_eq_some_iff.1 hd).1;omega
  exact ih j d vs[j] hd (List.getElem?_eq_getElem hj)
theorem RepC.one {d:D} {v:Value} (h:RepC S w d v)(hd:d.one=true):v.oneCell'=true:=by
 cases h <;> first | rfl | simp [D.one] at hd
theorem RepC.of_nil {v:Value} (h:RepC S w .nil v):RepC S w (.slice []) v:=by
 cases h;exact .slice0 none 0 (fun _=>rfl)
theorem RepC.of_emp {v:Value} (h:RepC S w .emp v):RepC S w (.slice []) v:=by
 cases h;exact .slice0 _ _ (by simp)
end Go.Abs
namespace Go.Abs
open Go
structure BI where
 base:Option Nat
 off:Nat:=0
 len:Nat:=0
 cap:Nat:=0
 sz:Nat:=0
inductive SV where
 | undef
 | d (x:D)
 | agg (cells:List SV)
 | tuple (xs:List SV)
 | box (k:Nat) (off:Nat)
 | dptr (cells:List D) (off:Nat)
 | acc (k:Nat)
 | aptr (k i off:Nat)
 | mp (k:Nat)
 | yld (l:Nat)
 | vptr (cells:List SV) (off:Nat)
 | clo (f:FuncId) (caps:List SV)
instance:Inhabited SV:=⟨.undef⟩
def SV.one:SV→Bool
 | .undef | .agg _ | .tuple _=>false
 | .d x=>x.one
 | _=>true
abbrev Names:=Nat→BI
inductive RepV (S:Nat→Prop) (w:World) (β:Names):SV→Value→Prop where
 | undef (v:Value):RepV S w β .undef v
 | d (x:D) (v:Value):RepC S w x v→RepV S w β (.d x) v
 | agg (cells:List SV) (vs:List Value):vs.length=cells.length→(∀ c,c∈cells→c.one=true) →
   (∀ (j:Nat) (c:SV) (v:Value),cells[j]? = some c→vs[j]? = some v→RepV S w β c v)→RepV S w β (.agg cells) (.agg ⟨vs⟩)
 | tuple (cells:List SV) (vs:List Value):vs.length=cells.length →
   (∀ (j:Nat) (c:SV) (v:Value),cells[j]? = some c→vs[j]? = some v→RepV S w β c v)→RepV S w β (.tuple cells) (.tuple ⟨vs⟩)
 | box (k off b:Nat):(β k).base=some b→RepV S w β (.box k off) (.pointer (some ⟨b,off,none⟩))
 | dptr (cells:List D) (off b base:Nat):S b→(∀ d,d∈cells→d.one=true)→(∀ j,j < cells.length→∃ v,w.cell? ⟨b,base+j,none⟩=some v) →
   (∀ (j:Nat) (d:D) (v:Value),cells[j]? = some d→w.cell? ⟨b,base+j,none⟩=some v→RepC S w d v) →
   RepV S w β (.dptr cells off) (.pointer (some ⟨b,base+off,none⟩))
 | acc (k:Nat):RepV S w β (.acc k) (.slice ((β k).base.map fun b=>⟨b,(β k).off*(β k).sz,none⟩) (β k).len (β k).cap)
 | aptr (k i off b:Nat):(β k).base=some b→RepV S w β (.aptr k i off) (.pointer (some ⟨b,((β k).off+i)*(β k).sz+off,none⟩))
 | mp (k b:Nat):(β k).base=some b→RepV S w β (.mp k) (.map (some b))
 | yld (l:Nat):RepV S w β (.yld l) (.func (.yield l) #[] #[])
 | vptr (cells:List SV) (off b:Nat):S b→(∀ c,c∈cells→c.one=true)→(∀ j,j < cells.length→∃ v,w.cell? ⟨b,j,none⟩=some v) →
   (∀ (j:Nat) (c:SV) (v:Value),cells[j]? = some c→w.cell? ⟨b,j,none⟩=some v→RepV S w β c v)→RepV S w β (.vptr cells off) (.pointer (some ⟨b,off,none⟩))
 | clo (f:FuncId) (caps:List SV) (vs:List Value):vs.length=caps.length →
   (∀ (j:Nat) (c:SV) (v:Value),caps[j]? = some c→vs[j]? = some v→RepV S w β c v)→RepV S w β (.clo f caps) (.func (.func f) #[] ⟨vs⟩)
mutual
def SV.has (k:Nat):SV→Bool
 | .undef | .d _ | .dptr _ _ | .yld _=>false
 | .agg cs=>SV.hasAny k cs
 | .tuple cs=>SV.hasAny k cs
 | .clo _ cs=>SV.hasAny k cs
 | .vptr cs _=>SV.hasAny k cs
 | .box j _=>j == k
 | .acc j=>j == k
 | .aptr j _ _=>j == k
 | .mp j=>j == k
def SV.hasAny (k:Nat):List SV→Bool
 | []=>false
 | c::cs=>c.has k || SV.hasAny k cs
end
mutual
def SV.closed:SV→Bool
 | .undef | .d _ | .dptr _ _ | .yld _=>true
 | .agg cs=>SV.closedAll cs
 | .tuple cs=>SV.closedAll cs
 | .clo _ cs=>SV.closedAll cs
 | .vptr cs _=>SV.closedAll cs
 | .box _ _ | .acc _ | .aptr _ _ _ | .mp _=>false
def SV.closedAll:List SV→Bool
 | []=>true
 | c::cs=>c.closed && SV.closedAll cs
end
theorem SV.hasAny_false {k:Nat} :∀ {cs:List SV},SV.hasAny k cs=false→∀ (j:Nat)(c:SV),cs[j]? = some c→c.has k=false
 | [],_,j,c,h=>by simp at h
 | c::cs,h,j,x,hx=>by
  simp only [SV.hasAny,Bool.or_eq_false_iff] at h
  cases j with
  | zero=>simp at hx;subst hx;exact h.1
  | succ j=>simp at hx;exact SV.hasAny_false h.2 j x hx
theorem SV.closedAll_true:∀ {cs:List SV},SV.closedAll cs=true→∀ (j:Nat)(c:SV),cs[j]? = some c→c.closed=true
 | [],_,j,c,h=>by simp at h
 | c::cs,h,j,x,hx=>by
  simp only [SV.closedAll,Bool.and_eq_true] at h
  cases j with
  | zero=>simp at hx;subst hx;exact h.1
  | succ j=>simp at hx;exact SV.closedAll_true h.2 j x hx
variable {x:SV}
theorem RepV.ext {S S':Nat→Prop} {w w':World} {β β':Names} {v:Value} (h:RepV S w β x v)(e:SExt S w S' w')
  (hb:∀ k,x.has k=true→β' k = β k):RepV S' w' β' x v:=by
 induction h with
 | undef v=>exact .undef v
 | d x v h=>exact .d x v (h.ext e)
 | agg cells vs h1 h2 _ ih =>
  refine .agg cells vs h1 h2 fun j c v hc hv=>ih j c v hc hv fun k hk=>hb k ?_
  cases hh:SV.hasAny k cells with
  | false=>rw [SV.hasAny_false hh j c hc] at hk;simp at hk
  | true=>simp [SV.has,hh]
 | tuple cells vs h1 _ ih =>
  refine .tuple cells vs h1 fun j c v hc hv=>ih j c v hc hv fun k hk=>hb k ?_
  cases hh:SV.hasAny k cells with
  | false=>rw [SV.hasAny_false hh j c hc] at hk;simp at hk
  | true=>simp [SV.has,hh]
 | box k off b h=>exact .box k off b (by rw [hb k (by simp [SV.has])];exact h)
 | dptr cells off b base hs h1 h2 h3 =>
  refine .dptr cells off b base (e.sub b hs) h1 ?_ ?_
  ·intro j hj;rw [e.cell hs];exact h2 j hj
  ·intro j d v hd hv;rw [e.cell hs] at hv;exact (h3 j d v hd hv).ext e
 | acc k=>have:=hb k (by simp [SV.has]);rw [← this];exact .acc k
 | aptr k i off b h=>have:=hb k (by simp [SV.has]);rw [← this];exact .aptr k i off b (by rw [this];exact h)
 | mp k b h=>exact .mp k b (by rw [hb k (by simp [SV.has])];exact h)
 | yld l=>exact .yld l
 | vptr cells off b hs h1 h2 _ ih =>
  refine .vptr cells off b (e.sub b hs) h1 ?_ ?_
  ·intro j hj;rw [e.cell hs];exact h2 j hj
  ·intro j c v hc hv
   rw [e.cell hs] at hv
   refine ih j c v hc hv fun k hk=>hb k ?_
   cases hh:SV.hasAny k cells with
   | false=>rw [SV.hasAny_false hh j c hc] at hk;simp at hk
   | true=>simp [SV.has,hh]
 | clo f cells vs h1 _ ih =>
  refine .clo f cells vs h1 fun j c v hc hv=>ih j c v hc hv fun k hk=>hb k ?_
  cases hh:SV.hasAny k cells with
  | false=>rw [SV.hasAny_false hh j c hc] at hk;simp at hk
  | true=>simp [SV.has,hh]
mutual
theorem SV.not_has_of_closed:∀ {x:SV} (k:Nat),x.closed=true→x.has k=false
 | .undef,_,_=>rfl
 | .d _,_,_=>rfl
 | .dptr _ _,_,_=>rfl
 | .agg cs,k,h=>by simp only [SV.closed] at h;simp only [SV.has];exact SV.not_hasAny_of_closed k h
 | .tuple cs,k,h=>by simp only [SV.closed] at h;simp only [SV.has];exact SV.not_hasAny_of_closed k h
 | .clo _ cs,k,h=>by simp only [SV.closed] at h;simp only [SV.has];exact SV.not_hasAny_of_closed k h
 | .vptr cs _,k,h=>by simp only [SV.closed] at h;simp only [SV.has];exact SV.not_hasAny_of_closed k h
 | .box _ _,_,h=>by simp [SV.closed] at h
 | .acc _,_,h=>by simp [SV.closed] at h
 | .aptr _ _ _,_,h=>by simp [SV.closed] at h
 | .mp _,_,h=>by simp [SV.closed] at h
 | .yld _,_,_=>rfl
theorem SV.not_hasAny_of_closed:∀ {cs:List SV} (k:Nat),SV.closedAll cs=true→SV.hasAny k cs=false
 | [],_,_=>rfl
 | c::cs,k,h=>by
  simp only [SV.closedAll,Bool.and_eq_true] at h
  simp only [SV.hasAny,SV.not_has_of_closed k h.1,SV.not_hasAny_of_closed k h.2,Bool.or_false]
end
variable {S:Nat→Prop} {w:World}
theorem RepV.closed {β β':Names} {v:Value} (h:RepV S w β x v)(hc:x.closed=true):RepV S w β' x v :=
 h.ext (SExt.refl S w) fun k hk=>by rw [SV.not_has_of_closed k hc] at hk;simp at hk
variable {β:Names}
theorem RepV.one {v:Value} (h:RepV S w β x v)(hx:x.one=true):v.oneCell'=true:=by
 cases h with
 | undef=>simp [SV.one] at hx
 | agg=>simp [SV.one] at hx
 | tuple=>simp [SV.one] at hx
 | d x v h=>exact h.one hx
 | _=>rfl
def RepL (S:Nat→Prop)(w:World) (β:Names)(xs:List SV)(vs:List Value):Prop :=
 vs.length=xs.length∧∀ (j:Nat) (c:SV) (v:Value),xs[j]? = some c→vs[j]? = some v→RepV S w β c v
theorem RepL.nil :RepL S w β [] []:=⟨rfl,by simp⟩
variable {vs:List Value}
theorem RepL.cons {xs:List SV} {v:Value} (h:RepV S w β x v)(t:RepL S w β xs vs) :
  RepL S w β (x::xs) (v::vs):=by
 refine⟨by simp [t.1],?_⟩
 intro j c u hc hu
 cases j with
 | zero=>simp at hc hu;subst hc;subst hu;exact h
 | succ j=>simp at hc hu;exact t.2 j c u hc hu
theorem RepL.get {xs:List SV} (h:RepL S w β xs vs) {j:Nat} {c:SV} (hc:xs[j]? = some c) :
  ∃ v,vs[j]? = some v∧RepV S w β c v:=by
 have hj:j < vs.length:=by have:=(List.getElem?_eq_some_iff.1 hc).1;have:=h.1;omega
 exact⟨vs[j],List.getElem?_eq_getElem hj,h.2 j c _ hc (List.getElem?_eq_getElem hj)⟩
theorem RepL.append {xs ys:List SV} {vs us:List Value} (h:RepL S w β xs vs)(t:RepL S w β ys us) :
  RepL S w β (xs++ys) (vs++us):=by
 refine⟨by simp [h.1,t.1],?_⟩
 intro j c u hc hu
 by_cases hj:j < xs.length
 ·rw [List.getElem?_append_left hj] at hc
  rw [List.getElem?_append_left (by have:=h.1;omega)] at hu
  exact h.2 j c u hc hu
 ·rw [List.getElem?_append_right (by omega)] at hc
  rw [List.getElem?_append_right (by have:=h.1;omega)] at hu
  have:=h.1
  exact t.2 (j - xs.length) c u hc (by rw [← this];exact hu)
theorem RepL.map {S S':Nat→Prop} {w w':World} {β β':Names} {xs ys:List SV} (h:RepL S w β xs vs)(hl:ys.length=xs.length)
  (hm:∀ (j:Nat) (x y:SV) (v:Value),xs[j]? = some x→ys[j]? = some y→RepV S w β x v→RepV S' w' β' y v):RepL S' w' β' ys vs:=by
 refine⟨by rw [h.1,hl],?_⟩
 intro j c v hc hv
 have hj:j < xs.length:=by have:=(List.getElem?_eq_some_iff.1 hc).1;omega
 exact hm j xs[j] c v (List.getElem?_eq_getElem hj) hc (h.2 j _ v (List.getElem?_eq_getElem hj) hv)
abbrev SL:=List (Nat × SV)
def sget:SL→Nat→SV
 | [],_=>.undef
 | (u,x)::r,t=>if u=t then x else sget r t
structure Yld where
 P:Program
 l:Nat
 n0:Nat
 N:Nat
 xs:Nat→SV
 go:Nat→Bool
def Yld.next (Y:Yld)(j:Nat):Option Nat:=if Y.go j then some (j+1) else none
inductive BoxC where
 | cells (cs:List SV)
 | rows (sz:Nat) (rs:List (List D))
 | map (kvs:List (D × D))
 | iter (kvs:List (D × D)) (seen:List Nat)
 | ghost (Y:Yld) (st:Option Nat)
def BoxC.has (k:Nat):BoxC→Bool
 | .cells cs=>SV.hasAny k cs
 | _=>false
def BoxC.real:BoxC→Bool
 | .ghost _ _=>false
 | _=>true
abbrev Boxes:=List (Nat × BoxC)
def SeenOK (es:Array MapEntry)(sn:Array Nat)(seen:List Nat):Prop :=
 (∀ (r:Nat) (e:MapEntry),es[r]? = some e→sn.contains e.born=seen.contains r)∧(∀ (r:Nat) (t:List Nat),seen=r::t→∃ e,es[r]? = some e∧sn.back? = some e.born)
def BoxOK (S:Nat→Prop)(w:World) (β:Names)(i:BI):BoxC→Prop
 | .cells cs=>∃ b ty vs,i.base=some b∧w.heap[b]? = some (.cells ⟨vs⟩ ty (0,0))∧RepL S w β cs vs
 | .rows sz rs=>i.sz=sz∧rs.length=i.len∧i.len≤i.cap∧rs.length≤lim∧(∀ row,row∈rs→row.length=sz)∧(∀ row,row∈rs→∀ d,d∈row→d.one=true) ∧
   match i.base with
   | none=>i.cap=0
   | some b=>∃ ty vs,w.heap[b]? = some (.cells ⟨vs⟩ ty (0,0))∧(i.off+i.cap)*sz≤vs.length ∧
     ∀ (r j:Nat) (row:List D) (d:D) (v:Value),rs[r]? = some row→row[j]? = some d→vs[(i.off+r)*sz+j]? = some v→RepC S w d v
 | .map kvs=>∃ b es clock,i.base=some b∧w.heap[b]? = some (.map es clock)∧MSz es clock kvs.length ∧
   (∀ (r:Nat) (kv:D × D) (e:MapEntry),kvs[r]? = some kv→es[r]? = some e→RepC S w kv.1 e.key∧RepC S w kv.2 e.val)
 | .iter kvs seen=>∃ b m es clock sn,i.base=some b∧w.heap[b]? = some (.mapIter (some m) clock sn clock)∧S m∧w.heap[m]? = some (.map es clock)∧MSz es clock kvs.length ∧
   (∀ (r:Nat) (kv:D × D) (e:MapEntry),kvs[r]? = some kv→es[r]? = some e→RepC S w kv.1 e.key∧RepC S w kv.2 e.val)∧SeenOK es sn seen
 | .ghost _ _=>i.base=none
theorem BoxOK.ext {S S':Nat→Prop} {w w':World} {β β':Names} {i:BI} {c:BoxC} (h:BoxOK S w β i c)(e:SExt S w S' w')
  (hw:∀ b,i.base=some b→w'.heap[b]? = w.heap[b]?) (hb:∀ k,c.has k=true→β' k = β k):BoxOK S' w' β' i c:=by
 cases c with
 | cells cs =>
  obtain⟨b,ty,vs,h1,h2,h3⟩:=h
  refine⟨b,ty,vs,h1,(hw b h1).trans h2,h3.1,fun j c v hc hv=>(h3.2 j c v hc hv).ext e fun k hk=>hb k ?_⟩
  cases hh:SV.hasAny k cs with
  | false=>rw [SV.hasAny_false hh j c hc] at hk;simp at hk
  | true=>simp [BoxC.has,hh]
 | rows sz rs =>
  obtain⟨h1,h2,h3,h4,h5,h6,h7⟩:=h
  refine⟨h1,h2,h3,h4,h5,h6,?_⟩
  cases hbase:i.base with
  | none=>rw [hbase] at h7;exact h7
  | some b =>
   rw [hbase] at h7
   obtain⟨ty,vs,g1,g2,g3⟩:=h7
   exact⟨ty,vs,(hw b hbase).trans g1,g2,fun r j row d v hr hd hv=>(g3 r j row d v hr hd hv).ext e⟩
 | map kvs =>
  obtain⟨b,es,clock,h1,h2,h3,h4⟩:=h
  exact⟨b,es,clock,h1,(hw b h1).trans h2,h3,fun r kv x hr hx=>⟨(h4 r kv x hr hx).1.ext e,(h4 r kv x hr hx).2.ext e⟩⟩
 | iter kvs seen =>
  obtain⟨b,m,es,clock,sn,h1,h2,hS,hm,h3,h4,h5⟩:=h
  exact⟨b,m,es,clock,sn,h1,(hw b h1).trans h2,e.1 m hS,(e.2 m hS).trans hm,h3,fun r kv x hr hx=>⟨(h4 r kv x hr hx).1.ext e,(h4 r kv x hr hx).2.ext e⟩,h5⟩
 | ghost Y st=>exact h
structure Gh where
 Y:Yld
 F:Option Nat→(Nat→Prop)→(Nat→Prop)→World→Prop
 sy:TypeId × Value
 ra:TypeId × Value
structure Keeps (n0:Nat)(B S:Nat→Prop)(w:World)(S':Nat→Prop)(w':World):Prop where
 sub:∀ b,S b→S' b
 new:∀ b,S' b→S b∨n0≤b
 lt:∀ b,S' b→b < w'.heap.size
 off:∀ b,B b→¬ S' b
 same:∀ b,b < n0∨B b∨S b→w'.heap[b]? = w.heap[b]?
 os:w'.os=w.os
 tape:w'.tape=w.tape
 output:w'.output=w.output
 size:w.heap.size≤w'.heap.size
structure TurnsB (B S:Nat→Prop)(w:World)(B' S':Nat→Prop)(w':World):Prop where
 ext:SExt S w S' w'
 new:∀ b,S' b→S b∨B b∨w.heap.size≤b
 lt:∀ b,S' b→b < w'.heap.size
 own:∀ b,B' b→¬ S' b∧b < w'.heap.size∧(B b∨w.heap.size≤b)
 kept:∀ b,b < w.heap.size→¬ B b→w'.heap[b]? = w.heap[b]?
 os:w'.os=w.os
 tape:w'.tape=w.tape
 output:w'.output=w.output
 size:w.heap.size≤w'.heap.size
structure RoundsOK (G:Gh):Prop where
 keep:∀ st B S w S' w',G.F st B S w→Keeps G.Y.n0 B S w S' w'→G.F st B S' w'
 shut:∀ st B S w D l l',G.F st B S w→G.Y.n0≤D→¬ B D→w.heap[D]? = some (.deferred l)→G.F st B S { w with heap:=w.heap.setIfInBounds D (.deferred l') }
 round:∀ j B S w β v,j < G.Y.N→G.F (some j) B S w→(∀ b,S b→b < w.heap.size)→(∀ b,B b→¬ S b∧b < w.heap.size)→RepV S w β (G.Y.xs j) v →
  ∃ f tmps assign body,(Instr.yield G.Y.l #[v]).run G.Y.P w=.ok (.round G.Y.l f tmps assign body) w ∧
   RoundIn Fence.wide 0 G.Y.P G.Y.l f tmps assign body w (fun e w'=>∃ S' B',e=.returned (.bool (G.Y.go j))∧G.F (G.Y.next j) B' S' w'∧TurnsB B S w B' S' w')
structure Ctx where
 w0:World
 S0:Nat→Prop
 pre:Nat→Prop
 fixd:Nat→BI→Prop
 G:Gh
structure Inv (C:Ctx)(S:Nat→Prop)(w:World) (β:Names)(bx:Boxes):Prop where
 S0sub:∀ b,C.S0 b→S b
 Snew:∀ b,S b→C.S0 b∨C.pre b∨C.w0.heap.size≤b
 Slt:∀ b,S b→b < w.heap.size
 kept:∀ b,b < C.w0.heap.size→¬ C.pre b→w.heap[b]? = C.w0.heap[b]?
 os:w.os=C.w0.os
 tape:w.tape=C.w0.tape
 output:w.output=C.w0.output
 size:C.w0.heap.size≤w.heap.size
 box:∀ k c,(k,c)∈bx→BoxOK S w β (β k) c
 priv:∀ k c,(k,c)∈bx→∀ b,(β k).base=some b→¬ S b∧b < w.heap.size∧(C.pre b∨C.w0.heap.size≤b)
 inj:∀ k c k' c',(k,c)∈bx→(k',c')∈bx→∀ b,(β k).base=some b→(β k').base=some b→k=k'∧c=c'
 fix:∀ k i,C.fixd k i→1000000≤k∧β k=i
 tab:∀ b cs,fixedRow C.G.sy C.G.ra b cs→S b∧∃ ty fr,w.heap[b]? = some (.cells cs ty fr)
 one:∀ k Y st k' Y' st',(k,BoxC.ghost Y st)∈bx→(k',BoxC.ghost Y' st')∈bx→k=k'∧st=st'
 frn:∀ k Y st,(k,BoxC.ghost Y st)∈bx→C.G.Y=Y∧RoundsOK C.G∧Y.n0≤C.w0.heap.size∧(∀ k' c',(k',c')∈bx→∀ b,(β k').base=some b→Y.n0≤b) ∧
  ∃ B,C.G.F st B S w∧∀ b,B b→¬ S b∧b < w.heap.size∧(C.pre b∨C.w0.heap.size≤b)∧∀ k' c',(k',c')∈bx→(β k').base≠some b
variable {C:Ctx}
theorem Inv.sub {bx bx':Boxes} (h:Inv C S w β bx)(hs:∀ k c,(k,c)∈bx'→(k,c)∈bx):Inv C S w β bx' :=
 { h with
  box:=fun k c hk=>h.box k c (hs k c hk)
  priv:=fun k c hk=>h.priv k c (hs k c hk)
  inj:=fun k c k' c' hk hk'=>h.inj k c k' c' (hs k c hk) (hs k' c' hk')
  one:=fun k Y st k' Y' st' hk hk'=>h.one k Y st k' Y' st' (hs _ _ hk) (hs _ _ hk')
  frn:=fun k Y st hk=>by
   obtain⟨h1,h2,h3,h4,B,h5,h6⟩:=h.frn k Y st (hs _ _ hk)
   exact⟨h1,h2,h3,fun k' c' hk'=>h4 k' c' (hs _ _ hk'),B,h5,fun b hb=>⟨(h6 b hb).1,(h6 b hb).2.1,(h6 b hb).2.2.1,fun k' c' hk'=>(h6 b hb).2.2.2 k' c' (hs _ _ hk')⟩⟩ }
theorem Inv.step {S S':Nat→Prop} {w w':World} {β β':Names} {bx bx':Boxes} (h:Inv C S w β bx)(e:SExt S w S' w')
  (hS:∀ b,S' b→S b∨w.heap.size≤b) (hSlt:∀ b,S' b→b < w'.heap.size)
  (hkept:∀ b,b < w.heap.size→(∀ k c,(k,c)∈bx→(β k).base≠some b)→w'.heap[b]? = w.heap[b]?)
  (hos:w'.os=w.os) (htape:w'.tape=w.tape) (hout:w'.output=w.output) (hsize:w.heap.size≤w'.heap.size)
  (hbx:∀ k c,(k,c)∈bx'→BoxOK S' w' β' (β' k) c∧∀ b,(β' k).base=some b→¬ S' b∧b < w'.heap.size∧(w.heap.size≤b∨∃ j x,(j,x)∈bx∧(β j).base=some b))
  (hinj:∀ k c k' c',(k,c)∈bx'→(k',c')∈bx'→∀ b,(β' k).base=some b→(β' k').base=some b→k=k'∧c=c')
  (hfix:∀ k,1000000≤k→β' k = β k) (hgh:∀ k Y st,(k,BoxC.ghost Y st)∈bx'→(k,BoxC.ghost Y st)∈bx) :
  Inv C S' w' β' bx' where
 S0sub b hb:=e.sub b (h.S0sub b hb)
 Snew b hb:=by
  rcases hS b hb with hb | hb
  ·exact h.Snew b hb
  ·exact .inr (.inr (Nat.le_trans h.size hb))
 Slt:=hSlt
 kept b hb hp:=by
  rw [← h.kept b hb hp]
  refine hkept b (Nat.lt_of_lt_of_le hb h.size) ?_
  intro k c hk hbase
  rcases (h.priv k c hk b hbase).2.2 with h' | h'
  ·exact hp h'
  ·omega
 os:=hos.trans h.os
 tape:=htape.trans h.tape
 output:=hout.trans h.output
 size:=Nat.le_trans h.size hsize
 box k c hk:=(hbx k c hk).1
 priv k c hk b hb:=by
  obtain⟨h1,h2,h3⟩:=(hbx k c hk).2 b hb
  refine⟨h1,h2,?_⟩
  rcases h3 with h3 | ⟨j,x,hj,hjb⟩
  ·exact .inr (Nat.le_trans h.size h3)
  ·exact (h.priv j x hj b hjb).2.2
 inj:=hinj
 fix k b hb:=by have:=h.fix k b hb;rw [hfix k this.1];exact this
 tab b cs hv:=by
  obtain⟨h1,ty,fr,h2⟩:=h.tab b cs hv
  exact⟨e.sub b h1,ty,fr,(e.same b h1).trans h2⟩
 one k Y st k' Y' st' hk hk':=h.one k Y st k' Y' st' (hgh _ _ _ hk) (hgh _ _ _ hk')
 frn k Y st hk:=by
  obtain⟨h1,h2,h3,h4,B,h5,h6⟩:=h.frn k Y st (hgh k Y st hk)
  have hsz:=h.size
  refine⟨h1,h2,h3,fun k' c' hk' b hb=>?_,B,h2.keep st B S w S' w' h5 ⟨e.sub,fun b hb=>?_,hSlt,fun b hb hs=>?_,fun b hb=>?_,hos,htape,hout,hsize⟩,fun b hb=>?_⟩
  ·rcases ((hbx k' c' hk').2 b hb).2.2 with h | ⟨j,x,hj,hjb⟩
   ·omega
   ·exact h4 j x hj b hjb
  ·rcases hS b hb with h | h
   ·exact .inl h
   ·right;rw [h1];omega
  ·rcases hS b hs with h | h
   ·exact (h6 b hb).1 h
   ·have:=(h6 b hb).2.1;omega
  ·rcases hb with hb | hb | hb
   ·rw [h1] at hb
    exact hkept b (by omega) fun k' c' hk' he=>by have:=h4 k' c' hk' b he;omega
   ·exact hkept b (h6 b hb).2.1 (h6 b hb).2.2.2
   ·exact e.same b hb
  ·obtain⟨g1,g2,g3,g4⟩:=h6 b hb
   refine⟨fun hs=>?_,by omega,g3,fun k' c' hk' he=>?_⟩
   ·rcases hS b hs with h | h
    ·exact g1 h
    ·omega
   ·rcases ((hbx k' c' hk').2 b he).2.2 with h | ⟨j,x,hj,hjb⟩
    ·omega
    ·exact g4 j x hj hjb
theorem Inv.grow {S S':Nat→Prop} {w w':World} {bx:Boxes} (h:Inv C S w β bx)
  (hsub:∀ b,S b→S' b) (hS:∀ b,S' b→S b∨w.heap.size≤b) (hSlt:∀ b,S' b→b < w'.heap.size)
  (hkept:∀ b,b < w.heap.size→w'.heap[b]? = w.heap[b]?)
  (hos:w'.os=w.os) (htape:w'.tape=w.tape) (hout:w'.output=w.output) (hsize:w.heap.size≤w'.heap.size) :
  Inv C S' w' β bx∧SExt S w S' w':=by
 have e:SExt S w S' w':=⟨hsub,fun b hb=>hkept b (h.Slt b hb)⟩
 refine⟨h.step e hS hSlt (fun b hb _=>hkept b hb) hos htape hout hsize ?_ h.inj (fun _ _=>rfl) (fun _ _ _ hk=>hk),e⟩
 intro k c hk
 refine⟨(h.box k c hk).ext e (fun b hb=>hkept b (h.priv k c hk b hb).2.1) (fun _ _=>rfl),?_⟩
 intro b hb
 obtain⟨h1,h2,h3⟩:=h.priv k c hk b hb
 refine⟨fun hc=>?_,by omega,.inr ⟨k,c,hk,hb⟩⟩
 rcases hS b hc with hc | hc
 ·exact h1 hc
 ·omega
end Go.Abs
namespace Go.Abs
open Go
abbrev Rho:=Operand→SV
def _root_.Go.Oper.wpx (P:Program)(o:Oper)(a:Act)(w:World)(next:Act→World→Prop):Prop :=
 o.wp P a w next (fun _ _ _=>False)∨∃ l f tmps assign body w',(execOp a.eval o).run P w=.ok (.round l f tmps assign body) w' ∧
  RoundIn Fence.wide 0 P l f tmps assign body w' (fun e w''=>match e with | .returned v=>next (a.put o.dst v) w'' | _=>False)
def OpT (P:Program)(o:Oper) (ρ:Rho)(bx:Boxes)(r:SV)(bx':Boxes)(pg:List Nat):Prop :=
 ∀ (C:Ctx) (S:Nat→Prop) (w:World) (β:Names) (a:Act),Inv C S w β bx→(∀ x,x∈o.op.operands→RepV S w β (ρ x) (a.eval x)) →
  o.wpx P a w (fun a' w'=>∃ v S' β',a'=a.put o.dst v∧Inv C S' w' β' bx'∧SExt S w S' w'∧RepV S' w' β' r v∧(∀ k,k ∉ pg→β' k = β k))
variable {x:Operand}
theorem mo {o:Oper} {op:Op} (h:o.op=op)(m:x∈op.operands):x∈o.op.operands:=h ▸ m
theorem mC {o:Oper} {op:Op} (ho:o.op=op)(h:x∈op.operands:=by simp [Op.operands,Call.operands]):x∈o.op.operands:=mo ho h
variable {P:Program} {o:Oper} {ρ:Rho} {bx:Boxes}
theorem OpT.of_value {r:SV} (h:∀ (C:Ctx)(S:Nat→Prop)(w:World) (β:Names)(a:Act),Inv C S w β bx→(∀ x,x∈o.op.operands→RepV S w β (ρ x) (a.eval x)) →
  ∃ v,(execOp a.eval o).run P w=.ok (.value v) w∧RepV S w β r v):OpT P o ρ bx r bx []:=by
 intro C S w β a hi ha
 obtain⟨v,hv,hr⟩:=h C S w β a hi ha
 refine Or.inl ?_
 unfold Oper.wp
 rw [hv]
 exact⟨v,S,β,rfl,hi,SExt.refl S w,hr,fun _ _=>rfl⟩
theorem opT_move (ho:o.op=.move x):OpT P o ρ bx (ρ x) bx [] :=
 .of_value fun _ _ _ _ a _ ha=>⟨a.eval x,by simp [execOp,ho],(ha x (mC ho))⟩
theorem opT_assign (ho:o.op=.assign x):OpT P o ρ bx (ρ x) bx [] :=
 .of_value fun _ _ _ _ a _ ha=>⟨a.eval x,by simp [execOp,ho],(ha x (mC ho))⟩
variable {S:Nat→Prop} {w:World} {β:Names}
theorem RepV.inv_d {x:D} {v:Value} (h:RepV S w β (.d x) v):RepC S w x v:=by cases h;assumption
theorem RepV.inv_bool {b:Bool} {v:Value} (h:RepV S w β (.d (.bool b)) v):v=.bool b:=by cases h with | d _ _ h=>cases h;rfl
theorem RepV.inv_int {k:IntKind} {n:Int} {v:Value} (h:RepV S w β (.d (.int k n)) v):v=.int k n:=by cases h with | d _ _ h=>cases h;rfl
theorem RepV.inv_str {s:Str} {v:Value} (h:RepV S w β (.d (.str s)) v):v=.string (mkStr s)∧s.length≤lim:=by cases h with | d _ _ h=>cases h;exact⟨rfl,by assumption⟩
theorem RepV.bool (b:Bool):RepV S w β (.d (.bool b)) (.bool b):=.d _ _ (.bool b)
theorem RepV.int (k:IntKind)(n:Int):RepV S w β (.d (.int k n)) (.int k n):=.d _ _ (.int k n)
theorem opT_pick {c x y:Operand} (ho:o.op=.pick c x y) {t:Bool} (hc:ρ c=.d (.bool t)):OpT P o ρ bx (if t then ρ x else ρ y) bx [] :=
 .of_value fun _ _ _ _ a _ ha=>by
  have h:=(ha c (mC ho))
  rw [hc] at h
  have h:=h.inv_bool
  refine⟨if t then a.eval x else a.eval y,?_,?_⟩
  ·cases t <;> simp [execOp,ho,h,asBool]
  ·cases t
   ·simpa using (ha y (mC ho))
   ·simpa using (ha x (mC ho))
def cmpInt (op:BinOp)(x y:Int):Option Bool :=
 match op with
 | .eql=>some (decide (x=y))
 | .neq=>some (decide (x≠y))
 | .lss=>some (decide (x < y))
 | .leq=>some (decide (x≤y))
 | .gtr=>some (decide (y < x))
 | .geq=>some (decide (y≤x))
 | _=>none
def arInt (op:BinOp)(k:IntKind)(x y:Int):Option Int :=
 match op with
 | .add=>some (k.wrap (x+y))
 | .sub=>some (k.wrap (x - y))
 | .mul=>some (k.wrap (x*y))
 | _=>none
theorem eqGuard_int (op:BinOp)(t:TypeId)(x y:Operand)(k k':IntKind)(m n:Int)(w:World):(eqGuard op t x y (.int k m) (.int k' n)).run P w=.ok () w:=by
 unfold eqGuard;cases op <;> simp
theorem eqGuard_str (op:BinOp)(t:TypeId)(x y:Operand)(m n:ByteArray)(w:World):(eqGuard op t x y (.string m) (.string n)).run P w=.ok () w:=by
 unfold eqGuard;cases op <;> simp
theorem eqGuard_bool (op:BinOp)(t:TypeId)(x y:Operand)(m n:Bool)(w:World):(eqGuard op t x y (.bool m) (.bool n)).run P w=.ok () w:=by
 unfold eqGuard;cases op <;> simp
theorem eqGuard_ptr (op:BinOp)(t:TypeId)(x y:Operand)(m:Option Addr)(n:Value)(w:World):(eqGuard op t x y (.pointer m) n).run P w=.ok () w:=by
 unfold eqGuard;cases op <;> simp
theorem eqGuard_slice (op:BinOp)(t:TypeId)(x y:Operand)(m:Option Addr)(l c:Nat)(n:Value)(w:World):(eqGuard op t x y (.slice m l c) n).run P w=.ok () w:=by
 unfold eqGuard;cases op <;> simp
variable {op:BinOp}
theorem opT_cmpInt {t u:TypeId} {x y:Operand} (ho:o.op=.binOp op t x y u) {k:IntKind} {m n:Int} {b:Bool}
  (hx:ρ x=.d (.int k m)) (hy:ρ y=.d (.int k n)) (hb:cmpInt op m n=some b):OpT P o ρ bx (.d (.bool b)) bx [] :=
 .of_value fun _ _ w _ a _ ha=>by
  have h1:=(ha x (mC ho));rw [hx] at h1;have h1:=h1.inv_int
  have h2:=(ha y (mC ho));rw [hy] at h2;have h2:=h2.inv_int
  refine⟨.bool b,?_,.bool b⟩
  simp only [execOp,ho,Sem.run_bind,Sem.run_map,h1,h2,eqGuard_int,Result.andThen_ok]
  cases op <;> first
   | (simp only [cmpInt,reduceCtorEq] at hb;done)
   | (simp only [cmpInt,Option.some.injEq] at hb;subst hb;simp only [binOp,Op.intCmp,ne_eq,not_true_eq_false,if_false,Sem.run_pure,Result.andThen_ok];try (congr 3 <;> (rw [Bool.eq_iff_iff];simp)))
theorem opT_arInt {t u:TypeId} {x y:Operand} (ho:o.op=.binOp op t x y u) {k:IntKind} {m n b:Int}
  (hx:ρ x=.d (.int k m)) (hy:ρ y=.d (.int k n)) (hb:arInt op k m n=some b):OpT P o ρ bx (.d (.int k b)) bx [] :=
 .of_value fun _ _ w _ a _ ha=>by
  have h1:=(ha x (mC ho));rw [hx] at h1;have h1:=h1.inv_int
  have h2:=(ha y (mC ho));rw [hy] at h2;have h2:=h2.inv_int
  refine⟨.int k b,?_,.int k b⟩
  simp only [execOp,ho,Sem.run_bind,Sem.run_map,h1,h2,eqGuard_int,Result.andThen_ok]
  cases op <;> simp [arInt] at hb <;> subst hb <;> simp [binOp,Op.intArith]
theorem opT_quo {t u:TypeId} {x y:Operand} (ho:o.op=.binOp .quo t x y u) {k:IntKind} {m n:Int}
  (hx:ρ x=.d (.int k m)) (hy:ρ y=.d (.int k n)) (hn:n≠0):OpT P o ρ bx (.d (.int k (k.wrap (m.tdiv n)))) bx [] :=
 .of_value fun _ _ w _ a _ ha=>by
  have h1:=(ha x (mC ho));rw [hx] at h1;have h1:=h1.inv_int
  have h2:=(ha y (mC ho));rw [hy] at h2;have h2:=h2.inv_int
  refine⟨_,?_,.int k _⟩
  simp [execOp,ho,h1,h2,eqGuard_int,binOp,Op.intDiv,hn]
theorem opT_rem {t u:TypeId} {x y:Operand} (ho:o.op=.binOp .rem t x y u) {k:IntKind} {m n:Int}
  (hx:ρ x=.d (.int k m)) (hy:ρ y=.d (.int k n)) (hn:n≠0):OpT P o ρ bx (.d (.int k (m.tmod n))) bx [] :=
 .of_value fun _ _ w _ a _ ha=>by
  have h1:=(ha x (mC ho));rw [hx] at h1;have h1:=h1.inv_int
  have h2:=(ha y (mC ho));rw [hy] at h2;have h2:=h2.inv_int
  refine⟨_,?_,.int k _⟩
  simp [execOp,ho,h1,h2,eqGuard_int,binOp,Op.intDiv,hn]
def cmpStr (op:BinOp)(x y:Str):Option Bool :=
 match op with
 | .eql=>some (decide (x=y))
 | .neq=>some (decide (x≠y))
 | .lss=>some (Op.bytesLess x y)
 | .gtr=>some (Op.bytesLess y x)
 | _=>none
theorem mkStr_toList (s:Str):(mkStr s).toList=s:=by simp [mkStr]
theorem bytesLess_or_eq:∀ (x y:Str),(Op.bytesLess x y || x == y) = !Op.bytesLess y x
 | [],[]=>rfl
 | [],_::_=>by simp [Op.bytesLess]
 | _::_,[]=>by simp [Op.bytesLess]
 | a::x,b::y=>by
  have ih:=bytesLess_or_eq x y
  simp only [Op.bytesLess]
  by_cases h1:a < b
  ·have h2:¬ b < a:=by rw [UInt8.lt_iff_toNat_lt] at *;omega
   have h3:¬ (b=a):=by intro h;subst h;exact h2 h1
   simp [h1,h2,h3]
  ·by_cases h2:b < a
   ·have h3:¬ (a=b):=by intro h;subst h;exact h1 h2
    simp [h1,h2,h3]
   ·have h3:a=b:=by
     apply UInt8.toNat_inj.1
     rw [UInt8.lt_iff_toNat_lt] at h1 h2;omega
    subst h3
    simp [h1]
    simpa [Bool.beq_eq_decide_eq] using ih
theorem opT_cmpStr {t u:TypeId} {x y:Operand} (ho:o.op=.binOp op t x y u) {m n:Str} {b:Bool}
  (hx:ρ x=.d (.str m)) (hy:ρ y=.d (.str n)) (hb:cmpStr op m n=some b):OpT P o ρ bx (.d (.bool b)) bx [] :=
 .of_value fun _ _ w _ a _ ha=>by
  have h1:=(ha x (mC ho));rw [hx] at h1;have h1:=h1.inv_str.1
  have h2:=(ha y (mC ho));rw [hy] at h2;have h2:=h2.inv_str.1
  refine⟨.bool b,?_,.bool b⟩
  have e:=bytesLess_or_eq m n
  simp only [execOp,ho,Sem.run_bind,Sem.run_map,h1,h2,eqGuard_str,Result.andThen_ok]
  cases op <;> first
   | (simp only [cmpStr,reduceCtorEq] at hb;done)
   | (simp only [cmpStr,Option.some.injEq] at hb;subst hb;simp only [binOp,Op.stringOp,mkStr_toList,e,Bool.not_not,Sem.run_pure,Result.andThen_ok];try (congr 3 <;> (rw [Bool.eq_iff_iff];simp)))
theorem mkStr_append (x y:Str):mkStr x++mkStr y=mkStr (x++y):=by
 apply ByteArray.ext;simp [mkStr]
theorem opT_addStr {t u:TypeId} {x y:Operand} (ho:o.op=.binOp .add t x y u) {m n:Str}
  (hx:ρ x=.d (.str m)) (hy:ρ y=.d (.str n)) (hb:m.length+n.length≤lim):OpT P o ρ bx (.d (.str (m++n))) bx [] :=
 .of_value fun _ _ w _ a _ ha=>by
  have h1:=(ha x (mC ho));rw [hx] at h1;have h1:=h1.inv_str.1
  have h2:=(ha y (mC ho));rw [hy] at h2;have h2:=h2.inv_str.1
  refine⟨.string (mkStr (m++n)),?_,.d _ _ (.str _ (by simpa using hb))⟩
  have hmax:IntKind.i64.max=9223372036854775807:=by decide
  have hle:¬ (IntKind.i64.max < (m.length:Int)+n.length):=by rw [hmax];unfold lim at hb;omega
  simp only [execOp,ho,Sem.run_bind,Sem.run_map,h1,h2,eqGuard_str,Result.andThen_ok,binOp,Op.stringOp,mkStr_size,mkStr_append]
  rw [if_neg (by simpa using hle)]
  rfl
theorem opT_not {t:TypeId} (ho:o.op=.unOp .not t x) {b:Bool} (hx:ρ x=.d (.bool b)):OpT P o ρ bx (.d (.bool (!b))) bx [] :=
 .of_value fun _ _ w _ a _ ha=>by
  have h1:=(ha x (mC ho));rw [hx] at h1;have h1:=h1.inv_bool
  exact⟨.bool (!b),by simp [execOp,ho,h1,Op.unary],.bool _⟩
theorem opT_neg {t:TypeId} (ho:o.op=.unOp .neg t x) {k:IntKind} {n:Int} (hx:ρ x=.d (.int k n)):OpT P o ρ bx (.d (.int k (k.wrap (0 - n)))) bx [] :=
 .of_value fun _ _ w _ a _ ha=>by
  have h1:=(ha x (mC ho));rw [hx] at h1;have h1:=h1.inv_int
  exact⟨.int k (k.wrap (0 - n)),by simp [execOp,ho,h1,Op.unary,Op.intArith],.int _ _⟩
def cmpBool (op:BinOp)(x y:Bool):Option Bool :=
 match op with
 | .eql=>some (x == y)
 | .neq=>some (!(x == y))
 | _=>none
theorem opT_cmpBool {t u:TypeId} {x y:Operand} (ho:o.op=.binOp op t x y u)(ht:P.underlying t=some .bool) {m n:Bool} {b:Bool}
  (hx:ρ x=.d (.bool m)) (hy:ρ y=.d (.bool n)) (hb:cmpBool op m n=some b):OpT P o ρ bx (.d (.bool b)) bx [] :=
 .of_value fun _ _ w _ a _ ha=>by
  have h1:=(ha x (mC ho));rw [hx] at h1;have h1:=h1.inv_bool
  have h2:=(ha y (mC ho));rw [hy] at h2;have h2:=h2.inv_bool
  refine⟨.bool b,?_,.bool b⟩
  simp only [execOp,ho,Sem.run_bind,Sem.run_map,h1,h2,eqGuard_bool,Result.andThen_ok]
  cases op <;> first
   | (simp only [cmpBool,reduceCtorEq] at hb;done)
   | (simp only [cmpBool,Option.some.injEq] at hb;subst hb;first | (rw [run_eql_bool _ _ _ _ ht];rfl) | (rw [run_neq_bool _ _ _ _ ht];rfl))
theorem opT_convInt {src dst:TypeId} (ho:o.op=.convert src dst x) {k k' j:IntKind} {n:Int}
  (hs:P.underlying src=some (.int j)) (hd:P.underlying dst=some (.int k')) (hx:ρ x=.d (.int k n)):OpT P o ρ bx (.d (.int k' (k'.wrap n))) bx [] :=
 .of_value fun _ _ w _ a _ ha=>by
  have h1:=(ha x (mC ho));rw [hx] at h1;have h1:=h1.inv_int
  refine⟨.int k' (k'.wrap n),?_,.int _ _⟩
  simp [execOp,ho,h1,convert,underlying,hs,hd,Conv.intToInt]
theorem opT_convStr {src dst:TypeId} (ho:o.op=.convert src dst x) {s:Str}
  (hs:P.underlying src=some .string) (hd:P.underlying dst=some .string) (hx:ρ x=.d (.str s)):OpT P o ρ bx (.d (.str s)) bx [] :=
 .of_value fun _ _ w _ a _ ha=>by
  have h0:=(ha x (mC ho));rw [hx] at h0;have h1:=h0.inv_str.1
  refine⟨.string (mkStr s),?_,by rw [← h1];exact h0⟩
  simp [execOp,ho,h1,convert,underlying,hs,hd]
theorem opT_extract {i:Nat} (ho:o.op=.extract x i) {xs:List SV} {r:SV} (hx:ρ x=.tuple xs)(hr:xs[i]? = some r):OpT P o ρ bx r bx [] :=
 .of_value fun _ _ w _ a _ ha=>by
  have h1:=(ha x (mC ho));rw [hx] at h1
  generalize hv:a.eval x=v at h1
  cases h1 with
  | tuple _ vs hl h =>
   have hi:i < vs.length:=by have:=(List.getElem?_eq_some_iff.1 hr).1;omega
   refine⟨vs[i],?_,h i r _ hr (List.getElem?_eq_getElem hi)⟩
   simp [execOp,ho,hv,Instr.extract,hi]
theorem opT_makeInterface {t:TypeId} (ho:o.op=.makeInterface t x) {y:D} (hx:ρ x=.d y) {desc:TypeDesc} (ht:P.underlying t=some desc)
  (hn:(match desc with | .interface _=>false | _=>true)=true):OpT P o ρ bx (.d (.iface t y)) bx [] :=
 .of_value fun _ _ w _ a _ ha=>by
  have h1:=(ha x (mC ho));rw [hx] at h1
  refine⟨.iface t (a.eval x),?_,.d _ _ (.iface t y _ h1.inv_d)⟩
  cases desc <;> simp at hn <;> simp [execOp,ho,Instr.makeInterface,underlying,ht]
theorem repC_agg_of {ds:List D} {v:Value} (h:RepV S w β (.agg (ds.map SV.d)) v):RepC S w (.agg ds) v:=by
 generalize hc:ds.map SV.d=cs at h
 cases h with
 | agg _ vs hl h1 h2 =>
  subst hc
  refine .agg ds vs (by simpa using hl) ?_ ?_
  ·intro d hd
   have:=h1 (.d d) (List.mem_map.2 ⟨d,hd,rfl⟩)
   simpa [SV.one] using this
  ·intro j d v hd hv
   exact (h2 j (.d d) v (by simp [hd]) hv).inv_d
theorem repV_agg_of {ds:List D} {v:Value} (h:RepC S w (.agg ds) v):RepV S w β (.agg (ds.map SV.d)) v:=by
 cases h with
 | agg _ vs hl h1 h2 =>
  refine .agg _ vs (by simpa using hl) ?_ ?_
  ·intro c hc
   obtain⟨d,hd,rfl⟩:=List.mem_map.1 hc
   exact h1 d hd
  ·intro j c v hc hv
   obtain⟨d,hd,rfl⟩:=by simpa using hc
   exact .d _ _ (h2 j d v hd hv)
theorem opT_makeInterfaceAgg {t:TypeId} (ho:o.op=.makeInterface t x) {ys:List D} (hx:ρ x=.agg (ys.map SV.d)) {desc:TypeDesc} (ht:P.underlying t=some desc)
  (hn:(match desc with | .interface _=>false | _=>true)=true):OpT P o ρ bx (.d (.iface t (.agg ys))) bx [] :=
 .of_value fun _ _ w _ a _ ha=>by
  have h1:=(ha x (mC ho));rw [hx] at h1
  refine⟨.iface t (a.eval x),?_,.d _ _ (.iface t _ _ (repC_agg_of h1))⟩
  cases desc <;> simp at hn <;> simp [execOp,ho,Instr.makeInterface,underlying,ht]
end Go.Abs
namespace Go.Abs
open Go
variable {P:Program} {o:Oper} {ρ:Rho} {bx:Boxes}
def tagg (P:Program)(T:TypeId):Option Bool:=(P.underlying T).map fun d=>match d with | .struct _ | .array _ _=>true | _=>false
def tsize (P:Program)(T:TypeId):Option Nat:=(P.info? T).map (·.size)
def foff (P:Program)(T:TypeId)(f:Nat):Option Nat :=
 match P.underlying T with
 | some (.struct fs)=>match fs[f]? with
  | some fd=>match P.info? fd.type with
   | some i=>if i.size=0 then none else some fd.offset
   | none=>none
  | none=>none
 | _=>none
def selem (P:Program)(T:TypeId):Option TypeId :=
 match P.underlying T with
 | some (.slice e)=>some e
 | _=>none
theorem run_isAgg {T:TypeId} {b:Bool} (h:tagg P T=some b)(w:World):(isAgg T).run P w=.ok b w:=by
 unfold tagg at h
 cases hu:P.underlying T with
 | none=>simp [hu] at h
 | some d =>
  simp only [hu,Option.map_some,Option.some.injEq] at h
  subst h
  simp only [isAgg,underlying,Sem.run_bind,run_program,Result.andThen_ok,hu,Sem.run_pure]
  cases d <;> rfl
theorem run_sizeOf' {T:TypeId} {n:Nat} (h:tsize P T=some n)(w:World):(sizeOf T).run P w=.ok n w:=by
 unfold tsize at h
 cases hu:P.info? T with
 | none=>simp [hu] at h
 | some d =>
  simp only [hu,Option.map_some,Option.some.injEq] at h
  subst h
  simp [sizeOf,typeInfo,hu]
theorem add_addr (b off n:Nat):(⟨b,off,none⟩:Addr).add n=⟨b,off+n,none⟩:=by
 unfold Addr.add;split
 ·subst_vars;rfl
 ·rfl
theorem run_fieldAt {T f off b p:Nat} (h:foff P T f=some off)(w:World):(Instr.fieldAt T (.pointer (some ⟨b,p,none⟩)) f).run P w=.ok (.pointer (some ⟨b,p+off,none⟩)) w:=by
 unfold foff at h
 cases hu:P.underlying T with
 | none=>simp [hu] at h
 | some d =>
  rw [hu] at h
  cases d <;> simp only [reduceCtorEq] at h
  rename_i fs
  cases hf:fs[f]? with
  | none=>simp [hf] at h
  | some fd =>
   simp only [hf] at h
   cases hi:P.info? fd.type with
   | none=>simp [hi] at h
   | some i =>
    simp only [hi] at h
    split at h
    ·simp at h
    ·rename_i hs
     simp only [Option.some.injEq] at h
     subst h
     simp [Instr.fieldAt,underlying,hu,hf,Instr.sureAddr,fieldPlace,sizeOf,typeInfo,hi,hs,add_addr]
variable {w:World}
theorem run_loadAt_one {T b p:Nat} {v:Value} (hT:tagg P T=some false)(hc:w.cell? ⟨b,p,none⟩=some v) :
  (Instr.loadAt T (.pointer (some ⟨b,p,none⟩))).run P w=.ok v w:=by
 simp [Instr.loadAt,Instr.sureAddr,loadVar,run_isAgg hT,hc]
variable {vs:List Value}
theorem run_loadAt_agg {T b p n:Nat} (hT:tagg P T=some true)(hs:tsize P T=some n)(hl:vs.length=n)
  (hc:∀ (j:Nat) (v:Value),vs[j]? = some v→w.cell? ⟨b,p+j,none⟩=some v) :
  (Instr.loadAt T (.pointer (some ⟨b,p,none⟩))).run P w=.ok (.agg ⟨vs⟩) w:=by
 have h:=run_loadCells_list (P:=P) w ⟨b,p,none⟩ vs (fun j v hv=>by rw [add_addr];exact hc j v hv)
 subst hl
 simp [Instr.loadAt,Instr.sureAddr,loadVar,run_isAgg hT,run_sizeOf' hs,h]
theorem cells_of_row {b:Nat} {ty:TypeId} {fr:Nat × Nat} (h:w.heap[b]? = some (.cells ⟨vs⟩ ty fr))(p:Nat):w.cell? ⟨b,p,none⟩=vs[p]?:=by
 rw [cell_of_row w b p ⟨vs⟩ ty fr h];simp
variable {S:Nat→Prop} {β:Names}
theorem RepV.inv_box {k off:Nat} {v:Value} (h:RepV S w β (.box k off) v):∃ b,(β k).base=some b∧v=.pointer (some ⟨b,off,none⟩):=by
 cases h with | box k off b h=>exact⟨b,h,rfl⟩
def part (cs:List SV)(off n:Nat):List SV:=(cs.drop off).take n
def partD (cs:List D)(off n:Nat):List D:=(cs.drop off).take n
theorem RepV.agg_of {cs:List SV} (h:RepL S w β cs vs)(h1:cs.all SV.one=true):RepV S w β (.agg cs) (.agg ⟨vs⟩) :=
 .agg cs vs h.1 (fun c hc=>List.all_eq_true.1 h1 c hc) h.2
theorem RepL.part {cs:List SV} (h:RepL S w β cs vs)(off n:Nat):RepL S w β (part cs off n) ((vs.drop off).take n):=by
 refine⟨by simp [Abs.part,h.1],?_⟩
 intro j c v hc hv
 simp only [Abs.part,List.getElem?_take,List.getElem?_drop] at hc hv
 split at hc
 ·rw [if_pos (by assumption)] at hv
  exact h.2 _ c v hc hv
 ·simp at hc
structure PtrD (S:Nat→Prop)(w:World)(cells:List D)(off:Nat)(v:Value)(b base:Nat):Prop where
 v:v=.pointer (some ⟨b,base+off,none⟩)
 inS:S b
 one:∀ d,d∈cells→d.one=true
 there:∀ j,j < cells.length→∃ v,w.cell? ⟨b,base+j,none⟩=some v
 rep:∀ (j:Nat) (d:D) (v:Value),cells[j]? = some d→w.cell? ⟨b,base+j,none⟩=some v→RepC S w d v
theorem RepV.inv_dptr {cells:List D} {off:Nat} {v:Value} (h:RepV S w β (.dptr cells off) v):∃ b base,PtrD S w cells off v b base:=by
 cases h with | dptr cells off b base h1 h2 h3 h4=>exact⟨b,base,rfl,h1,h2,h3,h4⟩
theorem RepV.inv_ptr {cells:List D} {v:Value} (h:RepV S w β (.d (.ptr cells)) v):∃ b base,PtrD S w cells 0 v b base:=by
 cases h with
 | d _ _ h=>cases h with | ptr cells b base h1 h2 h3 h4=>exact⟨b,base,by simp,h1,h2,h3,h4⟩
theorem PtrD.dptr {cells:List D} {off off':Nat} {v:Value} {b base:Nat} (h:PtrD S w cells off v b base):RepV S w β (.dptr cells off') (.pointer (some ⟨b,base+off',none⟩)) :=
  .dptr cells off' b base h.inS h.one h.there h.rep
inductive IsPtr:SV→List D→Nat→Prop where
 | dptr (cells:List D) (off:Nat):IsPtr (.dptr cells off) cells off
 | ptr (cells:List D):IsPtr (.d (.ptr cells)) cells 0
theorem RepV.inv_isPtr {x:SV} {cells:List D} {off:Nat} {v:Value} (h:RepV S w β x v)(hx:IsPtr x cells off):∃ b base,PtrD S w cells off v b base:=by
 cases hx with
 | dptr=>exact h.inv_dptr
 | ptr=>exact h.inv_ptr
variable {x:Operand}
theorem opT_fieldBox {T f d:Nat} (ho:o.op=.fieldAddr T x f) {k off:Nat} (hx:ρ x=.box k off)(hf:foff P T f=some d):OpT P o ρ bx (.box k (off+d)) bx [] :=
 .of_value fun _ _ w β a hi ha=>by
  have hx1:=(ha x (mC ho));rw [hx] at hx1
  obtain⟨b,hbase,hv⟩:=hx1.inv_box
  exact⟨.pointer (some ⟨b,off+d,none⟩),by simp [execOp,ho,hv,run_fieldAt hf],.box _ _ _ hbase⟩
theorem opT_fieldPtr {T f d:Nat} (ho:o.op=.fieldAddr T x f) {cells:List D} {off:Nat} (hx:IsPtr (ρ x) cells off)(hf:foff P T f=some d) :
  OpT P o ρ bx (.dptr cells (off+d)) bx [] :=
 .of_value fun _ _ w β a hi ha=>by
  obtain⟨b,base,hp⟩:=((ha x (mC ho))).inv_isPtr hx
  exact⟨.pointer (some ⟨b,base+(off+d),none⟩),by simp [execOp,ho,hp.v,run_fieldAt hf,Nat.add_assoc],hp.dptr⟩
theorem opT_fieldAptr {T f d:Nat} (ho:o.op=.fieldAddr T x f) {k i off:Nat} (hx:ρ x=.aptr k i off)(hf:foff P T f=some d):OpT P o ρ bx (.aptr k i (off+d)) bx [] :=
 .of_value fun _ _ w β a hi ha=>by
  have hx1:=(ha x (mC ho));rw [hx] at hx1
  generalize hv:a.eval x=v at hx1
  cases hx1 with
  | aptr k i off b hbase =>
   exact⟨.pointer (some ⟨b,((β k).off+i)*(β k).sz+(off+d),none⟩),by simp [execOp,ho,hv,run_fieldAt hf,Nat.add_assoc],.aptr _ _ _ _ hbase⟩
theorem run_indexAt {T e n:Nat} {b p len cap:Nat} {i:Int} {k:IntKind} (hT:selem P T=some e)(hs:tsize P e=some n)(h0:0≤i)(h1:i < len)(w:World) :
  (Instr.indexAt T (.slice (some ⟨b,p,none⟩) len cap) (.int k i)).run P w=.ok (.pointer (some ⟨b,p+i.toNat*n,none⟩)) w:=by
 unfold selem at hT
 cases hu:P.underlying T with
 | none=>simp [hu] at hT
 | some d =>
  rw [hu] at hT
  cases d <;> simp only [reduceCtorEq,Option.some.injEq] at hT
  subst hT
  simp [Instr.indexAt,asIntOf,underlying,hu,h0,h1,run_sizeOf' hs,add_addr]
theorem opT_indexSlice {T e n:Nat} {x y:Operand} (ho:o.op=.indexAddr T x y) {rows:List (List D)} {k:IntKind} {i:Int} {row:List D} (hx:ρ x=.d (.slice rows))(hy:ρ y=.d (.int k i))
  (hT:selem P T=some e) (hs:tsize P e=some n) (h0:0≤i) (hr:rows[i.toNat]? = some row) (hn:row.length=n):OpT P o ρ bx (.dptr row 0) bx [] :=
 .of_value fun _ S w β a hi ha=>by
  have hx1:=(ha x (mC ho));rw [hx] at hx1
  have hy1:=(ha y (mC ho));rw [hy] at hy1;have hy1:=hy1.inv_int
  have hilt:=(List.getElem?_eq_some_iff.1 hr).1
  have hmem:=List.mem_of_getElem? hr
  generalize hv:a.eval x=v at hx1
  cases hx1 with
  | d _ _ hx1 =>
   cases hx1 with
   | slice0=>simp at hr
   | slice _ b off cap sz hS h1 h2 h3 hone h4 h5 =>
    have hsz:sz=n:=by rw [← hn];exact (h3 row hmem).symm
    subst hsz
    refine⟨.pointer (some ⟨b,(off+i.toNat*sz)+0,none⟩),?_,.dptr row 0 b (off+i.toNat*sz) hS (hone row hmem) ?_ ?_⟩
    ·simp [execOp,ho,hv,hy1,run_indexAt hT hs h0 (show i < (rows.length:Int) by omega)]
    ·intro j hj
     obtain⟨v,hv⟩:=h4 i.toNat j hilt (by omega)
     exact⟨v,by rw [Nat.add_assoc];exact hv⟩
    ·intro j d v hd hv
     rw [Nat.add_assoc] at hv
     exact h5 i.toNat j row d v hr hd hv
theorem opT_indexAcc {T e n:Nat} {x y:Operand} (ho:o.op=.indexAddr T x y) {q:Nat} {sz:Nat} {rows:List (List D)} {k:IntKind} {i:Int} (hx:ρ x=.acc q)(hb:(q,BoxC.rows sz rows)∈bx)
  (hy:ρ y=.d (.int k i)) (hT:selem P T=some e) (hs:tsize P e=some n) (hsz:sz=n) (h0:0≤i) (h1:i.toNat < rows.length):OpT P o ρ bx (.aptr q i.toNat 0) bx [] :=
 .of_value fun _ S w β a hi ha=>by
  have hx1:=(ha x (mC ho));rw [hx] at hx1
  have hy1:=(ha y (mC ho));rw [hy] at hy1;have hy1:=hy1.inv_int
  generalize hv:a.eval x=v at hx1
  obtain⟨g1,g2,g3,g4,g5,g6,g7⟩:=hi.box q _ hb
  cases hx1 with
  | acc q =>
   cases hbase:(β q).base with
   | none=>rw [hbase] at g7;simp only at g7;omega
   | some b =>
    subst hsz
    refine⟨.pointer (some ⟨b,((β q).off+i.toNat)*(β q).sz+0,none⟩),?_,.aptr q i.toNat 0 b hbase⟩
    rw [hbase] at hv
    simp only [Option.map_some] at hv
    simp [execOp,ho,hv,hy1,run_indexAt hT hs h0 (show i < (((β q).len:Nat):Int) by omega),g1,Nat.add_mul]
theorem opT_indexStr {T:Nat} {x y:Operand} (ho:o.op=.index T x y) {s:Str} {k:IntKind} {i:Int} {c:UInt8} (hx:ρ x=.d (.str s))(hy:ρ y=.d (.int k i))
  (hT:P.underlying T=some .string) (h0:0≤i) (hr:s[i.toNat]? = some c):OpT P o ρ bx (.d (.int .u8 c.toNat)) bx [] :=
 .of_value fun _ S w β a hi ha=>by
  have hx1:=(ha x (mC ho));rw [hx] at hx1;have hx1:=hx1.inv_str.1
  have hy1:=(ha y (mC ho));rw [hy] at hy1;have hy1:=hy1.inv_int
  refine⟨.int .u8 c.toNat,?_,.int _ _⟩
  have hb:(mkStr s)[i.toNat]? = some c:=by
   obtain⟨h1,h2⟩:=List.getElem?_eq_some_iff.1 hr
   have h1':i.toNat < (mkStr s).size:=h1
   rw [getElem?_pos (mkStr s) i.toNat h1']
   congr 1
  simp [execOp,ho,hx1,hy1,Instr.index,asIntOf,underlying,hT,h0,hb]
theorem opT_fieldAgg {T f d n:Nat} (ho:o.op=.field T x f) {cs:List SV} {ft:TypeId} (hx:ρ x=.agg cs) {fs:Array Field} {fd:Field}
  (hT:P.underlying T=some (.struct fs)) (hf:fs[f]? = some fd) (hd:fd.offset=d) (hft:fd.type=ft) (ha:tagg P ft=some true) (hs:tsize P ft=some n):OpT P o ρ bx (.agg (part cs d n)) bx [] :=
 .of_value fun _ S w β a hi h=>by
  have hx1:=h x (mC ho);rw [hx] at hx1
  generalize hv:a.eval x=v at hx1
  cases hx1 with
  | agg _ vs hl h1 h2 =>
   subst hd hft
   refine⟨.agg ⟨(vs.drop fd.offset).take n⟩,?_,RepV.agg_of (RepL.part ⟨hl,h2⟩ _ _) ?_⟩
   ·have he:(Array.mk vs).extract fd.offset (fd.offset+n)=⟨(vs.drop fd.offset).take n⟩:=by
     apply Array.ext';simp
    simp [execOp,ho,hv,Instr.field,underlying,hT,hf,Go.part,run_isAgg ha,run_sizeOf' hs,asAgg,he]
   ·rw [List.all_eq_true];intro c hc
    exact h1 c (List.mem_of_mem_drop (List.mem_of_mem_take hc))
theorem opT_fieldOne {T f d:Nat} (ho:o.op=.field T x f) {cs:List SV} {ft:TypeId} {c:SV} (hx:ρ x=.agg cs) {fs:Array Field} {fd:Field}
  (hT:P.underlying T=some (.struct fs)) (hf:fs[f]? = some fd) (hd:fd.offset=d) (hft:fd.type=ft) (ha:tagg P ft=some false) (hc:cs[d]? = some c):OpT P o ρ bx c bx [] :=
 .of_value fun _ S w β a hi h=>by
  have hx1:=h x (mC ho);rw [hx] at hx1
  generalize hv:a.eval x=v at hx1
  cases hx1 with
  | agg _ vs hl h1 h2 =>
   subst hd hft
   have hj:fd.offset < vs.length:=by have:=(List.getElem?_eq_some_iff.1 hc).1;omega
   refine⟨vs[fd.offset],?_,h2 _ c _ hc (List.getElem?_eq_getElem hj)⟩
   simp [execOp,ho,hv,Instr.field,underlying,hT,hf,Go.part,run_isAgg ha,asAgg,hj]
theorem opT_nilBox (ho:o.op=.nilCheck x) {k off:Nat} (hx:ρ x=.box k off):OpT P o ρ bx (.box k off) bx [] :=
 .of_value fun _ _ w β a hi ha=>by
  have hx1:=(ha x (mC ho));rw [hx] at hx1
  obtain⟨b,hbase,hv⟩:=hx1.inv_box
  exact⟨a.eval x,by simp [execOp,ho,hv],hx1⟩
theorem opT_nilPtr (ho:o.op=.nilCheck x) {cells:List D} {off:Nat} (hx:IsPtr (ρ x) cells off):OpT P o ρ bx (ρ x) bx [] :=
 .of_value fun _ _ w β a hi ha=>by
  obtain⟨b,base,hp⟩:=((ha x (mC ho))).inv_isPtr hx
  exact⟨a.eval x,by simp [execOp,ho,hp.v],(ha x (mC ho))⟩
theorem run_len_slice {T:TypeId} {e:TypeId} (hT:selem P T=some e)(a:Option Addr)(n c:Nat)(ty:TypeId)(w:World):(Builtin.len_ #[T] ty #[.slice a n c]).run P w=.ok (.int .i64 n) w:=by
 unfold selem at hT
 cases hu:P.underlying T with
 | none=>simp [hu] at hT
 | some d =>
  rw [hu] at hT
  cases d <;> simp only [reduceCtorEq,Option.some.injEq] at hT
  simp [Builtin.len_,underlying,hu,goInt]
theorem opT_lenSlice {T e:Nat} (ho:o.op=.call { callee:=.builtin .len,args:=#[x],argTypes:=#[T] }) {rows:List (List D)} (hx:ρ x=.d (.slice rows))(hT:selem P T=some e) :
  OpT P o ρ bx (.d (.int .i64 rows.length)) bx [] :=
 .of_value fun _ _ w β a hi ha=>by
  have hx1:=(ha x (mC ho));rw [hx] at hx1
  generalize hv:a.eval x=v at hx1
  refine⟨.int .i64 rows.length,?_,.int _ _⟩
  cases hx1 with
  | d _ _ hx1 =>
   cases hx1 <;> simp [execOp,ho,resolve,invoke,builtin,hv,run_len_slice hT]
theorem opT_lenNil {T e:Nat} (ho:o.op=.call { callee:=.builtin .len,args:=#[x],argTypes:=#[T] })(hx:ρ x=.d .nil∨ρ x=.d .emp)(hT:selem P T=some e) :
  OpT P o ρ bx (.d (.int .i64 0)) bx [] :=
 .of_value fun _ _ w β a hi ha=>by
  have hx1:=(ha x (mC ho))
  generalize hv:a.eval x=v at hx1
  refine⟨.int .i64 0,?_,.int _ _⟩
  rcases hx with hx | hx <;> rw [hx] at hx1 <;> cases hx1 with
  | d _ _ hx1=>cases hx1;simp [execOp,ho,resolve,invoke,builtin,hv,run_len_slice hT]
theorem opT_lenAcc {T e:Nat} (ho:o.op=.call { callee:=.builtin .len,args:=#[x],argTypes:=#[T] }) {q sz:Nat} {rows:List (List D)} (hx:ρ x=.acc q)(hb:(q,BoxC.rows sz rows)∈bx)(hT:selem P T=some e) :
  OpT P o ρ bx (.d (.int .i64 rows.length)) bx [] :=
 .of_value fun _ _ w β a hi ha=>by
  have hx1:=(ha x (mC ho));rw [hx] at hx1
  generalize hv:a.eval x=v at hx1
  obtain⟨g1,g2,_⟩:=hi.box q _ hb
  refine⟨.int .i64 rows.length,?_,.int _ _⟩
  cases hx1 with
  | acc q=>simp [execOp,ho,resolve,invoke,builtin,hv,run_len_slice hT,g2]
theorem opT_lenStr {T:Nat} (ho:o.op=.call { callee:=.builtin .len,args:=#[x],argTypes:=#[T] }) {s:Str} (hx:ρ x=.d (.str s))(hT:P.underlying T=some .string) :
  OpT P o ρ bx (.d (.int .i64 s.length)) bx [] :=
 .of_value fun _ _ w β a hi ha=>by
  have hx1:=(ha x (mC ho));rw [hx] at hx1;have hv:=hx1.inv_str.1
  refine⟨.int .i64 s.length,?_,.int _ _⟩
  simp [execOp,ho,resolve,invoke,builtin,hv,Builtin.len_,underlying,hT,goInt,mkStr_size]
def nilCmp (op:BinOp)(isnil:Bool):Option Bool :=
 match op with
 | .eql=>some isnil
 | .neq=>some (!isnil)
 | _=>none
def ptrNil:SV→Option Bool
 | .d .nilptr=>some true
 | .d (.ptr _) | .dptr _ _ | .box _ _ | .aptr _ _ _=>some false
 | _=>none
theorem RepV.ptrNil {x:SV} {v:Value} (h:RepV S w β x v) {b:Bool} (hb:ptrNil x=some b):∃ p,v=.pointer p∧p.isNone=b:=by
 cases h with
 | d _ _ h=>cases h <;> simp [Abs.ptrNil] at hb <;> subst hb <;> exact⟨_,rfl,rfl⟩
 | box _ _ _ _=>simp [Abs.ptrNil] at hb;subst hb;exact⟨_,rfl,rfl⟩
 | dptr _ _ _ _ _ _ _=>simp [Abs.ptrNil] at hb;subst hb;exact⟨_,rfl,rfl⟩
 | aptr _ _ _ _ _=>simp [Abs.ptrNil] at hb;subst hb;exact⟨_,rfl,rfl⟩
 | _=>simp [Abs.ptrNil] at hb
variable {op:BinOp}
theorem opT_ptrNil {t u:TypeId} {x y:Operand} (ho:o.op=.binOp op t x y u) {b r:Bool} (ht:(P.underlying t).any (fun d=>match d with | .pointer _=>true | _=>false)=true)
  (hx:ptrNil (ρ x)=some b) (hy:ρ y=.d .nilptr) (hb:nilCmp op b=some r):OpT P o ρ bx (.d (.bool r)) bx [] :=
 .of_value fun _ _ w _ a _ ha=>by
  obtain⟨p,hp,hpb⟩:=((ha x (mC ho))).ptrNil hx
  have h2:=(ha y (mC ho));rw [hy] at h2
  have h2:a.eval y=.pointer none:=by generalize a.eval y=z at h2;cases h2 with | d _ _ h=>cases h;rfl
  refine⟨.bool r,?_,.bool r⟩
  cases hu:P.underlying t with
  | none=>simp [hu] at ht
  | some d =>
   cases d <;> simp [hu] at ht
   rename_i e
   have heq:(Op.equal t (.pointer p) (.pointer none)).run P w=.ok b w:=by
    unfold Op.equal Op.maxDepth Op.equalIn
    cases p <;> simp [underlying,hu] at * <;> subst hpb <;> rfl
   simp only [execOp,ho,Sem.run_bind,Sem.run_map,hp,h2,eqGuard_ptr,Result.andThen_ok]
   cases op <;> first
    | (simp only [nilCmp,reduceCtorEq] at hb;done)
    | (simp only [nilCmp,Option.some.injEq] at hb;subst hb;simp [binOp,heq])
def ifaceNil:SV→Option Bool
 | .d .niliface=>some true
 | .d (.iface _ _)=>some false
 | _=>none
def nilC:Operand→Bool
 | .const .nilIface=>true
 | _=>false
theorem opT_ifaceNil {t u:TypeId} {x y:Operand} (ho:o.op=.binOp op t x y u) {b r:Bool} (ht:(P.underlying t).any (fun d=>match d with | .interface _=>true | _=>false)=true)
  (hx:ifaceNil (ρ x)=some b) (hy:ρ y=.d .niliface) (hc:nilC y=true) (hb:nilCmp op b=some r):OpT P o ρ bx (.d (.bool r)) bx [] :=
 .of_value fun _ _ w _ a _ ha=>by
  have h1:=ha x (mC ho)
  have hy':y=.const .nilIface:=by
   unfold nilC at hc
   split at hc
   ·rfl
   ·simp at hc
  subst hy'
  have h2:a.eval (.const .nilIface)=.nilIface:=rfl
  refine⟨.bool r,?_,.bool r⟩
  cases hu:P.underlying t with
  | none=>simp [hu] at ht
  | some d =>
   cases d <;> simp [hu] at ht
   rename_i e
   generalize ρ x=rx at hx h1
   generalize hvx:a.eval x=vx at h1
   have key:(vx=.nilIface∧b=true)∨∃ T z,vx=.iface T z∧b=false:=by
    unfold ifaceNil at hx
    split at hx
    ·simp only [Option.some.injEq] at hx
     have:=h1.inv_d
     cases this
     exact .inl ⟨rfl,hx.symm⟩
    ·simp only [Option.some.injEq] at hx
     have:=h1.inv_d
     cases this
     exact .inr ⟨_,_,rfl,hx.symm⟩
    ·simp at hx
   rcases key with ⟨rfl,rfl⟩ | ⟨T,z,rfl,rfl⟩
   ·have heq:(Op.equal t .nilIface .nilIface).run P w=.ok true w:=by
     unfold Op.equal Op.maxDepth Op.equalIn
     simp [underlying,hu]
    cases op <;> first
     | (simp only [nilCmp,reduceCtorEq] at hb;done)
     | (simp only [nilCmp,Option.some.injEq] at hb;subst hb;simp [execOp,ho,hvx,h2,eqGuard,binOp,heq])
   ·have heq:(Op.equal t (.iface T z) .nilIface).run P w=.ok false w:=by
     unfold Op.equal Op.maxDepth Op.equalIn
     simp [underlying,hu]
    cases op <;> first
     | (simp only [nilCmp,reduceCtorEq] at hb;done)
     | (simp only [nilCmp,Option.some.injEq] at hb;subst hb;simp [execOp,ho,hvx,h2,eqGuard,binOp,heq])
def sliceNil:SV→Option Bool
 | .d .nil=>some true
 | .d .emp=>some false
 | .d (.slice (_::_))=>some false
 | _=>none
theorem RepV.sliceNil {x:SV} {v:Value} (h:RepV S w β x v) {b:Bool} (hb:sliceNil x=some b):∃ p l c,v=.slice p l c∧p.isNone=b:=by
 cases h with
 | d _ _ h =>
  cases h with
  | nil=>simp [Abs.sliceNil] at hb;subst hb;exact⟨_,_,_,rfl,rfl⟩
  | emp=>simp [Abs.sliceNil] at hb;subst hb;exact⟨_,_,_,rfl,rfl⟩
  | slice0=>simp [Abs.sliceNil] at hb
  | slice rows=>cases rows <;> simp [Abs.sliceNil] at hb;subst hb;exact⟨_,_,_,rfl,rfl⟩
  | _=>simp [Abs.sliceNil] at hb
 | _=>simp [Abs.sliceNil] at hb
theorem opT_sliceNil {t u:TypeId} {x y:Operand} (ho:o.op=.binOp op t x y u) {e:Nat} {b r:Bool} (ht:selem P t=some e)
  (hx:sliceNil (ρ x)=some b) (hy:ρ y=.d .nil) (hb:nilCmp op b=some r):OpT P o ρ bx (.d (.bool r)) bx [] :=
 .of_value fun _ _ w _ a _ ha=>by
  obtain⟨p,l,c,hp,hpb⟩:=((ha x (mC ho))).sliceNil hx
  have h2:=(ha y (mC ho));rw [hy] at h2
  have h2:a.eval y=.slice none 0 0:=by generalize a.eval y=z at h2;cases h2 with | d _ _ h=>cases h;rfl
  refine⟨.bool r,?_,.bool r⟩
  unfold selem at ht
  cases hu:P.underlying t with
  | none=>simp [hu] at ht
  | some d =>
   rw [hu] at ht
   cases d <;> simp only [reduceCtorEq,Option.some.injEq] at ht
   rename_i e
   have heq:(Op.equal t (.slice p l c) (.slice none 0 0)).run P w=.ok b w:=by
    unfold Op.equal Op.maxDepth Op.equalIn
    cases p <;> simp [underlying,hu] at * <;> subst hpb <;> rfl
   simp only [execOp,ho,Sem.run_bind,Sem.run_map,hp,h2,eqGuard_slice,Result.andThen_ok]
   cases op <;> first
    | (simp only [nilCmp,reduceCtorEq] at hb;done)
    | (simp only [nilCmp,Option.some.injEq] at hb;subst hb;simp [binOp,heq])
end Go.Abs
namespace Go.Abs
open Go
variable {P:Program} {o:Oper} {ρ:Rho} {bx:Boxes}
def berase (k:Nat):Boxes→Boxes
 | []=>[]
 | (j,c)::r=>if j=k then berase k r else (j,c)::berase k r
variable {c:BoxC}
theorem mem_berase {k j:Nat} :∀ {bx:Boxes},(j,c)∈berase k bx↔j≠k∧(j,c)∈bx
 | []=>by simp [berase]
 | (i,x)::r=>by
  simp only [berase]
  split
  ·rename_i h;subst h;rw [mem_berase];simp only [List.mem_cons,Prod.mk.injEq]
   constructor
   ·rintro⟨h1,h2⟩;exact⟨h1,.inr h2⟩
   ·rintro⟨h1,h2⟩;exact⟨h1,h2.resolve_left fun h=>h1 h.1⟩
  ·rename_i h;simp only [List.mem_cons,Prod.mk.injEq,mem_berase]
   constructor
   ·rintro (⟨h1,h2⟩ | h2)
    ·subst h1;subst h2;exact⟨h,.inl ⟨rfl,rfl⟩⟩
    ·exact⟨h2.1,.inr h2.2⟩
   ·rintro⟨h1,h2 | h2⟩
    ·exact .inl h2
    ·exact .inr ⟨h1,h2⟩
def spurge (k:Nat)(x:SV):SV:=if x.has k then .undef else x
def purge1 (k:Nat):SL→SL
 | []=>[]
 | (t,x)::r=>(t,spurge k x)::purge1 k r
theorem sget_purge1 (k:Nat):∀ (sl:SL)(t:Nat),sget (purge1 k sl) t=spurge k (sget sl t)
 | [],t=>by simp [purge1,sget,spurge,SV.has]
 | (u,x)::r,t=>by
  simp only [purge1,sget]
  split
  ·rfl
  ·exact sget_purge1 k r t
def BoxC.purge (k:Nat):BoxC→BoxC
 | .cells cs=>.cells (cs.map (spurge k))
 | c=>c
def bpurge (k:Nat):Boxes→Boxes
 | []=>[]
 | (j,c)::r=>(j,c.purge k)::bpurge k r
theorem mem_bpurge {k j:Nat} :∀ {bx:Boxes},(j,c)∈bpurge k bx→∃ x,(j,x)∈bx∧c=x.purge k
 | [],h=>by simp [bpurge] at h
 | (i,x)::r,h=>by
  simp only [bpurge,List.mem_cons,Prod.mk.injEq] at h
  rcases h with ⟨h1,h2⟩ | h
  ·subst h1;exact⟨x,by simp,h2⟩
  ·obtain⟨y,hy,hc⟩:=mem_bpurge h;exact⟨y,by simp [hy],hc⟩
def upd (β:Names)(k:Nat)(i:BI):Names:=fun j=>if j=k then i else β j
theorem upd_same (β:Names)(k:Nat)(i:BI):upd β k i k=i:=by simp [upd]
variable {β:Names}
theorem upd_ne {k j:Nat} {i:BI} (h:j≠k):upd β k i j = β j:=by simp [upd,h]
variable {k:Nat}
theorem RepV.purge {S S':Nat→Prop} {w w':World} {i:BI} {x:SV} {v:Value} (h:RepV S w β x v)(e:SExt S w S' w'):RepV S' w' (upd β k i) (spurge k x) v:=by
 unfold spurge
 split
 ·exact .undef v
 ·rename_i hk
  refine h.ext e fun j hj=>upd_ne ?_
  intro he;subst he;exact hk hj
theorem BoxOK.purge {S S':Nat→Prop} {w w':World} {i bi:BI} (h:BoxOK S w β bi c)(e:SExt S w S' w')
  (hw:∀ b,bi.base=some b→w'.heap[b]? = w.heap[b]?):BoxOK S' w' (upd β k i) bi (c.purge k):=by
 cases c with
 | cells cs =>
  obtain⟨b,ty,vs,h1,h2,h3⟩:=h
  refine⟨b,ty,vs,h1,(hw b h1).trans h2,h3.map (by simp) ?_⟩
  intro j x y v hx hy hr
  simp only [List.getElem?_map,hx,Option.map_some,Option.some.injEq] at hy
  subst hy;exact hr.purge e
 | rows sz rs=>exact BoxOK.ext (c:=.rows sz rs) h e hw (by simp [BoxC.has])
 | map kvs=>exact BoxOK.ext (c:=.map kvs) h e hw (by simp [BoxC.has])
 | iter kvs seen=>exact BoxOK.ext (c:=.iter kvs seen) h e hw (by simp [BoxC.has])
 | ghost Y st=>exact h
variable {C:Ctx} {S:Nat→Prop}
theorem Inv.setSame {w w':World} {k b:Nat} {x c:BoxC} (h:Inv C S w β bx)(hk:(k,x)∈bx)(hb:(β k).base=some b)
  (hw:∀ b',b'≠b→w'.heap[b']? = w.heap[b']?) (hos:w'.os=w.os) (htape:w'.tape=w.tape) (hout:w'.output=w.output) (hsize:w'.heap.size=w.heap.size)
  (hc:BoxOK S w' β (β k) c) (hgc:c.real=true:=by rfl):Inv C S w' β ((k,c)::berase k bx)∧SExt S w S w':=by
 have e:SExt S w S w':=⟨fun _ h=>h,fun b' hb'=>hw b' fun he=>(h.priv k x hk b hb).1 (he ▸ hb')⟩
 refine⟨h.step e (fun b' hb'=>.inl hb') (fun b' hb'=>by rw [hsize];exact h.Slt b' hb') (fun b' _ hn=>hw b' fun he=>hn k x hk (by rw [hb,he])) hos htape hout (by omega) ?_ ?_ (fun _ _=>rfl) ?_,e⟩
 ·intro j d hj
  simp only [List.mem_cons,Prod.mk.injEq] at hj
  rcases hj with ⟨rfl,rfl⟩ | hj
  ·refine⟨hc,fun b' hb'=>?_⟩
   obtain⟨h1,h2,_⟩:=h.priv _ x hk b' hb'
   exact⟨h1,by omega,.inr ⟨_,x,hk,hb'⟩⟩
  ·obtain⟨hne,hj⟩:=mem_berase.1 hj
   refine⟨(h.box j d hj).ext e (fun b' hb'=>hw b' fun he=>hne (h.inj j d k x hj hk b' hb' (by rw [hb,he])).1) (fun _ _=>rfl),fun b' hb'=>?_⟩
   obtain⟨h1,h2,_⟩:=h.priv j d hj b' hb'
   exact⟨h1,by omega,.inr ⟨_,d,hj,hb'⟩⟩
 ·intro j d j' d' hj hj' b' hb1 hb2
  simp only [List.mem_cons,Prod.mk.injEq] at hj hj'
  rcases hj with ⟨rfl,rfl⟩ | hj
  ·rcases hj' with ⟨rfl,rfl⟩ | hj'
   ·exact⟨rfl,rfl⟩
   ·obtain⟨hne,hj'⟩:=mem_berase.1 hj'
    exact absurd (h.inj j' d' _ x hj' hk b' hb2 hb1).1 hne
  ·obtain⟨hne,g⟩:=mem_berase.1 hj
   clear hj
   rcases hj' with ⟨rfl,rfl⟩ | hj'
   ·exact absurd (h.inj j d _ x g hk b' hb1 hb2).1 hne
   ·obtain⟨hne',g'⟩:=mem_berase.1 hj'
    exact h.inj j d j' d' g g' b' hb1 hb2
 ·intro j Y st hj
  simp only [List.mem_cons,Prod.mk.injEq] at hj
  rcases hj with ⟨rfl,rfl⟩ | hj
  ·simp [BoxC.real] at hgc
  ·exact (mem_berase.1 hj).2
theorem Inv.setNewG {S S':Nat→Prop} {w w':World} (i:BI)(h:Inv C S w β bx)(hkf:k≤999999)
  (hsub:∀ b,S b→S' b) (hSn:∀ b,S' b→S b∨w.heap.size≤b) (hSl:∀ b,S' b→b < w'.heap.size)
  (hi:∀ b,i.base=some b→¬ S' b∧b < w'.heap.size∧(w.heap.size≤b∨∃ x,(k,x)∈bx∧(β k).base=some b))
  (hw:∀ b',b' < w.heap.size→(∀ x,(k,x)∈bx→(β k).base≠some b')→w'.heap[b']? = w.heap[b']?)
  (hos:w'.os=w.os) (htape:w'.tape=w.tape) (hout:w'.output=w.output) (hsize:w.heap.size≤w'.heap.size)
  (hc:SExt S w S' w'→BoxOK S' w' (upd β k i) i c) (hgc:c.real=true:=by rfl):Inv C S' w' (upd β k i) ((k,c)::bpurge k (berase k bx))∧SExt S w S' w':=by
 have e:SExt S w S' w':=⟨hsub,fun b' hb'=>hw b' (h.Slt b' hb') fun x hx he=>(h.priv k x hx b' he).1 hb'⟩
 refine⟨h.step e hSn hSl (fun b' hb hn=>hw b' hb fun x hx=>hn k x hx) hos htape hout hsize ?_ ?_ (fun j hj=>upd_ne (by omega)) ?_,e⟩
 ·intro j d hj
  simp only [List.mem_cons,Prod.mk.injEq] at hj
  rcases hj with ⟨rfl,rfl⟩ | hj
  ·rw [upd_same]
   refine⟨hc e,fun b' hb'=>?_⟩
   obtain⟨h1,h2,h3⟩:=hi b' hb'
   refine⟨h1,h2,?_⟩
   rcases h3 with h3 | ⟨x,hx,hbx⟩
   ·exact .inl h3
   ·exact .inr ⟨_,x,hx,hbx⟩
  ·obtain⟨x,g0,rfl⟩:=mem_bpurge hj
   obtain⟨hne,g⟩:=mem_berase.1 g0
   rw [upd_ne hne]
   refine⟨(h.box j x g).purge e (fun b' hb'=>hw b' (h.priv j x g b' hb').2.1 fun y hy he=>hne (h.inj j x k y g hy b' hb' he).1),fun b' hb'=>?_⟩
   obtain⟨h1,h2,_⟩:=h.priv j x g b' hb'
   exact⟨fun hs=>(hSn b' hs).elim h1 (by omega),by omega,.inr ⟨_,x,g,hb'⟩⟩
 ·have fresh:∀ j x b',j≠k→(j,x)∈bx→(β j).base=some b'→i.base≠some b':=by
   intro j x b' hne hj hb' hib
   rcases (hi b' hib).2.2 with h3 | ⟨y,hy,hby⟩
   ·have:=(h.priv j x hj b' hb').2.1;omega
   ·exact hne (h.inj j x k y hj hy b' hb' hby).1
  intro j d j' d' hj hj' b' hb1 hb2
  simp only [List.mem_cons,Prod.mk.injEq] at hj hj'
  rcases hj with ⟨rfl,rfl⟩ | hj
  ·rcases hj' with ⟨rfl,rfl⟩ | hj'
   ·exact⟨rfl,rfl⟩
   ·obtain⟨x,g0,rfl⟩:=mem_bpurge hj'
    obtain⟨hne,g⟩:=mem_berase.1 g0
    rw [upd_same] at hb1;rw [upd_ne hne] at hb2
    exact absurd hb1 (fresh j' x b' hne g hb2)
  ·obtain⟨x,g0,rfl⟩:=mem_bpurge hj
   obtain⟨hne,g⟩:=mem_berase.1 g0
   clear hj g0
   rw [upd_ne hne] at hb1
   rcases hj' with ⟨rfl,rfl⟩ | hj'
   ·rw [upd_same] at hb2
    exact absurd hb2 (fresh j x b' hne g hb1)
   ·obtain⟨x',g0',rfl⟩:=mem_bpurge hj'
    obtain⟨hne',g'⟩:=mem_berase.1 g0'
    rw [upd_ne hne'] at hb2
    obtain⟨h1,h2⟩:=h.inj j x j' x' g g' b' hb1 hb2
    exact⟨h1,by rw [h2]⟩
 ·intro j Y st hj
  simp only [List.mem_cons,Prod.mk.injEq] at hj
  rcases hj with ⟨rfl,rfl⟩ | hj
  ·simp [BoxC.real] at hgc
  ·obtain⟨x,g0,hx⟩:=mem_bpurge hj
   cases x <;> simp only [BoxC.purge,reduceCtorEq] at hx
   rw [hx];exact (mem_berase.1 g0).2
theorem Inv.setNew {w w':World} (i:BI)(h:Inv C S w β bx)(hkf:k≤999999)
  (hi:∀ b,i.base=some b→¬ S b∧b < w'.heap.size∧(w.heap.size≤b∨∃ x,(k,x)∈bx∧(β k).base=some b))
  (hw:∀ b',b' < w.heap.size→(∀ x,(k,x)∈bx→(β k).base≠some b')→w'.heap[b']? = w.heap[b']?)
  (hos:w'.os=w.os) (htape:w'.tape=w.tape) (hout:w'.output=w.output) (hsize:w.heap.size≤w'.heap.size)
  (hc:SExt S w S w'→BoxOK S w' (upd β k i) i c) (hgc:c.real=true:=by rfl):Inv C S w' (upd β k i) ((k,c)::bpurge k (berase k bx))∧SExt S w S w' :=
 h.setNewG i hkf (fun _ h=>h) (fun _ h=>.inl h) (fun b hb=>Nat.lt_of_lt_of_le (h.Slt b hb) hsize) hi hw hos htape hout hsize hc hgc
def constSV0:Value→SV
 | .int k n=>.d (.int k n)
 | .bool b=>.d (.bool b)
 | .string s=>if s.size≤lim then .d (.str s.data.toList) else .undef
 | .slice none 0 0=>.d .nil
 | .pointer none=>.d .nilptr
 | .map none=>.d .nilmap
 | .nilIface=>.d .niliface
 | .nilFunc=>.d .nilfn
 | _=>.undef
def onesK:List SV→List SV→SV
 | [],l=>.agg l
 | c::r,l=>match c.one with
  | true=>onesK r l
  | false=>.undef
def constSV:Value→SV
 | .int k n=>.d (.int k n)
 | .bool b=>.d (.bool b)
 | .string s=>if s.size≤lim then .d (.str s.data.toList) else .undef
 | .slice none 0 0=>.d .nil
 | .pointer none=>.d .nilptr
 | .map none=>.d .nilmap
 | .nilIface=>.d .niliface
 | .nilFunc=>.d .nilfn
 | .tuple ⟨[]⟩=>.tuple []
 | .agg cells=>onesK (cells.toList.map constSV0) (cells.toList.map constSV0)
 | _=>.undef
theorem repV_const0 (S:Nat→Prop)(w:World) (β:Names)(v:Value):RepV S w β (constSV0 v) v:=by
 unfold constSV0
 split
 ·exact .int _ _
 ·exact .bool _
 ·rename_i s
  split
  ·exact .d _ _ (.str s.data.toList (by assumption))
  ·exact .undef _
 ·exact .d _ _ .nil
 ·exact .d _ _ .nilptr
 ·exact .d _ _ .nilmap
 ·exact .d _ _ .niliface
 ·exact .d _ _ .nilfn
 ·exact .undef _
theorem onesK_cases:∀ cs l:List SV,onesK cs l=.undef∨(onesK cs l=.agg l∧∀ c,c∈cs→c.one=true)
 | [],l=>.inr ⟨rfl,by simp⟩
 | c::r,l=>by
  rw [onesK]
  cases hc:c.one with
  | false=>exact .inl rfl
  | true =>
   rcases onesK_cases r l with h | ⟨h,h2⟩
   ·exact .inl h
   ·exact .inr ⟨h,fun x hx=>(List.mem_cons.1 hx).elim (fun e=>e ▸ hc) (h2 x)⟩
theorem repV_const (S:Nat→Prop)(w:World) (β:Names)(v:Value):RepV S w β (constSV v) v:=by
 unfold constSV
 split
 ·exact .int _ _
 ·exact .bool _
 ·rename_i s
  split
  ·exact .d _ _ (.str s.data.toList (by assumption))
  ·exact .undef _
 ·exact .d _ _ .nil
 ·exact .d _ _ .nilptr
 ·exact .d _ _ .nilmap
 ·exact .d _ _ .niliface
 ·exact .d _ _ .nilfn
 ·exact .tuple [] [] rfl (by simp)
 ·rename_i cells
  rcases onesK_cases (cells.toList.map constSV0) (cells.toList.map constSV0) with h | ⟨h,h2⟩
  ·rw [h];exact .undef _
  ·rw [h]
   obtain⟨vs⟩:=cells
   refine .agg _ vs (by simp) h2 fun j c v hc hv=>?_
   simp only [List.getElem?_map] at hc
   rw [hv] at hc
   cases hc
   exact repV_const0 S w β v
 ·exact .undef _
def tzero (P:Program)(T:TypeId):Option (List SV):=((P.info? T).bind (·.zero)).map fun z=>z.cells.toList.map constSV
theorem run_zeroValue' {T:TypeId} {zs:List SV} (h:tzero P T=some zs)(w:World):∃ z,(zeroValue T).run P w=.ok z w∧zs=z.cells.toList.map constSV:=by
 unfold tzero at h
 cases hi:P.info? T with
 | none=>simp [hi] at h
 | some i =>
  cases hz:i.zero with
  | none=>simp [hi,hz] at h
  | some z =>
   simp [hi,hz] at h
   exact⟨z,by simp [zeroValue,typeInfo,hi,hz],h.symm⟩
theorem repL_const (S:Nat→Prop)(w:World) (β:Names)(vs:List Value):RepL S w β (vs.map constSV) vs:=by
 refine⟨by simp,?_⟩
 intro j c v hc hv
 simp [hv] at hc
 subst hc;exact repV_const S w β v
theorem heap_push_old (w:World)(x:Obj) {b:Nat} (h:b < w.heap.size):(w.heap.push x)[b]? = w.heap[b]?:=by
 rw [Array.getElem?_push,if_neg (by omega)]
theorem heap_push_new (w:World)(x:Obj):(w.heap.push x)[w.heap.size]? = some x:=by simp
variable {w:World} {vs:List Value}
theorem Inv.newCells {cs:List SV} (h:Inv C S w β bx)(hkf:k≤999999)(T:TypeId)(hr:RepL S w β cs vs) :
  Inv C S { w with heap:=w.heap.push (.cells ⟨vs⟩ T) } (upd β k { base:=some w.heap.size }) ((k,.cells (cs.map (spurge k)))::bpurge k (berase k bx))∧SExt S w S { w with heap:=w.heap.push (.cells ⟨vs⟩ T) }:=by
 refine h.setNew { base:=some w.heap.size } hkf ?_ ?_ rfl rfl rfl (by simp) ?_
 ·intro b hb
  simp only [Option.some.injEq] at hb;subst hb
  exact⟨fun hs=>by have:=h.Slt _ hs;omega,by simp,.inl (Nat.le_refl _)⟩
 ·intro b' hb' _;exact heap_push_old w _ hb'
 ·intro e
  refine⟨w.heap.size,T,vs,rfl,heap_push_new w _,hr.map (by simp) ?_⟩
  intro j x y v hx hy hxv
  simp only [List.getElem?_map,hx,Option.map_some,Option.some.injEq] at hy
  subst hy;exact hxv.purge e
theorem opT_alloc {T k:Nat} (hkf:k≤999999)(ho:o.op=.alloc T) {zs:List SV} (hz:tzero P T=some zs) :
  OpT P o ρ bx (.box k 0) ((k,.cells (zs.map (spurge k)))::bpurge k (berase k bx)) [k]:=by
 intro C S w β a hi ha
 obtain⟨z,hrun,rfl⟩:=run_zeroValue' hz w
 obtain⟨h1,h2⟩:=hi.newCells (k:=k) hkf T (repL_const S w β z.cells.toList)
 refine Or.inl ?_
 unfold Oper.wp
 have:(execOp a.eval o).run P w=.ok (.value (.pointer (some ⟨w.heap.size,0,none⟩))) { w with heap:=w.heap.push (.cells ⟨z.cells.toList⟩ T) }:=by
  simp [execOp,ho,Instr.alloc,hrun,newVar,newRow]
 rw [this]
 exact⟨_,S,_,rfl,h1,h2,.box k 0 _ (by rw [upd_same]),fun j hj=>upd_ne (by simpa using hj)⟩
def content:SV→Option (List SV)
 | .agg cs=>some cs
 | x=>if x.one then some [x] else none
theorem RepV.content {x:SV} {v:Value} {cs:List SV} (h:RepV S w β x v)(hc:content x=some cs):RepL S w β cs v.cells.toList∧cs.all SV.one=true:=by
 cases h with
 | agg cells vs h1 h2 h3 =>
  simp only [Abs.content,Option.some.injEq] at hc;subst hc
  exact⟨⟨h1,h3⟩,List.all_eq_true.2 h2⟩
 | undef v=>simp [Abs.content,SV.one] at hc
 | tuple cells vs=>simp [Abs.content,SV.one] at hc
 | d x v h =>
  simp only [Abs.content] at hc
  by_cases ho:(SV.d x).one=true
  ·rw [if_pos ho] at hc
   simp only [Option.some.injEq] at hc;subst hc
   have h1:=h.one ho
   have:v.cells.toList=[v]:=by cases v <;> simp [Value.oneCell'] at h1 <;> rfl
   rw [this]
   exact⟨.cons (.d _ _ h) .nil,by simp [ho]⟩
  ·rw [if_neg ho] at hc;simp at hc
 | box k off b hb=>simp only [Abs.content,SV.one,if_true,Option.some.injEq] at hc;subst hc;exact⟨.cons (.box k off b hb) .nil,rfl⟩
 | dptr cells off b base h1 h2 h3 h4=>simp only [Abs.content,SV.one,if_true,Option.some.injEq] at hc;subst hc;exact⟨.cons (.dptr cells off b base h1 h2 h3 h4) .nil,rfl⟩
 | acc k=>simp only [Abs.content,SV.one,if_true,Option.some.injEq] at hc;subst hc;exact⟨.cons (.acc k) .nil,rfl⟩
 | aptr k i off b hb=>simp only [Abs.content,SV.one,if_true,Option.some.injEq] at hc;subst hc;exact⟨.cons (.aptr k i off b hb) .nil,rfl⟩
 | mp k b hb=>simp only [Abs.content,SV.one,if_true,Option.some.injEq] at hc;subst hc;exact⟨.cons (.mp k b hb) .nil,rfl⟩
 | yld l=>simp only [Abs.content,SV.one,if_true,Option.some.injEq] at hc;subst hc;exact⟨.cons (.yld l) .nil,rfl⟩
 | vptr cells off b h1 h2 h3 h4=>simp only [Abs.content,SV.one,if_true,Option.some.injEq] at hc;subst hc;exact⟨.cons (.vptr cells off b h1 h2 h3 h4) .nil,rfl⟩
 | clo f caps vs h1 h2=>simp only [Abs.content,SV.one,if_true,Option.some.injEq] at hc;subst hc;exact⟨.cons (.clo f caps vs h1 h2) .nil,rfl⟩
theorem opT_box {T k:Nat} {x:Operand} (hkf:k≤999999)(ho:o.op=.box T x) {cs:List SV} (hx:content (ρ x)=some cs) :
  OpT P o ρ bx (.box k 0) ((k,.cells (cs.map (spurge k)))::bpurge k (berase k bx)) [k]:=by
 intro C S w β a hi ha
 have hr:=(((ha x (mC ho))).content hx).1
 obtain⟨h1,h2⟩:=hi.newCells (k:=k) hkf T hr
 refine Or.inl ?_
 unfold Oper.wp
 have:(execOp a.eval o).run P w=.ok (.value (.pointer (some ⟨w.heap.size,0,none⟩))) { w with heap:=w.heap.push (.cells ⟨(a.eval x).cells.toList⟩ T) }:=by
  simp [execOp,ho,Instr.box,newVar,newRow]
 rw [this]
 exact⟨_,S,_,rfl,h1,h2,.box k 0 _ (by rw [upd_same]),fun j hj=>upd_ne (by simpa using hj)⟩
def setAll {α:Type}:List α→Nat→List α→List α
 | cs,_,[]=>cs
 | cs,off,u::us=>setAll (cs.set off u) (off+1) us
theorem setAll_length {α:Type} :∀ (us:List α)(cs:List α)(off:Nat),(setAll cs off us).length=cs.length
 | [],_,_=>rfl
 | u::us,cs,off=>by simp [setAll,setAll_length us]
theorem setAll_get {α:Type} :∀ (us:List α)(cs:List α)(off j:Nat),off+us.length≤cs.length→(setAll cs off us)[j]? = if off≤j∧j < off+us.length then us[j - off]? else cs[j]?
 | [],cs,off,j,_=>by
  simp only [setAll,List.length_nil,Nat.add_zero]
  rw [if_neg (by omega)]
 | u::us,cs,off,j,h=>by
  simp only [List.length_cons] at h
  simp only [setAll,List.length_cons]
  rw [setAll_get us (cs.set off u) (off+1) j (by simp;omega)]
  by_cases h1:j=off
  ·subst h1
   rw [if_neg (by omega),if_pos (by omega)]
   simp [List.getElem?_set,show j < cs.length by omega]
  ·by_cases h2:off+1≤j∧j < off+1+us.length
   ·rw [if_pos h2,if_pos (by omega)]
    rw [show j - off=(j - (off+1))+1 by omega,List.getElem?_cons_succ]
   ·rw [if_neg h2,if_neg (by omega),List.getElem?_set_ne (by omega)]
theorem RepL.setAll {cs us:List SV} {vs ns:List Value} (h:RepL S w β cs vs)(t:RepL S w β us ns) {off:Nat} (hl:off+us.length≤cs.length) :
  RepL S w β (setAll cs off us) (setAll vs off ns):=by
 refine⟨by rw [setAll_length,setAll_length,h.1],?_⟩
 intro j c v hc hv
 rw [setAll_get _ _ _ _ hl] at hc
 rw [setAll_get _ _ _ _ (by rw [t.1,h.1];exact hl)] at hv
 rw [t.1] at hv
 split at hc
 ·rw [if_pos (by assumption)] at hv;exact t.2 _ c v hc hv
 ·rw [if_neg (by assumption)] at hv;exact h.2 _ c v hc hv
theorem heap_setCell_row {b p:Nat} {ty:TypeId} {fr:Nat × Nat} {v:Value} (h:w.heap[b]? = some (.cells ⟨vs⟩ ty fr)) :
  (w.setCell ⟨b,p,none⟩ v).heap[b]? = some (.cells ⟨vs.set p v⟩ ty fr):=by
 simp only [World.setCell,Array.getElem?_modify,if_true,h,Option.map_some,Option.isSome_none,Bool.false_eq_true,if_false]
 simp
theorem run_storeCells':∀ (us vs:List Value)(b off i:Nat)(ty:TypeId)(w:World),w.heap[b]? = some (.cells ⟨vs⟩ ty (0,0))→off+i+us.length≤vs.length→us.all (·.oneCell')=true →
  ∃ w',(storeCells ⟨b,off,none⟩ us i).run P w=.ok () w'∧w'.heap[b]? = some (.cells ⟨setAll vs (off+i) us⟩ ty (0,0))∧(∀ b',b'≠b→w'.heap[b']? = w.heap[b']?) ∧
   w'.os=w.os∧w'.tape=w.tape∧w'.output=w.output∧w'.heap.size=w.heap.size
 | [],vs,b,off,i,ty,w,hh,_,_=>⟨w,by simp [storeCells],hh,fun _ _=>rfl,rfl,rfl,rfl,rfl⟩
 | u::us,vs,b,off,i,ty,w,hh,hl,h1=>by
  simp only [List.length_cons] at hl
  simp only [List.all_cons,Bool.and_eq_true] at h1
  have hcell:w.cell? ⟨b,off+i,none⟩=some (vs[off+i]'(by omega)):=by rw [cells_of_row hh];simp
  have hfr:w.frozen? ⟨b,off+i,none⟩=false:=by simp [World.frozen?,hh]
  have hst:(store ((⟨b,off,none⟩:Addr).add i) u).run P w=Result.ok () (w.setCell ⟨b,off+i,none⟩ u):=by
   rw [add_addr,run_store P w _ u _ h1.1,hcell,hfr];simp
  obtain⟨w',hr,g1,g2,g3,g4,g5,g6⟩:=run_storeCells' us (vs.set (off+i) u) b off (i+1) ty (w.setCell ⟨b,off+i,none⟩ u) (heap_setCell_row hh) (by simp;omega) h1.2
  refine⟨w',?_,?_,?_,by simpa [World.setCell] using g3,by simpa [World.setCell] using g4,by simpa [World.setCell] using g5,by simpa using g6⟩
  ·simp only [storeCells,Sem.run_bind]
   rw [hst]
   exact hr
  ·rw [g1];simp only [setAll];rw [Nat.add_assoc]
  ·intro b' hb'
   rw [g2 b' hb',heap_setCell_other _ _ _ _ (by simpa using hb')]
theorem RepL.one {cs:List SV} (h:RepL S w β cs vs)(h1:cs.all SV.one=true):vs.all (·.oneCell')=true:=by
 rw [List.all_eq_true]
 intro v hv
 obtain⟨j,hj⟩:=List.mem_iff_getElem?.1 hv
 have hlt:j < cs.length:=by have:=(List.getElem?_eq_some_iff.1 hj).1;have:=h.1;omega
 exact (h.2 j _ v (List.getElem?_eq_getElem hlt) hj).one (List.all_eq_true.1 h1 _ (List.getElem_mem hlt))
theorem opT_storeBox {T k off:Nat} {x y:Operand} (ho:o.op=.store T x y) {cs us:List SV} (hx:ρ x=.box k off)(hb:(k,BoxC.cells cs)∈bx)(hy:content (ρ y)=some us)
  (hs:tsize P T=some us.length) (hl:off+us.length≤cs.length):OpT P o ρ bx (.tuple []) ((k,.cells (setAll cs off us))::berase k bx) []:=by
 intro C S w β a hi ha
 have hx1:=(ha x (mC ho));rw [hx] at hx1
 obtain⟨b,hbase,hv⟩:=hx1.inv_box
 obtain⟨b',ty,vs,hb',hh,hr⟩:=hi.box k _ hb
 rw [hbase] at hb';cases hb'
 obtain⟨hus,hone⟩:=((ha y (mC ho))).content hy
 have hlen:=hus.1
 have hlen':=hr.1
 obtain⟨w',hrun,g1,g2,g3,g4,g5,g6⟩:=run_storeCells' (P:=P) (a.eval y).cells.toList vs b off 0 ty w hh (by omega) (hus.one hone)
 have e0:SExt S w S w':=⟨fun _ h=>h,fun b' hb'=>g2 b' fun he=>(hi.priv k _ hb b hbase).1 (he ▸ hb')⟩
 obtain⟨h1,h2⟩:=hi.setSame (c:=.cells (setAll cs off us)) hb hbase g2 g3 g4 g5 g6 (by
  refine⟨b,ty,_,hbase,by simpa using g1,?_⟩
  exact⟨(hr.setAll hus hl).1,fun j c v hc hv=>((hr.setAll hus hl).2 j c v hc hv).ext e0 fun _ _=>rfl⟩)
 refine Or.inl ?_
 unfold Oper.wp
 have:(execOp a.eval o).run P w=.ok .skip w':=by
  have hsz:(a.eval y).cells.size=us.length:=by rw [← hlen];simp
  simp [execOp,ho,Instr.storeAt,hv,Instr.sureAddr,storeVar,run_sizeOf' hs,hsz,hrun]
 rw [this]
 exact⟨undef,S,β,rfl,h1,h2,.tuple [] [] rfl (by simp),fun _ _=>rfl⟩
theorem opT_storeAptr {T k i off sz:Nat} {x y:Operand} (ho:o.op=.store T x y) {rows:List (List D)} {row us:List D} (hx:ρ x=.aptr k i off)(hb:(k,BoxC.rows sz rows)∈bx)
  (hr:rows[i]? = some row) (hy:content (ρ y)=some (us.map SV.d)) (hs:tsize P T=some us.length) (hl:off+us.length≤row.length) :
  OpT P o ρ bx (.tuple []) ((k,.rows sz (rows.set i (setAll row off us)))::berase k bx) []:=by
 intro C S w β a hi ha
 have hx1:=(ha x (mC ho));rw [hx] at hx1
 obtain⟨q1,q2,q3,q4,q5,q6,q7⟩:=hi.box k _ hb
 obtain⟨hus,hone⟩:=((ha y (mC ho))).content hy
 have hlen:=hus.1;simp only [List.length_map] at hlen
 have hi':=(List.getElem?_eq_some_iff.1 hr).1
 have hrow:=q5 row (List.mem_of_getElem? hr)
 generalize hv:a.eval x=v at hx1
 cases hx1 with
 | aptr _ _ _ b hbase =>
  rw [hbase] at q7
  obtain⟨ty,vs,hh,hcap,hrep⟩:=q7
  rw [q1] at hv
  have hfit:((β k).off+i)*sz+off+us.length≤vs.length:=by
   have h1:((β k).off+i+1)*sz≤((β k).off+(β k).cap)*sz:=Nat.mul_le_mul_right _ (by omega)
   rw [Nat.add_mul _ 1] at h1
   omega
  obtain⟨w',hrun,g1,g2,g3,g4,g5,g6⟩:=run_storeCells' (P:=P) (a.eval y).cells.toList vs b (((β k).off+i)*sz+off) 0 ty w hh (by omega) (hus.one hone)
  have e0:SExt S w S w':=⟨fun _ h=>h,fun b' hb'=>g2 b' fun he=>(hi.priv k _ hb b hbase).1 (he ▸ hb')⟩
  obtain⟨h1,h2⟩:=hi.setSame (c:=.rows sz (rows.set i (setAll row off us))) hb hbase g2 g3 g4 g5 g6 (by
   refine⟨q1,by simpa using q2,q3,by simpa using q4,?_,?_,?_⟩
   ·intro r hr'
    rcases List.mem_or_eq_of_mem_set hr' with h | h
    ·exact q5 r h
    ·subst h;rw [setAll_length];exact hrow
   ·intro r hr' d hd
    rcases List.mem_or_eq_of_mem_set hr' with h | h
    ·exact q6 r h d hd
    ·subst h
     obtain⟨j,hj⟩:=List.mem_iff_getElem?.1 hd
     rw [setAll_get _ _ _ _ hl] at hj
     split at hj
     ·have:=List.all_eq_true.1 hone (.d d) (List.mem_map.2 ⟨d,List.mem_of_getElem? hj,rfl⟩)
      simpa [SV.one] using this
     ·exact q6 row (List.mem_of_getElem? hr) d (List.mem_of_getElem? hj)
   ·rw [hbase]
    refine⟨ty,_,by simpa using g1,by rw [setAll_length];exact hcap,?_⟩
    intro r j row' d u hr' hd hu
    rw [setAll_get _ _ _ _ (by omega)] at hu
    by_cases hri:i=r
    ·subst hri
     simp only [List.getElem?_set,hi',if_true,Option.some.injEq] at hr'
     subst hr'
     rw [setAll_get _ _ _ _ hl] at hd
     by_cases hj:off≤j∧j < off+us.length
     ·rw [if_pos hj] at hd
      rw [if_pos (by omega)] at hu
      have:=hus.2 (j - off) (.d d) u (by simp [hd]) (by rw [show j - off=((β k).off+i)*sz+j - (((β k).off+i)*sz+off+0) by omega];exact hu)
      exact this.inv_d.ext e0
     ·rw [if_neg hj] at hd
      rw [if_neg (by omega)] at hu
      exact (hrep i j row d u hr hd hu).ext e0
    ·rw [List.getElem?_set_ne hri] at hr'
     have hjlt:j < sz:=by
      have:=(List.getElem?_eq_some_iff.1 hd).1
      have:=q5 row' (List.mem_of_getElem? hr')
      omega
     rw [if_neg (by
      intro hin
      rcases Nat.lt_or_ge r i with hlt | hge
      ·have:((β k).off+r+1)*sz≤((β k).off+i)*sz:=Nat.mul_le_mul_right _ (by omega)
       rw [Nat.add_mul _ 1] at this;omega
      ·have:((β k).off+i+1)*sz≤((β k).off+r)*sz:=Nat.mul_le_mul_right _ (by omega)
       rw [Nat.add_mul _ 1] at this;omega)] at hu
     exact (hrep r j row' d u hr' hd hu).ext e0)
  refine Or.inl ?_
  unfold Oper.wp
  have:(execOp a.eval o).run P w=.ok .skip w':=by
   have hsz:(a.eval y).cells.size=us.length:=by rw [← hlen];simp
   simp [execOp,ho,Instr.storeAt,hv,Instr.sureAddr,storeVar,run_sizeOf' hs,hsz,hrun]
  rw [this]
  exact⟨undef,S,β,rfl,h1,h2,.tuple [] [] rfl (by simp),fun _ _=>rfl⟩
end Go.Abs
namespace Go.Abs
open Go
variable {P:Program} {o:Oper} {ρ:Rho} {bx:Boxes}
def splaceL (P:Program):List Field→Option (List (Nat × Nat))
 | []=>some []
 | f::fs=>match tsize P f.type with
  | some n=>(splaceL P fs).map ((f.offset,n)::·)
  | none=>none
def splaces (P:Program)(T:TypeId):Option (List (Nat × Nat)) :=
 match P.underlying T with
 | some (.struct fs)=>splaceL P fs.toList
 | _=>none
theorem run_places:∀ (fs:List Field)(ps:List (Nat × Nat)),splaceL P fs=some ps→∀ w:World,(fs.mapM (fun f=>do pure (f.offset,← sizeOf f.type):Field→Sem (Nat × Nat))).run P w=.ok ps w
 | [],ps,h,w=>by simp only [splaceL,Option.some.injEq] at h;subst h;rfl
 | f::fs,ps,h,w=>by
  simp only [splaceL] at h
  cases hn:tsize P f.type with
  | none=>simp [hn] at h
  | some n =>
   simp only [hn,Option.map_eq_some_iff] at h
   obtain⟨qs,hq,rfl⟩:=h
   have:=run_places fs qs hq w
   simp only [List.mapM_cons,Sem.run_bind,run_sizeOf' hn,Result.andThen_ok,Sem.run_pure,this]
def fillSV (ps:List (Nat × Nat))(cells:List SV):List (Nat × List SV)→Option (List SV)
 | []=>some cells
 | (i,us)::r=>match ps[i]? with
  | none=>none
  | some (off,size)=>if us.length=size∧off+size≤cells.length then fillSV ps (setAll cells off us) r else none
theorem setAll_foldl:∀ (us vs:List Value)(off:Nat)(n:Nat),((us.zipIdx n).foldl (fun (cs:Array Value)(x:Value × Nat)=>cs.setIfInBounds (off+x.2) x.1) ⟨vs⟩)=⟨setAll vs (off+n) us⟩
 | [],vs,off,n=>by simp [setAll]
 | u::us,vs,off,n=>by
  simp only [List.zipIdx_cons,List.foldl_cons,setAll]
  have:=setAll_foldl us (vs.set (off+n) u) off (n+1)
  rw [← Nat.add_assoc] at this
  rw [← this]
  congr 1
  simp
theorem fill_rep {S:Nat→Prop} {w:World} {β:Names} (place:Nat→Option (Nat × Nat))(ps:List (Nat × Nat)) :
  ∀ (parts:List (Nat × List SV)) (vparts:List (Nat × Value)) (cells out:List SV) (vs:List Value),RepL S w β cells vs→(∀ (i:Nat) (q:Nat × Nat),ps[i]? = some q→place i=some q) →
   parts.length=vparts.length→(∀ (j:Nat) (p:Nat × List SV) (q:Nat × Value),parts[j]? = some p→vparts[j]? = some q→q.1=p.1∧RepL S w β p.2 q.2.cells.toList) →
   fillSV ps cells parts=some out→∃ ws:List Value,Instr.fill place ⟨vs⟩ vparts=some ⟨ws⟩∧RepL S w β out ws
 | [],vparts,cells,out,vs,h,hp,hl,hr,hf=>by
  simp only [fillSV,Option.some.injEq] at hf;subst hf
  have:vparts=[]:=by cases vparts <;> simp at hl;rfl
  subst this
  exact⟨vs,rfl,h⟩
 | (i,us)::parts,vparts,cells,out,vs,h,hp,hl,hr,hf=>by
  cases vparts with
  | nil=>simp at hl
  | cons q vparts =>
   simp only [List.length_cons,Nat.add_right_cancel_iff] at hl
   obtain⟨h1,h2⟩:=hr 0 (i,us) q rfl rfl
   simp only [fillSV] at hf
   cases hq:ps[i]? with
   | none=>simp [hq] at hf
   | some pr =>
    obtain⟨off,size⟩:=pr
    simp only [hq] at hf
    split at hf
    ·rename_i hc
     have hsz:q.2.cells.size=us.length:=by have:=h2.1;simpa using this
     have hlen:=h.1
     simp only at h1 h2
     obtain⟨ws,g1,g2⟩:=fill_rep place ps parts vparts _ out _ (h.setAll h2 (off:=off) (by omega)) hp hl (fun j p q hp hq=>hr (j+1) p q hp hq) hf
     refine⟨ws,?_,g2⟩
     obtain⟨qi,qv⟩:=q
     simp only at h1 h2 hsz
     subst h1
     simp only [Instr.fill,hp _ _ hq]
     rw [if_neg (by simp only [ne_eq,Bool.or_eq_true,decide_eq_true_eq,not_or];simp;omega)]
     have:=setAll_foldl qv.cells.toList vs off 0
     simp only [Nat.add_zero] at this
     have e:qv.cells.toList.zipIdx=qv.cells.zipIdx.toList:=by simp
     rw [e,Array.foldl_toList] at this
     rw [← g1,← this]
    ·simp at hf
def partsSV (ρ:Rho):List (Nat × Operand)→Option (List (Nat × List SV))
 | []=>some []
 | (i,x)::r=>match content (ρ x),partsSV ρ r with
  | some c,some l=>some ((i,c)::l)
  | _,_=>none
theorem partsSV_rep {S:Nat→Prop} {w:World} {β:Names} {a:Act}:∀ (parts:List (Nat × Operand))(l:List (Nat × List SV)),(∀ p,p∈parts→RepV S w β (ρ p.2) (a.eval p.2))→partsSV ρ parts=some l →
  l.length=(parts.map fun p=>(p.1,a.eval p.2)).length∧(∀ (j:Nat) (p:Nat × List SV) (q:Nat × Value),l[j]? = some p→(parts.map fun p=>(p.1,a.eval p.2))[j]? = some q→q.1=p.1∧RepL S w β p.2 q.2.cells.toList) ∧
  ∀ p,p∈l→p.2.all SV.one=true
 | [],l,_,h=>by simp only [partsSV,Option.some.injEq] at h;subst h;simp
 | (i,x)::r,l,ha,h=>by
  simp only [partsSV] at h
  cases hc:content (ρ x) with
  | none=>simp [hc] at h
  | some c =>
   cases hl:partsSV ρ r with
   | none=>simp [hc,hl] at h
   | some m =>
    simp only [hc,hl,Option.some.injEq] at h;subst h
    obtain⟨h1,h2,h3⟩:=partsSV_rep r m (fun p hp=>ha p (by simp [hp])) hl
    obtain⟨g1,g2⟩:=(ha (i,x) (by simp)).content hc
    refine⟨by simpa using h1,?_,?_⟩
    ·intro j p q hp hq
     cases j with
     | zero=>simp at hp hq;subst hp;subst hq;exact⟨rfl,g1⟩
     | succ j=>exact h2 j p q (by simpa using hp) (by simpa using hq)
    ·intro p hp
     simp only [List.mem_cons] at hp
     rcases hp with rfl | hp
     ·exact g2
     ·exact h3 p hp
theorem opT_build {T:TypeId} {parts:Array (Nat × Operand)} (ho:o.op=.build T parts) {zs:List SV} {ps:List (Nat × Nat)} {l:List (Nat × List SV)} {out:List SV}
  (hz:tzero P T=some zs) (hp:splaces P T=some ps) (hl:partsSV ρ parts.toList=some l) (hf:fillSV ps zs l=some out) (h1:out.all SV.one=true):OpT P o ρ bx (.agg out) bx [] :=
 .of_value fun _ S w β a _ ha=>by
  obtain⟨z,hrun,rfl⟩:=run_zeroValue' hz w
  unfold splaces at hp
  cases hu:P.underlying T with
  | none=>simp [hu] at hp
  | some d =>
   rw [hu] at hp
   cases d <;> simp only [reduceCtorEq] at hp
   rename_i fs
   obtain⟨g1,g2,_⟩:=partsSV_rep parts.toList l (fun p hp=>ha p.2 (mo ho (by simp only [Op.operands,List.mem_toArray,List.mem_map];exact⟨p,hp,rfl⟩))) hl
   obtain⟨ws,q1,q2⟩:=fill_rep (fun i=>(ps.toArray)[i]?) ps l (parts.toList.map fun p=>(p.1,a.eval p.2)) _ out _ (repL_const S w β z.cells.toList) (fun i q hq=>by simpa using hq) g1 g2 hf
   refine⟨.agg ⟨ws⟩,?_,RepV.agg_of q2 h1⟩
   have hpl:=run_places fs.toList ps hp w
   have hm:(fs.mapM (fun f=>do pure (f.offset,← sizeOf f.type):Field→Sem (Nat × Nat))).run P w=.ok ps.toArray w:=by
    rw [Array.mapM_eq_mapM_toList,Sem.run_map,hpl]
    simp
   simp only [execOp,ho,Instr.build,Sem.run_bind,hrun,Result.andThen_ok,underlying,run_program,hu,Sem.run_pure,hm]
   have hz':z.cells=⟨z.cells.toList⟩:=rfl
   have:Instr.fill (fun x=>ps.toArray[x]?) z.cells (Array.map (fun x=>(x.fst,a.eval x.snd)) parts).toList=some ⟨ws⟩:=by
    rw [hz',Array.toList_map];exact q1
   simp only [this,Sem.run_pure,Result.andThen_ok]
end Go.Abs
