/- Data, abstract values, the operations that compute. Own framework. -/
import Derived.CallsIn
import Derived.Below
import Derived.Laws.Rows
import Derived.Laws.Cells
import Derived.Laws.World
import Derived.Laws.Append
import Derived.Orders
import Derived.Laws.Slices
import Derived.Laws.Strings
import Derived.Laws.Small
import Derived.Test.YtaneedhchnaniaaGreatDoorKTab
set_option linter.all false
namespace Go.Abs
open Go
def Ay:=@List.getElem?_eq_some_iff
def Ba:=@List.getElem?_eq_getElem
def Av:=@Option.some.injEq
def B3:=@List.length_append
def B1:=@Bool.and_eq_true
def As:=@List.mem_cons
def B6:=@List.length_map
def Bx:=@List.mem_of_getElem?
def B4:=@Int.lt_irrefl
def Bg:=@List.length_cons
def Ax:=@List.mem_map
def A6:=@if_neg
def A8:=@if_pos
def Bn:=@decide_eq_true
def Bw:=@List.mem_append
def Af:=@if_true
def Bv:=@Bool.false_and
def Cf:=@List.all_eq_true
def D3:=@List.getElem?_map
def Cs:=@List.take_length
def Ch:=@List.length_nil
def Ci:=@decide_eq_false
def Cw:=@List.length_take
def Fg:=@Bool.eq_false_or_eq_true
def D8:=@decide_eq_true_eq
def Ca:=@Bool.true_and
def Fy:=@List.drop_eq_getElem_cons
def D6:=@List.drop_length
def Dc:=@Option.getD_some
def Dt:=@List.not_mem_nil
def Cz:=@List.map_cons
def L5:=@List.take_succ_eq_append_getElem
def E8:=@Option.map_some
def Df:=@Prod.mk.injEq
def F7:=@List.getElem_mem
def Cq:=@Nat.le_refl
def H4:=@Nat.mul_le_mul_right
def Jh:=@List.getElem?_append_right
def J6:=@List.getElem?_append_left
def Dk:=@Nat.le_trans
def Ig:=@List.drop_eq_nil_of_le
def Ij:=@Option.map_eq_some_iff
def Iz:=@List.getElem?_cons_zero
def Gr:=@Int.toNat_natCast
def Hh:=@Bool.false_eq_true
def Hv:=@List.map_congr_left
def H8:=@Result.andThen_ok
def Fz:=@List.map_append
def Iq:=@List.mem_of_mem_take
def Ge:=@List.append_nil
def Rk:=@List.eq_nil_of_length_eq_zero
def Ei:=@Nat.add_mul
def Ny:=@List.getElem?_cons_succ
def Ls:=@List.getElem?_of_mem
def Fx:=@List.map_map
def Jo:=@Bool.not_eq_true'
def Rj:=@Array.getElem?_eq_getElem
def Nt:=@List.mem_iff_getElem?
def L7:=@Option.isSome_none
def Lu:=@List.ext_getElem?
def Hr:=@List.map_nil
def Du:=@or_false
def V5:=@List.fst_mem_of_mem_zipIdx
def Us:=@Option.isSome_iff_exists
def Hu:=@Sem.run_bind
def I2:=@Nat.zero_add
def Li:=@List.foldl_cons
def L8:=@List.mem_filter
def Sw:=@List.take_append_drop
def Mj:=@Option.getD_none
def X6:=@Array.getElem?_eq_some_iff
def Qt:=@List.mem_singleton
def Pg:=@List.append_assoc
def Vh:=@decide_eq_false_iff_not
def We:=@Decidable.byContradiction
def Et:=@if_false
def Ri:=@List.getElem?_drop
def Kr:=@List.sum_cons
def Ah8:=@List.findIdx?_eq_some_iff_getElem
def S5:=@Bool.not_eq_false'
def Jp:=@getElem!_pos
def U5:=@List.mem_of_mem_drop
def Um:=@List.getElem?_mapIdx
def Qa:=@Array.size_range
def I6:=@Array.ext'
def Kp:=@Sem.run_pure
def Mh:=@Nat.add_assoc
def Xn:=@List.getElem?_eq_none
def Wd:=@Array.getElem?_toList
def Xx:=@Array.getElem?_modify
def V3:=@Array.length_toList
def Na:=@List.all_cons
def Wf:=@Bool.or_eq_false_iff
def S9:=@List.cons_append
def R0:=@Oper.upon_enter
def Ye:=@UInt8.lt_iff_toNat_lt
def Ww:=@List.getElem?_range
def Wk:=@List.take_succ_cons
def Ta:=@Bool.or_eq_true
def Aj9:=@List.take_of_length_le
def Wj:=@Nat.lt_of_lt_of_le
def Ak1:=@List.length_filterMap_le
def Ak2:=@List.contains_iff_mem
def Yd:=@List.getElem?_take
def Q6:=@Nat.add_zero
def Ak5:=@MapKept.run_getObj_map
def Ak6:=@List.getElem?_zip_eq_some
def Tu:=@List.foldl_nil
def Ak8:=@List.length_filter_le
def Vi:=@Bool.and_false
def Wa:=@List.nil_append
def Xw:=@List.all_append
def Am2:=@Option.isSome_some
def Am3:=@List.pairwise_cons
def Am4:=@Array.getElem?_append_left
def Am5:=@Nat.mul_le_mul_left
def Am6:=@List.getElem?_set
def Am7:=@List.drop_succ_cons
def K9:=@congrArg
def Xs:=@List.mem_range
def V1:=@Bool.false_or
def An1:=@List.mem_of_find?_eq_some
def An2:=@List.findIdx?_eq_none_iff
def Ys:=@List.nodup_cons
def Tf:=@Nat.mul_comm
def Tp:=@Bool.true_or
def Z7:=@UInt8.lt_irrefl
def An7:=@List.getElem?_take_of_lt
def An8:=@List.mem_cons_self
def An9:=@List.mem_flatMap
def Ao0:=@List.length_eq_zero_iff
def Zn:=@run_underlying
def Ao2:=@World.alloc_eq
def Y7:=@List.drop_zero
def Uf:=@Nat.zero_le
def Ao5:=@Array.getD_eq_getD_getElem?
def Tq:=@decide_true
def Ao7:=@Option.bind_some
def Ao8:=@List.length_drop
def Ao9:=@Array.toList_map
def T4:=@decide_not
def He:=@Or.inl
def Ap2:=@Nat.eq_zero_or_pos
def Xv:=@List.all_nil
def Ap4:=@List.filter_append
def Ap5:=@List.pairwise_iff_getElem
def Ap6:=@List.pairwise_append
def Ug:=@beq_iff_eq
def Ap8:=@Option.map_none
def Ap9:=@List.sum_append
def Aq0:=@List.flatten_cons
def Aq1:=@Array.toList_append
def Aq2:=@List.flatMap_append
def Aq3:=@List.mem_filterMap
def Aq4:=@List.cons.injEq
def Aq5:=@Bool.eq_iff_iff
def Aq6:=@decide_false
def Aq7:=@forall_const
def Aq8:=@implies_true
def Aq9:=@List.length_zip
def Ar0:=@Nat.div_lt_iff_lt_mul
def Ar1:=@World.cells?_some
def Xp:=@Nat.mod_lt
def Qv:=@true_and
def Ar4:=@List.flatMap_cons
def Ar5:=@List.getElem?_set_ne
def Ar6:=@List.mem_cons_of_mem
def Ar7:=@Bool.not_false
def Ar8:=@List.mem_or_eq_of_mem_set
def Ar9:=@List.take_zero
def S8:=@and_true
def Pp:=@Ne.symm
def As2:=@List.map_eq_nil_iff
def As3:=@List.filterMap_cons
def As4:=@Nat.sub_zero
def As5:=@Option.some.inj
def As6:=@Bool.or_false
def As7:=@Bool.not_true
def As8:=@Array.extract_size
def As9:=@List.getElem_cons_succ
def At0:=@List.getElem_cons_zero
def At1:=@Nat.one_mul
def At2:=@List.nodup_append
def At3:=@List.take_add_one
def At4:=@Nat.sub_self
def At5:=@wpIn_mono
def At6:=@List.eq_nil_iff_forall_not_mem
def At7:=@List.getElem!_eq_getElem?_getD
def At8:=@Nat.le_div_iff_mul_le
def At9:=@List.find?_eq_some_iff_getElem
def Au0:=@List.range'_succ
def Au1:=@Bool.not_eq_true
def Au2:=@List.isEmpty_iff
def Au3:=@List.filter_cons
def Au4:=@Callee.builtin.injEq
def Au5:=@World.cell?_of_block
def Nb:=@not_or
def Au7:=@Nat.div_lt_of_lt_mul
def Au8:=@List.getElem_toArray
def Au9:=@List.mem_append_left
def Av0:=@Bool.and_true
def Av1:=@Array.getElem?_push
def Av2:=@beq_eq_false_iff_ne
def Av3:=@List.find?_cons
def Av4:=@List.find?_some
def Av5:=@List.filter_nil
def Av6:=@List.of_mem_zip
def Av7:=@List.mem_replicate
def Av8:=@List.mapM_cons
def Av9:=@not_true_eq_false
def Aw0:=@MapKept.bytes_beq
def Aw1:=@Nat.lt_trichotomy
def Aw2:=@List.mem_toArray
def Aw3:=@List.zipIdx_cons
def Aw4:=@false_iff
abbrev A3:=List UInt8
def mkStr (s:A3):ByteArray:=⟨⟨s⟩⟩
theorem B7j (s:A3):(mkStr s).size=s.length:=rfl
def lim:Nat:=140737488355328
inductive D where
 |int (k:IntKind) (n:Int)
 |bool (b:Bool)
 |str (s:A3)
 |nil
 |emp
 |slice (rows:List (List D))
 |agg (cells:List D)
 |ptr (cells:List D)
 |Lb
 |map (kvs:List (D × D))
 |M6
 |iface (t:TypeId) (x:D)
 |J3
 |fn (f:FuncId) (caps:List D)
 |Kz
 |cl (f:FuncId) (caps:List D)
instance:Inhabited D:=⟨.nil⟩
def D.one:D→Bool
 |.agg _=>false
 |_=>true
def A2j (I:Array MapEntry)(E:Nat):Prop:=(∀x,x∈I.toList→x.born < E)∧(I.toList.map (·.born)).Nodup
def MSz (I:Array MapEntry)(E n:Nat):Prop:=I.size=n∧A2j I E
theorem A2j.push {J:Array MapEntry} {E:Nat} (h:A2j J E)(k v:Value):A2j (J.push { key:=k,val:=v,born:=E }) (E+1):=by
 refine⟨?_,?_⟩
 ·intro x I;simp only [Array.toList_push,Bw,As,Dt,Du] at I;rcases I with I| rfl
  ·have:=h.1 x I;omega
  ·simp
 ·simp only [Array.toList_push,Fz,Cz,Hr];rw [At2];refine⟨h.2,by simp,?_⟩;intro a L b O;obtain⟨x,I,rfl⟩:=Ax.1 L;simp only [As,Dt,Du] at O;have:=h.1 x I;omega
theorem A2j.modify {I:Array MapEntry} {E:Nat} (h:A2j I E)(j:Nat)(f:MapEntry→MapEntry)(U:∀e,(f e).born=e.born):A2j (I.modify j f) E:=by
 have L:(I.modify j f).toList.map (·.born)=I.toList.map (·.born):=by
  apply Lu;intro i;simp only [D3,Wd,Xx];split
  ·cases I[i]? <;> simp [U]
  ·rfl
 refine⟨?_,by rw [L];exact h.2⟩;intro x R;have:x.born∈I.toList.map (·.born):=by rw [←L];exact List.mem_map_of_mem R
 obtain⟨y,O,J⟩:=Ax.1 this;rw [←J];exact h.1 y O
inductive Br (S:Nat→Prop) (w:World):D→Value→Prop where
 |int (k:IntKind) (n:Int):Br S w (.int k n) (.int k n)
 |bool (b:Bool):Br S w (.bool b) (.bool b)
 |str (s:A3):s.length≤lim→Br S w (.str s) (.string (mkStr s))
 |nil:Br S w .nil (.slice none 0 0)
 |emp (a:Addr) (cap:Nat):Br S w .emp (.slice (some a) 0 cap)
 |Ja (a:Option Addr) (cap:Nat):(a=none→cap=0)→Br S w (.slice []) (.slice a 0 cap)
 |slice (rows:List (List D)) (b off cap sz:Nat):S b→rows.length≤lim→rows.length≤cap →
   (∀row,row∈rows→row.length=sz)→(∀row,row∈rows→∀d,d∈row→d.one=true) →
   (∀i j,i < rows.length→j < sz→∃v,w.cell? ⟨b,off+(i*sz+j),none⟩=some v) →
   (∀(i j:Nat) (row:List D) (d:D) (v:Value),rows[i]? = some row→row[j]? = some d→w.cell? ⟨b,off+(i*sz+j),none⟩=some v→Br S w d v) →
   Br S w (.slice rows) (.slice (some ⟨b,off,none⟩) rows.length cap)
 |agg (cells:List D) (vs:List Value):vs.length=cells.length→(∀d,d∈cells→d.one=true) →
   (∀(j:Nat) (d:D) (v:Value),cells[j]? = some d→vs[j]? = some v→Br S w d v) →
   Br S w (.agg cells) (.agg ⟨vs⟩)
 |ptr (cells:List D) (b base:Nat):S b→(∀d,d∈cells→d.one=true)→(∀j,j < cells.length→∃v,w.cell? ⟨b,base+j,none⟩=some v) →
   (∀(j:Nat) (d:D) (v:Value),cells[j]? = some d→w.cell? ⟨b,base+j,none⟩=some v→Br S w d v) →
   Br S w (.ptr cells) (.pointer (some ⟨b,base,none⟩))
 |Lb:Br S w .Lb (.pointer none)
 |map (kvs:List (D × D)) (r:Nat) (es:Array MapEntry) (clock:Nat):S r→w.heap[r]? = some (.map es clock)→MSz es clock kvs.length →
   (∀(i:Nat) (kv:D × D) (e:MapEntry),kvs[i]? = some kv→es[i]? = some e→Br S w kv.1 e.key) →
   (∀(i:Nat) (kv:D × D) (e:MapEntry),kvs[i]? = some kv→es[i]? = some e→Br S w kv.2 e.val) →
   Br S w (.map kvs) (.map (some r))
 |M6:Br S w .M6 (.map none)
 |iface (t:TypeId) (d:D) (v:Value):Br S w d v→Br S w (.iface t d) (.iface t v)
 |J3:Br S w .J3 .nilIface
 |fn (f:FuncId) (caps:List D) (vs:List Value):vs.length=caps.length→(∀(j:Nat) (d:D) (v:Value),caps[j]? = some d→vs[j]? = some v→Br S w d v) →
   Br S w (.fn f caps) (.func (.func f) ⟨vs⟩ #[])
 |Kz:Br S w .Kz .nilFunc
 |cl (f:FuncId) (caps:List D) (vs:List Value):vs.length=caps.length→(∀(j:Nat) (d:D) (v:Value),caps[j]? = some d→vs[j]? = some v→Br S w d v) →
   Br S w (.cl f caps) (.func (.func f) #[] ⟨vs⟩)
structure Bo (S:Nat→Prop)(w:World)(S':Nat→Prop)(w':World):Prop where
 sub:∀b,S b→S' b
 same:∀b,S b→w'.heap[b]? = w.heap[b]?
theorem Bo.refl (S:Nat→Prop)(w:World):Bo S w S w:=⟨fun _ h=>h,fun _ _=>rfl⟩
theorem Bo.trans {R J L:Nat→Prop} {I O U:World} (h:Bo R I J O)(k:Bo J O L U):Bo R I L U :=
 ⟨fun b E=>k.sub b (h.sub b E),fun b E=>(k.same b (h.sub b E)).trans (h.same b E)⟩
theorem Bo.cell {S S':Nat→Prop} {w w':World} (h:Bo S w S' w') {b:Nat} (E:S b)(off:Nat):w'.cell? ⟨b,off,none⟩=w.cell? ⟨b,off,none⟩ :=
 Au5 (w:=w) (h.same b E)
theorem Br.ext {S S':Nat→Prop} {w w':World} {d:D} {v:Value} (h:Br S w d v)(e:Bo S w S' w'):Br S' w' d v:=by
 induction h with
 |int k n=>exact .int k n
 |bool b=>exact .bool b
 |str s hs=>exact .str s hs
 |nil=>exact .nil
 |emp a cap=>exact .emp a cap
 |Ja a cap h=>exact .Ja a cap h
 |slice rows b off cap sz L I Z h3 O h4 _ E =>
  refine .slice rows b off cap sz (e.sub b L) I Z h3 O ?_ ?_
  ·intro i j hi W;rw [e.cell L];exact h4 i j hi W
  ·intro i j row d v hr hd R;rw [e.cell L] at R;exact E i j row d v hr hd R
 |agg cells vs I O _ E=>exact .agg cells vs I O E
 |ptr cells b base L O I _ E =>
  refine .ptr cells b base (e.sub b L) O ?_ ?_
  ·intro j W;rw [e.cell L];exact I j W
  ·intro j d v hd R;rw [e.cell L] at R;exact E j d v hd R
 |Lb=>exact .Lb
 |map kvs r es J hr hh hs _ _ V U=>exact .map kvs r es J (e.sub r hr) ((e.same r hr).trans hh) hs V U
 |M6=>exact .M6
 |iface t d v _ E=>exact .iface t d v E
 |J3=>exact .J3
 |fn f caps vs I _ E=>exact .fn f caps vs I E
 |Kz=>exact .Kz
 |cl f caps vs I _ E=>exact .cl f caps vs I E
inductive D.Bd:D→Prop where
 |int (k:IntKind) (n:Int):D.Bd (.int k n)
 |bool (b:Bool):D.Bd (.bool b)
 |str (s:A3):s.length≤lim→D.Bd (.str s)
 |nil:D.Bd .nil
 |emp:D.Bd .emp
 |slice (rows:List (List D)):rows.length≤lim→(∀(i j:Nat) (row:List D) (d:D),rows[i]? = some row→row[j]? = some d→D.Bd d)→D.Bd (.slice rows)
 |agg (cells:List D):(∀(j:Nat) (d:D),cells[j]? = some d→D.Bd d)→D.Bd (.agg cells)
 |ptr (cells:List D):(∀(j:Nat) (d:D),cells[j]? = some d→D.Bd d)→D.Bd (.ptr cells)
 |Lb:D.Bd .Lb
 |map (kvs:List (D × D)):(∀(i:Nat) (kv:D × D),kvs[i]? = some kv→D.Bd kv.1)→(∀(i:Nat) (kv:D × D),kvs[i]? = some kv→D.Bd kv.2)→D.Bd (.map kvs)
 |M6:D.Bd .M6
 |iface (t:TypeId) (d:D):D.Bd d→D.Bd (.iface t d)
 |J3:D.Bd .J3
 |fn (f:FuncId) (caps:List D):(∀(j:Nat) (d:D),caps[j]? = some d→D.Bd d)→D.Bd (.fn f caps)
 |Kz:D.Bd .Kz
 |cl (f:FuncId) (caps:List D):(∀(j:Nat) (d:D),caps[j]? = some d→D.Bd d)→D.Bd (.cl f caps)
variable {S:Nat→Prop} {w:World}
theorem Br.bd {d:D} {v:Value} (h:Br S w d v):d.Bd:=by
 induction h with
 |int k n=>exact .int k n
 |bool b=>exact .bool b
 |str s hs=>exact .str s hs
 |nil=>exact .nil
 |emp a cap=>exact .emp
 |Ja a cap=>exact .slice [] (by simp [lim]) (by simp)
 |slice rows b off cap sz hb J h2 h3 Z h4 _ E =>
  refine .slice rows J ?_;intro i j row d hr hd;have L:i < rows.length:=(Ay.1 hr).1;have I:j < sz:=by have:=h3 row (Bx hr);have:=(Ay.1 hd).1;omega
  obtain⟨v,W⟩:=h4 i j L I;exact E i j row d v hr hd W
 |agg cells vs J Z _ E =>
  refine .agg cells ?_;intro j d hd;have I:j < vs.length:=by have:=(Ay.1 hd).1;omega
  exact E j d vs[j] hd (Ba I)
 |ptr cells b base hb Z J _ E =>refine .ptr cells ?_;intro j d hd;obtain⟨v,W⟩:=J j (Ay.1 hd).1;exact E j d v hd W
 |Lb=>exact .Lb
 |map kvs r O U hr hh hs _ _ V R =>
  have hs:=hs.1;refine .map kvs ?_ ?_
  ·intro i kv h;have L:i < O.size:=by have:=(Ay.1 h).1;omega
   exact V i kv O[i] h (Rj L)
  ·intro i kv h;have L:i < O.size:=by have:=(Ay.1 h).1;omega
   exact R i kv O[i] h (Rj L)
 |M6=>exact .M6
 |iface t d v _ E=>exact .iface t d E
 |J3=>exact .J3
 |fn f caps vs J _ E =>
  refine .fn f caps ?_;intro j d hd;have I:j < vs.length:=by have:=(Ay.1 hd).1;omega
  exact E j d vs[j] hd (Ba I)
 |Kz=>exact .Kz
 |cl f caps vs J _ E =>
  refine .cl f caps ?_;intro j d hd;have I:j < vs.length:=by have:=(Ay.1 hd).1;omega
  exact E j d vs[j] hd (Ba I)
theorem Br.one {d:D} {v:Value} (h:Br S w d v)(hd:d.one=true):v.oneCell'=true:=by cases h <;> first| rfl| simp [D.one] at hd
theorem Br.of_nil {v:Value} (h:Br S w .nil v):Br S w (.slice []) v:=by cases h;exact .Ja none 0 (fun _=>rfl)
theorem Br.C2t {v:Value} (h:Br S w .emp v):Br S w (.slice []) v:=by cases h;exact .Ja _ _ (by simp)
end Go.Abs
namespace Go.Abs
open Go
structure BI where
 base:Option Nat
 off:Nat:=0
 len:Nat:=0
 cap:Nat:=0
 sz:Nat:=0
inductive SV where
 |undef
 |d (x:D)
 |agg (cells:List SV)
 |tuple (xs:List SV)
 |box (k:Nat) (off:Nat)
 |Ag (cells:List D) (off:Nat)
 |acc (k:Nat)
 |Eb (k i off:Nat)
 |mp (k:Nat)
 |Fm (l:Nat)
 |Fh (cells:List SV) (off:Nat)
 |Bf (f:FuncId) (caps:List SV)
instance:Inhabited SV:=⟨.undef⟩
def SV.one:SV→Bool
 |.undef| .agg _| .tuple _=>false
 |.d x=>x.one
 |_=>true
abbrev Names:=Nat→BI
inductive Am (S:Nat→Prop) (w:World) (β:Names):SV→Value→Prop where
 |undef (v:Value):Am S w β .undef v
 |d (x:D) (v:Value):Br S w x v→Am S w β (.d x) v
 |agg (cells:List SV) (vs:List Value):vs.length=cells.length→(∀c,c∈cells→c.one=true) →
   (∀(j:Nat) (c:SV) (v:Value),cells[j]? = some c→vs[j]? = some v→Am S w β c v)→Am S w β (.agg cells) (.agg ⟨vs⟩)
 |tuple (cells:List SV) (vs:List Value):vs.length=cells.length →
   (∀(j:Nat) (c:SV) (v:Value),cells[j]? = some c→vs[j]? = some v→Am S w β c v)→Am S w β (.tuple cells) (.tuple ⟨vs⟩)
 |box (k off b:Nat):(β k).base=some b→Am S w β (.box k off) (.pointer (some ⟨b,off,none⟩))
 |Ag (cells:List D) (off b base:Nat):S b→(∀d,d∈cells→d.one=true)→(∀j,j < cells.length→∃v,w.cell? ⟨b,base+j,none⟩=some v) →
   (∀(j:Nat) (d:D) (v:Value),cells[j]? = some d→w.cell? ⟨b,base+j,none⟩=some v→Br S w d v) →
   Am S w β (.Ag cells off) (.pointer (some ⟨b,base+off,none⟩))
 |acc (k:Nat):Am S w β (.acc k) (.slice ((β k).base.map fun b=>⟨b,(β k).off*(β k).sz,none⟩) (β k).len (β k).cap)
 |Eb (k i off b:Nat):(β k).base=some b→Am S w β (.Eb k i off) (.pointer (some ⟨b,((β k).off+i)*(β k).sz+off,none⟩))
 |mp (k b:Nat):(β k).base=some b→Am S w β (.mp k) (.map (some b))
 |Fm (l:Nat):Am S w β (.Fm l) (.func (.yield l) #[] #[])
 |Fh (cells:List SV) (off b:Nat):S b→(∀c,c∈cells→c.one=true)→(∀j,j < cells.length→∃v,w.cell? ⟨b,j,none⟩=some v) →
   (∀(j:Nat) (c:SV) (v:Value),cells[j]? = some c→w.cell? ⟨b,j,none⟩=some v→Am S w β c v)→Am S w β (.Fh cells off) (.pointer (some ⟨b,off,none⟩))
 |Bf (f:FuncId) (caps:List SV) (vs:List Value):vs.length=caps.length →
   (∀(j:Nat) (c:SV) (v:Value),caps[j]? = some c→vs[j]? = some v→Am S w β c v)→Am S w β (.Bf f caps) (.func (.func f) #[] ⟨vs⟩)
mutual
def SV.has (k:Nat):SV→Bool
 |.undef| .d _| .Ag _ _| .Fm _=>false
 |.agg cs=>SV.Hi k cs
 |.tuple cs=>SV.Hi k cs
 |.Bf _ cs=>SV.Hi k cs
 |.Fh cs _=>SV.Hi k cs
 |.box j _=>j == k
 |.acc j=>j == k
 |.Eb j _ _=>j == k
 |.mp j=>j == k
def SV.Hi (k:Nat):List SV→Bool
 |[]=>false
 |c::cs=>c.has k ||SV.Hi k cs
end
mutual
def SV.closed:SV→Bool
 |.undef| .d _| .Ag _ _| .Fm _=>true
 |.agg cs=>SV.Jb cs
 |.tuple cs=>SV.Jb cs
 |.Bf _ cs=>SV.Jb cs
 |.Fh cs _=>SV.Jb cs
 |.box _ _| .acc _| .Eb _ _ _| .mp _=>false
def SV.Jb:List SV→Bool
 |[]=>true
 |c::cs=>c.closed && SV.Jb cs
end
theorem SV.A1n {k:Nat} :∀{cs:List SV},SV.Hi k cs=false→∀(j:Nat)(c:SV),cs[j]? = some c→c.has k=false
 |[],_,j,c,h=>by simp at h
 |c::cs,h,j,x,E=>by
  simp only [SV.Hi,Wf] at h;cases j with
  |zero=>simp at E;subst E;exact h.1
  |succ j=>simp at E;exact SV.A1n h.2 j x E
theorem SV.B2e:∀{cs:List SV},SV.Jb cs=true→∀(j:Nat)(c:SV),cs[j]? = some c→c.closed=true
 |[],_,j,c,h=>by simp at h
 |c::cs,h,j,x,E=>by
  simp only [SV.Jb,B1] at h;cases j with
  |zero=>simp at E;subst E;exact h.1
  |succ j=>simp at E;exact SV.B2e h.2 j x E
variable {x:SV}
theorem Am.ext {S S':Nat→Prop} {w w':World} {β β':Names} {v:Value} (h:Am S w β x v)(e:Bo S w S' w')
  (R:∀k,x.has k=true→β' k = β k):Am S' w' β' x v:=by
 induction h with
 |undef v=>exact .undef v
 |d x v h=>exact .d x v (h.ext e)
 |agg cells vs O V _ U =>
  refine .agg cells vs O V fun j c v E L=>U j c v E L fun k I=>R k ?_;cases J:SV.Hi k cells with
  |false=>rw [SV.A1n J j c E] at I;simp at I
  |true=>simp [SV.has,J]
 |tuple cells vs O _ U =>
  refine .tuple cells vs O fun j c v E L=>U j c v E L fun k I=>R k ?_;cases J:SV.Hi k cells with
  |false=>rw [SV.A1n J j c E] at I;simp at I
  |true=>simp [SV.has,J]
 |box k off b h=>exact .box k off b (by rw [R k (by simp [SV.has])];exact h)
 |Ag cells off b base hs O V Z =>
  refine .Ag cells off b base (e.sub b hs) O ?_ ?_
  ·intro j W;rw [e.cell hs];exact V j W
  ·intro j d v hd L;rw [e.cell hs] at L;exact (Z j d v hd L).ext e
 |acc k=>have:=R k (by simp [SV.has]);rw [←this];exact .acc k
 |Eb k i off b h=>have:=R k (by simp [SV.has]);rw [←this];exact .Eb k i off b (by rw [this];exact h)
 |mp k b h=>exact .mp k b (by rw [R k (by simp [SV.has])];exact h)
 |Fm l=>exact .Fm l
 |Fh cells off b hs O V _ U =>
  refine .Fh cells off b (e.sub b hs) O ?_ ?_
  ·intro j W;rw [e.cell hs];exact V j W
  ·intro j c v E L;rw [e.cell hs] at L;refine U j c v E L fun k I=>R k ?_;cases J:SV.Hi k cells with
   |false=>rw [SV.A1n J j c E] at I;simp at I
   |true=>simp [SV.has,J]
 |Bf f cells vs O _ U =>
  refine .Bf f cells vs O fun j c v E L=>U j c v E L fun k I=>R k ?_;cases J:SV.Hi k cells with
  |false=>rw [SV.A1n J j c E] at I;simp at I
  |true=>simp [SV.has,J]
mutual
theorem SV.C3v:∀{x:SV} (k:Nat),x.closed=true→x.has k=false
 |.undef,_,_=>rfl
 |.d _,_,_=>rfl
 |.Ag _ _,_,_=>rfl
 |.agg cs,k,h=>by simp only [SV.closed] at h;simp only [SV.has];exact SV.A6n k h
 |.tuple cs,k,h=>by simp only [SV.closed] at h;simp only [SV.has];exact SV.A6n k h
 |.Bf _ cs,k,h=>by simp only [SV.closed] at h;simp only [SV.has];exact SV.A6n k h
 |.Fh cs _,k,h=>by simp only [SV.closed] at h;simp only [SV.has];exact SV.A6n k h
 |.box _ _,_,h=>by simp [SV.closed] at h
 |.acc _,_,h=>by simp [SV.closed] at h
 |.Eb _ _ _,_,h=>by simp [SV.closed] at h
 |.mp _,_,h=>by simp [SV.closed] at h
 |.Fm _,_,_=>rfl
theorem SV.A6n:∀{cs:List SV} (k:Nat),SV.Jb cs=true→SV.Hi k cs=false
 |[],_,_=>rfl
 |c::cs,k,h=>by simp only [SV.Jb,B1] at h;simp only [SV.Hi,SV.C3v k h.1,SV.A6n k h.2,As6]
end
variable {S:Nat→Prop} {w:World}
theorem Am.closed {β β':Names} {v:Value} (h:Am S w β x v)(I:x.closed=true):Am S w β' x v :=
 h.ext (Bo.refl S w) fun k E=>by rw [SV.C3v k I] at E;simp at E
variable {β:Names}
theorem Am.one {v:Value} (h:Am S w β x v)(E:x.one=true):v.oneCell'=true:=by
 cases h with
 |undef=>simp [SV.one] at E
 |agg=>simp [SV.one] at E
 |tuple=>simp [SV.one] at E
 |d x v h=>exact h.one E
 |_=>rfl
def Bm (S:Nat→Prop)(w:World) (β:Names)(xs:List SV)(vs:List Value):Prop :=
 vs.length=xs.length∧∀(j:Nat) (c:SV) (v:Value),xs[j]? = some c→vs[j]? = some v→Am S w β c v
theorem Bm.nil :Bm S w β [] []:=⟨rfl,by simp⟩
variable {vs:List Value}
theorem Bm.cons {xs:List SV} {v:Value} (h:Am S w β x v)(t:Bm S w β xs vs) :
  Bm S w β (x::xs) (v::vs):=by
 refine⟨by simp [t.1],?_⟩;intro j c u I E;cases j with
 |zero=>simp at I E;subst I;subst E;exact h
 |succ j=>simp at I E;exact t.2 j c u I E
theorem Bm.get {xs:List SV} (h:Bm S w β xs vs) {j:Nat} {c:SV} (E:xs[j]? = some c) :
  ∃v,vs[j]? = some v∧Am S w β c v:=by
 have I:j < vs.length:=by have:=(Ay.1 E).1;have:=h.1;omega
 exact⟨vs[j],Ba I,h.2 j c _ E (Ba I)⟩
theorem Bm.append {xs ys:List SV} {vs us:List Value} (h:Bm S w β xs vs)(t:Bm S w β ys us) :
  Bm S w β (xs++ys) (vs++us):=by
 refine⟨by simp [h.1,t.1],?_⟩;intro j c u I E;by_cases J:j < xs.length
 ·rw [J6 J] at I;rw [J6 (by have:=h.1;omega)] at E;exact h.2 j c u I E
 ·rw [Jh (by omega)] at I;rw [Jh (by have:=h.1;omega)] at E;have:=h.1;exact t.2 (j - xs.length) c u I (by rw [←this];exact E)
theorem Bm.map {S S':Nat→Prop} {w w':World} {β β':Names} {xs ys:List SV} (h:Bm S w β xs vs)(J:ys.length=xs.length)
  (L:∀(j:Nat) (x y:SV) (v:Value),xs[j]? = some x→ys[j]? = some y→Am S w β x v→Am S' w' β' y v):Bm S' w' β' ys vs:=by
 refine⟨by rw [h.1,J],?_⟩;intro j c v E O;have I:j < xs.length:=by have:=(Ay.1 E).1;omega
 exact L j xs[j] c v (Ba I) E (h.2 j _ v (Ba I) O)
abbrev SL:=List (Nat × SV)
def Ae:SL→Nat→SV
 |[],_=>.undef
 |(u,x)::r,t=>if u=t then x else Ae r t
structure Hj where
 P:Program
 l:Nat
 n0:Nat
 N:Nat
 xs:Nat→SV
 go:Nat→Bool
def Hj.next (Y:Hj)(j:Nat):Option Nat:=if Y.go j then some (j+1) else none
inductive Ar where
 |cells (cs:List SV)
 |rows (sz:Nat) (rs:List (List D))
 |map (kvs:List (D × D))
 |iter (kvs:List (D × D)) (seen:List Nat)
 |ghost (Y:Hj) (st:Option Nat)
def Ar.has (k:Nat):Ar→Bool
 |.cells cs=>SV.Hi k cs
 |_=>false
def Ar.real:Ar→Bool
 |.ghost _ _=>false
 |_=>true
abbrev Ab:=List (Nat × Ar)
def F4p (I:Array MapEntry)(E:Array Nat)(seen:List Nat):Prop :=
 (∀(r:Nat) (e:MapEntry),I[r]? = some e→E.contains e.born=seen.contains r)∧(∀(r:Nat) (t:List Nat),seen=r::t→∃e,I[r]? = some e∧E.back? = some e.born)
def Dh (S:Nat→Prop)(w:World) (β:Names)(i:BI):Ar→Prop
 |.cells cs=>∃b ty vs,i.base=some b∧w.heap[b]? = some (.cells ⟨vs⟩ ty (0,0))∧Bm S w β cs vs
 |.rows sz rs=>i.sz=sz∧rs.length=i.len∧i.len≤i.cap∧rs.length≤lim∧(∀row,row∈rs→row.length=sz)∧(∀row,row∈rs→∀d,d∈row→d.one=true) ∧
   match i.base with
   |none=>i.cap=0
   |some b=>∃ty vs,w.heap[b]? = some (.cells ⟨vs⟩ ty (0,0))∧(i.off+i.cap)*sz≤vs.length ∧
     ∀(r j:Nat) (row:List D) (d:D) (v:Value),rs[r]? = some row→row[j]? = some d→vs[(i.off+r)*sz+j]? = some v→Br S w d v
 |.map kvs=>∃b I E,i.base=some b∧w.heap[b]? = some (.map I E)∧MSz I E kvs.length ∧
   (∀(r:Nat) (kv:D × D) (e:MapEntry),kvs[r]? = some kv→I[r]? = some e→Br S w kv.1 e.key∧Br S w kv.2 e.val)
 |.iter kvs seen=>∃b m I E J,i.base=some b∧w.heap[b]? = some (.mapIter (some m) E J E)∧S m∧w.heap[m]? = some (.map I E)∧MSz I E kvs.length ∧
   (∀(r:Nat) (kv:D × D) (e:MapEntry),kvs[r]? = some kv→I[r]? = some e→Br S w kv.1 e.key∧Br S w kv.2 e.val)∧F4p I J seen
 |.ghost _ _=>i.base=none
theorem Dh.ext {S S':Nat→Prop} {w w':World} {β β':Names} {i:BI} {c:Ar} (h:Dh S w β i c)(e:Bo S w S' w')
  (W:∀b,i.base=some b→w'.heap[b]? = w.heap[b]?) (hb:∀k,c.has k=true→β' k = β k):Dh S' w' β' i c:=by
 cases c with
 |cells cs =>
  obtain⟨b,ty,vs,J,R,L⟩:=h;refine⟨b,ty,vs,J,(W b J).trans R,L.1,fun j c v hc hv=>(L.2 j c v hc hv).ext e fun k hk=>hb k ?_⟩;cases hh:SV.Hi k cs with
  |false=>rw [SV.A1n hh j c hc] at hk;simp at hk
  |true=>simp [Ar.has,hh]
 |rows sz rs =>
  obtain⟨J,R,L,O,h5,h6,V⟩:=h;refine⟨J,R,L,O,h5,h6,?_⟩;cases I:i.base with
  |none=>rw [I] at V;exact V
  |some b =>rw [I] at V;obtain⟨ty,vs,g1,g2,g3⟩:=V;exact⟨ty,vs,(W b I).trans g1,g2,fun r j row d v hr hd hv=>(g3 r j row d v hr hd hv).ext e⟩
 |map kvs =>obtain⟨b,Z,E,J,R,L,O⟩:=h;exact⟨b,Z,E,J,(W b J).trans R,L,fun r kv x hr U=>⟨(O r kv x hr U).1.ext e,(O r kv x hr U).2.ext e⟩⟩
 |iter kvs seen =>obtain⟨b,m,Z,E,sn,J,R,hS,hm,L,O,h5⟩:=h;exact⟨b,m,Z,E,sn,J,(W b J).trans R,e.1 m hS,(e.2 m hS).trans hm,L,fun r kv x hr U=>⟨(O r kv x hr U).1.ext e,(O r kv x hr U).2.ext e⟩,h5⟩
 |ghost Y st=>exact h
structure Gh where
 Y:Hj
 F:Option Nat→(Nat→Prop)→(Nat→Prop)→World→Prop
 sy:TypeId × Value
 ra:TypeId × Value
structure E1z (n0:Nat)(B S:Nat→Prop)(w:World)(S':Nat→Prop)(w':World):Prop where
 sub:∀b,S b→S' b
 new:∀b,S' b→S b∨n0≤b
 lt:∀b,S' b→b < w'.heap.size
 off:∀b,B b→¬S' b
 same:∀b,b < n0∨B b∨S b→w'.heap[b]? = w.heap[b]?
 os:w'.os=w.os
 tape:w'.tape=w.tape
 output:w'.output=w.output
 size:w.heap.size≤w'.heap.size
structure A5h (B S:Nat→Prop)(w:World)(B' S':Nat→Prop)(w':World):Prop where
 ext:Bo S w S' w'
 new:∀b,S' b→S b∨B b∨w.heap.size≤b
 lt:∀b,S' b→b < w'.heap.size
 own:∀b,B' b→¬S' b∧b < w'.heap.size∧(B b∨w.heap.size≤b)
 kept:∀b,b < w.heap.size→¬B b→w'.heap[b]? = w.heap[b]?
 os:w'.os=w.os
 tape:w'.tape=w.tape
 output:w'.output=w.output
 size:w.heap.size≤w'.heap.size
structure E1t (G:Gh):Prop where
 Sf:∀st B S w S' w',G.F st B S w→E1z G.Y.n0 B S w S' w'→G.F st B S' w'
 shut:∀st B S w D l l',G.F st B S w→G.Y.n0≤D→¬B D→w.heap[D]? = some (.deferred l)→G.F st B S { w with heap:=w.heap.setIfInBounds D (.deferred l') }
 round:∀j B S w β v,j < G.Y.N→G.F (some j) B S w→(∀b,S b→b < w.heap.size)→(∀b,B b→¬S b∧b < w.heap.size)→Am S w β (G.Y.xs j) v →
  ∃f tmps assign body,(Instr.yield G.Y.l #[v]).run G.Y.P w=.ok (.round G.Y.l f tmps assign body) w ∧
   RoundIn Fence.wide 0 G.Y.P G.Y.l f tmps assign body w (fun e w'=>∃S' B',e=.returned (.bool (G.Y.go j))∧G.F (G.Y.next j) B' S' w'∧A5h B S w B' S' w')
structure Ctx where
 w0:World
 S0:Nat→Prop
 pre:Nat→Prop
 A6p:Nat→BI→Prop
 G:Gh
structure Inv (C:Ctx)(S:Nat→Prop)(w:World) (β:Names)(bx:Ab):Prop where
 Ek:∀b,C.S0 b→S b
 Dx:∀b,S b→C.S0 b∨C.pre b∨C.w0.heap.size≤b
 Bi:∀b,S b→b < w.heap.size
 kept:∀b,b < C.w0.heap.size→¬C.pre b→w.heap[b]? = C.w0.heap[b]?
 os:w.os=C.w0.os
 tape:w.tape=C.w0.tape
 output:w.output=C.w0.output
 size:C.w0.heap.size≤w.heap.size
 box:∀k c,(k,c)∈bx→Dh S w β (β k) c
 B8:∀k c,(k,c)∈bx→∀b,(β k).base=some b→¬S b∧b < w.heap.size∧(C.pre b∨C.w0.heap.size≤b)
 inj:∀k c k' c',(k,c)∈bx→(k',c')∈bx→∀b,(β k).base=some b→(β k').base=some b→k=k'∧c=c'
 fix:∀k i,C.A6p k i→1000000≤k∧β k=i
 D9:∀b cs,A3d C.G.sy C.G.ra b cs→S b∧∃ty fr,w.heap[b]? = some (.cells cs ty fr)
 one:∀k Y st k' Y' st',(k,Ar.ghost Y st)∈bx→(k',Ar.ghost Y' st')∈bx→k=k'∧st=st'
 Ez:∀k Y st,(k,Ar.ghost Y st)∈bx→C.G.Y=Y∧E1t C.G∧Y.n0≤C.w0.heap.size∧(∀k' c',(k',c')∈bx→∀b,(β k').base=some b→Y.n0≤b) ∧
  ∃B,C.G.F st B S w∧∀b,B b→¬S b∧b < w.heap.size∧(C.pre b∨C.w0.heap.size≤b)∧∀k' c',(k',c')∈bx→(β k').base≠some b
variable {C:Ctx}
theorem Inv.sub {bx bx':Ab} (h:Inv C S w β bx)(hs:∀k c,(k,c)∈bx'→(k,c)∈bx):Inv C S w β bx' :=
 { h with
  box:=fun k c I=>h.box k c (hs k c I)
  B8:=fun k c I=>h.B8 k c (hs k c I)
  inj:=fun k c J L I E=>h.inj k c J L (hs k c I) (hs J L E)
  one:=fun k Y st J Y' U I E=>h.one k Y st J Y' U (hs _ _ I) (hs _ _ E)
  Ez:=fun k Y st I=>by obtain⟨h1,W,Z,h4,B,V,O⟩:=h.Ez k Y st (hs _ _ I);exact⟨h1,W,Z,fun J L E=>h4 J L (hs _ _ E),B,V,fun b R=>⟨(O b R).1,(O b R).2.1,(O b R).2.2.1,fun J L E=>(O b R).2.2.2 J L (hs _ _ E)⟩⟩ }
theorem Inv.step {S S':Nat→Prop} {w w':World} {β β':Names} {bx bx':Ab} (h:Inv C S w β bx)(e:Bo S w S' w')
  (hS:∀b,S' b→S b∨w.heap.size≤b) (Z:∀b,S' b→b < w'.heap.size)
  (E:∀b,b < w.heap.size→(∀k c,(k,c)∈bx→(β k).base≠some b)→w'.heap[b]? = w.heap[b]?)
  (a3:w'.os=w.os) (L:w'.tape=w.tape) (W:w'.output=w.output) (Ms:w.heap.size≤w'.heap.size)
  (R:∀k c,(k,c)∈bx'→Dh S' w' β' (β' k) c∧∀b,(β' k).base=some b→¬S' b∧b < w'.heap.size∧(w.heap.size≤b∨∃j x,(j,x)∈bx∧(β j).base=some b))
  (a2:∀k c J c',(k,c)∈bx'→(J,c')∈bx'→∀b,(β' k).base=some b→(β' J).base=some b→k=J∧c=c')
  (a4:∀k,1000000≤k→β' k = β k) (a0:∀k Y st,(k,Ar.ghost Y st)∈bx'→(k,Ar.ghost Y st)∈bx) :
  Inv C S' w' β' bx' where
 Ek b hb:=e.sub b (h.Ek b hb)
 Dx b hb:=by
  rcases hS b hb with hb| hb
  ·exact h.Dx b hb
  ·exact .inr (.inr (Dk h.size hb))
 Bi:=Z
 kept b hb hp:=by
  rw [←h.kept b hb hp];refine E b (Wj hb h.size) ?_;intro k c U a1;rcases (h.B8 k c U b a1).2.2 with h' | h'
  ·exact hp h'
  ·omega
 os:=a3.trans h.os
 tape:=L.trans h.tape
 output:=W.trans h.output
 size:=Dk h.size Ms
 box k c U:=(R k c U).1
 B8 k c U b hb:=by
  obtain⟨V,h2,h3⟩:=(R k c U).2 b hb;refine⟨V,h2,?_⟩;rcases h3 with h3| ⟨j,x,hj,O⟩
  ·exact .inr (Dk h.size h3)
  ·exact (h.B8 j x hj b O).2.2
 inj:=a2
 fix k b hb:=by have:=h.fix k b hb;rw [a4 k this.1];exact this
 D9 b cs hv:=by obtain⟨V,ty,fr,h2⟩:=h.D9 b cs hv;exact⟨e.sub b V,ty,fr,(e.same b V).trans h2⟩
 one k Y st J Y' st' U I:=h.one k Y st J Y' st' (a0 _ _ _ U) (a0 _ _ _ I)
 Ez k Y st U:=by
  obtain⟨V,h2,h3,h4,B,h5,h6⟩:=h.Ez k Y st (a0 k Y st U);have a5:=h.size;refine⟨V,h2,h3,fun J c' I b hb=>?_,B,h2.Sf st B S w S' w' h5 ⟨e.sub,fun b hb=>?_,Z,fun b hb hs=>?_,fun b hb=>?_,a3,L,W,Ms⟩,fun b hb=>?_⟩
  ·rcases ((R J c' I).2 b hb).2.2 with h| ⟨j,x,hj,O⟩
   ·omega
   ·exact h4 j x hj b O
  ·rcases hS b hb with h| h
   ·exact .inl h
   ·right;rw [V];omega
  ·rcases hS b hs with h| h
   ·exact (h6 b hb).1 h
   ·have:=(h6 b hb).2.1;omega
  ·rcases hb with hb| hb| hb
   ·rw [V] at hb;exact E b (by omega) fun J c' I he=>by have:=h4 J c' I b he;omega
   ·exact E b (h6 b hb).2.1 (h6 b hb).2.2.2
   ·exact e.same b hb
  ·obtain⟨g1,g2,g3,g4⟩:=h6 b hb;refine⟨fun hs=>?_,by omega,g3,fun J c' I he=>?_⟩
   ·rcases hS b hs with h| h
    ·exact g1 h
    ·omega
   ·rcases ((R J c' I).2 b he).2.2 with h| ⟨j,x,hj,O⟩
    ·omega
    ·exact g4 j x hj O
theorem Inv.grow {S S':Nat→Prop} {w w':World} {bx:Ab} (h:Inv C S w β bx)
  (R:∀b,S b→S' b) (W:∀b,S' b→S b∨w.heap.size≤b) (U:∀b,S' b→b < w'.heap.size)
  (E:∀b,b < w.heap.size→w'.heap[b]? = w.heap[b]?)
  (V:w'.os=w.os) (J:w'.tape=w.tape) (O:w'.output=w.output) (Ms:w.heap.size≤w'.heap.size) :
  Inv C S' w' β bx∧Bo S w S' w':=by
 have e:Bo S w S' w':=⟨R,fun b I=>E b (h.Bi b I)⟩;refine⟨h.step e W U (fun b I _=>E b I) V J O Ms ?_ h.inj (fun _ _=>rfl) (fun _ _ _ L=>L),e⟩;intro k c L;refine⟨(h.box k c L).ext e (fun b I=>E b (h.B8 k c L b I).2.1) (fun _ _=>rfl),?_⟩;intro b I;obtain⟨Z,h2,h3⟩:=h.B8 k c L b I;refine⟨fun hc=>?_,by omega,.inr ⟨k,c,L,I⟩⟩;rcases W b hc with hc| hc
 ·exact Z hc
 ·omega
end Go.Abs
namespace Go.Abs
open Go
abbrev Hq:=Operand→SV
def _root_.Go.Oper.wpx (P:Program)(o:Oper)(a:Act)(w:World)(next:Act→World→Prop):Prop :=
 o.wp P a w next (fun _ _ _=>False)∨∃l f tmps E body w',(execOp a.eval o).run P w=.ok (.round l f tmps E body) w' ∧
  RoundIn Fence.wide 0 P l f tmps E body w' (fun e I=>match e with| .returned v=>next (a.put o.dst v) I| _=>False)
def Bt (P:Program)(o:Oper) (ρ:Hq)(bx:Ab)(r:SV)(bx':Ab)(pg:List Nat):Prop :=
 ∀(C:Ctx) (S:Nat→Prop) (w:World) (β:Names) (a:Act),Inv C S w β bx→(∀x,x∈o.op.operands→Am S w β (ρ x) (a.eval x)) →
  o.wpx P a w (fun E w'=>∃v S' β',E=a.put o.dst v∧Inv C S' w' β' bx'∧Bo S w S' w'∧Am S' w' β' r v∧(∀k,k ∉ pg→β' k = β k))
variable {x:Operand}
theorem mo {o:Oper} {op:Op} (h:o.op=op)(m:x∈op.operands):x∈o.op.operands:=h ▸ m
theorem mC {o:Oper} {op:Op} (E:o.op=op)(h:x∈op.operands:=by simp [Op.operands,Call.operands]):x∈o.op.operands:=mo E h
variable {P:Program} {o:Oper} {ρ:Hq} {bx:Ab}
theorem Bt.Ef {r:SV} (h:∀(C:Ctx)(S:Nat→Prop)(w:World) (β:Names)(a:Act),Inv C S w β bx→(∀x,x∈o.op.operands→Am S w β (ρ x) (a.eval x)) →
  ∃v,(execOp a.eval o).run P w=.ok (.value v) w∧Am S w β r v):Bt P o ρ bx r bx []:=by
 intro C S w β a E J;obtain⟨v,I,hr⟩:=h C S w β a E J;refine He ?_;unfold Oper.wp;rw [I];exact⟨v,S,β,rfl,E,Bo.refl S w,hr,fun _ _=>rfl⟩
theorem F4i (E:o.op=.move x):Bt P o ρ bx (ρ x) bx [] :=
 .Ef fun _ _ _ _ a _ I=>⟨a.eval x,by simp [execOp,E],(I x (mC E))⟩
theorem G1q (E:o.op=.assign x):Bt P o ρ bx (ρ x) bx [] :=
 .Ef fun _ _ _ _ a _ I=>⟨a.eval x,by simp [execOp,E],(I x (mC E))⟩
variable {S:Nat→Prop} {w:World} {β:Names}
theorem Am.Gp {x:D} {v:Value} (h:Am S w β (.d x) v):Br S w x v:=by cases h;assumption
theorem Am.Vz {b:Bool} {v:Value} (h:Am S w β (.d (.bool b)) v):v=.bool b:=by cases h with| d _ _ h=>cases h;rfl
theorem Am.J4 {k:IntKind} {n:Int} {v:Value} (h:Am S w β (.d (.int k n)) v):v=.int k n:=by cases h with| d _ _ h=>cases h;rfl
theorem Am.Tx {s:A3} {v:Value} (h:Am S w β (.d (.str s)) v):v=.string (mkStr s)∧s.length≤lim:=by cases h with| d _ _ h=>cases h;exact⟨rfl,by assumption⟩
theorem Am.bool (b:Bool):Am S w β (.d (.bool b)) (.bool b):=.d _ _ (.bool b)
theorem Am.int (k:IntKind)(n:Int):Am S w β (.d (.int k n)) (.int k n):=.d _ _ (.int k n)
theorem E7e {c x y:Operand} (E:o.op=.pick c x y) {t:Bool} (J:ρ c=.d (.bool t)):Bt P o ρ bx (if t then ρ x else ρ y) bx [] :=
 .Ef fun _ _ _ _ a _ I=>by
  have h:=(I c (mC E));rw [J] at h;have h:=h.Vz;refine⟨if t then a.eval x else a.eval y,?_,?_⟩
  ·cases t <;> simp [execOp,E,h,asBool]
  ·cases t
   ·simpa using (I y (mC E))
   ·simpa using (I x (mC E))
def B4t (op:BinOp)(x y:Int):Option Bool :=
 match op with
 |.eql=>some (decide (x=y))
 |.neq=>some (decide (x≠y))
 |.lss=>some (decide (x < y))
 |.leq=>some (decide (x≤y))
 |.gtr=>some (decide (y < x))
 |.geq=>some (decide (y≤x))
 |_=>none
def C3y (op:BinOp)(k:IntKind)(x y:Int):Option Int :=
 match op with
 |.add=>some (k.wrap (x+y))
 |.sub=>some (k.wrap (x - y))
 |.mul=>some (k.wrap (x*y))
 |_=>none
theorem A9j (op:BinOp)(t:TypeId)(x y:Operand)(k E:IntKind)(m n:Int)(w:World):(eqGuard op t x y (.int k m) (.int E n)).run P w=.ok () w:=by unfold eqGuard;cases op <;> simp
theorem E2f (op:BinOp)(t:TypeId)(x y:Operand)(m n:ByteArray)(w:World):(eqGuard op t x y (.string m) (.string n)).run P w=.ok () w:=by unfold eqGuard;cases op <;> simp
theorem E5k (op:BinOp)(t:TypeId)(x y:Operand)(m n:Bool)(w:World):(eqGuard op t x y (.bool m) (.bool n)).run P w=.ok () w:=by unfold eqGuard;cases op <;> simp
theorem F9d (op:BinOp)(t:TypeId)(x y:Operand)(m:Option Addr)(n:Value)(w:World):(eqGuard op t x y (.pointer m) n).run P w=.ok () w:=by unfold eqGuard;cases op <;> simp
theorem E9u (op:BinOp)(t:TypeId)(x y:Operand)(m:Option Addr)(l c:Nat)(n:Value)(w:World):(eqGuard op t x y (.slice m l c) n).run P w=.ok () w:=by unfold eqGuard;cases op <;> simp
variable {op:BinOp}
theorem F3b {t u:TypeId} {x y:Operand} (J:o.op=.binOp op t x y u) {k:IntKind} {m n:Int} {b:Bool}
  (U:ρ x=.d (.int k m)) (R:ρ y=.d (.int k n)) (L:B4t op m n=some b):Bt P o ρ bx (.d (.bool b)) bx [] :=
 .Ef fun _ _ w _ a _ O=>by
  have I:=(O x (mC J));rw [U] at I;have I:=I.J4;have E:=(O y (mC J));rw [R] at E;have E:=E.J4;refine⟨.bool b,?_,.bool b⟩;simp only [execOp,J,Hu,Sem.run_map,I,E,A9j,H8];cases op <;> first
   |(simp only [B4t,reduceCtorEq] at L;done)
   |(simp only [B4t,Av] at L;subst L;simp only [binOp,Op.intCmp,ne_eq,Av9,Et,Kp,H8];try (congr 3 <;> (rw [Aq5];simp)))
theorem E5i {t u:TypeId} {x y:Operand} (J:o.op=.binOp op t x y u) {k:IntKind} {m n b:Int}
  (U:ρ x=.d (.int k m)) (R:ρ y=.d (.int k n)) (O:C3y op k m n=some b):Bt P o ρ bx (.d (.int k b)) bx [] :=
 .Ef fun _ _ w _ a _ L=>by have I:=(L x (mC J));rw [U] at I;have I:=I.J4;have E:=(L y (mC J));rw [R] at E;have E:=E.J4;refine⟨.int k b,?_,.int k b⟩;simp only [execOp,J,Hu,Sem.run_map,I,E,A9j,H8];cases op <;> simp [C3y] at O <;> subst O <;> simp [binOp,Op.intArith]
theorem E0w {t u:TypeId} {x y:Operand} (J:o.op=.binOp .quo t x y u) {k:IntKind} {m n:Int}
  (R:ρ x=.d (.int k m)) (O:ρ y=.d (.int k n)) (U:n≠0):Bt P o ρ bx (.d (.int k (k.wrap (m.tdiv n)))) bx [] :=
 .Ef fun _ _ w _ a _ L=>by have I:=(L x (mC J));rw [R] at I;have I:=I.J4;have E:=(L y (mC J));rw [O] at E;have E:=E.J4;refine⟨_,?_,.int k _⟩;simp [execOp,J,I,E,A9j,binOp,Op.intDiv,U]
theorem G5a {t u:TypeId} {x y:Operand} (J:o.op=.binOp .rem t x y u) {k:IntKind} {m n:Int}
  (R:ρ x=.d (.int k m)) (O:ρ y=.d (.int k n)) (U:n≠0):Bt P o ρ bx (.d (.int k (m.tmod n))) bx [] :=
 .Ef fun _ _ w _ a _ L=>by have I:=(L x (mC J));rw [R] at I;have I:=I.J4;have E:=(L y (mC J));rw [O] at E;have E:=E.J4;refine⟨_,?_,.int k _⟩;simp [execOp,J,I,E,A9j,binOp,Op.intDiv,U]
def C1p (op:BinOp)(x y:A3):Option Bool :=
 match op with
 |.eql=>some (decide (x=y))
 |.neq=>some (decide (x≠y))
 |.lss=>some (Op.bytesLess x y)
 |.gtr=>some (Op.bytesLess y x)
 |_=>none
theorem D9q (s:A3):(mkStr s).toList=s:=by simp [mkStr]
theorem C3q:∀(x y:A3),(Op.bytesLess x y ||x == y) = !Op.bytesLess y x
 |[],[]=>rfl
 |[],_::_=>by simp [Op.bytesLess]
 |_::_,[]=>by simp [Op.bytesLess]
 |a::x,b::y=>by
  have L:=C3q x y;simp only [Op.bytesLess];by_cases I:a < b
  ·have E:¬b < a:=by rw [Ye] at *;omega
   have J:¬(b=a):=by intro h;subst h;exact E I
   simp [I,E,J]
  ·by_cases E:b < a
   ·have J:¬(a=b):=by intro h;subst h;exact I E
    simp [I,E,J]
   ·have J:a=b:=by
     apply UInt8.toNat_inj.1;rw [Ye] at I E;omega
    subst J;simp [I];simpa [Bool.beq_eq_decide_eq] using L
theorem B7c {t u:TypeId} {x y:Operand} (J:o.op=.binOp op t x y u) {m n:A3} {b:Bool}
  (U:ρ x=.d (.str m)) (R:ρ y=.d (.str n)) (L:C1p op m n=some b):Bt P o ρ bx (.d (.bool b)) bx [] :=
 .Ef fun _ _ w _ a _ O=>by
  have I:=(O x (mC J));rw [U] at I;have I:=I.Tx.1;have E:=(O y (mC J));rw [R] at E;have E:=E.Tx.1;refine⟨.bool b,?_,.bool b⟩;have e:=C3q m n;simp only [execOp,J,Hu,Sem.run_map,I,E,E2f,H8];cases op <;> first
   |(simp only [C1p,reduceCtorEq] at L;done)
   |(simp only [C1p,Av] at L;subst L;simp only [binOp,Op.stringOp,D9q,e,Bool.not_not,Kp,H8];try (congr 3 <;> (rw [Aq5];simp)))
theorem G5v (x y:A3):mkStr x++mkStr y=mkStr (x++y):=by apply ByteArray.ext;simp [mkStr]
theorem F5c {t u:TypeId} {x y:Operand} (O:o.op=.binOp .add t x y u) {m n:A3}
  (W:ρ x=.d (.str m)) (V:ρ y=.d (.str n)) (U:m.length+n.length≤lim):Bt P o ρ bx (.d (.str (m++n))) bx [] :=
 .Ef fun _ _ w _ a _ R=>by
  have J:=(R x (mC O));rw [W] at J;have J:=J.Tx.1;have I:=(R y (mC O));rw [V] at I;have I:=I.Tx.1;refine⟨.string (mkStr (m++n)),?_,.d _ _ (.str _ (by simpa using U))⟩;have E:IntKind.i64.max=9223372036854775807:=by decide
  have L:¬(IntKind.i64.max < (m.length:Int)+n.length):=by rw [E];unfold lim at U;omega
  simp only [execOp,O,Hu,Sem.run_map,J,I,E2f,H8,binOp,Op.stringOp,B7j,G5v];rw [A6 (by simpa using L)];rfl
theorem E3t {t:TypeId} (I:o.op=.unOp .not t x) {b:Bool} (L:ρ x=.d (.bool b)):Bt P o ρ bx (.d (.bool (!b))) bx [] :=
 .Ef fun _ _ w _ a _ J=>by have E:=(J x (mC I));rw [L] at E;have E:=E.Vz;exact⟨.bool (!b),by simp [execOp,I,E,Op.unary],.bool _⟩
theorem F4j {t:TypeId} (I:o.op=.unOp .neg t x) {k:IntKind} {n:Int} (L:ρ x=.d (.int k n)):Bt P o ρ bx (.d (.int k (k.wrap (0 - n)))) bx [] :=
 .Ef fun _ _ w _ a _ J=>by have E:=(J x (mC I));rw [L] at E;have E:=E.J4;exact⟨.int k (k.wrap (0 - n)),by simp [execOp,I,E,Op.unary,Op.intArith],.int _ _⟩
def C1k (op:BinOp)(x y:Bool):Option Bool :=
 match op with
 |.eql=>some (x == y)
 |.neq=>some (!(x == y))
 |_=>none
theorem D8u {t u:TypeId} {x y:Operand} (J:o.op=.binOp op t x y u)(ht:P.underlying t=some .bool) {m n:Bool} {b:Bool}
  (U:ρ x=.d (.bool m)) (R:ρ y=.d (.bool n)) (L:C1k op m n=some b):Bt P o ρ bx (.d (.bool b)) bx [] :=
 .Ef fun _ _ w _ a _ O=>by
  have I:=(O x (mC J));rw [U] at I;have I:=I.Vz;have E:=(O y (mC J));rw [R] at E;have E:=E.Vz;refine⟨.bool b,?_,.bool b⟩;simp only [execOp,J,Hu,Sem.run_map,I,E,E5k,H8];cases op <;> first
   |(simp only [C1k,reduceCtorEq] at L;done)
   |(simp only [C1k,Av] at L;subst L;first| (rw [run_eql_bool _ _ _ _ ht];rfl)| (rw [run_neq_bool _ _ _ _ ht];rfl))
theorem E4z {src dst:TypeId} (J:o.op=.convert src dst x) {k E j:IntKind} {n:Int}
  (hs:P.underlying src=some (.int j)) (hd:P.underlying dst=some (.int E)) (O:ρ x=.d (.int k n)):Bt P o ρ bx (.d (.int E (E.wrap n))) bx [] :=
 .Ef fun _ _ w _ a _ L=>by have I:=(L x (mC J));rw [O] at I;have I:=I.J4;refine⟨.int E (E.wrap n),?_,.int _ _⟩;simp [execOp,J,I,convert,underlying,hs,hd,Conv.intToInt]
theorem F7f {src dst:TypeId} (I:o.op=.convert src dst x) {s:A3}
  (hs:P.underlying src=some .string) (hd:P.underlying dst=some .string) (O:ρ x=.d (.str s)):Bt P o ρ bx (.d (.str s)) bx [] :=
 .Ef fun _ _ w _ a _ L=>by have E:=(L x (mC I));rw [O] at E;have J:=E.Tx.1;refine⟨.string (mkStr s),?_,by rw [←J];exact E⟩;simp [execOp,I,J,convert,underlying,hs,hd]
theorem G3p {i:Nat} (J:o.op=.extract x i) {xs:List SV} {r:SV} (O:ρ x=.tuple xs)(hr:xs[i]? = some r):Bt P o ρ bx r bx [] :=
 .Ef fun _ _ w _ a _ L=>by
  have E:=(L x (mC J));rw [O] at E;generalize R:a.eval x=v at E;cases E with
  |tuple _ vs U h =>
   have I:i < vs.length:=by have:=(Ay.1 hr).1;omega
   refine⟨vs[i],?_,h i r _ hr (Ba I)⟩;simp [execOp,J,R,Instr.extract,I]
theorem F6u {t:TypeId} (I:o.op=.makeInterface t x) {y:D} (O:ρ x=.d y) {E:TypeDesc} (ht:P.underlying t=some E)
  (R:(match E with| .interface _=>false| _=>true)=true):Bt P o ρ bx (.d (.iface t y)) bx [] :=
 .Ef fun _ _ w _ a _ L=>by have J:=(L x (mC I));rw [O] at J;refine⟨.iface t (a.eval x),?_,.d _ _ (.iface t y _ J.Gp)⟩;cases E <;> simp at R <;> simp [execOp,I,Instr.makeInterface,underlying,ht]
theorem G1b {ds:List D} {v:Value} (h:Am S w β (.agg (ds.map SV.d)) v):Br S w (.agg ds) v:=by
 generalize J:ds.map SV.d=cs at h;cases h with
 |agg _ vs E O I =>
  subst J;refine .agg ds vs (by simpa using E) ?_ ?_
  ·intro d hd;have:=O (.d d) (Ax.2 ⟨d,hd,rfl⟩);simpa [SV.one] using this
  ·intro j d v hd L;exact (I j (.d d) v (by simp [hd]) L).Gp
theorem D7r {ds:List D} {v:Value} (h:Br S w (.agg ds) v):Am S w β (.agg (ds.map SV.d)) v:=by
 cases h with
 |agg _ vs I O J =>
  refine .agg _ vs (by simpa using I) ?_ ?_
  ·intro c E;obtain⟨d,hd,rfl⟩:=Ax.1 E;exact O d hd
  ·intro j c v E L;obtain⟨d,hd,rfl⟩:=by simpa using E
   exact .d _ _ (J j d v hd L)
theorem G6a {t:TypeId} (I:o.op=.makeInterface t x) {ys:List D} (O:ρ x=.agg (ys.map SV.d)) {E:TypeDesc} (ht:P.underlying t=some E)
  (R:(match E with| .interface _=>false| _=>true)=true):Bt P o ρ bx (.d (.iface t (.agg ys))) bx [] :=
 .Ef fun _ _ w _ a _ L=>by have J:=(L x (mC I));rw [O] at J;refine⟨.iface t (a.eval x),?_,.d _ _ (.iface t _ _ (G1b J))⟩;cases E <;> simp at R <;> simp [execOp,I,Instr.makeInterface,underlying,ht]
end Go.Abs
namespace Go.Abs
open Go
variable {P:Program} {o:Oper} {ρ:Hq} {bx:Ab}
def D4 (P:Program)(T:TypeId):Option Bool:=(P.underlying T).map fun d=>match d with| .struct _| .array _ _=>true| _=>false
def Bs (P:Program)(T:TypeId):Option Nat:=(P.info? T).map (·.size)
def Cp (P:Program)(T:TypeId)(f:Nat):Option Nat :=
 match P.underlying T with
 |some (.struct fs)=>match fs[f]? with
  |some fd=>match P.info? fd.type with
   |some i=>if i.size=0 then none else some fd.offset
   |none=>none
  |none=>none
 |_=>none
def Dv (P:Program)(T:TypeId):Option TypeId :=
 match P.underlying T with
 |some (.slice e)=>some e
 |_=>none
theorem B6j {T:TypeId} {b:Bool} (h:D4 P T=some b)(w:World):(isAgg T).run P w=.ok b w:=by
 unfold D4 at h;cases E:P.underlying T with
 |none=>simp [E] at h
 |some d =>simp only [E,E8,Av] at h;subst h;simp only [isAgg,underlying,Hu,run_program,H8,E,Kp];cases d <;> rfl
theorem Ra {T:TypeId} {n:Nat} (h:Bs P T=some n)(w:World):(sizeOf T).run P w=.ok n w:=by
 unfold Bs at h;cases E:P.info? T with
 |none=>simp [E] at h
 |some d =>simp only [E,E8,Av] at h;subst h;simp [sizeOf,typeInfo,E]
theorem Xk (b off n:Nat):(⟨b,off,none⟩:Addr).add n=⟨b,off+n,none⟩:=by
 unfold Addr.add;split
 ·subst_vars;rfl
 ·rfl
theorem C3h {T f off b p:Nat} (h:Cp P T f=some off)(w:World):(Instr.fieldAt T (.pointer (some ⟨b,p,none⟩)) f).run P w=.ok (.pointer (some ⟨b,p+off,none⟩)) w:=by
 unfold Cp at h;cases E:P.underlying T with
 |none=>simp [E] at h
 |some d =>
  rw [E] at h;cases d <;> simp only [reduceCtorEq] at h;rename_i fs;cases I:fs[f]? with
  |none=>simp [I] at h
  |some fd =>
   simp only [I] at h;cases J:P.info? fd.type with
   |none=>simp [J] at h
   |some i =>
    simp only [J] at h;split at h
    ·simp at h
    ·rename_i hs;simp only [Av] at h;subst h;simp [Instr.fieldAt,underlying,E,I,Instr.sureAddr,fieldPlace,sizeOf,typeInfo,J,hs,Xk]
variable {w:World}
theorem C0z {T b p:Nat} {v:Value} (hT:D4 P T=some false)(E:w.cell? ⟨b,p,none⟩=some v) :
  (Instr.loadAt T (.pointer (some ⟨b,p,none⟩))).run P w=.ok v w:=by
 simp [Instr.loadAt,Instr.sureAddr,loadVar,B6j hT,E]
variable {vs:List Value}
theorem D0n {T b p n:Nat} (hT:D4 P T=some true)(hs:Bs P T=some n)(E:vs.length=n)
  (J:∀(j:Nat) (v:Value),vs[j]? = some v→w.cell? ⟨b,p+j,none⟩=some v) :
  (Instr.loadAt T (.pointer (some ⟨b,p,none⟩))).run P w=.ok (.agg ⟨vs⟩) w:=by
 have h:=run_loadCells_list (P:=P) w ⟨b,p,none⟩ vs (fun j v I=>by rw [Xk];exact J j v I);subst E;simp [Instr.loadAt,Instr.sureAddr,loadVar,B6j hT,Ra hs,h]
theorem cells_of_row {b:Nat} {ty:TypeId} {E:Nat × Nat} (h:w.heap[b]? = some (.cells ⟨vs⟩ ty E))(p:Nat):w.cell? ⟨b,p,none⟩=vs[p]?:=by rw [cell_of_row w b p ⟨vs⟩ ty E h];simp
variable {S:Nat→Prop} {β:Names}
theorem Am.B3s {k off:Nat} {v:Value} (h:Am S w β (.box k off) v):∃b,(β k).base=some b∧v=.pointer (some ⟨b,off,none⟩):=by cases h with| box k off b h=>exact⟨b,h,rfl⟩
def part (cs:List SV)(off n:Nat):List SV:=(cs.drop off).take n
def A4b (cs:List D)(off n:Nat):List D:=(cs.drop off).take n
theorem Am.A9t {cs:List SV} (h:Bm S w β cs vs)(I:cs.all SV.one=true):Am S w β (.agg cs) (.agg ⟨vs⟩) :=
 .agg cs vs h.1 (fun c E=>Cf.1 I c E) h.2
theorem Bm.part {cs:List SV} (h:Bm S w β cs vs)(off n:Nat):Bm S w β (part cs off n) ((vs.drop off).take n):=by
 refine⟨by simp [Abs.part,h.1],?_⟩;intro j c v E I;simp only [Abs.part,Yd,Ri] at E I;split at E
 ·rw [A8 (by assumption)] at I;exact h.2 _ c v E I
 ·simp at E
structure B0d (S:Nat→Prop)(w:World)(cells:List D)(off:Nat)(v:Value)(b base:Nat):Prop where
 v:v=.pointer (some ⟨b,base+off,none⟩)
 inS:S b
 one:∀d,d∈cells→d.one=true
 there:∀j,j < cells.length→∃v,w.cell? ⟨b,base+j,none⟩=some v
 rep:∀(j:Nat) (d:D) (v:Value),cells[j]? = some d→w.cell? ⟨b,base+j,none⟩=some v→Br S w d v
theorem Am.A9q {cells:List D} {off:Nat} {v:Value} (h:Am S w β (.Ag cells off) v):∃b base,B0d S w cells off v b base:=by cases h with| Ag cells off b base L E J I=>exact⟨b,base,rfl,L,E,J,I⟩
theorem Am.D2v {cells:List D} {v:Value} (h:Am S w β (.d (.ptr cells)) v):∃b base,B0d S w cells 0 v b base:=by
 cases h with
 |d _ _ h=>cases h with| ptr cells b base L E J I=>exact⟨b,base,by simp,L,E,J,I⟩
theorem B0d.Ag {cells:List D} {off E:Nat} {v:Value} {b base:Nat} (h:B0d S w cells off v b base):Am S w β (.Ag cells E) (.pointer (some ⟨b,base+E,none⟩)) :=
  .Ag cells E b base h.inS h.one h.there h.rep
inductive B0w:SV→List D→Nat→Prop where
 |Ag (cells:List D) (off:Nat):B0w (.Ag cells off) cells off
 |ptr (cells:List D):B0w (.d (.ptr cells)) cells 0
theorem Am.C7w {x:SV} {cells:List D} {off:Nat} {v:Value} (h:Am S w β x v)(E:B0w x cells off):∃b base,B0d S w cells off v b base:=by
 cases E with
 |Ag=>exact h.A9q
 |ptr=>exact h.D2v
variable {x:Operand}
theorem G3r {T f d:Nat} (J:o.op=.fieldAddr T x f) {k off:Nat} (O:ρ x=.box k off)(U:Cp P T f=some d):Bt P o ρ bx (.box k (off+d)) bx [] :=
 .Ef fun _ _ w β a V L=>by have I:=(L x (mC J));rw [O] at I;obtain⟨b,E,R⟩:=I.B3s;exact⟨.pointer (some ⟨b,off+d,none⟩),by simp [execOp,J,R,C3h U],.box _ _ _ E⟩
theorem C6v {T f d:Nat} (E:o.op=.fieldAddr T x f) {cells:List D} {off:Nat} (L:B0w (ρ x) cells off)(O:Cp P T f=some d) :
  Bt P o ρ bx (.Ag cells (off+d)) bx [] :=
 .Ef fun _ _ w β a R J=>by obtain⟨b,base,I⟩:=((J x (mC E))).C7w L;exact⟨.pointer (some ⟨b,base+(off+d),none⟩),by simp [execOp,E,I.v,C3h O,Mh],I.Ag⟩
theorem F5e {T f d:Nat} (J:o.op=.fieldAddr T x f) {k i off:Nat} (O:ρ x=.Eb k i off)(U:Cp P T f=some d):Bt P o ρ bx (.Eb k i (off+d)) bx [] :=
 .Ef fun _ _ w β a V L=>by
  have I:=(L x (mC J));rw [O] at I;generalize R:a.eval x=v at I;cases I with
  |Eb k i off b E =>exact⟨.pointer (some ⟨b,((β k).off+i)*(β k).sz+(off+d),none⟩),by simp [execOp,J,R,C3h U,Mh],.Eb _ _ _ _ E⟩
theorem C6u {T e n:Nat} {b p len cap:Nat} {i:Int} {k:IntKind} (hT:Dv P T=some e)(hs:Bs P e=some n)(I:0≤i)(J:i < len)(w:World) :
  (Instr.indexAt T (.slice (some ⟨b,p,none⟩) len cap) (.int k i)).run P w=.ok (.pointer (some ⟨b,p+i.toNat*n,none⟩)) w:=by
 unfold Dv at hT;cases E:P.underlying T with
 |none=>simp [E] at hT
 |some d =>rw [E] at hT;cases d <;> simp only [reduceCtorEq,Av] at hT;subst hT;simp [Instr.indexAt,asIntOf,underlying,E,I,J,Ra hs,Xk]
theorem F8g {T e n:Nat} {x y:Operand} (V:o.op=.indexAddr T x y) {rows:List (List D)} {k:IntKind} {i:Int} {row:List D} (hx:ρ x=.d (.slice rows))(hy:ρ y=.d (.int k i))
  (hT:Dv P T=some e) (hs:Bs P e=some n) (h0:0≤i) (hr:rows[i.toNat]? = some row) (hn:row.length=n):Bt P o ρ bx (.Ag row 0) bx [] :=
 .Ef fun _ S w β a hi W=>by
  have E:=(W x (mC V));rw [hx] at E;have I:=(W y (mC V));rw [hy] at I;have I:=I.J4;have R:=(Ay.1 hr).1;have J:=Bx hr;generalize L:a.eval x=v at E;cases E with
  |d _ _ E =>
   cases E with
   |Ja=>simp at hr
   |slice _ b off cap sz Z h1 h2 h3 O h4 h5 =>
    have U:sz=n:=by rw [←hn];exact (h3 row J).symm
    subst U;refine⟨.pointer (some ⟨b,(off+i.toNat*sz)+0,none⟩),?_,.Ag row 0 b (off+i.toNat*sz) Z (O row J) ?_ ?_⟩
    ·simp [execOp,V,L,I,C6u hT hs h0 (show i < (rows.length:Int) by omega)]
    ·intro j hj;obtain⟨v,L⟩:=h4 i.toNat j R (by omega);exact⟨v,by rw [Mh];exact L⟩
    ·intro j d v hd L;rw [Mh] at L;exact h5 i.toNat j row d v hr hd L
theorem F4m {T e n:Nat} {x y:Operand} (O:o.op=.indexAddr T x y) {q:Nat} {sz:Nat} {rows:List (List D)} {k:IntKind} {i:Int} (W:ρ x=.acc q)(hb:(q,Ar.rows sz rows)∈bx)
  (hy:ρ y=.d (.int k i)) (hT:Dv P T=some e) (hs:Bs P e=some n) (L:sz=n) (h0:0≤i) (h1:i.toNat < rows.length):Bt P o ρ bx (.Eb q i.toNat 0) bx [] :=
 .Ef fun _ S w β a hi U=>by
  have J:=(U x (mC O));rw [W] at J;have I:=(U y (mC O));rw [hy] at I;have I:=I.J4;generalize R:a.eval x=v at J;obtain⟨Z,g2,g3,g4,g5,g6,V⟩:=hi.box q _ hb;cases J with
  |acc q =>
   cases E:(β q).base with
   |none=>rw [E] at V;simp only at V;omega
   |some b =>subst L;refine⟨.pointer (some ⟨b,((β q).off+i.toNat)*(β q).sz+0,none⟩),?_,.Eb q i.toNat 0 b E⟩;rw [E] at R;simp only [E8] at R;simp [execOp,O,R,I,C6u hT hs h0 (show i < (((β q).len:Nat):Int) by omega),Z,Ei]
theorem E9j {T:Nat} {x y:Operand} (J:o.op=.index T x y) {s:A3} {k:IntKind} {i:Int} {c:UInt8} (U:ρ x=.d (.str s))(R:ρ y=.d (.int k i))
  (hT:P.underlying T=some .string) (V:0≤i) (hr:s[i.toNat]? = some c):Bt P o ρ bx (.d (.int .u8 c.toNat)) bx [] :=
 .Ef fun _ S w β a hi O=>by
  have E:=(O x (mC J));rw [U] at E;have E:=E.Tx.1;have I:=(O y (mC J));rw [R] at I;have I:=I.J4;refine⟨.int .u8 c.toNat,?_,.int _ _⟩;have W:(mkStr s)[i.toNat]? = some c:=by
   obtain⟨Z,h2⟩:=Ay.1 hr;have L:i.toNat < (mkStr s).size:=Z;rw [getElem?_pos (mkStr s) i.toNat L]
   congr 1
  simp [execOp,J,E,I,Instr.index,asIntOf,underlying,hT,V,W]
theorem E8t {T f d n:Nat} (L:o.op=.field T x f) {cs:List SV} {J:TypeId} (U:ρ x=.agg cs) {fs:Array Field} {fd:Field}
  (hT:P.underlying T=some (.struct fs)) (W:fs[f]? = some fd) (hd:fd.offset=d) (I:fd.type=J) (R:D4 P J=some true) (hs:Bs P J=some n):Bt P o ρ bx (.agg (part cs d n)) bx [] :=
 .Ef fun _ S w β a hi h=>by
  have E:=h x (mC L);rw [U] at E;generalize hv:a.eval x=v at E;cases E with
  |agg _ vs O h1 V =>
   subst hd I;refine⟨.agg ⟨(vs.drop fd.offset).take n⟩,?_,Am.A9t (Bm.part ⟨O,V⟩ _ _) ?_⟩
   ·have he:(Array.mk vs).extract fd.offset (fd.offset+n)=⟨(vs.drop fd.offset).take n⟩:=by
     apply I6;simp
    simp [execOp,L,hv,Instr.field,underlying,hT,W,Go.part,B6j R,Ra hs,asAgg,he]
   ·rw [Cf];intro c Z;exact h1 c (U5 (Iq Z))
theorem E8w {T f d:Nat} (J:o.op=.field T x f) {cs:List SV} {R:TypeId} {c:SV} (W:ρ x=.agg cs) {fs:Array Field} {fd:Field}
  (hT:P.underlying T=some (.struct fs)) (hf:fs[f]? = some fd) (hd:fd.offset=d) (I:fd.type=R) (V:D4 P R=some false) (L:cs[d]? = some c):Bt P o ρ bx c bx [] :=
 .Ef fun _ S w β a hi h=>by
  have E:=h x (mC J);rw [W] at E;generalize Z:a.eval x=v at E;cases E with
  |agg _ vs hl h1 U =>
   subst hd I;have O:fd.offset < vs.length:=by have:=(Ay.1 L).1;omega
   refine⟨vs[fd.offset],?_,U _ c _ L (Ba O)⟩;simp [execOp,J,Z,Instr.field,underlying,hT,hf,Go.part,B6j V,asAgg,O]
theorem F9n (J:o.op=.nilCheck x) {k off:Nat} (O:ρ x=.box k off):Bt P o ρ bx (.box k off) bx [] :=
 .Ef fun _ _ w β a U L=>by have E:=(L x (mC J));rw [O] at E;obtain⟨b,I,R⟩:=E.B3s;exact⟨a.eval x,by simp [execOp,J,R],E⟩
theorem E2b (E:o.op=.nilCheck x) {cells:List D} {off:Nat} (J:B0w (ρ x) cells off):Bt P o ρ bx (ρ x) bx [] :=
 .Ef fun _ _ w β a O I=>by obtain⟨b,base,L⟩:=((I x (mC E))).C7w J;exact⟨a.eval x,by simp [execOp,E,L.v],(I x (mC E))⟩
theorem run_len_slice {T:TypeId} {e:TypeId} (hT:Dv P T=some e)(a:Option Addr)(n c:Nat)(ty:TypeId)(w:World):(Builtin.len_ #[T] ty #[.slice a n c]).run P w=.ok (.int .i64 n) w:=by
 unfold Dv at hT;cases E:P.underlying T with
 |none=>simp [E] at hT
 |some d =>rw [E] at hT;cases d <;> simp only [reduceCtorEq,Av] at hT;simp [Builtin.len_,underlying,E,goInt]
theorem F8k {T e:Nat} (I:o.op=.call { callee:=.builtin .len,args:=#[x],argTypes:=#[T] }) {rows:List (List D)} (L:ρ x=.d (.slice rows))(hT:Dv P T=some e) :
  Bt P o ρ bx (.d (.int .i64 rows.length)) bx [] :=
 .Ef fun _ _ w β a R J=>by
  have E:=(J x (mC I));rw [L] at E;generalize O:a.eval x=v at E;refine⟨.int .i64 rows.length,?_,.int _ _⟩;cases E with
  |d _ _ E =>cases E <;> simp [execOp,I,resolve,invoke,builtin,O,run_len_slice hT]
theorem E1n {T e:Nat} (I:o.op=.call { callee:=.builtin .len,args:=#[x],argTypes:=#[T] })(hx:ρ x=.d .nil∨ρ x=.d .emp)(hT:Dv P T=some e) :
  Bt P o ρ bx (.d (.int .i64 0)) bx [] :=
 .Ef fun _ _ w β a O J=>by
  have E:=(J x (mC I));generalize L:a.eval x=v at E;refine⟨.int .i64 0,?_,.int _ _⟩;rcases hx with hx| hx <;> rw [hx] at E <;> cases E with
  |d _ _ E=>cases E;simp [execOp,I,resolve,invoke,builtin,L,run_len_slice hT]
theorem E3o {T e:Nat} (I:o.op=.call { callee:=.builtin .len,args:=#[x],argTypes:=#[T] }) {q sz:Nat} {rows:List (List D)} (L:ρ x=.acc q)(R:(q,Ar.rows sz rows)∈bx)(hT:Dv P T=some e) :
  Bt P o ρ bx (.d (.int .i64 rows.length)) bx [] :=
 .Ef fun _ _ w β a O J=>by
  have E:=(J x (mC I));rw [L] at E;generalize U:a.eval x=v at E;obtain⟨W,V,_⟩:=O.box q _ R;refine⟨.int .i64 rows.length,?_,.int _ _⟩;cases E with
  |acc q=>simp [execOp,I,resolve,invoke,builtin,U,run_len_slice hT,V]
theorem E4f {T:Nat} (I:o.op=.call { callee:=.builtin .len,args:=#[x],argTypes:=#[T] }) {s:A3} (L:ρ x=.d (.str s))(hT:P.underlying T=some .string) :
  Bt P o ρ bx (.d (.int .i64 s.length)) bx [] :=
 .Ef fun _ _ w β a R J=>by have E:=(J x (mC I));rw [L] at E;have O:=E.Tx.1;refine⟨.int .i64 s.length,?_,.int _ _⟩;simp [execOp,I,resolve,invoke,builtin,O,Builtin.len_,underlying,hT,goInt,B7j]
def W4 (op:BinOp)(E:Bool):Option Bool :=
 match op with
 |.eql=>some E
 |.neq=>some (!E)
 |_=>none
def Pa:SV→Option Bool
 |.d .Lb=>some true
 |.d (.ptr _)| .Ag _ _| .box _ _| .Eb _ _ _=>some false
 |_=>none
theorem Am.Pa {x:SV} {v:Value} (h:Am S w β x v) {b:Bool} (E:Pa x=some b):∃p,v=.pointer p∧p.isNone=b:=by
 cases h with
 |d _ _ h=>cases h <;> simp [Abs.Pa] at E <;> subst E <;> exact⟨_,rfl,rfl⟩
 |box _ _ _ _=>simp [Abs.Pa] at E;subst E;exact⟨_,rfl,rfl⟩
 |Ag _ _ _ _ _ _ _=>simp [Abs.Pa] at E;subst E;exact⟨_,rfl,rfl⟩
 |Eb _ _ _ _ _=>simp [Abs.Pa] at E;subst E;exact⟨_,rfl,rfl⟩
 |_=>simp [Abs.Pa] at E
variable {op:BinOp}
theorem E0d {t u:TypeId} {x y:Operand} (L:o.op=.binOp op t x y u) {b r:Bool} (ht:(P.underlying t).any (fun d=>match d with| .pointer _=>true| _=>false)=true)
  (W:Pa (ρ x)=some b) (V:ρ y=.d .Lb) (O:W4 op b=some r):Bt P o ρ bx (.d (.bool r)) bx [] :=
 .Ef fun _ _ w _ a _ U=>by
  obtain⟨p,Z,J⟩:=((U x (mC L))).Pa W;have E:=(U y (mC L));rw [V] at E;have E:a.eval y=.pointer none:=by generalize a.eval y=z at E;cases E with| d _ _ h=>cases h;rfl
  refine⟨.bool r,?_,.bool r⟩;cases I:P.underlying t with
  |none=>simp [I] at ht
  |some d =>
   cases d <;> simp [I] at ht;rename_i e;have R:(Op.equal t (.pointer p) (.pointer none)).run P w=.ok b w:=by unfold Op.equal Op.maxDepth Op.equalIn;cases p <;> simp [underlying,I] at * <;> subst J <;> rfl
   simp only [execOp,L,Hu,Sem.run_map,Z,E,F9d,H8];cases op <;> first
    |(simp only [W4,reduceCtorEq] at O;done)
    |(simp only [W4,Av] at O;subst O;simp [binOp,R])
def C9d:SV→Option Bool
 |.d .J3=>some true
 |.d (.iface _ _)=>some false
 |_=>none
def A8d:Operand→Bool
 |.const .nilIface=>true
 |_=>false
theorem B7b {t u:TypeId} {x y:Operand} (U:o.op=.binOp op t x y u) {b r:Bool} (ht:(P.underlying t).any (fun d=>match d with| .interface _=>true| _=>false)=true)
  (E:C9d (ρ x)=some b) (hy:ρ y=.d .J3) (V:A8d y=true) (J:W4 op b=some r):Bt P o ρ bx (.d (.bool r)) bx [] :=
 .Ef fun _ _ w _ a _ ha=>by
  have R:=ha x (mC U);have W:y=.const .nilIface:=by
   unfold A8d at V;split at V
   ·rfl
   ·simp at V
  subst W;have Z:a.eval (.const .nilIface)=.nilIface:=rfl;refine⟨.bool r,?_,.bool r⟩;cases O:P.underlying t with
  |none=>simp [O] at ht
  |some d =>
   cases d <;> simp [O] at ht;rename_i e;generalize ρ x=rx at E R;generalize L:a.eval x=vx at R;have key:(vx=.nilIface∧b=true)∨∃T z,vx=.iface T z∧b=false:=by
    unfold C9d at E;split at E
    ·simp only [Av] at E;have:=R.Gp;cases this;exact .inl ⟨rfl,E.symm⟩
    ·simp only [Av] at E;have:=R.Gp;cases this;exact .inr ⟨_,_,rfl,E.symm⟩
    ·simp at E
   rcases key with ⟨rfl,rfl⟩| ⟨T,z,rfl,rfl⟩
   ·have I:(Op.equal t .nilIface .nilIface).run P w=.ok true w:=by
     unfold Op.equal Op.maxDepth Op.equalIn;simp [underlying,O]
    cases op <;> first
     |(simp only [W4,reduceCtorEq] at J;done)
     |(simp only [W4,Av] at J;subst J;simp [execOp,U,L,Z,eqGuard,binOp,I])
   ·have I:(Op.equal t (.iface T z) .nilIface).run P w=.ok false w:=by
     unfold Op.equal Op.maxDepth Op.equalIn;simp [underlying,O]
    cases op <;> first
     |(simp only [W4,reduceCtorEq] at J;done)
     |(simp only [W4,Av] at J;subst J;simp [execOp,U,L,Z,eqGuard,binOp,I])
def Pu:SV→Option Bool
 |.d .nil=>some true
 |.d .emp=>some false
 |.d (.slice (_::_))=>some false
 |_=>none
theorem Am.Pu {x:SV} {v:Value} (h:Am S w β x v) {b:Bool} (E:Pu x=some b):∃p l c,v=.slice p l c∧p.isNone=b:=by
 cases h with
 |d _ _ h =>
  cases h with
  |nil=>simp [Abs.Pu] at E;subst E;exact⟨_,_,_,rfl,rfl⟩
  |emp=>simp [Abs.Pu] at E;subst E;exact⟨_,_,_,rfl,rfl⟩
  |Ja=>simp [Abs.Pu] at E
  |slice rows=>cases rows <;> simp [Abs.Pu] at E;subst E;exact⟨_,_,_,rfl,rfl⟩
  |_=>simp [Abs.Pu] at E
 |_=>simp [Abs.Pu] at E
theorem D7i {t u:TypeId} {x y:Operand} (L:o.op=.binOp op t x y u) {e:Nat} {b r:Bool} (ht:Dv P t=some e)
  (W:Pu (ρ x)=some b) (V:ρ y=.d .nil) (O:W4 op b=some r):Bt P o ρ bx (.d (.bool r)) bx [] :=
 .Ef fun _ _ w _ a _ U=>by
  obtain⟨p,l,c,Z,J⟩:=((U x (mC L))).Pu W;have E:=(U y (mC L));rw [V] at E;have E:a.eval y=.slice none 0 0:=by generalize a.eval y=z at E;cases E with| d _ _ h=>cases h;rfl
  refine⟨.bool r,?_,.bool r⟩;unfold Dv at ht;cases I:P.underlying t with
  |none=>simp [I] at ht
  |some d =>
   rw [I] at ht;cases d <;> simp only [reduceCtorEq,Av] at ht;rename_i e;have R:(Op.equal t (.slice p l c) (.slice none 0 0)).run P w=.ok b w:=by unfold Op.equal Op.maxDepth Op.equalIn;cases p <;> simp [underlying,I] at * <;> subst J <;> rfl
   simp only [execOp,L,Hu,Sem.run_map,Z,E,E9u,H8];cases op <;> first
    |(simp only [W4,reduceCtorEq] at O;done)
    |(simp only [W4,Av] at O;subst O;simp [binOp,R])
end Go.Abs
namespace Go.Abs
open Go
variable {P:Program} {o:Oper} {ρ:Hq} {bx:Ab}
def C3 (k:Nat):Ab→Ab
 |[]=>[]
 |(j,c)::r=>if j=k then C3 k r else (j,c)::C3 k r
variable {c:Ar}
theorem Dq {k j:Nat} :∀{bx:Ab},(j,c)∈C3 k bx↔j≠k∧(j,c)∈bx
 |[]=>by simp [C3]
 |(i,x)::r=>by
  simp only [C3];split
  ·rename_i h;subst h;rw [Dq];simp only [As,Df];constructor
   ·rintro⟨E,h2⟩;exact⟨E,.inr h2⟩
   ·rintro⟨E,h2⟩;exact⟨E,h2.resolve_left fun h=>E h.1⟩
  ·rename_i h;simp only [As,Df,Dq];constructor
   ·rintro (⟨E,h2⟩| h2)
    ·subst E;subst h2;exact⟨h,.inl ⟨rfl,rfl⟩⟩
    ·exact⟨h2.1,.inr h2.2⟩
   ·rintro⟨E,h2| h2⟩
    ·exact .inl h2
    ·exact .inr ⟨E,h2⟩
def L6 (k:Nat)(x:SV):SV:=if x.has k then .undef else x
def Ub (k:Nat):SL→SL
 |[]=>[]
 |(t,x)::r=>(t,L6 k x)::Ub k r
theorem A5j (k:Nat):∀(sl:SL)(t:Nat),Ae (Ub k sl) t=L6 k (Ae sl t)
 |[],t=>by simp [Ub,Ae,L6,SV.has]
 |(u,x)::r,t=>by
  simp only [Ub,Ae];split
  ·rfl
  ·exact A5j k r t
def Ar.Qu (k:Nat):Ar→Ar
 |.cells cs=>.cells (cs.map (L6 k))
 |c=>c
def H7 (k:Nat):Ab→Ab
 |[]=>[]
 |(j,c)::r=>(j,c.Qu k)::H7 k r
theorem A7p {k j:Nat} :∀{bx:Ab},(j,c)∈H7 k bx→∃x,(j,x)∈bx∧c=x.Qu k
 |[],h=>by simp [H7] at h
 |(i,x)::r,h=>by
  simp only [H7,As,Df] at h;rcases h with ⟨L,I⟩| h
  ·subst L;exact⟨x,by simp,I⟩
  ·obtain⟨y,E,J⟩:=A7p h;exact⟨y,by simp [E],J⟩
def E3 (β:Names)(k:Nat)(i:BI):Names:=fun j=>if j=k then i else β j
theorem G8 (β:Names)(k:Nat)(i:BI):E3 β k i k=i:=by simp [E3]
variable {β:Names}
theorem Jk {k j:Nat} {i:BI} (h:j≠k):E3 β k i j = β j:=by simp [E3,h]
variable {k:Nat}
theorem Am.Qu {S S':Nat→Prop} {w w':World} {i:BI} {x:SV} {v:Value} (h:Am S w β x v)(e:Bo S w S' w'):Am S' w' (E3 β k i) (L6 k x) v:=by
 unfold L6;split
 ·exact .undef v
 ·rename_i E;refine h.ext e fun j J=>Jk ?_;intro I;subst I;exact E J
theorem Dh.Qu {S S':Nat→Prop} {w w':World} {i I:BI} (h:Dh S w β I c)(e:Bo S w S' w')
  (E:∀b,I.base=some b→w'.heap[b]? = w.heap[b]?):Dh S' w' (E3 β k i) I (c.Qu k):=by
 cases c with
 |cells cs =>obtain⟨b,ty,vs,L,O,U⟩:=h;refine⟨b,ty,vs,L,(E b L).trans O,U.map (by simp) ?_⟩;intro j x y v R J hr;simp only [D3,R,E8,Av] at J;subst J;exact hr.Qu e
 |rows sz rs=>exact Dh.ext (c:=.rows sz rs) h e E (by simp [Ar.has])
 |map kvs=>exact Dh.ext (c:=.map kvs) h e E (by simp [Ar.has])
 |iter kvs seen=>exact Dh.ext (c:=.iter kvs seen) h e E (by simp [Ar.has])
 |ghost Y st=>exact h
variable {C:Ctx} {S:Nat→Prop}
theorem Inv.A6a {w w':World} {k b:Nat} {x c:Ar} (h:Inv C S w β bx)(U:(k,x)∈bx)(hb:(β k).base=some b)
  (hw:∀I,I≠b→w'.heap[I]? = w.heap[I]?) (Z:w'.os=w.os) (O:w'.tape=w.tape) (W:w'.output=w.output) (Ms:w'.heap.size=w.heap.size)
  (hc:Dh S w' β (β k) c) (a0:c.real=true:=by rfl):Inv C S w' β ((k,c)::C3 k bx)∧Bo S w S w':=by
 have e:Bo S w S w':=⟨fun _ h=>h,fun I E=>hw I fun V=>(h.B8 k x U b hb).1 (V ▸ E)⟩;refine⟨h.step e (fun I E=>.inl E) (fun I E=>by rw [Ms];exact h.Bi I E) (fun I _ hn=>hw I fun V=>hn k x U (by rw [hb,V])) Z O W (by omega) ?_ ?_ (fun _ _=>rfl) ?_,e⟩
 ·intro j d hj;simp only [As,Df] at hj;rcases hj with ⟨rfl,rfl⟩| hj
  ·refine⟨hc,fun I E=>?_⟩;obtain⟨h1,h2,_⟩:=h.B8 _ x U I E;exact⟨h1,by omega,.inr ⟨_,x,U,E⟩⟩
  ·obtain⟨J,hj⟩:=Dq.1 hj;refine⟨(h.box j d hj).ext e (fun I E=>hw I fun V=>J (h.inj j d k x hj U I E (by rw [hb,V])).1) (fun _ _=>rfl),fun I E=>?_⟩;obtain⟨h1,h2,_⟩:=h.B8 j d hj I E;exact⟨h1,by omega,.inr ⟨_,d,hj,E⟩⟩
 ·intro j d j' d' hj hj' I R L;simp only [As,Df] at hj hj';rcases hj with ⟨rfl,rfl⟩| hj
  ·rcases hj' with ⟨rfl,rfl⟩| hj'
   ·exact⟨rfl,rfl⟩
   ·obtain⟨J,hj'⟩:=Dq.1 hj';exact absurd (h.inj j' d' _ x hj' U I L R).1 J
  ·obtain⟨J,g⟩:=Dq.1 hj;clear hj;rcases hj' with ⟨rfl,rfl⟩| hj'
   ·exact absurd (h.inj j d _ x g U I R L).1 J
   ·obtain⟨a1,g'⟩:=Dq.1 hj';exact h.inj j d j' d' g g' I R L
 ·intro j Y st hj;simp only [As,Df] at hj;rcases hj with ⟨rfl,rfl⟩| hj
  ·simp [Ar.real] at a0
  ·exact (Dq.1 hj).2
theorem Inv.D2f {S S':Nat→Prop} {w w':World} (i:BI)(h:Inv C S w β bx)(a':k≤999999)
  (a0:∀b,S b→S' b) (a2:∀b,S' b→S b∨w.heap.size≤b) (a8:∀b,S' b→b < w'.heap.size)
  (hi:∀b,i.base=some b→¬S' b∧b < w'.heap.size∧(w.heap.size≤b∨∃x,(k,x)∈bx∧(β k).base=some b))
  (hw:∀E,E < w.heap.size→(∀x,(k,x)∈bx→(β k).base≠some E)→w'.heap[E]? = w.heap[E]?)
  (a3:w'.os=w.os) (V:w'.tape=w.tape) (Z:w'.output=w.output) (Ms:w.heap.size≤w'.heap.size)
  (hc:Bo S w S' w'→Dh S' w' (E3 β k i) i c) (a7:c.real=true:=by rfl):Inv C S' w' (E3 β k i) ((k,c)::H7 k (C3 k bx))∧Bo S w S' w':=by
 have e:Bo S w S' w':=⟨a0,fun E I=>hw E (h.Bi E I) fun x R he=>(h.B8 k x R E he).1 I⟩;refine⟨h.step e a2 a8 (fun E hb hn=>hw E hb fun x R=>hn k x R) a3 V Z Ms ?_ ?_ (fun j hj=>Jk (by omega)) ?_,e⟩
 ·intro j d hj;simp only [As,Df] at hj;rcases hj with ⟨rfl,rfl⟩| hj
  ·rw [G8];refine⟨hc e,fun E I=>?_⟩;obtain⟨W,h2,h3⟩:=hi E I;refine⟨W,h2,?_⟩;rcases h3 with h3| ⟨x,R,a5⟩
   ·exact .inl h3
   ·exact .inr ⟨_,x,R,a5⟩
  ·obtain⟨x,U,rfl⟩:=A7p hj;obtain⟨J,g⟩:=Dq.1 U;rw [Jk J];refine⟨(h.box j x g).Qu e (fun E I=>hw E (h.B8 j x g E I).2.1 fun y hy he=>J (h.inj j x k y g hy E I he).1),fun E I=>?_⟩;obtain⟨W,h2,_⟩:=h.B8 j x g E I;exact⟨fun hs=>(a2 E hs).elim W (by omega),by omega,.inr ⟨_,x,g,I⟩⟩
 ·have fresh:∀j x E,j≠k→(j,x)∈bx→(β j).base=some E→i.base≠some E:=by
   intro j x E J hj I a4;rcases (hi E a4).2.2 with h3| ⟨y,hy,a6⟩
   ·have:=(h.B8 j x hj E I).2.1;omega
   ·exact J (h.inj j x k y hj hy E I a6).1
  intro j d j' d' hj hj' E O L;simp only [As,Df] at hj hj';rcases hj with ⟨rfl,rfl⟩| hj
  ·rcases hj' with ⟨rfl,rfl⟩| hj'
   ·exact⟨rfl,rfl⟩
   ·obtain⟨x,U,rfl⟩:=A7p hj';obtain⟨J,g⟩:=Dq.1 U;rw [G8] at O;rw [Jk J] at L;exact absurd O (fresh j' x E J g L)
  ·obtain⟨x,U,rfl⟩:=A7p hj;obtain⟨J,g⟩:=Dq.1 U;clear hj U;rw [Jk J] at O;rcases hj' with ⟨rfl,rfl⟩| hj'
   ·rw [G8] at L;exact absurd L (fresh j x E J g O)
   ·obtain⟨x',a9,rfl⟩:=A7p hj';obtain⟨a1,g'⟩:=Dq.1 a9;rw [Jk a1] at L;obtain⟨W,h2⟩:=h.inj j x j' x' g g' E O L;exact⟨W,by rw [h2]⟩
 ·intro j Y st hj;simp only [As,Df] at hj;rcases hj with ⟨rfl,rfl⟩| hj
  ·simp [Ar.real] at a7
  ·obtain⟨x,U,R⟩:=A7p hj;cases x <;> simp only [Ar.Qu,reduceCtorEq] at R;rw [R];exact (Dq.1 U).2
theorem Inv.Vo {w w':World} (i:BI)(h:Inv C S w β bx)(R:k≤999999)
  (V:∀b,i.base=some b→¬S b∧b < w'.heap.size∧(w.heap.size≤b∨∃x,(k,x)∈bx∧(β k).base=some b))
  (U:∀J,J < w.heap.size→(∀x,(k,x)∈bx→(β k).base≠some J)→w'.heap[J]? = w.heap[J]?)
  (L:w'.os=w.os) (E:w'.tape=w.tape) (I:w'.output=w.output) (Ms:w.heap.size≤w'.heap.size)
  (W:Bo S w S w'→Dh S w' (E3 β k i) i c) (O:c.real=true:=by rfl):Inv C S w' (E3 β k i) ((k,c)::H7 k (C3 k bx))∧Bo S w S w' :=
 h.D2f i R (fun _ h=>h) (fun _ h=>.inl h) (fun b Z=>Wj (h.Bi b Z) Ms) V U L E I Ms W O
def Qb:Value→SV
 |.int k n=>.d (.int k n)
 |.bool b=>.d (.bool b)
 |.string s=>if s.size≤lim then .d (.str s.data.toList) else .undef
 |.slice none 0 0=>.d .nil
 |.pointer none=>.d .Lb
 |.map none=>.d .M6
 |.nilIface=>.d .J3
 |.nilFunc=>.d .Kz
 |_=>.undef
def A4f:List SV→List SV→SV
 |[],l=>.agg l
 |c::r,l=>match c.one with
  |true=>A4f r l
  |false=>.undef
def Kc:Value→SV
 |.int k n=>.d (.int k n)
 |.bool b=>.d (.bool b)
 |.string s=>if s.size≤lim then .d (.str s.data.toList) else .undef
 |.slice none 0 0=>.d .nil
 |.pointer none=>.d .Lb
 |.map none=>.d .M6
 |.nilIface=>.d .J3
 |.nilFunc=>.d .Kz
 |.tuple ⟨[]⟩=>.tuple []
 |.agg cells=>A4f (cells.toList.map Qb) (cells.toList.map Qb)
 |_=>.undef
theorem F1d (S:Nat→Prop)(w:World) (β:Names)(v:Value):Am S w β (Qb v) v:=by
 unfold Qb;split
 ·exact .int _ _
 ·exact .bool _
 ·rename_i s;split
  ·exact .d _ _ (.str s.data.toList (by assumption))
  ·exact .undef _
 ·exact .d _ _ .nil
 ·exact .d _ _ .Lb
 ·exact .d _ _ .M6
 ·exact .d _ _ .J3
 ·exact .d _ _ .Kz
 ·exact .undef _
theorem C5x:∀cs l:List SV,A4f cs l=.undef∨(A4f cs l=.agg l∧∀c,c∈cs→c.one=true)
 |[],l=>.inr ⟨rfl,by simp⟩
 |c::r,l=>by
  rw [A4f];cases E:c.one with
  |false=>exact .inl rfl
  |true =>
   rcases C5x r l with h| ⟨h,I⟩
   ·exact .inl h
   ·exact .inr ⟨h,fun x J=>(As.1 J).elim (fun e=>e ▸ E) (I x)⟩
theorem A3c (S:Nat→Prop)(w:World) (β:Names)(v:Value):Am S w β (Kc v) v:=by
 unfold Kc;split
 ·exact .int _ _
 ·exact .bool _
 ·rename_i s;split
  ·exact .d _ _ (.str s.data.toList (by assumption))
  ·exact .undef _
 ·exact .d _ _ .nil
 ·exact .d _ _ .Lb
 ·exact .d _ _ .M6
 ·exact .d _ _ .J3
 ·exact .d _ _ .Kz
 ·exact .tuple [] [] rfl (by simp)
 ·rename_i cells;rcases C5x (cells.toList.map Qb) (cells.toList.map Qb) with h| ⟨h,J⟩
  ·rw [h];exact .undef _
  ·rw [h];obtain⟨vs⟩:=cells;refine .agg _ vs (by simp) J fun j c v E I=>?_;simp only [D3] at E;rw [I] at E;cases E;exact F1d S w β v
 ·exact .undef _
def Cj (P:Program)(T:TypeId):Option (List SV):=((P.info? T).bind (·.zero)).map fun z=>z.cells.toList.map Kc
theorem B5w {T:TypeId} {J:List SV} (h:Cj P T=some J)(w:World):∃z,(zeroValue T).run P w=.ok z w∧J=z.cells.toList.map Kc:=by
 unfold Cj at h;cases E:P.info? T with
 |none=>simp [E] at h
 |some i =>
  cases I:i.zero with
  |none=>simp [E,I] at h
  |some z =>simp [E,I] at h;exact⟨z,by simp [zeroValue,typeInfo,E,I],h.symm⟩
theorem C8q (S:Nat→Prop)(w:World) (β:Names)(vs:List Value):Bm S w β (vs.map Kc) vs:=by refine⟨by simp,?_⟩;intro j c v E I;simp [I] at E;subst E;exact A3c S w β v
theorem B5t (w:World)(x:Obj) {b:Nat} (h:b < w.heap.size):(w.heap.push x)[b]? = w.heap[b]?:=by rw [Av1,A6 (by omega)]
theorem C0m (w:World)(x:Obj):(w.heap.push x)[w.heap.size]? = some x:=by simp
variable {w:World} {cs:List SV} {vs:List Value}
theorem Inv.D8y (h:Inv C S w β bx)(E:k≤999999)(T:TypeId)(hr:Bm S w β cs vs) :
  Inv C S { w with heap:=w.heap.push (.cells ⟨vs⟩ T) } (E3 β k { base:=some w.heap.size }) ((k,.cells (cs.map (L6 k)))::H7 k (C3 k bx))∧Bo S w S { w with heap:=w.heap.push (.cells ⟨vs⟩ T) }:=by
 refine h.Vo { base:=some w.heap.size } E ?_ ?_ rfl rfl rfl (by simp) ?_
 ·intro b O;simp only [Av] at O;subst O;exact⟨fun hs=>by have:=h.Bi _ hs;omega,by simp,.inl (Cq _)⟩
 ·intro U I _;exact B5t w _ I
 ·intro e;refine⟨w.heap.size,T,vs,rfl,C0m w _,hr.map (by simp) ?_⟩;intro j x y v R L J;simp only [D3,R,E8,Av] at L;subst L;exact J.Qu e
theorem G0o {T k:Nat} (I:k≤999999)(R:o.op=.alloc T) {J:List SV} (V:Cj P T=some J) :
  Bt P o ρ bx (.box k 0) ((k,.cells (J.map (L6 k)))::H7 k (C3 k bx)) [k]:=by
 intro C S w β a O Z;obtain⟨z,E,rfl⟩:=B5w V w;obtain⟨W,L⟩:=O.D8y (k:=k) I T (C8q S w β z.cells.toList);refine He ?_;unfold Oper.wp;have:(execOp a.eval o).run P w=.ok (.value (.pointer (some ⟨w.heap.size,0,none⟩))) { w with heap:=w.heap.push (.cells ⟨z.cells.toList⟩ T) }:=by simp [execOp,R,Instr.alloc,E,newVar,newRow]
 rw [this];exact⟨_,S,_,rfl,W,L,.box k 0 _ (by rw [G8]),fun j U=>Jk (by simpa using U)⟩
def content:SV→Option (List SV)
 |.agg cs=>some cs
 |x=>if x.one then some [x] else none
theorem Am.content {x:SV} {v:Value} (h:Am S w β x v)(E:content x=some cs):Bm S w β cs v.cells.toList∧cs.all SV.one=true:=by
 cases h with
 |agg cells vs I J L =>simp only [Abs.content,Av] at E;subst E;exact⟨⟨I,L⟩,Cf.2 J⟩
 |undef v=>simp [Abs.content,SV.one] at E
 |tuple cells vs=>simp [Abs.content,SV.one] at E
 |d x v h =>
  simp only [Abs.content] at E;by_cases R:(SV.d x).one=true
  ·rw [A8 R] at E;simp only [Av] at E;subst E;have I:=h.one R;have:v.cells.toList=[v]:=by cases v <;> simp [Value.oneCell'] at I <;> rfl
   rw [this];exact⟨.cons (.d _ _ h) .nil,by simp [R]⟩
  ·rw [A6 R] at E;simp at E
 |box k off b O=>simp only [Abs.content,SV.one,Af,Av] at E;subst E;exact⟨.cons (.box k off b O) .nil,rfl⟩
 |Ag cells off b base I J L U=>simp only [Abs.content,SV.one,Af,Av] at E;subst E;exact⟨.cons (.Ag cells off b base I J L U) .nil,rfl⟩
 |acc k=>simp only [Abs.content,SV.one,Af,Av] at E;subst E;exact⟨.cons (.acc k) .nil,rfl⟩
 |Eb k i off b O=>simp only [Abs.content,SV.one,Af,Av] at E;subst E;exact⟨.cons (.Eb k i off b O) .nil,rfl⟩
 |mp k b O=>simp only [Abs.content,SV.one,Af,Av] at E;subst E;exact⟨.cons (.mp k b O) .nil,rfl⟩
 |Fm l=>simp only [Abs.content,SV.one,Af,Av] at E;subst E;exact⟨.cons (.Fm l) .nil,rfl⟩
 |Fh cells off b I J L U=>simp only [Abs.content,SV.one,Af,Av] at E;subst E;exact⟨.cons (.Fh cells off b I J L U) .nil,rfl⟩
 |Bf f caps vs I J=>simp only [Abs.content,SV.one,Af,Av] at E;subst E;exact⟨.cons (.Bf f caps vs I J) .nil,rfl⟩
theorem E6t {T k:Nat} {x:Operand} (E:k≤999999)(I:o.op=.box T x) {cs:List SV} (O:content (ρ x)=some cs) :
  Bt P o ρ bx (.box k 0) ((k,.cells (cs.map (L6 k)))::H7 k (C3 k bx)) [k]:=by
 intro C S w β a R L;have hr:=(((L x (mC I))).content O).1;obtain⟨V,J⟩:=R.D8y (k:=k) E T hr;refine He ?_;unfold Oper.wp;have:(execOp a.eval o).run P w=.ok (.value (.pointer (some ⟨w.heap.size,0,none⟩))) { w with heap:=w.heap.push (.cells ⟨(a.eval x).cells.toList⟩ T) }:=by simp [execOp,I,Instr.box,newVar,newRow]
 rw [this];exact⟨_,S,_,rfl,V,J,.box k 0 _ (by rw [G8]),fun j U=>Jk (by simpa using U)⟩
def Gs {α:Type}:List α→Nat→List α→List α
 |cs,_,[]=>cs
 |cs,off,u::us=>Gs (cs.set off u) (off+1) us
theorem A4h {α:Type} :∀(us:List α)(cs:List α)(off:Nat),(Gs cs off us).length=cs.length
 |[],_,_=>rfl
 |u::us,cs,off=>by simp [Gs,A4h us]
theorem Zv {α:Type} :∀(us:List α)(cs:List α)(off j:Nat),off+us.length≤cs.length→(Gs cs off us)[j]? = if off≤j∧j < off+us.length then us[j - off]? else cs[j]?
 |[],cs,off,j,_=>by simp only [Gs,Ch,Q6];rw [A6 (by omega)]
 |u::us,cs,off,j,h=>by
  simp only [Bg] at h;simp only [Gs,Bg];rw [Zv us (cs.set off u) (off+1) j (by simp;omega)];by_cases I:j=off
  ·subst I;rw [A6 (by omega),A8 (by omega)];simp [Am6,show j < cs.length by omega]
  ·by_cases E:off+1≤j∧j < off+1+us.length
   ·rw [A8 E,A8 (by omega)];rw [show j - off=(j - (off+1))+1 by omega,Ny]
   ·rw [A6 E,A6 (by omega),Ar5 (by omega)]
theorem Bm.Gs {cs us:List SV} {vs L:List Value} (h:Bm S w β cs vs)(t:Bm S w β us L) {off:Nat} (J:off+us.length≤cs.length) :
  Bm S w β (Gs cs off us) (Gs vs off L):=by
 refine⟨by rw [A4h,A4h,h.1],?_⟩;intro j c v I E;rw [Zv _ _ _ _ J] at I;rw [Zv _ _ _ _ (by rw [t.1,h.1];exact J)] at E;rw [t.1] at E;split at I
 ·rw [A8 (by assumption)] at E;exact t.2 _ c v I E
 ·rw [A6 (by assumption)] at E;exact h.2 _ c v I E
theorem G2k {b p:Nat} {ty:TypeId} {E:Nat × Nat} {v:Value} (h:w.heap[b]? = some (.cells ⟨vs⟩ ty E)) :
  (w.setCell ⟨b,p,none⟩ v).heap[b]? = some (.cells ⟨vs.set p v⟩ ty E):=by
 simp only [World.setCell,Xx,Af,h,E8,L7,Hh,Et];simp
theorem B1e:∀(us vs:List Value)(b off i:Nat)(ty:TypeId)(w:World),w.heap[b]? = some (.cells ⟨vs⟩ ty (0,0))→off+i+us.length≤vs.length→us.all (·.oneCell')=true →
  ∃w',(storeCells ⟨b,off,none⟩ us i).run P w=.ok () w'∧w'.heap[b]? = some (.cells ⟨Gs vs (off+i) us⟩ ty (0,0))∧(∀L,L≠b→w'.heap[L]? = w.heap[L]?) ∧
   w'.os=w.os∧w'.tape=w.tape∧w'.output=w.output∧w'.heap.size=w.heap.size
 |[],vs,b,off,i,ty,w,J,_,_=>⟨w,by simp [storeCells],J,fun _ _=>rfl,rfl,rfl,rfl,rfl⟩
 |u::us,vs,b,off,i,ty,w,J,V,U=>by
  simp only [Bg] at V;simp only [Na,B1] at U;have E:w.cell? ⟨b,off+i,none⟩=some (vs[off+i]'(by omega)):=by rw [cells_of_row J];simp
  have R:w.frozen? ⟨b,off+i,none⟩=false:=by simp [World.frozen?,J]
  have O:(store ((⟨b,off,none⟩:Addr).add i) u).run P w=Result.ok () (w.setCell ⟨b,off+i,none⟩ u):=by rw [Xk,run_store P w _ u _ U.1,E,R];simp
  obtain⟨w',hr,g1,g2,W,g4,g5,Z⟩:=B1e us (vs.set (off+i) u) b off (i+1) ty (w.setCell ⟨b,off+i,none⟩ u) (G2k J) (by simp;omega) U.2;refine⟨w',?_,?_,?_,by simpa [World.setCell] using W,by simpa [World.setCell] using g4,by simpa [World.setCell] using g5,by simpa using Z⟩
  ·simp only [storeCells,Hu];rw [O];exact hr
  ·rw [g1];simp only [Gs];rw [Mh]
  ·intro L I;rw [g2 L I,heap_setCell_other _ _ _ _ (by simpa using I)]
theorem Bm.one (h:Bm S w β cs vs)(L:cs.all SV.one=true):vs.all (·.oneCell')=true:=by
 rw [Cf];intro v J;obtain⟨j,I⟩:=Nt.1 J;have E:j < cs.length:=by have:=(Ay.1 I).1;have:=h.1;omega
 exact (h.2 j _ v (Ba E) I).one (Cf.1 L _ (F7 E))
theorem F5m {T k off:Nat} {x y:Operand} (ho:o.op=.store T x y) {cs us:List SV} (hx:ρ x=.box k off)(hb:(k,Ar.cells cs)∈bx)(hy:content (ρ y)=some us)
  (hs:Bs P T=some us.length) (hl:off+us.length≤cs.length):Bt P o ρ bx (.tuple []) ((k,.cells (Gs cs off us))::C3 k bx) []:=by
 intro C S w β a Z ha;have U:=(ha x (mC ho));rw [hx] at U;obtain⟨b,E,hv⟩:=U.B3s;obtain⟨b',ty,vs,I,hh,hr⟩:=Z.box k _ hb;rw [E] at I;cases I;obtain⟨J,O⟩:=((ha y (mC ho))).content hy;have R:=J.1;have W:=hr.1;obtain⟨w',L,g1,g2,g3,g4,g5,g6⟩:=B1e (P:=P) (a.eval y).cells.toList vs b off 0 ty w hh (by omega) (J.one O);have e0:Bo S w S w':=⟨fun _ h=>h,fun b' I=>g2 b' fun he=>(Z.B8 k _ hb b E).1 (he ▸ I)⟩;obtain⟨h1,h2⟩:=Z.A6a (c:=.cells (Gs cs off us)) hb E g2 g3 g4 g5 g6 (by refine⟨b,ty,_,E,by simpa using g1,?_⟩;exact⟨(hr.Gs J hl).1,fun j c v hc hv=>((hr.Gs J hl).2 j c v hc hv).ext e0 fun _ _=>rfl⟩)
 refine He ?_;unfold Oper.wp;have:(execOp a.eval o).run P w=.ok .skip w':=by
  have V:(a.eval y).cells.size=us.length:=by rw [←R];simp
  simp [execOp,ho,Instr.storeAt,hv,Instr.sureAddr,storeVar,Ra hs,V,L]
 rw [this];exact⟨undef,S,β,rfl,h1,h2,.tuple [] [] rfl (by simp),fun _ _=>rfl⟩
theorem F3e {T k i off sz:Nat} {x y:Operand} (ho:o.op=.store T x y) {rows:List (List D)} {row us:List D} (hx:ρ x=.Eb k i off)(hb:(k,Ar.rows sz rows)∈bx)
  (hr:rows[i]? = some row) (hy:content (ρ y)=some (us.map SV.d)) (hs:Bs P T=some us.length) (hl:off+us.length≤row.length) :
  Bt P o ρ bx (.tuple []) ((k,.rows sz (rows.set i (Gs row off us)))::C3 k bx) []:=by
 intro C S w β a hi ha;have Z:=(ha x (mC ho));rw [hx] at Z;obtain⟨q1,q2,q3,q4,q5,q6,q7⟩:=hi.box k _ hb;obtain⟨W,L⟩:=((ha y (mC ho))).content hy;have O:=W.1;simp only [B6] at O;have a6:=(Ay.1 hr).1;have a1:=q5 row (Bx hr);generalize hv:a.eval x=v at Z;cases Z with
 |Eb _ _ _ b E =>
  rw [E] at q7;obtain⟨ty,vs,hh,a3,R⟩:=q7;rw [q1] at hv;have a8:((β k).off+i)*sz+off+us.length≤vs.length:=by have h1:((β k).off+i+1)*sz≤((β k).off+(β k).cap)*sz:=H4 _ (by omega);rw [Ei _ 1] at h1;omega
  obtain⟨w',a2,g1,g2,g3,g4,g5,g6⟩:=B1e (P:=P) (a.eval y).cells.toList vs b (((β k).off+i)*sz+off) 0 ty w hh (by omega) (W.one L);have e0:Bo S w S w':=⟨fun _ h=>h,fun b' a4=>g2 b' fun he=>(hi.B8 k _ hb b E).1 (he ▸ a4)⟩;obtain⟨h1,h2⟩:=hi.A6a (c:=.rows sz (rows.set i (Gs row off us))) hb E g2 g3 g4 g5 g6 (by
   refine⟨q1,by simpa using q2,q3,by simpa using q4,?_,?_,?_⟩
   ·intro r I;rcases Ar8 I with h| h
    ·exact q5 r h
    ·subst h;rw [A4h];exact a1
   ·intro r I d hd;rcases Ar8 I with h| h
    ·exact q6 r h d hd
    ·subst h;obtain⟨j,V⟩:=Nt.1 hd;rw [Zv _ _ _ _ hl] at V;split at V
     ·have:=Cf.1 L (.d d) (Ax.2 ⟨d,Bx V,rfl⟩);simpa [SV.one] using this
     ·exact q6 row (Bx hr) d (Bx V)
   ·rw [E];refine⟨ty,_,by simpa using g1,by rw [A4h];exact a3,?_⟩;intro r j J d u I hd U;rw [Zv _ _ _ _ (by omega)] at U;by_cases a0:i=r
    ·subst a0;simp only [Am6,a6,Af,Av] at I;subst I;rw [Zv _ _ _ _ hl] at hd;by_cases V:off≤j∧j < off+us.length
     ·rw [A8 V] at hd;rw [A8 (by omega)] at U;have:=W.2 (j - off) (.d d) u (by simp [hd]) (by rw [show j - off=((β k).off+i)*sz+j - (((β k).off+i)*sz+off+0) by omega];exact U);exact this.Gp.ext e0
     ·rw [A6 V] at hd;rw [A6 (by omega)] at U;exact (R i j row d u hr hd U).ext e0
    ·rw [Ar5 a0] at I;have a7:j < sz:=by
      have:=(Ay.1 hd).1;have:=q5 J (Bx I);omega
     rw [A6 (by
      intro a9;rcases Nat.lt_or_ge r i with a' | hge
      ·have:((β k).off+r+1)*sz≤((β k).off+i)*sz:=H4 _ (by omega);rw [Ei _ 1] at this;omega
      ·have:((β k).off+i+1)*sz≤((β k).off+r)*sz:=H4 _ (by omega);rw [Ei _ 1] at this;omega)] at U
     exact (R r j J d u I hd U).ext e0)
  refine He ?_;unfold Oper.wp;have:(execOp a.eval o).run P w=.ok .skip w':=by
   have a5:(a.eval y).cells.size=us.length:=by rw [←O];simp
   simp [execOp,ho,Instr.storeAt,hv,Instr.sureAddr,storeVar,Ra hs,a5,a2]
  rw [this];exact⟨undef,S,β,rfl,h1,h2,.tuple [] [] rfl (by simp),fun _ _=>rfl⟩
end Go.Abs
namespace Go.Abs
open Go
variable {P:Program} {o:Oper} {ρ:Hq} {bx:Ab}
def A8v (P:Program):List Field→Option (List (Nat × Nat))
 |[]=>some []
 |f::fs=>match Bs P f.type with
  |some n=>(A8v P fs).map ((f.offset,n)::·)
  |none=>none
def L0 (P:Program)(T:TypeId):Option (List (Nat × Nat)) :=
 match P.underlying T with
 |some (.struct fs)=>A8v P fs.toList
 |_=>none
theorem run_places:∀(fs:List Field)(ps:List (Nat × Nat)),A8v P fs=some ps→∀w:World,(fs.mapM (fun f=>do pure (f.offset,←sizeOf f.type):Field→Sem (Nat × Nat))).run P w=.ok ps w
 |[],ps,h,w=>by simp only [A8v,Av] at h;subst h;rfl
 |f::fs,ps,h,w=>by
  simp only [A8v] at h;cases E:Bs P f.type with
  |none=>simp [E] at h
  |some n =>simp only [E,Ij] at h;obtain⟨J,I,rfl⟩:=h;have:=run_places fs J I w;simp only [Av8,Hu,Ra E,H8,Kp,this]
def A0i (ps:List (Nat × Nat))(cells:List SV):List (Nat × List SV)→Option (List SV)
 |[]=>some cells
 |(i,us)::r=>match ps[i]? with
  |none=>none
  |some (off,size)=>if us.length=size∧off+size≤cells.length then A0i ps (Gs cells off us) r else none
theorem C5n:∀(us vs:List Value)(off:Nat)(n:Nat),((us.zipIdx n).foldl (fun (cs:Array Value)(x:Value × Nat)=>cs.setIfInBounds (off+x.2) x.1) ⟨vs⟩)=⟨Gs vs (off+n) us⟩
 |[],vs,off,n=>by simp [Gs]
 |u::us,vs,off,n=>by
  simp only [Aw3,Li,Gs];have:=C5n us (vs.set (off+n) u) off (n+1);rw [←Mh] at this;rw [←this]
  congr 1
  simp
theorem D0e {S:Nat→Prop} {w:World} {β:Names} (I:Nat→Option (Nat × Nat))(ps:List (Nat × Nat)) :
  ∀(parts:List (Nat × List SV)) (E:List (Nat × Value)) (cells out:List SV) (vs:List Value),Bm S w β cells vs→(∀(i:Nat) (q:Nat × Nat),ps[i]? = some q→I i=some q) →
   parts.length=E.length→(∀(j:Nat) (p:Nat × List SV) (q:Nat × Value),parts[j]? = some p→E[j]? = some q→q.1=p.1∧Bm S w β p.2 q.2.cells.toList) →
   A0i ps cells parts=some out→∃V:List Value,Instr.fill I ⟨vs⟩ E=some ⟨V⟩∧Bm S w β out V
 |[],E,cells,out,vs,h,O,L,hr,J=>by
  simp only [A0i,Av] at J;subst J;have:E=[]:=by cases E <;> simp at L;rfl
  subst this;exact⟨vs,rfl,h⟩
 |(i,us)::parts,E,cells,out,vs,h,O,L,hr,J=>by
  cases E with
  |nil=>simp at L
  |cons q E =>
   simp only [Bg,Nat.add_right_cancel_iff] at L;obtain⟨h1,U⟩:=hr 0 (i,us) q rfl rfl;simp only [A0i] at J;cases R:ps[i]? with
   |none=>simp [R] at J
   |some pr =>
    obtain⟨off,size⟩:=pr;simp only [R] at J;split at J
    ·rename_i hc;have Z:q.2.cells.size=us.length:=by have:=U.1;simpa using this
     have a0:=h.1;simp only at h1 U;obtain⟨V,g1,g2⟩:=D0e I ps parts E _ out _ (h.Gs U (off:=off) (by omega)) O L (fun j p q O R=>hr (j+1) p q O R) J;refine⟨V,?_,g2⟩;obtain⟨qi,W⟩:=q;simp only at h1 U Z;subst h1;simp only [Instr.fill,O _ _ R];rw [A6 (by simp only [ne_eq,Ta,D8,Nb];simp;omega)];have:=C5n W.cells.toList vs off 0;simp only [Q6] at this;have e:W.cells.toList.zipIdx=W.cells.zipIdx.toList:=by simp
     rw [e,Array.foldl_toList] at this;rw [←g1,←this]
    ·simp at J
def Yi (ρ:Hq):List (Nat × Operand)→Option (List (Nat × List SV))
 |[]=>some []
 |(i,x)::r=>match content (ρ x),Yi ρ r with
  |some c,some l=>some ((i,c)::l)
  |_,_=>none
theorem D4w {S:Nat→Prop} {w:World} {β:Names} {a:Act}:∀(parts:List (Nat × Operand))(l:List (Nat × List SV)),(∀p,p∈parts→Am S w β (ρ p.2) (a.eval p.2))→Yi ρ parts=some l →
  l.length=(parts.map fun p=>(p.1,a.eval p.2)).length∧(∀(j:Nat) (p:Nat × List SV) (q:Nat × Value),l[j]? = some p→(parts.map fun p=>(p.1,a.eval p.2))[j]? = some q→q.1=p.1∧Bm S w β p.2 q.2.cells.toList) ∧
  ∀p,p∈l→p.2.all SV.one=true
 |[],l,_,h=>by simp only [Yi,Av] at h;subst h;simp
 |(i,x)::r,l,L,h=>by
  simp only [Yi] at h;cases E:content (ρ x) with
  |none=>simp [E] at h
  |some c =>
   cases I:Yi ρ r with
   |none=>simp [E,I] at h
   |some m =>
    simp only [E,I,Av] at h;subst h;obtain⟨W,O,R⟩:=D4w r m (fun p hp=>L p (by simp [hp])) I;obtain⟨U,V⟩:=(L (i,x) (by simp)).content E;refine⟨by simpa using W,?_,?_⟩
    ·intro j p q hp J;cases j with
     |zero=>simp at hp J;subst hp;subst J;exact⟨rfl,U⟩
     |succ j=>exact O j p q (by simpa using hp) (by simpa using J)
    ·intro p hp;simp only [As] at hp;rcases hp with rfl| hp
     ·exact V
     ·exact R p hp
theorem F1r {T:TypeId} {parts:Array (Nat × Operand)} (U:o.op=.build T parts) {V:List SV} {ps:List (Nat × Nat)} {l:List (Nat × List SV)} {out:List SV}
  (hz:Cj P T=some V) (E:L0 P T=some ps) (hl:Yi ρ parts.toList=some l) (hf:A0i ps V l=some out) (h1:out.all SV.one=true):Bt P o ρ bx (.agg out) bx [] :=
 .Ef fun _ S w β a _ ha=>by
  obtain⟨z,I,rfl⟩:=B5w hz w;unfold L0 at E;cases J:P.underlying T with
  |none=>simp [J] at E
  |some d =>
   rw [J] at E;cases d <;> simp only [reduceCtorEq] at E;rename_i fs;obtain⟨g1,Z,_⟩:=D4w parts.toList l (fun p E=>ha p.2 (mo U (by simp only [Op.operands,Aw2,Ax];exact⟨p,E,rfl⟩))) hl;obtain⟨R,q1,q2⟩:=D0e (fun i=>(ps.toArray)[i]?) ps l (parts.toList.map fun p=>(p.1,a.eval p.2)) _ out _ (C8q S w β z.cells.toList) (fun i q hq=>by simpa using hq) g1 Z hf;refine⟨.agg ⟨R⟩,?_,Am.A9t q2 h1⟩;have O:=run_places fs.toList ps E w;have W:(fs.mapM (fun f=>do pure (f.offset,←sizeOf f.type):Field→Sem (Nat × Nat))).run P w=.ok ps.toArray w:=by rw [Array.mapM_eq_mapM_toList,Sem.run_map,O];simp
   simp only [execOp,U,Instr.build,Hu,I,H8,underlying,run_program,J,Kp,W];have L:z.cells=⟨z.cells.toList⟩:=rfl;have:Instr.fill (fun x=>ps.toArray[x]?) z.cells (Array.map (fun x=>(x.fst,a.eval x.snd)) parts).toList=some ⟨R⟩:=by rw [L,Ao9];exact q1
   simp only [this,Kp,H8]
end Go.Abs
