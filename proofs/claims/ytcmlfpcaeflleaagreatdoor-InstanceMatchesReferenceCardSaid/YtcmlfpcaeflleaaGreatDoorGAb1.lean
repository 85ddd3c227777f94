/- Data, abstract values, the operations that compute. Own framework. -/
import Derived.CallsIn
import Derived.Below
import Derived.Laws.Rows
import Derived.Laws.Cells
import Derived.Laws.World
import Derived.Laws.Append
import Derived.Orders
import Derived.Laws.Slices
import Derived.Laws.Strings
import Derived.Laws.Small
import Derived.Test.YtcmlfpcaeflleaaGreatDoorGTab
set_option linter.all false
namespace Go.Abs
open Go
def B5:=@List.getElem?_eq_some_iff
def B8:=@List.getElem?_eq_getElem
def B4:=@Option.some.injEq
def Aw:=@List.mem_cons
def Br:=@List.mem_of_getElem?
def Bc:=@Bool.and_eq_true
def Bz:=@List.length_append
def B3:=@Int.lt_irrefl
def A6:=@if_neg
def B1:=@List.mem_map
def Bn:=@List.length_map
def A9:=@if_pos
def C6:=@List.length_cons
def Bo:=@decide_eq_true
def Ae:=@if_true
def Ce:=@decide_eq_false
def Fb:=@Bool.eq_false_or_eq_true
def C9:=@Bool.false_and
def Da:=@decide_eq_true_eq
def Db:=@List.getElem?_map
def Bi:=@Nat.le_refl
def De:=@List.drop_length
def D2:=@List.mem_append
def Ge:=@List.drop_eq_getElem_cons
def Ck:=@List.map_cons
def Dm:=@List.take_length
def Dr:=@List.all_eq_true
def Cr:=@Bool.true_and
def Dx:=@List.length_take
def E1:=@Option.getD_some
def Dy:=@List.length_nil
def Ej:=@List.not_mem_nil
def Hm:=@List.getElem_cons_zero
def D3:=@Nat.le_trans
def Fa:=@List.getElem_mem
def Eu:=@Option.map_some
def Hh:=@List.mem_of_mem_take
def Ho:=@List.getElem_toArray
def Hz:=@List.getElem?_of_mem
def Jf:=@List.drop_eq_nil_of_le
def I9:=@Nat.mul_le_mul_right
def M5:=@List.getElem?_append_right
def Eo:=@Prod.mk.injEq
def Pa:=@List.eq_nil_of_length_eq_zero
def Ia:=@List.take_succ_cons
def Ls:=@List.getElem?_append_left
def Gz:=@Result.andThen_ok
def Kr:=@List.getElem_cons_succ
def I6:=@Bool.false_eq_true
def Hs:=@Int.toNat_natCast
def Gg:=@List.map_append
def J7:=@List.map_congr_left
def Nt:=@Array.getElem?_eq_getElem
def Fo:=@List.map_map
def N9:=@Option.map_eq_some_iff
def I8:=@List.append_nil
def Ky:=@Option.isSome_none
def N4:=@List.mem_iff_getElem?
def Qt:=@List.getElem?_cons_zero
def Ig:=@List.take_zero
def Jp:=@List.foldl_cons
def Rw:=@decide_eq_false_iff_not
def Uv:=@List.fst_mem_of_mem_zipIdx
def H5:=@Sem.run_bind
def M3:=@List.ext_getElem?
def M1:=@Bool.not_eq_true'
def Yk:=@List.take_succ_eq_append_getElem
def Kc:=@List.mem_filter
def Ld:=@Array.size_range
def Vd:=@Array.getElem?_eq_some_iff
def Gy:=@Nat.add_mul
def Hy:=@List.map_nil
def N6:=@List.append_assoc
def Ps:=@List.mem_singleton
def Ux:=@Option.isSome_iff_exists
def Ik:=@getElem!_pos
def Nh:=@Option.getD_none
def Eh:=@or_false
def Tq:=@Array.getElem?_modify
def Xo:=@List.getElem?_cons_succ
def Pb:=@Option.some.inj
def Vg:=@Array.getElem?_toList
def S5:=@Bool.not_eq_false'
def Ai3:=@List.findIdx?_eq_some_iff_getElem
def Qp:=@List.cons_append
def Us:=@Array.length_toList
def Kx:=@Sem.run_pure
def Uz:=@Bool.or_eq_false_iff
def Mi:=@List.sum_cons
def Ai9:=@Decidable.byContradiction
def Th:=@List.getElem?_drop
def Fy:=@if_false
def Z8:=@List.take_of_length_le
def J6:=@Array.ext'
def X3:=@List.mem_of_mem_drop
def Q3:=@List.foldl_nil
def Wf:=@List.mem_cons_of_mem
def Wu:=@List.getElem?_mapIdx
def Gk:=@congrArg
def R6:=@Oper.upon_enter
def Vr:=@Nat.lt_of_lt_of_le
def Z9:=@List.getElem?_eq_none
def Nd:=@Nat.zero_add
def Sj:=@List.cons.injEq
def Ak4:=@List.take_append_drop
def Ak5:=@Array.getElem?_append_left
def Yo:=@List.getElem?_range
def Ui:=@List.nodup_cons
def Ak8:=@MapKept.run_getObj_map
def Ro:=@List.all_cons
def Yy:=@List.pairwise_cons
def Vt:=@List.nil_append
def Am2:=@List.contains_iff_mem
def Am3:=@List.length_filter_le
def Mr:=@decide_not
def Am5:=@List.getElem?_zip_eq_some
def Am6:=@List.mem_of_find?_eq_some
def Am7:=@List.getElem?_take_of_lt
def Sx:=@Nat.add_zero
def Am9:=@UInt8.lt_iff_toNat_lt
def Wx:=@Bool.and_false
def An1:=@List.getElem?_take
def An2:=@Option.isSome_some
def Yj:=@Bool.or_eq_true
def Uu:=@Nat.mul_comm
def Up:=@Bool.true_or
def An6:=@Nat.mul_le_mul_left
def Wr:=@Nat.add_assoc
def Xt:=@run_underlying
def An9:=@World.alloc_eq
def Ws:=@Bool.false_or
def Ao1:=@List.pairwise_iff_getElem
def Ao2:=@List.findIdx?_eq_none_iff
def Ao3:=@List.length_zip
def Zx:=@UInt8.lt_irrefl
def Ao5:=@Array.toList_map
def H6:=@Or.inl
def Ao7:=@List.drop_zero
def Ao8:=@List.getElem?_set
def Ao9:=@Array.getD_eq_getD_getElem?
def Ap0:=@List.drop_succ_cons
def Ap1:=@List.sum_append
def Tu:=@beq_iff_eq
def Ap3:=@Nat.eq_zero_or_pos
def Ap4:=@Array.extract_size
def Ap5:=@List.filter_append
def X0:=@decide_true
def Ap7:=@List.pairwise_append
def Ap8:=@Option.map_none
def Ap9:=@List.nodup_append
def Aq0:=@List.all_nil
def Aq1:=@List.getElem!_eq_getElem?_getD
def Xr:=@Nat.one_mul
def Qi:=@true_and
def Aq4:=@List.length_eq_zero_iff
def Aq5:=@Array.toList_append
def Aq6:=@List.length_drop
def Aq7:=@List.range'_succ
def Aq8:=@List.filter_cons
def Aq9:=@List.mem_range
def Ar0:=@Nat.div_lt_iff_lt_mul
def Ar1:=@Bool.or_false
def Ar2:=@World.cells?_some
def Sh:=@and_true
def Zk:=@Nat.mod_lt
def Ar5:=@List.take_add_one
def Ar6:=@Option.bind_some
def Ar7:=@List.map_eq_nil_iff
def Ar8:=@decide_false
def Ar9:=@List.all_append
def Xw:=@wpIn_mono
def As1:=@List.filter_nil
def As2:=@List.mem_cons_self
def As3:=@List.of_mem_zip
def As4:=@Nat.zero_le
def As5:=@List.flatten_cons
def As6:=@Nat.sub_zero
def As7:=@List.eq_nil_iff_forall_not_mem
def As8:=@Nat.le_div_iff_mul_le
def As9:=@List.find?_eq_some_iff_getElem
def At0:=@List.mem_flatMap
def Um:=@Ne.symm
def At2:=@Callee.builtin.injEq
def At3:=@Nat.div_lt_of_lt_mul
def At4:=@List.getElem?_set_ne
def At5:=@List.mem_append_left
def At6:=@Bool.eq_iff_iff
def At7:=@List.find?_some
def At8:=@List.find?_cons
def At9:=@forall_const
def Au0:=@implies_true
def Au1:=@List.mem_or_eq_of_mem_set
def Au2:=@Bool.not_false
def Au3:=@not_true_eq_false
def Au4:=@MapKept.bytes_beq
def Au5:=@List.flatMap_cons
def Au6:=@Nat.lt_trichotomy
def Au7:=@Bool.not_true
def Au8:=@Bool.and_true
def Uh:=@not_or
def Av0:=@List.zipIdx_cons
def Av1:=@List.isEmpty_iff
def Av2:=@List.mapM_cons
abbrev A3:=List UInt8
def mkStr(s:A3):ByteArray:=⟨⟨s⟩⟩
def C9s(s:A3):(mkStr s).size=s.length:=rfl
def lim:Nat:=140737488355328
inductive D where
 |int (k:IntKind) (n:Int)
 |bool (b:Bool)
 |str (s:A3)
 |nil
 |emp
 |slice (rows:List (List D))
 |agg (cells:List D)
 |ptr (cells:List D)
 |Kt
 |map (kvs:List (D × D))
 |Jt
 |iface (t:TypeId) (x:D)
 |Jw
 |fn (f:FuncId) (caps:List D)
 |Hu
 |cl (f:FuncId) (caps:List D)
instance:Inhabited D:=⟨.nil⟩
def D.one:D->Bool
 |.agg _=>false
 |_=>true
def A4o(es:Array MapEntry)(E:Nat):Prop:=(∀x,x∈es.toList->x.born<E)/\(es.toList.map (·.born)).Nodup
def MSz(es:Array MapEntry)(E n:Nat):Prop:=es.size=n/\A4o es E
def A4o.push{es:Array MapEntry}{E:Nat}(h:A4o es E)(k v:Value):A4o (es.push { key:=k,val:=v,born:=E }) (E+1):=by
 refine⟨?_,?_⟩
 .intro x I;simp only[Array.toList_push,D2,Aw,Ej,Eh]at I;rcases I with I|rfl
  .have:=h.1 x I;omega
  .simp
 .simp only[Array.toList_push,Gg,Ck,Hy];rw[Ap9];refine⟨h.2,by simp,?_⟩;intro a J b L;obtain⟨x,I,rfl⟩:=B1.1 J;simp only[Aw,Ej,Eh]at L;have:=h.1 x I;omega
def A4o.modify{es:Array MapEntry}{E:Nat}(h:A4o es E)(j:Nat)(f:MapEntry->MapEntry)(O:∀e,(f e).born=e.born):A4o (es.modify j f) E:=by
 have J:(es.modify j f).toList.map (·.born)=es.toList.map (·.born):=by
  apply M3;intro i;simp only[Db,Vg,Tq];split
  .grind
  .rfl
 refine⟨?_,by rw[J];exact h.2⟩;intro x M;have:x.born∈es.toList.map (·.born):=by rw[<-J];exact List.mem_map_of_mem M
 obtain⟨y,L,I⟩:=B1.1 this;rw[<-I];exact h.1 y L
inductive C0(S:Nat->Prop)(w:World):D->Value->Prop where
 |int (k:IntKind) (n:Int):C0 S w (.int k n) (.int k n)
 |bool (b:Bool):C0 S w (.bool b) (.bool b)
 |str (s:A3):s.length<=lim->C0 S w (.str s) (.string (mkStr s))
 |nil:C0 S w .nil (.slice none 0 0)
 |emp (a:Addr) (cap:Nat):C0 S w .emp (.slice (some a) 0 cap)
 |Jz (a:Option Addr) (cap:Nat):(a=none->cap=0)->C0 S w (.slice []) (.slice a 0 cap)
 |slice (rows:List (List D)) (b off cap sz:Nat):S b->rows.length<=lim->rows.length<=cap ->
   (∀row,row∈rows->row.length=sz)->(∀row,row∈rows->∀d,d∈row->d.one=true) ->
   (∀i j,i<rows.length->j<sz->∃v,w.cell? ⟨b,off+(i*sz+j),none⟩=some v) ->
   (∀(i j:Nat) (row:List D) (d:D) (v:Value),rows[i]?=some row->row[j]?=some d->w.cell? ⟨b,off+(i*sz+j),none⟩=some v->C0 S w d v) ->
   C0 S w (.slice rows) (.slice (some ⟨b,off,none⟩) rows.length cap)
 |agg (cells:List D) (vs:List Value):vs.length=cells.length->(∀d,d∈cells->d.one=true) ->
   (∀(j:Nat) (d:D) (v:Value),cells[j]?=some d->vs[j]?=some v->C0 S w d v) ->
   C0 S w (.agg cells) (.agg ⟨vs⟩)
 |ptr (cells:List D) (b base:Nat):S b->(∀d,d∈cells->d.one=true)->(∀j,j<cells.length->∃v,w.cell? ⟨b,base+j,none⟩=some v) ->
   (∀(j:Nat) (d:D) (v:Value),cells[j]?=some d->w.cell? ⟨b,base+j,none⟩=some v->C0 S w d v) ->
   C0 S w (.ptr cells) (.pointer (some ⟨b,base,none⟩))
 |Kt:C0 S w .Kt (.pointer none)
 |map (kvs:List (D × D)) (r:Nat) (es:Array MapEntry) (clock:Nat):S r->w.heap[r]?=some (.map es clock)->MSz es clock kvs.length ->
   (∀(i:Nat) (kv:D × D) (e:MapEntry),kvs[i]?=some kv->es[i]?=some e->C0 S w kv.1 e.key) ->
   (∀(i:Nat) (kv:D × D) (e:MapEntry),kvs[i]?=some kv->es[i]?=some e->C0 S w kv.2 e.val) ->
   C0 S w (.map kvs) (.map (some r))
 |Jt:C0 S w .Jt (.map none)
 |iface (t:TypeId) (d:D) (v:Value):C0 S w d v->C0 S w (.iface t d) (.iface t v)
 |Jw:C0 S w .Jw .nilIface
 |fn (f:FuncId) (caps:List D) (vs:List Value):vs.length=caps.length->(∀(j:Nat) (d:D) (v:Value),caps[j]?=some d->vs[j]?=some v->C0 S w d v) ->
   C0 S w (.fn f caps) (.func (.func f) ⟨vs⟩ #[])
 |Hu:C0 S w .Hu .nilFunc
 |cl (f:FuncId) (caps:List D) (vs:List Value):vs.length=caps.length->(∀(j:Nat) (d:D) (v:Value),caps[j]?=some d->vs[j]?=some v->C0 S w d v) ->
   C0 S w (.cl f caps) (.func (.func f) #[] ⟨vs⟩)
structure Bk(S:Nat->Prop)(w:World)(S':Nat->Prop)(w':World):Prop where
 sub:∀b,S b->S' b
 same:∀b,S b->w'.heap[b]?=w.heap[b]?
def Bk.refl(S:Nat->Prop)(w:World):Bk S w S w:=⟨λ_ h=>h,λ_ _=>rfl⟩
def Bk.trans{O J L:Nat->Prop}{M U I:World}(h:Bk O M J U)(k:Bk J U L I):Bk O M L I :=
 ⟨λb E=>k.sub b (h.sub b E),λb E=>(k.same b (h.sub b E)).trans (h.same b E)⟩
def Bk.cell{S S':Nat->Prop}{w w':World}(h:Bk S w S' w'){b:Nat}(E:S b)(off:Nat):w'.cell? ⟨b,off,none⟩=w.cell? ⟨b,off,none⟩ :=
 World.cell?_of_block (w:=w) (h.same b E)
def C0.ext{S S':Nat->Prop}{w w':World}{d:D}{v:Value}(h:C0 S w d v)(e:Bk S w S' w'):C0 S' w' d v:=by
 induction h with
 |int k n=>exact .int k n
 |bool b=>exact .bool b
 |str s hs=>exact .str s hs
 |nil=>exact .nil
 |emp a cap=>exact .emp a cap
 |Jz a cap h=>exact .Jz a cap h
 |slice rows b off cap sz J I h2 h3 M h4 _ E =>
  refine .slice rows b off cap sz (e.sub b J) I h2 h3 M ?_ ?_
  .intro i j hi W;rw[e.cell J];grind
  .intro i j row d v hr Z U;rw[e.cell J]at U;grind
 |agg cells vs I M _ E=>exact .agg cells vs I M E
 |ptr cells b base J M I _ E =>
  refine .ptr cells b base (e.sub b J) M ?_ ?_
  .intro j W;rw[e.cell J];grind
  .intro j d v Z U;rw[e.cell J]at U;grind
 |Kt=>exact .Kt
 |map kvs r es L hr hh hs _ _ O V=>exact .map kvs r es L (e.sub r hr) ((e.same r hr).trans hh) hs O V
 |Jt=>exact .Jt
 |iface t d v _ E=>exact .iface t d v E
 |Jw=>exact .Jw
 |fn f caps vs I _ E=>exact .fn f caps vs I E
 |Hu=>exact .Hu
 |cl f caps vs I _ E=>exact .cl f caps vs I E
inductive D.Bd:D->Prop where
 |int (k:IntKind) (n:Int):D.Bd (.int k n)
 |bool (b:Bool):D.Bd (.bool b)
 |str (s:A3):s.length<=lim->D.Bd (.str s)
 |nil:D.Bd .nil
 |emp:D.Bd .emp
 |slice (rows:List (List D)):rows.length<=lim->(∀(i j:Nat) (row:List D) (d:D),rows[i]?=some row->row[j]?=some d->D.Bd d)->D.Bd (.slice rows)
 |agg (cells:List D):(∀(j:Nat) (d:D),cells[j]?=some d->D.Bd d)->D.Bd (.agg cells)
 |ptr (cells:List D):(∀(j:Nat) (d:D),cells[j]?=some d->D.Bd d)->D.Bd (.ptr cells)
 |Kt:D.Bd .Kt
 |map (kvs:List (D × D)):(∀(i:Nat) (kv:D × D),kvs[i]?=some kv->D.Bd kv.1)->(∀(i:Nat) (kv:D × D),kvs[i]?=some kv->D.Bd kv.2)->D.Bd (.map kvs)
 |Jt:D.Bd .Jt
 |iface (t:TypeId) (d:D):D.Bd d->D.Bd (.iface t d)
 |Jw:D.Bd .Jw
 |fn (f:FuncId) (caps:List D):(∀(j:Nat) (d:D),caps[j]?=some d->D.Bd d)->D.Bd (.fn f caps)
 |Hu:D.Bd .Hu
 |cl (f:FuncId) (caps:List D):(∀(j:Nat) (d:D),caps[j]?=some d->D.Bd d)->D.Bd (.cl f caps)
variable {S:Nat->Prop} {w:World}
def C0.bd{d:D}{v:Value}(h:C0 S w d v):d.Bd:=by
 induction h with
 |int k n=>exact .int k n
 |bool b=>exact .bool b
 |str s hs=>exact .str s hs
 |nil=>exact .nil
 |emp a cap=>exact .emp
 |Jz a cap=>exact .slice [] (by simp) (by simp)
 |slice rows b off cap sz Z L h2 h3 W h4 _ E =>
  refine .slice rows L ?_
  grind
 |agg cells vs L W _ E =>
  refine .agg cells ?_;intro j d I;have J:j<vs.length:=by have:=(B5.1 I).1;omega
  exact E j d vs[j] I (B8 J)
 |ptr cells b base Z W L _ E =>
  refine .ptr cells ?_
  grind
 |Kt=>exact .Kt
 |map kvs r es O hr hh hs _ _ U V =>
  have hs:=hs.1;refine .map kvs ?_ ?_
  .intro i kv h;have M:i<es.size:=by have:=(B5.1 h).1;omega
   exact U i kv es[i] h (Nt M)
  .intro i kv h;have M:i<es.size:=by have:=(B5.1 h).1;omega
   exact V i kv es[i] h (Nt M)
 |Jt=>exact .Jt
 |iface t d v _ E=>exact .iface t d E
 |Jw=>exact .Jw
 |fn f caps vs L _ E =>
  refine .fn f caps ?_;intro j d I;have J:j<vs.length:=by have:=(B5.1 I).1;omega
  exact E j d vs[j] I (B8 J)
 |Hu=>exact .Hu
 |cl f caps vs L _ E =>
  refine .cl f caps ?_;intro j d I;have J:j<vs.length:=by have:=(B5.1 I).1;omega
  exact E j d vs[j] I (B8 J)
theorem C0.one{d:D}{v:Value}(h:C0 S w d v)(E:d.one=true):v.oneCell'=true:=by cases h <;> first|rfl|simp[D.one]at E
def C0.of_nil{v:Value}(h:C0 S w .nil v):C0 S w (.slice []) v:=by cases h;exact .Jz none 0 (λ_=>rfl)
def C0.C9n{v:Value}(h:C0 S w .emp v):C0 S w (.slice []) v:=by cases h;exact .Jz _ _ (by simp)
end Go.Abs
namespace Go.Abs
open Go
structure BI where
 base:Option Nat
 off:Nat:=0
 len:Nat:=0
 cap:Nat:=0
 sz:Nat:=0
inductive SV where
 |undef
 |d (x:D)
 |agg (cells:List SV)
 |tuple (xs:List SV)
 |box (k:Nat) (off:Nat)
 |Ah (cells:List D) (off:Nat)
 |acc (k:Nat)
 |Em (k i off:Nat)
 |mp (k:Nat)
 |Ek (l:Nat)
 |Fs (cells:List SV) (off:Nat)
 |B0 (f:FuncId) (caps:List SV)
instance:Inhabited SV:=⟨.undef⟩
def SV.one:SV->Bool
 |.undef| .agg _| .tuple _=>false
 |.d x=>x.one
 |_=>true
abbrev Names:=Nat->BI
inductive Ak(S:Nat->Prop)(w:World)(β:Names):SV->Value->Prop where
 |undef (v:Value):Ak S w β .undef v
 |d (x:D) (v:Value):C0 S w x v->Ak S w β (.d x) v
 |agg (cells:List SV) (vs:List Value):vs.length=cells.length->(∀c,c∈cells->c.one=true) ->
   (∀(j:Nat) (c:SV) (v:Value),cells[j]?=some c->vs[j]?=some v->Ak S w β c v)->Ak S w β (.agg cells) (.agg ⟨vs⟩)
 |tuple (cells:List SV) (vs:List Value):vs.length=cells.length ->
   (∀(j:Nat) (c:SV) (v:Value),cells[j]?=some c->vs[j]?=some v->Ak S w β c v)->Ak S w β (.tuple cells) (.tuple ⟨vs⟩)
 |box (k off b:Nat):(β k).base=some b->Ak S w β (.box k off) (.pointer (some ⟨b,off,none⟩))
 |Ah (cells:List D) (off b base:Nat):S b->(∀d,d∈cells->d.one=true)->(∀j,j<cells.length->∃v,w.cell? ⟨b,base+j,none⟩=some v) ->
   (∀(j:Nat) (d:D) (v:Value),cells[j]?=some d->w.cell? ⟨b,base+j,none⟩=some v->C0 S w d v) ->
   Ak S w β (.Ah cells off) (.pointer (some ⟨b,base+off,none⟩))
 |acc (k:Nat):Ak S w β (.acc k) (.slice ((β k).base.map λb=>⟨b,(β k).off*(β k).sz,none⟩) (β k).len (β k).cap)
 |Em (k i off b:Nat):(β k).base=some b->Ak S w β (.Em k i off) (.pointer (some ⟨b,((β k).off+i)*(β k).sz+off,none⟩))
 |mp (k b:Nat):(β k).base=some b->Ak S w β (.mp k) (.map (some b))
 |Ek (l:Nat):Ak S w β (.Ek l) (.func (.yield l) #[] #[])
 |Fs (cells:List SV) (off b:Nat):S b->(∀c,c∈cells->c.one=true)->(∀j,j<cells.length->∃v,w.cell? ⟨b,j,none⟩=some v) ->
   (∀(j:Nat) (c:SV) (v:Value),cells[j]?=some c->w.cell? ⟨b,j,none⟩=some v->Ak S w β c v)->Ak S w β (.Fs cells off) (.pointer (some ⟨b,off,none⟩))
 |B0 (f:FuncId) (caps:List SV) (vs:List Value):vs.length=caps.length ->
   (∀(j:Nat) (c:SV) (v:Value),caps[j]?=some c->vs[j]?=some v->Ak S w β c v)->Ak S w β (.B0 f caps) (.func (.func f) #[] ⟨vs⟩)
mutual
def SV.has(k:Nat):SV->Bool
 |.undef| .d _| .Ah _ _| .Ek _=>false
 |.agg cs=>SV.Lx k cs
 |.tuple cs=>SV.Lx k cs
 |.B0 _ cs=>SV.Lx k cs
 |.Fs cs _=>SV.Lx k cs
 |.box j _=>j ==k
 |.acc j=>j ==k
 |.Em j _ _=>j ==k
 |.mp j=>j ==k
def SV.Lx(k:Nat):List SV->Bool
 |[]=>false
 |c::cs=>c.has k ||SV.Lx k cs
end
mutual
def SV.closed:SV->Bool
 |.undef| .d _| .Ah _ _| .Ek _=>true
 |.agg cs=>SV.Mc cs
 |.tuple cs=>SV.Mc cs
 |.B0 _ cs=>SV.Mc cs
 |.Fs cs _=>SV.Mc cs
 |.box _ _| .acc _| .Em _ _ _| .mp _=>false
def SV.Mc:List SV->Bool
 |[]=>true
 |c::cs=>c.closed && SV.Mc cs
end
theorem SV.A6g{k:Nat} :∀{cs:List SV},SV.Lx k cs=false->∀(j:Nat)(c:SV),cs[j]?=some c->c.has k=false
 |[],_,j,c,h=>by grind
 |c::cs,h,j,x,E=>by
  simp only[SV.Lx,Uz]at h;cases j with
  |zero=>grind
  |succ j=>simp at E;exact SV.A6g h.2 j x E
def SV.B9p:∀{cs:List SV},SV.Mc cs=true->∀(j:Nat)(c:SV),cs[j]?=some c->c.closed=true
 |[],_,j,c,h=>by grind
 |c::cs,h,j,x,E=>by
  simp only[SV.Mc,Bc]at h;cases j with
  |zero=>grind
  |succ j=>simp at E;exact SV.B9p h.2 j x E
variable {x:SV}
def Ak.ext{S S':Nat->Prop}{w w':World}{β β':Names}{v:Value}(h:Ak S w β x v)(e:Bk S w S' w')
  (M:∀k,x.has k=true->β' k =β k):Ak S' w' β' x v:=by
 induction h with
 |undef v=>exact .undef v
 |d x v h=>exact .d x v (h.ext e)
 |agg cells vs I O _ L =>
  refine .agg cells vs I O λj c v J E=>L j c v J E λk U=>M k ?_
  grind [SV.A6g,SV.has]
 |tuple cells vs I _ L =>
  refine .tuple cells vs I λj c v J E=>L j c v J E λk U=>M k ?_
  grind [SV.A6g,SV.has]
 |box k off b h=>exact .box k off b (by grind [SV.has])
 |Ah cells off b base hs I O Z =>
  refine .Ah cells off b base (e.sub b hs) I ?_ ?_
  .intro j V;rw[e.cell hs];grind
  .intro j d v W E;rw[e.cell hs]at E;exact(Z j d v W E).ext e
 |acc k=>have:=M k (by simp[SV.has]);rw[<-this];exact .acc k
 |Em k i off b h=>have:=M k (by simp[SV.has]);rw[<-this];exact .Em k i off b (by grind)
 |mp k b h=>exact .mp k b (by grind [SV.has])
 |Ek l=>exact .Ek l
 |Fs cells off b hs I O _ L =>
  refine .Fs cells off b (e.sub b hs) I ?_ ?_
  .intro j V;rw[e.cell hs];grind
  .intro j c v J E;rw[e.cell hs]at E
   grind [SV.A6g,SV.has]
 |B0 f cells vs I _ L =>
  refine .B0 f cells vs I λj c v J E=>L j c v J E λk U=>M k ?_
  grind [SV.A6g,SV.has]
mutual
theorem SV.C9x:∀{x:SV} (k:Nat),x.closed=true->x.has k=false
 |.undef,_,_=>rfl
 |.d _,_,_=>rfl
 |.Ah _ _,_,_=>rfl
 |.agg cs,k,h=>by simp only[SV.closed]at h;simp only[SV.has];exact SV.A8x k h
 |.tuple cs,k,h=>by simp only[SV.closed]at h;simp only[SV.has];exact SV.A8x k h
 |.B0 _ cs,k,h=>by simp only[SV.closed]at h;simp only[SV.has];exact SV.A8x k h
 |.Fs cs _,k,h=>by simp only[SV.closed]at h;simp only[SV.has];exact SV.A8x k h
 |.box _ _,_,h=>by simp[SV.closed]at h
 |.acc _,_,h=>by simp[SV.closed]at h
 |.Em _ _ _,_,h=>by simp[SV.closed]at h
 |.mp _,_,h=>by simp[SV.closed]at h
 |.Ek _,_,_=>rfl
theorem SV.A8x:∀{cs:List SV} (k:Nat),SV.Mc cs=true->SV.Lx k cs=false
 |[],_,_=>rfl
 |c::cs,k,h=>by simp only[SV.Mc,Bc]at h;simp only[SV.Lx,SV.C9x k h.1,SV.A8x k h.2,Ar1]
end
variable {S:Nat->Prop} {w:World}
def Ak.closed{β β':Names}{v:Value}(h:Ak S w β x v)(E:x.closed=true):Ak S w β' x v :=
 h.ext (Bk.refl S w) λk I=>by grind [SV.C9x]
variable {β:Names}
theorem Ak.one{v:Value}(h:Ak S w β x v)(E:x.one=true):v.oneCell'=true:=by
 cases h with
 |undef=>simp[SV.one]at E
 |agg=>simp[SV.one]at E
 |tuple=>simp[SV.one]at E
 |d x v h=>exact h.one E
 |_=>rfl
def Bv(S:Nat->Prop)(w:World)(β:Names)(xs:List SV)(vs:List Value):Prop :=
 vs.length=xs.length/\∀(j:Nat) (c:SV) (v:Value),xs[j]?=some c->vs[j]?=some v->Ak S w β c v
theorem Bv.nil :Bv S w β [] []:=⟨rfl,by simp⟩
variable {vs:List Value}
def Bv.cons{xs:List SV}{v:Value}(h:Ak S w β x v)(t:Bv S w β xs vs) :
  Bv S w β (x::xs) (v::vs):=by
 refine⟨by simp[t.1],?_⟩;intro j c u I E;cases j with
 |zero=>grind
 |succ j=>simp at I E;exact t.2 j c u I E
def Bv.get{xs:List SV}(h:Bv S w β xs vs){j:Nat}{c:SV}(I:xs[j]?=some c) :
  ∃v,vs[j]?=some v/\Ak S w β c v:=by
 have E:j<vs.length:=by have:=(B5.1 I).1;have:=h.1;omega
 exact⟨vs[j],B8 E,h.2 j c _ I (B8 E)⟩
def Bv.append{xs ys:List SV}{vs us:List Value}(h:Bv S w β xs vs)(t:Bv S w β ys us) :
  Bv S w β (xs++ys) (vs++us):=by
 refine⟨by simp[h.1,t.1],?_⟩;intro j c u E I;by_cases J:j<xs.length
 .rw[Ls J]at E;rw[Ls (by have:=h.1;omega)]at I;exact h.2 j c u E I
 .rw[M5 (by omega)]at E;rw[M5 (by have:=h.1;omega)]at I;have:=h.1;exact t.2 (j - xs.length) c u E (by grind)
def Bv.map{S S':Nat->Prop}{w w':World}{β β':Names}{xs ys:List SV}(h:Bv S w β xs vs)(L:ys.length=xs.length)
  (J:∀(j:Nat) (x y:SV) (v:Value),xs[j]?=some x->ys[j]?=some y->Ak S w β x v->Ak S' w' β' y v):Bv S' w' β' ys vs:=by
 refine⟨by rw[h.1,L],?_⟩;intro j c v I M;have E:j<xs.length:=by have:=(B5.1 I).1;omega
 exact J j xs[j] c v (B8 E) I (h.2 j _ v (B8 E) M)
abbrev SL:=List (Nat × SV)
def Ag:SL->Nat->SV
 |[],_=>.undef
 |(u,x)::r,t=>if u=t then x else Ag r t
structure Iw where
 P:Program
 l:Nat
 n0:Nat
 N:Nat
 xs:Nat->SV
 go:Nat->Bool
 more:Nat->SV->Nat->Prop
def Iw.next(Y:Iw)(j:Nat):Option Nat:=if Y.go j then some (j+1)else none
inductive Ap where
 |cells (cs:List SV)
 |rows (sz:Nat) (rs:List (List D))
 |map (kvs:List (D × D))
 |iter (kvs:List (D × D)) (seen:List Nat)
 |ghost (Y:Iw) (st:Option Nat)
def Ap.has(k:Nat):Ap->Bool
 |.cells cs=>SV.Lx k cs
 |_=>false
def Ap.real:Ap->Bool
 |.ghost _ _=>false
 |_=>true
abbrev Aa:=List (Nat × Ap)
def G0o(es:Array MapEntry)(E:Array Nat)(seen:List Nat):Prop :=
 (∀(r:Nat) (e:MapEntry),es[r]?=some e->E.contains e.born=seen.contains r)/\(∀(r:Nat) (t:List Nat),seen=r::t->∃e,es[r]?=some e/\E.back? =some e.born)
def Df(S:Nat->Prop)(w:World)(β:Names)(i:BI):Ap->Prop
 |.cells cs=>∃b ty vs,i.base=some b/\w.heap[b]?=some (.cells ⟨vs⟩ ty (0,0))/\Bv S w β cs vs
 |.rows sz rs=>i.sz=sz/\rs.length=i.len/\i.len<=i.cap/\rs.length<=lim/\(∀row,row∈rs->row.length=sz)/\(∀row,row∈rs->∀d,d∈row->d.one=true) /\
   match i.base with
   |none=>i.cap=0
   |some b=>∃ty vs,w.heap[b]?=some (.cells ⟨vs⟩ ty (0,0))/\(i.off+i.cap)*sz<=vs.length /\
     ∀(r j:Nat) (row:List D) (d:D) (v:Value),rs[r]?=some row->row[j]?=some d->vs[(i.off+r)*sz+j]?=some v->C0 S w d v
 |.map kvs=>∃b es E,i.base=some b/\w.heap[b]?=some (.map es E)/\MSz es E kvs.length /\
   (∀(r:Nat) (kv:D × D) (e:MapEntry),kvs[r]?=some kv->es[r]?=some e->C0 S w kv.1 e.key/\C0 S w kv.2 e.val)
 |.iter kvs seen=>∃b m es E I,i.base=some b/\w.heap[b]?=some (.mapIter (some m) E I E)/\S m/\w.heap[m]?=some (.map es E)/\MSz es E kvs.length /\
   (∀(r:Nat) (kv:D × D) (e:MapEntry),kvs[r]?=some kv->es[r]?=some e->C0 S w kv.1 e.key/\C0 S w kv.2 e.val)/\G0o es I seen
 |.ghost _ _=>i.base=none
def Df.ext{S S':Nat->Prop}{w w':World}{β β':Names}{i:BI}{c:Ap}(h:Df S w β i c)(e:Bk S w S' w')
  (V:∀b,i.base=some b->w'.heap[b]?=w.heap[b]?)(hb:∀k,c.has k=true->β' k =β k):Df S' w' β' i c:=by
 cases c with
 |cells cs =>
  obtain⟨b,ty,vs,J,O,L⟩:=h;refine⟨b,ty,vs,J,(V b J).trans O,L.1,λj c v hc Z=>(L.2 j c v hc Z).ext e λk hk=>hb k ?_⟩
  grind [SV.A6g,Ap.has]
 |rows sz rs =>
  obtain⟨J,O,L,M,W,h6,h7⟩:=h;refine⟨J,O,L,M,W,h6,?_⟩;cases I:i.base with
  |none=>grind
  |some b =>rw[I]at h7;obtain⟨ty,vs,g1,g2,g3⟩:=h7;exact⟨ty,vs,(V b I).trans g1,g2,λr j row d v hr hd Z=>(g3 r j row d v hr hd Z).ext e⟩
 |map kvs =>obtain⟨b,es,E,J,O,L,M⟩:=h;exact⟨b,es,E,J,(V b J).trans O,L,λr kv x hr U=>⟨(M r kv x hr U).1.ext e,(M r kv x hr U).2.ext e⟩⟩
 |iter kvs seen =>obtain⟨b,m,es,E,sn,J,O,hS,hm,L,M,W⟩:=h;exact⟨b,m,es,E,sn,J,(V b J).trans O,e.1 m hS,(e.2 m hS).trans hm,L,λr kv x hr U=>⟨(M r kv x hr U).1.ext e,(M r kv x hr U).2.ext e⟩,W⟩
 |ghost Y st=>exact h
structure Gh where
 Y:Iw
 F:Option Nat->(Nat->Prop)->(Nat->Prop)->World->Prop
 sy:TypeId × Value
 ra:TypeId × Value
structure E6i(n0:Nat)(B S:Nat->Prop)(w:World)(S':Nat->Prop)(w':World):Prop where
 sub:∀b,S b->S' b
 new:∀b,S' b->S b\/n0<=b
 lt:∀b,S' b->b<w'.heap.size
 off:∀b,B b->¬S' b
 same:∀b,b<n0\/B b\/S b->w'.heap[b]?=w.heap[b]?
 os:w'.os=w.os
 tape:w'.tape=w.tape
 output:w'.output=w.output
 size:w.heap.size<=w'.heap.size
structure Zv(B S:Nat->Prop)(w:World)(B' S':Nat->Prop)(w':World):Prop where
 ext:Bk S w S' w'
 new:∀b,S' b->S b\/B b\/w.heap.size<=b
 lt:∀b,S' b->b<w'.heap.size
 own:∀b,B' b->¬S' b/\b<w'.heap.size/\(B b\/w.heap.size<=b)
 kept:∀b,b<w.heap.size->¬B b->w'.heap[b]?=w.heap[b]?
 os:w'.os=w.os
 tape:w'.tape=w.tape
 output:w'.output=w.output
 size:w.heap.size<=w'.heap.size
structure D9t(G:Gh):Prop where
 S9:∀st B S w S' w',G.F st B S w->E6i G.Y.n0 B S w S' w'->G.F st B S' w'
 shut:∀st B S w D l l',G.F st B S w->G.Y.n0<=D->¬B D->w.heap[D]?=some (.deferred l)->G.F st B S { w with heap:=w.heap.setIfInBounds D (.deferred l') }
 round:∀j B S w β v,j<G.Y.N->G.F (some j) B S w->(∀b,S b->b<w.heap.size)->(∀b,B b->¬S b/\b<w.heap.size)->Ak S w β (G.Y.xs j) v ->
  ∃f tmps assign body,(Instr.yield G.Y.l #[v]).run G.Y.P w=.ok (.round G.Y.l f tmps assign body) w /\
   RoundIn Fence.wide 0 G.Y.P G.Y.l f tmps assign body w (λe w'=>∃S' B',e=.returned (.bool (G.Y.go j))/\G.F (G.Y.next j) B' S' w'/\Zv B S w B' S' w')
 F5h:∀j y j' B S w β v,G.Y.more j y j'->G.F (some j) B S w->(∀b,S b->b<w.heap.size)->(∀b,B b->¬S b/\b<w.heap.size)->Ak S w β y v ->
  ∃f tmps assign body,(Instr.yield G.Y.l #[v]).run G.Y.P w=.ok (.round G.Y.l f tmps assign body) w /\
   RoundIn Fence.wide 0 G.Y.P G.Y.l f tmps assign body w (λe w'=>∃S' B',e=.returned (.bool true)/\G.F (some j') B' S' w'/\Zv B S w B' S' w')
structure Ctx where
 w0:World
 S0:Nat->Prop
 pre:Nat->Prop
 A8m:Nat->BI->Prop
 G:Gh
structure Inv(C:Ctx)(S:Nat->Prop)(w:World)(β:Names)(bx:Aa):Prop where
 Fg:∀b,C.S0 b->S b
 Ee:∀b,S b->C.S0 b\/C.pre b\/C.w0.heap.size<=b
 Bf:∀b,S b->b<w.heap.size
 kept:∀b,b<C.w0.heap.size->¬C.pre b->w.heap[b]?=C.w0.heap[b]?
 os:w.os=C.w0.os
 tape:w.tape=C.w0.tape
 output:w.output=C.w0.output
 size:C.w0.heap.size<=w.heap.size
 box:∀k c,(k,c)∈bx->Df S w β (β k) c
 B7:∀k c,(k,c)∈bx->∀b,(β k).base=some b->¬S b/\b<w.heap.size/\(C.pre b\/C.w0.heap.size<=b)
 inj:∀k c k' c',(k,c)∈bx->(k',c')∈bx->∀b,(β k).base=some b->(β k').base=some b->k=k'/\c=c'
 fix:∀k i,C.A8m k i->1000000<=k/\β k=i
 Dh:∀b cs,A4w C.G.sy C.G.ra b cs->S b/\∃ty fr,w.heap[b]?=some (.cells cs ty fr)
 one:∀k Y st k' Y' st',(k,Ap.ghost Y st)∈bx->(k',Ap.ghost Y' st')∈bx->k=k'/\st=st'
 Fm:∀k Y st,(k,Ap.ghost Y st)∈bx->C.G.Y=Y/\D9t C.G/\Y.n0<=C.w0.heap.size/\(∀k' c',(k',c')∈bx->∀b,(β k').base=some b->Y.n0<=b) /\
  ∃B,C.G.F st B S w/\∀b,B b->¬S b/\b<w.heap.size/\(C.pre b\/C.w0.heap.size<=b)/\∀k' c',(k',c')∈bx->(β k').base≠some b
def Inv.sub{C:Ctx}{bx bx':Aa}(h:Inv C S w β bx)(hs:∀k c,(k,c)∈bx'->(k,c)∈bx):Inv C S w β bx' :=
 { h with
  box:=λk c E=>h.box k c (hs k c E)
  B7:=λk c E=>h.B7 k c (hs k c E)
  inj:=λk c J L E I=>h.inj k c J L (hs k c E) (hs J L I)
  one:=λk Y st J M st' E I=>h.one k Y st J M st' (hs _ _ E) (hs _ _ I)
  Fm:=λk Y st E=>by
   obtain⟨U,W,V,O,B,Z,h6⟩:=h.Fm k Y st (hs _ _ E)
   grind }
def Inv.step{C:Ctx}{S S':Nat->Prop}{w w':World}{β β':Names}{bx bx':Aa}(h:Inv C S w β bx)(e:Bk S w S' w')
  (hS:∀b,S' b->S b\/w.heap.size<=b)(L:∀b,S' b->b<w'.heap.size)
  (M:∀b,b<w.heap.size->(∀k c,(k,c)∈bx->(β k).base≠some b)->w'.heap[b]?=w.heap[b]?)
  (a0:w'.os=w.os)(E:w'.tape=w.tape)(J:w'.output=w.output)(Pf:w.heap.size<=w'.heap.size)
  (a3:∀k c,(k,c)∈bx'->Df S' w' β' (β' k) c/\∀b,(β' k).base=some b->¬S' b/\b<w'.heap.size/\(w.heap.size<=b\/∃j x,(j,x)∈bx/\(β j).base=some b))
  (a2:∀k c W c',(k,c)∈bx'->(W,c')∈bx'->∀b,(β' k).base=some b->(β' W).base=some b->k=W/\c=c')
  (a5:∀k,1000000<=k->β' k =β k)(O:∀k Y st,(k,Ap.ghost Y st)∈bx'->(k,Ap.ghost Y st)∈bx) :
  Inv C S' w' β' bx' where
 Fg b hb:=e.sub b (h.Fg b hb)
 Ee b hb:=by
  rcases hS b hb with hb|hb
  .exact h.Ee b hb
  .exact .inr (.inr (D3 h.size hb))
 Bf:=L
 kept b hb hp:=by
  rw[<-h.kept b hb hp];refine M b (Vr hb h.size) ?_;intro k c I U;rcases(h.B7 k c I b U).2.2 with h' |h'
  .grind
  .omega
 os:=a0.trans h.os
 tape:=E.trans h.tape
 output:=J.trans h.output
 size:=D3 h.size Pf
 box k c I:=(a3 k c I).1
 B7 k c I b hb:=by
  obtain⟨V,Z,h3⟩:=(a3 k c I).2 b hb;refine⟨V,Z,?_⟩;rcases h3 with h3|⟨j,x,hj,a4⟩
  .exact .inr (D3 h.size h3)
  .exact(h.B7 j x hj b a4).2.2
 inj:=a2
 fix k b hb:=by have:=h.fix k b hb;grind
 Dh b cs hv:=by obtain⟨V,ty,fr,Z⟩:=h.Dh b cs hv;exact⟨e.sub b V,ty,fr,(e.same b V).trans Z⟩
 one k Y st W Y' st' I a1:=h.one k Y st W Y' st' (O _ _ _ I) (O _ _ _ a1)
 Fm k Y st I:=by
  obtain⟨V,Z,h3,h4,B,h5,h6⟩:=h.Fm k Y st (O k Y st I);have a6:=h.size;refine⟨V,Z,h3,λW c' a1 b hb=>?_,B,Z.S9 st B S w S' w' h5 ⟨e.sub,λb hb=>?_,L,λb hb hs=>?_,λb hb=>?_,a0,E,J,Pf⟩,λb hb=>?_⟩
  .grind
  .grind
  .grind
  .rcases hb with hb|hb|hb
   .grind
   .grind
   .exact e.same b hb
  grind
def Inv.grow{C:Ctx}{S S':Nat->Prop}{w w':World}{bx:Aa}(h:Inv C S w β bx)
  (O:∀b,S b->S' b)(W:∀b,S' b->S b\/w.heap.size<=b)(U:∀b,S' b->b<w'.heap.size)
  (E:∀b,b<w.heap.size->w'.heap[b]?=w.heap[b]?)
  (V:w'.os=w.os)(J:w'.tape=w.tape)(M:w'.output=w.output)(Pf:w.heap.size<=w'.heap.size) :
  Inv C S' w' β bx/\Bk S w S' w':=by
 have e:Bk S w S' w':=⟨O,λb I=>E b (h.Bf b I)⟩;refine⟨h.step e W U (λb I _=>E b I) V J M Pf ?_ h.inj (λ_ _=>rfl) (λ_ _ _ L=>L),e⟩;intro k c L;refine⟨(h.box k c L).ext e (λb I=>E b (h.B7 k c L b I).2.1) (λ_ _=>rfl),?_⟩;intro b I;obtain⟨Z,h2,h3⟩:=h.B7 k c L b I
 grind
end Go.Abs
namespace Go.Abs
open Go
abbrev Hb:=Operand->SV
def _root_.Go.Oper.wpx(P:Program)(o:Oper)(a:Act)(w:World)(next:Act->World->Prop):Prop :=
 o.wp P a w next (λ_ _ _=>False)\/∃l f tmps E body w',(execOp a.eval o).run P w=.ok (.round l f tmps E body) w' /\
  RoundIn Fence.wide 0 P l f tmps E body w' (λe I=>match e with| .returned v=>next (a.put o.dst v) I|_=>False)
def Bp(P:Program)(o:Oper)(ρ:Hb)(bx:Aa)(r:SV)(bx':Aa)(pg:List Nat):Prop :=
 ∀(C:Ctx) (S:Nat->Prop) (w:World) (β:Names) (a:Act),Inv C S w β bx->(∀x,x∈o.op.operands->Ak S w β (ρ x) (a.eval x)) ->
  o.wpx P a w (λE w'=>∃v S' β',E=a.put o.dst v/\Inv C S' w' β' bx'/\Bk S w S' w'/\Ak S' w' β' r v/\(∀k,k∉pg->β' k =β k))
variable {x:Operand}
def mo{o:Oper}{op:Op}(h:o.op=op)(m:x∈op.operands):x∈o.op.operands:=h ▸ m
def mC{o:Oper}{op:Op}(E:o.op=op)(h:x∈op.operands:=by simp[Op.operands,Call.operands]):x∈o.op.operands:=mo E h
variable {P:Program} {o:Oper} {ρ:Hb} {bx:Aa}
def Bp.Eb{r:SV}(h:∀(C:Ctx)(S:Nat->Prop)(w:World) (β:Names)(a:Act),Inv C S w β bx->(∀x,x∈o.op.operands->Ak S w β (ρ x) (a.eval x)) ->
  ∃v,(execOp a.eval o).run P w=.ok (.value v) w/\Ak S w β r v):Bp P o ρ bx r bx []:=by
 intro C S w β a E I;obtain⟨v,J,hr⟩:=h C S w β a E I;refine H6 ?_;unfold Oper.wp;rw[J];exact⟨v,S,β,rfl,E,Bk.refl S w,hr,λ_ _=>rfl⟩
def F9h(E:o.op=.move x):Bp P o ρ bx (ρ x) bx [] :=
 .Eb λ_ _ _ _ a _ I=>⟨a.eval x,by simp[execOp,E],(I x (mo E (by grind [Op.operands])))⟩
def G0a(E:o.op=.assign x):Bp P o ρ bx (ρ x) bx [] :=
 .Eb λ_ _ _ _ a _ I=>⟨a.eval x,by simp[execOp,E],(I x (mo E (by grind [Op.operands])))⟩
variable {S:Nat->Prop} {w:World} {β:Names}
def Ak.J0{x:D}{v:Value}(h:Ak S w β (.d x) v):C0 S w x v:=by cases h;omega
def Ak.Wc{b:Bool}{v:Value}(h:Ak S w β (.d (.bool b)) v):v=.bool b:=by cases h with|d _ _ h=>cases h;rfl
def Ak.J4{k:IntKind}{n:Int}{v:Value}(h:Ak S w β (.d (.int k n)) v):v=.int k n:=by cases h with|d _ _ h=>cases h;rfl
def Ak.Vw{s:A3}{v:Value}(h:Ak S w β (.d (.str s)) v):v=.string (mkStr s)/\s.length<=lim:=by cases h with|d _ _ h=>cases h;grind
def Ak.bool(b:Bool):Ak S w β (.d (.bool b)) (.bool b):=.d _ _ (.bool b)
def Ak.int(k:IntKind)(n:Int):Ak S w β (.d (.int k n)) (.int k n):=.d _ _ (.int k n)
def F8t{c x y:Operand}(E:o.op=.pick c x y){t:Bool}(J:ρ c=.d (.bool t)):Bp P o ρ bx (if t then ρ x else ρ y) bx [] :=
 .Eb λ_ _ _ _ a _ I=>by
  have h:=(I c (mo E (by grind [Op.operands])));rw[J]at h;have h:=h.Wc;refine⟨if t then a.eval x else a.eval y,?_,?_⟩
  .cases t <;> simp[execOp,E,h,asBool]
  grind [Op.operands]
def B7h(op:BinOp)(x y:Int):Option Bool :=
 match op with
 |.eql=>some (decide (x=y))
 |.neq=>some (decide (x≠y))
 |.lss=>some (decide (x<y))
 |.leq=>some (decide (x<=y))
 |.gtr=>some (decide (y<x))
 |.geq=>some (decide (y<=x))
 |_=>none
def D0v(op:BinOp)(k:IntKind)(x y:Int):Option Int :=
 match op with
 |.add=>some (k.wrap (x+y))
 |.sub=>some (k.wrap (x - y))
 |.mul=>some (k.wrap (x*y))
 |_=>none
def B6a(op:BinOp)(t:TypeId)(x y:Operand)(k E:IntKind)(m n:Int)(w:World):(eqGuard op t x y (.int k m) (.int E n)).run P w=.ok () w:=by unfold eqGuard;simp
def E1u(op:BinOp)(t:TypeId)(x y:Operand)(m n:ByteArray)(w:World):(eqGuard op t x y (.string m) (.string n)).run P w=.ok () w:=by unfold eqGuard;simp
def G3m(op:BinOp)(t:TypeId)(x y:Operand)(m n:Bool)(w:World):(eqGuard op t x y (.bool m) (.bool n)).run P w=.ok () w:=by unfold eqGuard;simp
def F6p(op:BinOp)(t:TypeId)(x y:Operand)(m:Option Addr)(n:Value)(w:World):(eqGuard op t x y (.pointer m) n).run P w=.ok () w:=by unfold eqGuard;simp
def G3h(op:BinOp)(t:TypeId)(x y:Operand)(m:Option Addr)(l c:Nat)(n:Value)(w:World):(eqGuard op t x y (.slice m l c) n).run P w=.ok () w:=by unfold eqGuard;simp
variable {op:BinOp}
def F6z{t u:TypeId}{x y:Operand}(J:o.op=.binOp op t x y u){k:IntKind}{m n:Int}{b:Bool}
  (U:ρ x=.d (.int k m))(O:ρ y=.d (.int k n))(M:B7h op m n=some b):Bp P o ρ bx (.d (.bool b)) bx [] :=
 .Eb λ_ _ w _ a _ L=>by
  have E:=(L x (mo J (by grind [Op.operands])));rw[U]at E;have E:=E.J4;have I:=(L y (mo J (by grind [Op.operands])));rw[O]at I;have I:=I.J4;refine⟨.bool b,?_,.bool b⟩;simp only[execOp,J,H5,Sem.run_map,E,I,B6a,Gz];cases op <;> first
   |grind [B7h]
   |(simp only[B7h,B4]at M;subst M;simp only[binOp,Op.intCmp,ne_eq,Au3,Fy,Kx,Gz];try(congr 3 <;> grind))
def F3z{t u:TypeId}{x y:Operand}(J:o.op=.binOp op t x y u){k:IntKind}{m n b:Int}
  (U:ρ x=.d (.int k m))(O:ρ y=.d (.int k n))(M:D0v op k m n=some b):Bp P o ρ bx (.d (.int k b)) bx [] :=
 .Eb λ_ _ w _ a _ L=>by have E:=(L x (mo J (by grind [Op.operands])));rw[U]at E;have E:=E.J4;have I:=(L y (mo J (by grind [Op.operands])));rw[O]at I;have I:=I.J4;refine⟨.int k b,?_,.int k b⟩;simp only[execOp,J,H5,Sem.run_map,E,I,B6a,Gz];cases op <;> simp[D0v]at M <;> subst M <;> simp[binOp,Op.intArith]
def D4v{t u:TypeId}{x y:Operand}(J:o.op=.binOp .quo t x y u){k:IntKind}{m n:Int}
  (U:ρ x=.d (.int k m))(O:ρ y=.d (.int k n))(M:n≠0):Bp P o ρ bx (.d (.int k (k.wrap (m.tdiv n)))) bx [] :=
 .Eb λ_ _ w _ a _ L=>by have E:=(L x (mo J (by grind [Op.operands])));rw[U]at E;have E:=E.J4;have I:=(L y (mo J (by grind [Op.operands])));rw[O]at I;have I:=I.J4;refine⟨_,?_,.int k _⟩;simp[execOp,J,E,I,B6a,binOp,Op.intDiv,M]
def G0d{t u:TypeId}{x y:Operand}(J:o.op=.binOp .rem t x y u){k:IntKind}{m n:Int}
  (U:ρ x=.d (.int k m))(O:ρ y=.d (.int k n))(M:n≠0):Bp P o ρ bx (.d (.int k (m.tmod n))) bx [] :=
 .Eb λ_ _ w _ a _ L=>by have E:=(L x (mo J (by grind [Op.operands])));rw[U]at E;have E:=E.J4;have I:=(L y (mo J (by grind [Op.operands])));rw[O]at I;have I:=I.J4;refine⟨_,?_,.int k _⟩;simp[execOp,J,E,I,B6a,binOp,Op.intDiv,M]
def D0w(op:BinOp)(x y:A3):Option Bool :=
 match op with
 |.eql=>some (decide (x=y))
 |.neq=>some (decide (x≠y))
 |.lss=>some (Op.bytesLess x y)
 |.gtr=>some (Op.bytesLess y x)
 |_=>none
def D7u(s:A3):(mkStr s).toList=s:=by simp[mkStr]
def C5y:∀(x y:A3),(Op.bytesLess x y ||x ==y) = !Op.bytesLess y x
 |[],[]=>rfl
 |[],_::_=>by rfl
 |_::_,[]=>by rfl
 |a::x,b::y=>by
  have E:=C5y x y;simp only[Op.bytesLess]
  grind
def B7k{t u:TypeId}{x y:Operand}(J:o.op=.binOp op t x y u){m n:A3}{b:Bool}
  (U:ρ x=.d (.str m))(O:ρ y=.d (.str n))(M:D0w op m n=some b):Bp P o ρ bx (.d (.bool b)) bx [] :=
 .Eb λ_ _ w _ a _ L=>by
  have E:=(L x (mo J (by grind [Op.operands])));rw[U]at E;have E:=E.Vw.1;have I:=(L y (mo J (by grind [Op.operands])));rw[O]at I;have I:=I.Vw.1;refine⟨.bool b,?_,.bool b⟩;have e:=C5y m n;simp only[execOp,J,H5,Sem.run_map,E,I,E1u,Gz];cases op <;> first
   |grind [D0w]
   |(simp only[D0w,B4]at M;subst M;simp only[binOp,Op.stringOp,D7u,e,Bool.not_not,Kx,Gz];try(congr 3 <;> (rw[At6];simp)))
def G5a(x y:A3):mkStr x++mkStr y=mkStr (x++y):=by rfl
def F1c{t u:TypeId}{x y:Operand}(L:o.op=.binOp .add t x y u){m n:A3}
  (W:ρ x=.d (.str m))(V:ρ y=.d (.str n))(U:m.length+n.length<=lim):Bp P o ρ bx (.d (.str (m++n))) bx [] :=
 .Eb λ_ _ w _ a _ M=>by
  have I:=(M x (mo L (by grind [Op.operands])));rw[W]at I;have I:=I.Vw.1;have J:=(M y (mo L (by grind [Op.operands])));rw[V]at J;have J:=J.Vw.1;refine⟨.string (mkStr (m++n)),?_,.d _ _ (.str _ (by grind))⟩;have E:IntKind.i64.max=9223372036854775807:=by decide
  have O:¬(IntKind.i64.max<(m.length:Int)+n.length):=by rw[E];unfold lim at U;omega
  simp only[execOp,L,H5,Sem.run_map,I,J,E1u,Gz,binOp,Op.stringOp,C9s,G5a];simp_all
def F1w{t:TypeId}(I:o.op=.unOp .not t x){b:Bool}(J:ρ x=.d (.bool b)):Bp P o ρ bx (.d (.bool (!b))) bx [] :=
 .Eb λ_ _ w _ a _ L=>by have E:=(L x (mo I (by grind [Op.operands])));rw[J]at E;have E:=E.Wc;exact⟨.bool (!b),by simp[execOp,I,E,Op.unary],.bool _⟩
def H0h{t:TypeId}(I:o.op=.unOp .neg t x){k:IntKind}{n:Int}(J:ρ x=.d (.int k n)):Bp P o ρ bx (.d (.int k (k.wrap (0 - n)))) bx [] :=
 .Eb λ_ _ w _ a _ L=>by have E:=(L x (mo I (by grind [Op.operands])));rw[J]at E;have E:=E.J4;exact⟨.int k (k.wrap (0 - n)),by simp[execOp,I,E,Op.unary,Op.intArith],.int _ _⟩
def C5h(op:BinOp)(x y:Bool):Option Bool :=
 match op with
 |.eql=>some (x ==y)
 |.neq=>some (!(x ==y))
 |_=>none
def D7a{t u:TypeId}{x y:Operand}(L:o.op=.binOp op t x y u)(ht:P.underlying t=some .bool){m n:Bool}{b:Bool}
  (U:ρ x=.d (.bool m))(O:ρ y=.d (.bool n))(J:C5h op m n=some b):Bp P o ρ bx (.d (.bool b)) bx [] :=
 .Eb λ_ _ w _ a _ M=>by
  have E:=(M x (mo L (by grind [Op.operands])));rw[U]at E;have E:=E.Wc;have I:=(M y (mo L (by grind [Op.operands])));rw[O]at I;have I:=I.Wc;refine⟨.bool b,?_,.bool b⟩;simp only[execOp,L,H5,Sem.run_map,E,I,G3m,Gz];cases op <;> first
   |(simp only[C5h,reduceCtorEq]at J;done)
   |(simp only[C5h,B4]at J;subst J;first| (rw[run_eql_bool _ _ _ _ ht];rfl)| (rw[run_neq_bool _ _ _ _ ht];rfl))
def F7e{src dst:TypeId}(J:o.op=.convert src dst x){k E j:IntKind}{n:Int}
  (hs:P.underlying src=some (.int j))(M:P.underlying dst=some (.int E))(O:ρ x=.d (.int k n)):Bp P o ρ bx (.d (.int E (E.wrap n))) bx [] :=
 .Eb λ_ _ w _ a _ L=>by have I:=(L x (mo J (by grind [Op.operands])));rw[O]at I;have I:=I.J4;refine⟨.int E (E.wrap n),?_,.int _ _⟩;simp[execOp,J,I,convert,underlying,hs,M,Conv.intToInt]
def G0i{src dst:TypeId}(I:o.op=.convert src dst x){s:A3}
  (hs:P.underlying src=some .string)(M:P.underlying dst=some .string)(O:ρ x=.d (.str s)):Bp P o ρ bx (.d (.str s)) bx [] :=
 .Eb λ_ _ w _ a _ J=>by have E:=(J x (mo I (by grind [Op.operands])));rw[O]at E;have L:=E.Vw.1;refine⟨.string (mkStr s),?_,by grind⟩;simp[execOp,I,L,convert,underlying,hs,M]
def F5t{i:Nat}(J:o.op=.extract x i){xs:List SV}{r:SV}(O:ρ x=.tuple xs)(hr:xs[i]?=some r):Bp P o ρ bx r bx [] :=
 .Eb λ_ _ w _ a _ L=>by
  have E:=(L x (mo J (by grind [Op.operands])));rw[O]at E;generalize M:a.eval x=v at E;cases E with
  |tuple _ vs U h =>
   have I:i<vs.length:=by have:=(B5.1 hr).1;omega
   refine⟨vs[i],?_,h i r _ hr (B8 I)⟩;simp[execOp,J,M,Instr.extract,I]
def G0n{t:TypeId}(J:o.op=.makeInterface t x){y:D}(O:ρ x=.d y){E:TypeDesc}(ht:P.underlying t=some E)
  (L:(match E with| .interface _=>false|_=>true)=true):Bp P o ρ bx (.d (.iface t y)) bx [] :=
 .Eb λ_ _ w _ a _ M=>by have I:=(M x (mC J));rw[O]at I;refine⟨.iface t (a.eval x),?_,.d _ _ (.iface t y _ I.J0)⟩;cases E <;> simp at L <;> simp[execOp,J,Instr.makeInterface,underlying,ht]
def G8d{ds:List D}{v:Value}(h:Ak S w β (.agg (ds.map SV.d)) v):C0 S w (.agg ds) v:=by
 generalize L:ds.map SV.d=cs at h;cases h with
 |agg _ vs O I J =>
  subst L;refine .agg ds vs (by grind) ?_ ?_
  .intro d E;have:=I (.d d) (B1.2 ⟨d,E,rfl⟩);simpa [SV.one]using this
  .intro j d v E M;exact(J j (.d d) v (by grind) M).J0
def E7p{ds:List D}{v:Value}(h:C0 S w (.agg ds) v):Ak S w β (.agg (ds.map SV.d)) v:=by
 cases h with
 |agg _ vs O J L =>
  refine .agg _ vs (by grind) ?_ ?_
  .intro c I;obtain⟨d,E,rfl⟩:=B1.1 I;exact J d E
  .intro j c v I M;obtain⟨d,E,rfl⟩:=by simpa using I
   exact .d _ _ (L j d v E M)
def H0j{t:TypeId}(J:o.op=.makeInterface t x){ys:List D}(O:ρ x=.agg (ys.map SV.d)){E:TypeDesc}(ht:P.underlying t=some E)
  (L:(match E with| .interface _=>false|_=>true)=true):Bp P o ρ bx (.d (.iface t (.agg ys))) bx [] :=
 .Eb λ_ _ w _ a _ M=>by have I:=(M x (mC J));rw[O]at I;refine⟨.iface t (a.eval x),?_,.d _ _ (.iface t _ _ (G8d I))⟩;cases E <;> simp at L <;> simp[execOp,J,Instr.makeInterface,underlying,ht]
end Go.Abs
namespace Go.Abs
open Go
variable {P:Program} {o:Oper} {ρ:Hb} {bx:Aa}
def Cu(P:Program)(T:TypeId):Option Bool:=(P.underlying T).map λd=>match d with| .struct _| .array _ _=>true|_=>false
def Bm(P:Program)(T:TypeId):Option Nat:=(P.info? T).map (·.size)
def Cc(P:Program)(T:TypeId)(f:Nat):Option Nat :=
 match P.underlying T with
 |some (.struct fs)=>match fs[f]? with
  |some E=>match P.info? E.type with
   |some i=>if i.size=0 then none else some E.offset
   |none=>none
  |none=>none
 |_=>none
def E4(P:Program)(T:TypeId):Option TypeId :=
 match P.underlying T with
 |some (.slice e)=>some e
 |_=>none
def C1w{T:TypeId}{b:Bool}(h:Cu P T=some b)(w:World):(isAgg T).run P w=.ok b w:=by
 unfold Cu at h;cases E:P.underlying T with
 |none=>grind
 |some d =>simp only[E,Eu,B4]at h;subst h;simp only[isAgg,underlying,H5,run_program,Gz,E,Kx];cases d <;> rfl
def Q6{T:TypeId}{n:Nat}(h:Bm P T=some n)(w:World):(sizeOf T).run P w=.ok n w:=by
 unfold Bm at h;cases E:P.info? T with
 |none=>grind
 |some d =>simp only[E,Eu,B4]at h;subst h;simp[sizeOf,typeInfo,E]
theorem Yv(b off n:Nat):(⟨b,off,none⟩:Addr).add n=⟨b,off+n,none⟩:=by grind [Addr.add]
def D0p{T f off b p:Nat}(h:Cc P T f=some off)(w:World):(Instr.fieldAt T (.pointer (some ⟨b,p,none⟩)) f).run P w=.ok (.pointer (some ⟨b,p+off,none⟩)) w:=by
 unfold Cc at h;cases J:P.underlying T with
 |none=>grind
 |some d =>
  rw[J]at h;cases d <;> simp only[reduceCtorEq]at h;rename_i fs;cases E:fs[f]? with
  |none=>grind
  |some L =>
   simp only[E]at h;cases I:P.info? L.type with
   |none=>grind
   |some i =>
    simp only[I]at h;split at h
    .grind
    .rename_i hs;simp only[B4]at h;subst h;simp[Instr.fieldAt,underlying,J,E,Instr.sureAddr,fieldPlace,sizeOf,typeInfo,I,hs,Yv]
variable {w:World}
def C9o{T b p:Nat}{v:Value}(hT:Cu P T=some false)(E:w.cell? ⟨b,p,none⟩=some v) :
  (Instr.loadAt T (.pointer (some ⟨b,p,none⟩))).run P w=.ok v w:=by
 simp[Instr.loadAt,Instr.sureAddr,loadVar,C1w hT,E]
variable {vs:List Value}
def C5z{T b p n:Nat}(hT:Cu P T=some true)(hs:Bm P T=some n)(E:vs.length=n)
  (J:∀(j:Nat) (v:Value),vs[j]?=some v->w.cell? ⟨b,p+j,none⟩=some v) :
  (Instr.loadAt T (.pointer (some ⟨b,p,none⟩))).run P w=.ok (.agg ⟨vs⟩) w:=by
 have h:=run_loadCells_list (P:=P) w ⟨b,p,none⟩ vs (λj v I=>by rw[Yv];grind);subst E;simp[Instr.loadAt,Instr.sureAddr,loadVar,C1w hT,Q6 hs,h]
theorem cells_of_row{b:Nat}{ty:TypeId}{E:Nat × Nat}(h:w.heap[b]?=some (.cells ⟨vs⟩ ty E))(p:Nat):w.cell? ⟨b,p,none⟩=vs[p]?:=by rw[cell_of_row w b p ⟨vs⟩ ty E h];simp
variable {S:Nat->Prop} {β:Names}
def Ak.A5i{k off:Nat}{v:Value}(h:Ak S w β (.box k off) v):∃b,(β k).base=some b/\v=.pointer (some ⟨b,off,none⟩):=by cases h with|box k off b h=>grind
def part(cs:List SV)(off n:Nat):List SV:=(cs.drop off).take n
def A5v(cs:List D)(off n:Nat):List D:=(cs.drop off).take n
def Ak.A4f{cs:List SV}(h:Bv S w β cs vs)(E:cs.all SV.one=true):Ak S w β (.agg cs) (.agg ⟨vs⟩) :=
 .agg cs vs h.1 (λc I=>Dr.1 E c I) h.2
def Bv.part{cs:List SV}(h:Bv S w β cs vs)(off n:Nat):Bv S w β (part cs off n) ((vs.drop off).take n):=by
 refine⟨by simp[Abs.part,h.1],?_⟩;intro j c v I E;simp only[Abs.part,An1,Th]at I E;split at I
 .rw[A9 (by omega)]at E;exact h.2 _ c v I E
 grind
variable {x:Operand}
def B5x{T:TypeId}(M:o.op=.load T x){k off n:Nat}{cs:List SV}(hx:ρ x=.box k off)(V:(k,Ap.cells cs)∈bx)
  (hT:Cu P T=some true)(hs:Bm P T=some n)(hl:off+n<=cs.length)(U:(part cs off n).all SV.one=true):Bp P o ρ bx (.agg (part cs off n)) bx [] :=
 .Eb λ_ _ w β a W O=>by
  have L:=(O x (mo M (by grind [Op.operands])));rw[hx]at L;obtain⟨b,E,Z⟩:=L.A5i;obtain⟨b',ty,vs,J,hh,hr⟩:=W.box k _ V;rw[E]at J;cases J;refine⟨.agg ⟨(vs.drop off).take n⟩,?_,Ak.A4f (hr.part off n) U⟩;have:=hr.1;have I:=C5z (P:=P) (w:=w) (b:=b) (p:=off) (vs:=(vs.drop off).take n) hT hs (by grind) (by grind [cells_of_row])
  simp[execOp,M,Z,I]
structure B3q(S:Nat->Prop)(w:World)(cells:List D)(off:Nat)(v:Value)(b base:Nat):Prop where
 v:v=.pointer (some ⟨b,base+off,none⟩)
 inS:S b
 one:∀d,d∈cells->d.one=true
 there:∀j,j<cells.length->∃v,w.cell? ⟨b,base+j,none⟩=some v
 rep:∀(j:Nat) (d:D) (v:Value),cells[j]?=some d->w.cell? ⟨b,base+j,none⟩=some v->C0 S w d v
def Ak.C1p{cells:List D}{off:Nat}{v:Value}(h:Ak S w β (.Ah cells off) v):∃b base,B3q S w cells off v b base:=by cases h with|Ah cells off b base J E L I=>exact⟨b,base,rfl,J,E,L,I⟩
def Ak.E4h{cells:List D}{v:Value}(h:Ak S w β (.d (.ptr cells)) v):∃b base,B3q S w cells 0 v b base:=by
 cases h with
 |d _ _ h=>cases h with|ptr cells b base J E L I=>exact⟨b,base,by simp,J,E,L,I⟩
def B3q.Ah{cells:List D}{off E:Nat}{v:Value}{b base:Nat}(h:B3q S w cells off v b base):Ak S w β (.Ah cells E) (.pointer (some ⟨b,base+E,none⟩)) :=
  .Ah cells E b base h.inS h.one h.there h.rep
inductive B6d:SV->List D->Nat->Prop where
 |Ah (cells:List D) (off:Nat):B6d (.Ah cells off) cells off
 |ptr (cells:List D):B6d (.d (.ptr cells)) cells 0
def Ak.E1z{x:SV}{cells:List D}{off:Nat}{v:Value}(h:Ak S w β x v)(E:B6d x cells off):∃b base,B3q S w cells off v b base:=by
 cases E with
 |Ah=>exact h.C1p
 |ptr=>exact h.E4h
def F3r{T f d:Nat}(J:o.op=.fieldAddr T x f){k off:Nat}(U:ρ x=.box k off)(M:Cc P T f=some d):Bp P o ρ bx (.box k (off+d)) bx [] :=
 .Eb λ_ _ w β a V L=>by have I:=(L x (mo J (by grind [Op.operands])));rw[U]at I;obtain⟨b,E,O⟩:=I.A5i;exact⟨.pointer (some ⟨b,off+d,none⟩),by simp[execOp,J,O,D0p M],.box _ _ _ E⟩
def D1v{T f d:Nat}(E:o.op=.fieldAddr T x f){cells:List D}{off:Nat}(L:B6d (ρ x) cells off)(J:Cc P T f=some d) :
  Bp P o ρ bx (.Ah cells (off+d)) bx [] :=
 .Eb λ_ _ w β a M I=>by obtain⟨b,base,hp⟩:=((I x (mo E (by grind [Op.operands])))).E1z L;exact⟨.pointer (some ⟨b,base+(off+d),none⟩),by simp[execOp,E,hp.v,D0p J,Wr],hp.Ah⟩
def F0s{T f d:Nat}(J:o.op=.fieldAddr T x f){k i off:Nat}(U:ρ x=.Em k i off)(M:Cc P T f=some d):Bp P o ρ bx (.Em k i (off+d)) bx [] :=
 .Eb λ_ _ w β a V L=>by
  have E:=(L x (mo J (by grind [Op.operands])));rw[U]at E;generalize O:a.eval x=v at E;cases E with
  |Em k i off b I =>exact⟨.pointer (some ⟨b,((β k).off+i)*(β k).sz+(off+d),none⟩),by simp[execOp,J,O,D0p M,Wr],.Em _ _ _ _ I⟩
def E5m{T e n:Nat}{b p len cap:Nat}{i:Int}{k:IntKind}(hT:E4 P T=some e)(hs:Bm P e=some n)(I:0<=i)(J:i<len)(w:World) :
  (Instr.indexAt T (.slice (some ⟨b,p,none⟩) len cap) (.int k i)).run P w=.ok (.pointer (some ⟨b,p+i.toNat*n,none⟩)) w:=by
 unfold E4 at hT;cases E:P.underlying T with
 |none=>grind
 |some d =>rw[E]at hT;cases d <;> simp only[reduceCtorEq,B4]at hT;subst hT;simp[Instr.indexAt,asIntOf,underlying,E,I,J,Q6 hs,Yv]
def F1z{T e n:Nat}{x y:Operand}(M:o.op=.indexAddr T x y){rows:List (List D)}{k:IntKind}{i:Int}{row:List D}(Z:ρ x=.d (.slice rows))(hy:ρ y=.d (.int k i))
  (hT:E4 P T=some e)(hs:Bm P e=some n)(h0:0<=i)(hr:rows[i.toNat]?=some row)(hn:row.length=n):Bp P o ρ bx (.Ah row 0) bx [] :=
 .Eb λ_ S w β a hi V=>by
  have E:=(V x (mo M (by grind [Op.operands])));rw[Z]at E;have I:=(V y (mo M (by grind [Op.operands])));rw[hy]at I;have I:=I.J4;have U:=(B5.1 hr).1;have J:=Br hr;generalize hv:a.eval x=v at E;cases E with
  |d _ _ E =>
   cases E with
   |Jz=>grind
   |slice _ b off cap sz W h1 h2 h3 L h4 h5 =>
    have O:sz=n:=by rw[<-hn];exact(h3 row J).symm
    subst O;refine⟨.pointer (some ⟨b,(off+i.toNat*sz)+0,none⟩),?_,.Ah row 0 b (off+i.toNat*sz) W (L row J) ?_ ?_⟩
    .simp[execOp,M,hv,I,E5m hT hs h0 (show i<(rows.length:Int) by omega)]
    .grind
    grind
def E8d{T e n:Nat}{x y:Operand}(M:o.op=.indexAddr T x y){q:Nat}{sz:Nat}{rows:List (List D)}{k:IntKind}{i:Int}(V:ρ x=.acc q)(Z:(q,Ap.rows sz rows)∈bx)
  (hy:ρ y=.d (.int k i))(hT:E4 P T=some e)(hs:Bm P e=some n)(L:sz=n)(W:0<=i)(h1:i.toNat<rows.length):Bp P o ρ bx (.Em q i.toNat 0) bx [] :=
 .Eb λ_ S w β a hi U=>by
  have J:=(U x (mo M (by grind [Op.operands])));rw[V]at J;have I:=(U y (mo M (by grind [Op.operands])));rw[hy]at I;have I:=I.J4;generalize O:a.eval x=v at J;obtain⟨g1,g2,g3,g4,g5,g6,g7⟩:=hi.box q _ Z;cases J with
  |acc q =>
   cases E:(β q).base with
   |none=>grind
   |some b =>subst L;refine⟨.pointer (some ⟨b,((β q).off+i.toNat)*(β q).sz+0,none⟩),?_,.Em q i.toNat 0 b E⟩;rw[E]at O;simp only[Eu]at O;simp[execOp,M,O,I,E5m hT hs W (show i<(((β q).len:Nat):Int) by omega),g1,Gy]
def E8b{T:Nat}{x y:Operand}(J:o.op=.index T x y){s:A3}{k:IntKind}{i:Int}{c:UInt8}(Z:ρ x=.d (.str s))(W:ρ y=.d (.int k i))
  (hT:P.underlying T=some .string)(O:0<=i)(hr:s[i.toNat]?=some c):Bp P o ρ bx (.d (.int .u8 c.toNat)) bx [] :=
 .Eb λ_ S w β a hi M=>by
  have E:=(M x (mo J (by grind [Op.operands])));rw[Z]at E;have E:=E.Vw.1;have I:=(M y (mo J (by grind [Op.operands])));rw[W]at I;have I:=I.J4;refine⟨.int .u8 c.toNat,?_,.int _ _⟩;have V:(mkStr s)[i.toNat]?=some c:=by
   obtain⟨U,h2⟩:=B5.1 hr;have L:i.toNat<(mkStr s).size:=U;rw[getElem?_pos (mkStr s) i.toNat L]
   congr 1
  simp[execOp,J,E,I,Instr.index,asIntOf,underlying,hT,O,V]
def F9x{T f d n:Nat}(M:o.op=.field T x f){cs:List SV}{L:TypeId}(hx:ρ x=.agg cs){fs:Array Field}{E:Field}
  (hT:P.underlying T=some (.struct fs))(W:fs[f]?=some E)(U:E.offset=d)(J:E.type=L)(O:Cu P L=some true)(hs:Bm P L=some n):Bp P o ρ bx (.agg (part cs d n)) bx [] :=
 .Eb λ_ S w β a hi h=>by
  have I:=h x (mC M);rw[hx]at I;generalize hv:a.eval x=v at I;cases I with
  |agg _ vs hl V Z =>
   subst U J;refine⟨.agg ⟨(vs.drop E.offset).take n⟩,?_,Ak.A4f (Bv.part ⟨hl,Z⟩ _ _) ?_⟩
   .have he:(Array.mk vs).extract E.offset (E.offset+n)=⟨(vs.drop E.offset).take n⟩:=by
     apply J6;simp
    simp[execOp,M,hv,Instr.field,underlying,hT,W,Go.part,C1w O,Q6 hs,asAgg,he]
   .rw[Dr];intro c hc;exact V c (X3 (Hh hc))
def G2j{T f d:Nat}(O:o.op=.field T x f){cs:List SV}{M:TypeId}{c:SV}(hx:ρ x=.agg cs){fs:Array Field}{I:Field}
  (hT:P.underlying T=some (.struct fs))(Z:fs[f]?=some I)(W:I.offset=d)(J:I.type=M)(V:Cu P M=some false)(U:cs[d]?=some c):Bp P o ρ bx c bx [] :=
 .Eb λ_ S w β a hi h=>by
  have E:=h x (mC O);rw[hx]at E;generalize hv:a.eval x=v at E;cases E with
  |agg _ vs hl h1 h2 =>
   subst W J;have L:I.offset<vs.length:=by have:=(B5.1 U).1;omega
   refine⟨vs[I.offset],?_,h2 _ c _ U (B8 L)⟩;simp[execOp,O,hv,Instr.field,underlying,hT,Z,Go.part,C1w V,asAgg,L]
def F5i(J:o.op=.nilCheck x){k off:Nat}(O:ρ x=.box k off):Bp P o ρ bx (.box k off) bx [] :=
 .Eb λ_ _ w β a U L=>by have E:=(L x (mo J (by grind [Op.operands])));rw[O]at E;obtain⟨b,I,M⟩:=E.A5i;exact⟨a.eval x,by simp[execOp,J,M],E⟩
def D6n(E:o.op=.nilCheck x){cells:List D}{off:Nat}(J:B6d (ρ x) cells off):Bp P o ρ bx (ρ x) bx [] :=
 .Eb λ_ _ w β a L I=>by obtain⟨b,base,hp⟩:=((I x (mo E (by grind [Op.operands])))).E1z J;exact⟨a.eval x,by simp[execOp,E,hp.v],(I x (mo E (by grind [Op.operands])))⟩
def run_len_slice{T:TypeId}{e:TypeId}(hT:E4 P T=some e)(a:Option Addr)(n c:Nat)(ty:TypeId)(w:World):(Builtin.len_ #[T] ty #[.slice a n c]).run P w=.ok (.int .i64 n) w:=by
 unfold E4 at hT;cases E:P.underlying T with
 |none=>grind
 |some d =>rw[E]at hT;cases d <;> simp only[reduceCtorEq,B4]at hT;simp[Builtin.len_,underlying,E,goInt]
def G1f{T e:Nat}(I:o.op=.call { callee:=.builtin .len,args:=#[x],argTypes:=#[T] }){rows:List (List D)}(M:ρ x=.d (.slice rows))(hT:E4 P T=some e) :
  Bp P o ρ bx (.d (.int .i64 rows.length)) bx [] :=
 .Eb λ_ _ w β a O J=>by
  have E:=(J x (mC I));rw[M]at E;generalize L:a.eval x=v at E;refine⟨.int .i64 rows.length,?_,.int _ _⟩;cases E with
  |d _ _ E =>cases E <;> simp[execOp,I,resolve,invoke,builtin,L,run_len_slice hT]
def D6k{T e:Nat}(I:o.op=.call { callee:=.builtin .len,args:=#[x],argTypes:=#[T] })(hx:ρ x=.d .nil\/ρ x=.d .emp)(hT:E4 P T=some e) :
  Bp P o ρ bx (.d (.int .i64 0)) bx [] :=
 .Eb λ_ _ w β a M J=>by
  have E:=(J x (mC I));generalize L:a.eval x=v at E;refine⟨.int .i64 0,?_,.int _ _⟩;rcases hx with hx|hx <;> rw[hx]at E <;> cases E with
  |d _ _ E=>cases E;simp[execOp,I,resolve,invoke,builtin,L,run_len_slice hT]
def G1j{T e:Nat}(I:o.op=.call { callee:=.builtin .len,args:=#[x],argTypes:=#[T] }){q sz:Nat}{rows:List (List D)}(V:ρ x=.acc q)(M:(q,Ap.rows sz rows)∈bx)(hT:E4 P T=some e) :
  Bp P o ρ bx (.d (.int .i64 rows.length)) bx [] :=
 .Eb λ_ _ w β a O L=>by
  have E:=(L x (mC I));rw[V]at E;generalize U:a.eval x=v at E;obtain⟨W,J,_⟩:=O.box q _ M;refine⟨.int .i64 rows.length,?_,.int _ _⟩;cases E with
  |acc q=>simp[execOp,I,resolve,invoke,builtin,U,run_len_slice hT,J]
def G5v{T:Nat}(I:o.op=.call { callee:=.builtin .len,args:=#[x],argTypes:=#[T] }){s:A3}(M:ρ x=.d (.str s))(hT:P.underlying T=some .string) :
  Bp P o ρ bx (.d (.int .i64 s.length)) bx [] :=
 .Eb λ_ _ w β a O J=>by have E:=(J x (mC I));rw[M]at E;have L:=E.Vw.1;refine⟨.int .i64 s.length,?_,.int _ _⟩;simp[execOp,I,resolve,invoke,builtin,L,Builtin.len_,underlying,hT,goInt,C9s]
def X8(op:BinOp)(E:Bool):Option Bool :=
 match op with
 |.eql=>some E
 |.neq=>some (!E)
 |_=>none
def R3:SV->Option Bool
 |.d .Kt=>some true
 |.d (.ptr _)| .Ah _ _| .box _ _| .Em _ _ _=>some false
 |_=>none
theorem Ak.R3{x:SV}{v:Value}(h:Ak S w β x v){b:Bool}(E:R3 x=some b):∃p,v=.pointer p/\p.isNone=b:=by
 cases h with
 |d _ _ h=>cases h <;> simp[Abs.R3]at E <;> subst E <;> simp
 |box _ _ _ _=>grind [Abs.R3]
 |Ah _ _ _ _ _ _ _=>grind [Abs.R3]
 |Em _ _ _ _ _=>grind [Abs.R3]
 |_=>simp[Abs.R3]at E
variable {op:BinOp}
def E0x{t u:TypeId}{x y:Operand}(L:o.op=.binOp op t x y u){b r:Bool}(ht:(P.underlying t).any (λd=>match d with| .pointer _=>true|_=>false)=true)
  (W:R3 (ρ x)=some b)(U:ρ y=.d .Kt)(I:X8 op b=some r):Bp P o ρ bx (.d (.bool r)) bx [] :=
 .Eb λ_ _ w _ a _ M=>by
  obtain⟨p,hp,V⟩:=((M x (mC L))).R3 W;have E:=(M y (mC L));rw[U]at E;have E:a.eval y=.pointer none:=by generalize a.eval y=z at E;cases E with|d _ _ h=>cases h;rfl
  refine⟨.bool r,?_,.bool r⟩;cases O:P.underlying t with
  |none=>grind
  |some d =>
   cases d <;> simp[O]at ht;rename_i e;have J:(Op.equal t (.pointer p) (.pointer none)).run P w=.ok b w:=by unfold Op.equal Op.maxDepth Op.equalIn;cases p <;> simp[underlying,O]at* <;> omega <;> rfl
   simp only[execOp,L,H5,Sem.run_map,hp,E,F6p,Gz];cases op <;> first
    |(simp only[X8,reduceCtorEq]at I;done)
    |(simp only[X8,B4]at I;subst I;simp[binOp,J])
def D4g:SV->Option Bool
 |.d .Jw=>some true
 |.d (.iface _ _)=>some false
 |_=>none
def B0d:Operand->Bool
 |.const .nilIface=>true
 |_=>false
def C3a{t u:TypeId}{x y:Operand}(V:o.op=.binOp op t x y u){b r:Bool}(ht:(P.underlying t).any (λd=>match d with| .interface _=>true|_=>false)=true)
  (E:D4g (ρ x)=some b)(hy:ρ y=.d .Jw)(W:B0d y=true)(J:X8 op b=some r):Bp P o ρ bx (.d (.bool r)) bx [] :=
 .Eb λ_ _ w _ a _ ha=>by
  have M:=ha x (mC V);have U:y=.const .nilIface:=by
   unfold B0d at W;split at W
   .rfl
   .simp at W
  subst U;have Z:a.eval (.const .nilIface)=.nilIface:=rfl;refine⟨.bool r,?_,.bool r⟩;cases O:P.underlying t with
  |none=>simp[O]at ht
  |some d =>
   cases d <;> simp[O]at ht;rename_i e;generalize ρ x=rx at E M;generalize L:a.eval x=vx at M;have key:(vx=.nilIface/\b=true)\/∃T z,vx=.iface T z/\b=false:=by
    unfold D4g at E;split at E
    .simp only[B4]at E;have:=M.J0;cases this;exact .inl ⟨rfl,E.symm⟩
    .simp only[B4]at E;have:=M.J0;cases this;exact .inr ⟨_,_,rfl,E.symm⟩
    .simp at E
   rcases key with⟨rfl,rfl⟩|⟨T,z,rfl,rfl⟩
   .have I:(Op.equal t .nilIface .nilIface).run P w=.ok true w:=by
     unfold Op.equal Op.maxDepth Op.equalIn;simp[underlying,O]
    cases op <;> first
     |(simp only[X8,reduceCtorEq]at J;done)
     |(simp only[X8,B4]at J;subst J;simp[execOp,V,L,Z,eqGuard,binOp,I])
   .have I:(Op.equal t (.iface T z) .nilIface).run P w=.ok false w:=by
     unfold Op.equal Op.maxDepth Op.equalIn;simp[underlying,O]
    cases op <;> first
     |(simp only[X8,reduceCtorEq]at J;done)
     |(simp only[X8,B4]at J;subst J;simp[execOp,V,L,Z,eqGuard,binOp,I])
def Qz:SV->Option Bool
 |.d .nil=>some true
 |.d .emp=>some false
 |.d (.slice (_::_))=>some false
 |_=>none
theorem Ak.Qz{x:SV}{v:Value}(h:Ak S w β x v){b:Bool}(E:Qz x=some b):∃p l c,v=.slice p l c/\p.isNone=b:=by
 cases h with
 |d _ _ h =>
  cases h with
  |nil=>grind [Abs.Qz]
  |emp=>grind [Abs.Qz]
  |Jz=>simp[Abs.Qz]at E
  |slice rows=>cases rows <;> simp[Abs.Qz]at E;grind
  |_=>simp[Abs.Qz]at E
 |_=>simp[Abs.Qz]at E
def D8n{t u:TypeId}{x y:Operand}(L:o.op=.binOp op t x y u){e:Nat}{b r:Bool}(ht:E4 P t=some e)
  (W:Qz (ρ x)=some b)(U:ρ y=.d .nil)(I:X8 op b=some r):Bp P o ρ bx (.d (.bool r)) bx [] :=
 .Eb λ_ _ w _ a _ M=>by
  obtain⟨p,l,c,hp,V⟩:=((M x (mo L (by grind [Op.operands])))).Qz W;have E:=(M y (mo L (by grind [Op.operands])));rw[U]at E;have E:a.eval y=.slice none 0 0:=by generalize a.eval y=z at E;cases E with|d _ _ h=>cases h;rfl
  refine⟨.bool r,?_,.bool r⟩;unfold E4 at ht;cases O:P.underlying t with
  |none=>grind
  |some d =>
   rw[O]at ht;cases d <;> simp only[reduceCtorEq,B4]at ht;rename_i e;have J:(Op.equal t (.slice p l c) (.slice none 0 0)).run P w=.ok b w:=by unfold Op.equal Op.maxDepth Op.equalIn;cases p <;> simp[underlying,O]at* <;> omega <;> rfl
   simp only[execOp,L,H5,Sem.run_map,hp,E,G3h,Gz];cases op <;> first
    |(simp only[X8,reduceCtorEq]at I;done)
    |(simp only[X8,B4]at I;subst I;simp[binOp,J])
end Go.Abs
namespace Go.Abs
open Go
variable {P:Program} {o:Oper} {ρ:Hb} {bx:Aa}
def Ca(k:Nat):Aa->Aa
 |[]=>[]
 |(j,c)::r=>if j=k then Ca k r else(j,c)::Ca k r
theorem E3{k j:Nat}{c:Ap} :∀{bx:Aa},(j,c)∈Ca k bx↔j≠k/\(j,c)∈bx
 |[]=>by simp[Ca]
 |(i,x)::r=>by
  simp only[Ca];split
  .rename_i h;subst h;rw[E3];grind
  .rename_i h;simp only[Aw,Eo,E3]
   grind
def Nf(k:Nat)(x:SV):SV:=if x.has k then .undef else x
def Wq(k:Nat):SL->SL
 |[]=>[]
 |(t,x)::r=>(t,Nf k x)::Wq k r
def A9r(k:Nat):∀(sl:SL)(t:Nat),Ag (Wq k sl) t=Nf k (Ag sl t)
 |[],t=>by rfl
 |(u,x)::r,t=>by
  simp only[Wq,Ag];split
  .rfl
  .exact A9r k r t
def Ap.Sz(k:Nat):Ap->Ap
 |.cells cs=>.cells (cs.map (Nf k))
 |c=>c
def Gw(k:Nat):Aa->Aa
 |[]=>[]
 |(j,c)::r=>(j,c.Sz k)::Gw k r
def B0n{k j:Nat}{c:Ap} :∀{bx:Aa},(j,c)∈Gw k bx->∃x,(j,x)∈bx/\c=x.Sz k
 |[],h=>by simp[Gw]at h
 |(i,x)::r,h=>by
  simp only[Gw,Aw,Eo]at h;rcases h with⟨J,I⟩|h
  .grind
  .obtain⟨y,E,L⟩:=B0n h;grind
def Eg(β:Names)(k:Nat)(i:BI):Names:=λj=>if j=k then i else β j
theorem H2(β:Names)(k:Nat)(i:BI):Eg β k i k=i:=by simp[Eg]
variable {β:Names}
theorem Lo{k j:Nat}{i:BI}(h:j≠k):Eg β k i j =β j:=by simp[Eg,h]
variable {k:Nat}
def Ak.Sz{S S':Nat->Prop}{w w':World}{i:BI}{x:SV}{v:Value}(h:Ak S w β x v)(e:Bk S w S' w'):Ak S' w' (Eg β k i) (Nf k x) v:=by
 unfold Nf;split
 .exact .undef v
 .rename_i I;refine h.ext e λj E=>Lo ?_
  grind
def Df.Sz{S S':Nat->Prop}{w w':World}{i I:BI}{c:Ap}(h:Df S w β I c)(e:Bk S w S' w')
  (E:∀b,I.base=some b->w'.heap[b]?=w.heap[b]?):Df S' w' (Eg β k i) I (c.Sz k):=by
 cases c with
 |cells cs =>obtain⟨b,ty,vs,J,O,M⟩:=h;refine⟨b,ty,vs,J,(E b J).trans O,M.map (by simp) ?_⟩;intro j x y v U L hr;simp only[Db,U,Eu,B4]at L;subst L;exact hr.Sz e
 |rows sz rs=>exact Df.ext (c:=.rows sz rs) h e E (by simp[Ap.has])
 |map kvs=>exact Df.ext (c:=.map kvs) h e E (by simp[Ap.has])
 |iter kvs seen=>exact Df.ext (c:=.iter kvs seen) h e E (by simp[Ap.has])
 |ghost Y st=>exact h
variable {S:Nat->Prop}
def Inv.A5b{C:Ctx}{w w':World}{k b:Nat}{x c:Ap}(h:Inv C S w β bx)(U:(k,x)∈bx)(hb:(β k).base=some b)
  (hw:∀I,I≠b->w'.heap[I]?=w.heap[I]?)(W:w'.os=w.os)(M:w'.tape=w.tape)(V:w'.output=w.output)(Pf:w'.heap.size=w.heap.size)
  (hc:Df S w' β (β k) c)(a1:c.real=true:=by rfl):Inv C S w' β ((k,c)::Ca k bx)/\Bk S w S w':=by
 have e:Bk S w S w':=⟨λ_ h=>h,λI E=>hw I λZ=>(h.B7 k x U b hb).1 (Z ▸ E)⟩;refine⟨h.step e (λI E=>.inl E) (λI E=>by rw[Pf];exact h.Bf I E) (λI _ hn=>hw I λZ=>hn k x U (by grind)) W M V (by omega) ?_ ?_ (λ_ _=>rfl) ?_,e⟩
 .intro j d hj;simp only[Aw,Eo]at hj;rcases hj with⟨rfl,rfl⟩|hj
  .refine⟨hc,λI E=>?_⟩;obtain⟨h1,h2,_⟩:=h.B7 _ x U I E
   grind
  .obtain⟨J,hj⟩:=E3.1 hj;refine⟨(h.box j d hj).ext e (λI E=>hw I λZ=>J (h.inj j d k x hj U I E (by grind)).1) (λ_ _=>rfl),λI E=>?_⟩;obtain⟨h1,h2,_⟩:=h.B7 j d hj I E
   grind
 .intro j d j' d' hj hj' I L O;simp only[Aw,Eo]at hj hj';rcases hj with⟨rfl,rfl⟩|hj
  .rcases hj' with⟨rfl,rfl⟩|hj'
   .simp
   .obtain⟨J,hj'⟩:=E3.1 hj';exact absurd (h.inj j' d' _ x hj' U I O L).1 J
  .obtain⟨J,g⟩:=E3.1 hj;clear hj;rcases hj' with⟨rfl,rfl⟩|hj'
   .exact absurd (h.inj j d _ x g U I L O).1 J
   .obtain⟨a0,g'⟩:=E3.1 hj';exact h.inj j d j' d' g g' I L O
 grind [Ap.real,E3]
def Inv.E2t{C:Ctx}{S S':Nat->Prop}{w w':World}{c:Ap}(i:BI)(h:Inv C S w β bx)(a9:k<=999999)
  (a1:∀b,S b->S' b)(Z:∀b,S' b->S b\/w.heap.size<=b)(a3:∀b,S' b->b<w'.heap.size)
  (hi:∀b,i.base=some b->¬S' b/\b<w'.heap.size/\(w.heap.size<=b\/∃x,(k,x)∈bx/\(β k).base=some b))
  (hw:∀E,E<w.heap.size->(∀x,(k,x)∈bx->(β k).base≠some E)->w'.heap[E]?=w.heap[E]?)
  (a2:w'.os=w.os)(V:w'.tape=w.tape)(W:w'.output=w.output)(Pf:w.heap.size<=w'.heap.size)
  (hc:Bk S w S' w'->Df S' w' (Eg β k i) i c)(a5:c.real=true:=by rfl):Inv C S' w' (Eg β k i) ((k,c)::Gw k (Ca k bx))/\Bk S w S' w':=by
 have e:Bk S w S' w':=⟨a1,λE I=>hw E (h.Bf E I) λx U he=>(h.B7 k x U E he).1 I⟩;refine⟨h.step e Z a3 (λE hb hn=>hw E hb λx U=>hn k x U) a2 V W Pf ?_ ?_ (λj hj=>Lo (by omega)) ?_,e⟩
 .intro j d hj;simp only[Aw,Eo]at hj;rcases hj with⟨rfl,rfl⟩|hj
  .rw[H2];refine⟨hc e,λE I=>?_⟩;obtain⟨h1,h2,h3⟩:=hi E I;refine⟨h1,h2,?_⟩;rcases h3 with h3|⟨x,U,a6⟩
   .exact .inl h3
   .exact .inr ⟨_,x,U,a6⟩
  .obtain⟨x,O,rfl⟩:=B0n hj;obtain⟨J,g⟩:=E3.1 O;rw[Lo J];refine⟨(h.box j x g).Sz e (λE I=>hw E (h.B7 j x g E I).2.1 λy hy he=>J (h.inj j x k y g hy E I he).1),λE I=>?_⟩;obtain⟨h1,h2,_⟩:=h.B7 j x g E I;exact⟨λhs=>(Z E hs).elim h1 (by omega),by omega,.inr ⟨_,x,g,I⟩⟩
 .have fresh:∀j x E,j≠k->(j,x)∈bx->(β j).base=some E->i.base≠some E:=by
   intro j x E J hj I a7;rcases(hi E a7).2.2 with h3|⟨y,hy,a4⟩
   .have:=(h.B7 j x hj E I).2.1;omega
   .exact J (h.inj j x k y hj hy E I a4).1
  intro j d j' d' hj hj' E M L;simp only[Aw,Eo]at hj hj';rcases hj with⟨rfl,rfl⟩|hj
  .rcases hj' with⟨rfl,rfl⟩|hj'
   .exact⟨rfl,rfl⟩
   .obtain⟨x,O,rfl⟩:=B0n hj';obtain⟨J,g⟩:=E3.1 O;rw[H2]at M;rw[Lo J]at L;exact absurd M (fresh j' x E J g L)
  .obtain⟨x,O,rfl⟩:=B0n hj;obtain⟨J,g⟩:=E3.1 O;clear hj O;rw[Lo J]at M;rcases hj' with⟨rfl,rfl⟩|hj'
   .rw[H2]at L;exact absurd L (fresh j x E J g M)
   .obtain⟨x',a8,rfl⟩:=B0n hj';obtain⟨a0,g'⟩:=E3.1 a8;rw[Lo a0]at L;obtain⟨h1,h2⟩:=h.inj j x j' x' g g' E M L
    grind
 .intro j Y st hj;simp only[Aw,Eo]at hj;rcases hj with⟨rfl,rfl⟩|hj
  .simp[Ap.real]at a5
  .obtain⟨x,O,U⟩:=B0n hj;cases x <;> simp only[Ap.Sz,reduceCtorEq]at U
   grind [E3]
def Inv.W1{C:Ctx}{w w':World}{c:Ap}(i:BI)(h:Inv C S w β bx)(M:k<=999999)
  (V:∀b,i.base=some b->¬S b/\b<w'.heap.size/\(w.heap.size<=b\/∃x,(k,x)∈bx/\(β k).base=some b))
  (Z:∀J,J<w.heap.size->(∀x,(k,x)∈bx->(β k).base≠some J)->w'.heap[J]?=w.heap[J]?)
  (L:w'.os=w.os)(E:w'.tape=w.tape)(I:w'.output=w.output)(Pf:w.heap.size<=w'.heap.size)
  (W:Bk S w S w'->Df S w' (Eg β k i) i c)(O:c.real=true:=by rfl):Inv C S w' (Eg β k i) ((k,c)::Gw k (Ca k bx))/\Bk S w S w' :=
 h.E2t i M (λ_ h=>h) (λ_ h=>.inl h) (λb U=>Vr (h.Bf b U) Pf) V Z L E I Pf W O
def Re:Value->SV
 |.int k n=>.d (.int k n)
 |.bool b=>.d (.bool b)
 |.string s=>if s.size<=lim then .d (.str s.data.toList)else .undef
 |.slice none 0 0=>.d .nil
 |.pointer none=>.d .Kt
 |.map none=>.d .Jt
 |.nilIface=>.d .Jw
 |.nilFunc=>.d .Hu
 |_=>.undef
def A5s:List SV->List SV->SV
 |[],l=>.agg l
 |c::r,l=>match c.one with
  |true=>A5s r l
  |false=>.undef
def L2:Value->SV
 |.int k n=>.d (.int k n)
 |.bool b=>.d (.bool b)
 |.string s=>if s.size<=lim then .d (.str s.data.toList)else .undef
 |.slice none 0 0=>.d .nil
 |.pointer none=>.d .Kt
 |.map none=>.d .Jt
 |.nilIface=>.d .Jw
 |.nilFunc=>.d .Hu
 |.tuple ⟨[]⟩=>.tuple []
 |.agg cells=>A5s (cells.toList.map Re) (cells.toList.map Re)
 |_=>.undef
theorem F7k(S:Nat->Prop)(w:World)(β:Names)(v:Value):Ak S w β (Re v) v:=by
 unfold Re;split
 .exact .int _ _
 .exact .bool _
 .rename_i s;split
  .exact .d _ _ (.str s.data.toList (by assumption))
  .exact .undef _
 .exact .d _ _ .nil
 .exact .d _ _ .Kt
 .exact .d _ _ .Jt
 .exact .d _ _ .Jw
 .exact .d _ _ .Hu
 .exact .undef _
def E0e:∀cs l:List SV,A5s cs l=.undef\/(A5s cs l=.agg l/\∀c,c∈cs->c.one=true)
 |[],l=>.inr ⟨rfl,by simp⟩
 |c::r,l=>by
  rw[A5s];cases I:c.one with
  |false=>simp
  |true =>
   rcases E0e r l with h|⟨h,E⟩
   .grind
   grind
theorem A7g(S:Nat->Prop)(w:World)(β:Names)(v:Value):Ak S w β (L2 v) v:=by
 unfold L2;split
 .exact .int _ _
 .exact .bool _
 .rename_i s;split
  .exact .d _ _ (.str s.data.toList (by assumption))
  .exact .undef _
 .exact .d _ _ .nil
 .exact .d _ _ .Kt
 .exact .d _ _ .Jt
 .exact .d _ _ .Jw
 .exact .d _ _ .Hu
 .exact .tuple [] [] rfl (by simp)
 .rename_i cells;rcases E0e (cells.toList.map Re) (cells.toList.map Re)with h|⟨h,E⟩
  .rw[h];exact .undef _
  .rw[h];obtain⟨vs⟩:=cells;refine .agg _ vs (by simp) E λj c v J I=>?_
   grind [F7k]
 .exact .undef _
def Cf(P:Program)(T:TypeId):Option (List SV):=((P.info? T).bind (·.zero)).map λz=>z.cells.toList.map L2
def B4g{T:TypeId}{I:List SV}(h:Cf P T=some I)(w:World):∃z,(zeroValue T).run P w=.ok z w/\I=z.cells.toList.map L2:=by
 unfold Cf at h;cases E:P.info? T with
 |none=>grind
 |some i =>
  cases hz:i.zero with
  |none=>grind
  |some z =>simp[E,hz]at h;exact⟨z,by simp[zeroValue,typeInfo,E,hz],h.symm⟩
def C6m(S:Nat->Prop)(w:World)(β:Names)(vs:List Value):Bv S w β (vs.map L2) vs:=by
 refine⟨by simp,?_⟩
 grind [A7g]
def D3g(w:World)(x:Obj){b:Nat}(h:b<w.heap.size):(w.heap.push x)[b]?=w.heap[b]?:=by grind
def C5r(w:World)(x:Obj):(w.heap.push x)[w.heap.size]?=some x:=by simp
variable {w:World} {vs:List Value}
def Inv.E5w{C:Ctx}{cs:List SV}(h:Inv C S w β bx)(E:k<=999999)(T:TypeId)(hr:Bv S w β cs vs) :
  Inv C S { w with heap:=w.heap.push (.cells ⟨vs⟩ T) } (Eg β k { base:=some w.heap.size }) ((k,.cells (cs.map (Nf k)))::Gw k (Ca k bx))/\Bk S w S { w with heap:=w.heap.push (.cells ⟨vs⟩ T) }:=by
 refine h.W1 { base:=some w.heap.size } E ?_ ?_ rfl rfl rfl (by simp) ?_
 .intro b J;simp only[B4]at J;subst J;exact⟨λhs=>by have:=h.Bf _ hs;omega,by simp,.inl (Bi _)⟩
 .grind
 .intro e;refine⟨w.heap.size,T,vs,rfl,C5r w _,hr.map (by simp) ?_⟩;intro j x y v M L I;simp only[Db,M,Eu,B4]at L;subst L;exact I.Sz e
theorem E6f{T k:Nat}(I:k<=999999)(U:o.op=.alloc T){J:List SV}(hz:Cf P T=some J) :
  Bp P o ρ bx (.box k 0) ((k,.cells (J.map (Nf k)))::Gw k (Ca k bx)) [k]:=by
 intro C S w β a O W;obtain⟨z,E,rfl⟩:=B4g hz w;obtain⟨L,M⟩:=O.E5w (k:=k) I T (C6m S w β z.cells.toList);refine H6 ?_;unfold Oper.wp;have:(execOp a.eval o).run P w=.ok (.value (.pointer (some ⟨w.heap.size,0,none⟩))) { w with heap:=w.heap.push (.cells ⟨z.cells.toList⟩ T) }:=by simp[execOp,U,Instr.alloc,E,newVar,newRow]
 rw[this];exact⟨_,S,_,rfl,L,M,.box k 0 _ (by rw[H2]),λj V=>Lo (by grind)⟩
def content:SV->Option (List SV)
 |.agg cs=>some cs
 |x=>if x.one then some [x]else none
theorem Ak.content{x:SV}{v:Value}{cs:List SV}(h:Ak S w β x v)(E:content x=some cs):Bv S w β cs v.cells.toList/\cs.all SV.one=true:=by
 cases h with
 |agg cells vs I J M =>simp only[Abs.content,B4]at E;subst E;exact⟨⟨I,M⟩,Dr.2 J⟩
 |undef v=>grind [Abs.content,SV.one]
 |tuple cells vs=>grind [Abs.content,SV.one]
 |d x v h =>
  simp only[Abs.content]at E;by_cases U:(SV.d x).one=true
  .rw[A9 U]at E;simp only[B4]at E;subst E;have I:=h.one U;have:v.cells.toList=[v]:=by cases v <;> simp[Value.oneCell']at I <;> rfl
   rw[this];exact⟨.cons (.d _ _ h) .nil,by grind⟩
  .rw[A6 U]at E;simp at E
 |box k off b L=>simp only[Abs.content,SV.one,Ae,B4]at E;subst E;exact⟨.cons (.box k off b L) .nil,rfl⟩
 |Ah cells off b base I J M O=>simp only[Abs.content,SV.one,Ae,B4]at E;subst E;exact⟨.cons (.Ah cells off b base I J M O) .nil,rfl⟩
 |acc k=>simp only[Abs.content,SV.one,Ae,B4]at E;subst E;exact⟨.cons (.acc k) .nil,rfl⟩
 |Em k i off b L=>simp only[Abs.content,SV.one,Ae,B4]at E;subst E;exact⟨.cons (.Em k i off b L) .nil,rfl⟩
 |mp k b L=>simp only[Abs.content,SV.one,Ae,B4]at E;subst E;exact⟨.cons (.mp k b L) .nil,rfl⟩
 |Ek l=>simp only[Abs.content,SV.one,Ae,B4]at E;subst E;exact⟨.cons (.Ek l) .nil,rfl⟩
 |Fs cells off b I J M O=>simp only[Abs.content,SV.one,Ae,B4]at E;subst E;exact⟨.cons (.Fs cells off b I J M O) .nil,rfl⟩
 |B0 f caps vs I J=>simp only[Abs.content,SV.one,Ae,B4]at E;subst E;exact⟨.cons (.B0 f caps vs I J) .nil,rfl⟩
theorem E8m{T k:Nat}{x:Operand}(E:k<=999999)(I:o.op=.box T x){cs:List SV}(U:content (ρ x)=some cs) :
  Bp P o ρ bx (.box k 0) ((k,.cells (cs.map (Nf k)))::Gw k (Ca k bx)) [k]:=by
 intro C S w β a O J;have hr:=(((J x (mo I (by grind [Op.operands])))).content U).1;obtain⟨L,M⟩:=O.E5w (k:=k) E T hr;refine H6 ?_;unfold Oper.wp;have:(execOp a.eval o).run P w=.ok (.value (.pointer (some ⟨w.heap.size,0,none⟩))) { w with heap:=w.heap.push (.cells ⟨(a.eval x).cells.toList⟩ T) }:=by simp[execOp,I,Instr.box,newVar,newRow]
 rw[this];exact⟨_,S,_,rfl,L,M,.box k 0 _ (by rw[H2]),λj V=>Lo (by grind)⟩
def Hc{α:Type}:List α->Nat->List α->List α
 |cs,_,[]=>cs
 |cs,off,u::us=>Hc (cs.set off u) (off+1) us
theorem A7s{α:Type} :∀(us:List α)(cs:List α)(off:Nat),(Hc cs off us).length=cs.length
 |[],_,_=>rfl
 |u::us,cs,off=>by simp[Hc,A7s us]
def A2d{α:Type} :∀(us:List α)(cs:List α)(off j:Nat),off+us.length<=cs.length->(Hc cs off us)[j]?=if off<=j/\j<off+us.length then us[j - off]? else cs[j]?
 |[],cs,off,j,_=>by
  simp only[Hc,Dy,Sx]
  grind
 |u::us,cs,off,j,h=>by
  simp only[C6]at h;simp only[Hc,C6];rw[A2d us (cs.set off u) (off+1) j (by grind)]
  grind
theorem Bv.Hc{cs us:List SV}{vs J:List Value}(h:Bv S w β cs vs)(t:Bv S w β us J){off:Nat}(L:off+us.length<=cs.length) :
  Bv S w β (Hc cs off us) (Hc vs off J):=by
 refine⟨by rw[A7s,A7s,h.1],?_⟩;intro j c v I E;rw[A2d _ _ _ _ L]at I;rw[A2d _ _ _ _ (by rw[t.1,h.1];exact L)]at E;rw[t.1]at E;split at I
 .rw[A9 (by omega)]at E;exact t.2 _ c v I E
 .rw[A6 (by omega)]at E;exact h.2 _ c v I E
def G4g{b p:Nat}{ty:TypeId}{E:Nat × Nat}{v:Value}(h:w.heap[b]?=some (.cells ⟨vs⟩ ty E)) :
  (w.setCell ⟨b,p,none⟩ v).heap[b]?=some (.cells ⟨vs.set p v⟩ ty E):=by
 simp only[World.setCell,Tq,Ae,h,Eu,Ky,I6,Fy];simp
def B2b:∀(us vs:List Value)(b off i:Nat)(ty:TypeId)(w:World),w.heap[b]?=some (.cells ⟨vs⟩ ty (0,0))->off+i+us.length<=vs.length->us.all (·.oneCell')=true ->
  ∃w',(storeCells ⟨b,off,none⟩ us i).run P w=.ok () w'/\w'.heap[b]?=some (.cells ⟨Hc vs (off+i) us⟩ ty (0,0))/\(∀L,L≠b->w'.heap[L]?=w.heap[L]?) /\
   w'.os=w.os/\w'.tape=w.tape/\w'.output=w.output/\w'.heap.size=w.heap.size
 |[],vs,b,off,i,ty,w,I,_,_=>⟨w,by rfl,I,λ_ _=>rfl,rfl,rfl,rfl,rfl⟩
 |u::us,vs,b,off,i,ty,w,I,W,J=>by
  simp only[C6]at W;simp only[Ro,Bc]at J;have E:w.cell? ⟨b,off+i,none⟩=some (vs[off+i]'(by omega)):=by rw[cells_of_row I];simp
  have M:w.frozen? ⟨b,off+i,none⟩=false:=by simp[World.frozen?,I]
  have U:(store ((⟨b,off,none⟩:Addr).add i) u).run P w=Result.ok () (w.setCell ⟨b,off+i,none⟩ u):=by rw[Yv,run_store P w _ u _ J.1,E,M];simp
  obtain⟨w',hr,g1,Z,V,g4,O,g6⟩:=B2b us (vs.set (off+i) u) b off (i+1) ty (w.setCell ⟨b,off+i,none⟩ u) (G4g I) (by grind) J.2;refine⟨w',?_,?_,?_,by simpa [World.setCell]using V,by simp_all,by simpa [World.setCell]using O,by simp_all⟩
  .simp only[storeCells,H5];simp_all
  .grind [Hc]
  grind [heap_setCell_other]
theorem Bv.one{cs:List SV}(h:Bv S w β cs vs)(J:cs.all SV.one=true):vs.all (·.oneCell')=true:=by
 rw[Dr];intro v L;obtain⟨j,I⟩:=N4.1 L;have E:j<cs.length:=by have:=(B5.1 I).1;have:=h.1;omega
 exact(h.2 j _ v (B8 E) I).one (Dr.1 J _ (Fa E))
def E5d{T k off:Nat}{x y:Operand}(W:o.op=.store T x y){cs us:List SV}(hx:ρ x=.box k off)(hb:(k,Ap.cells cs)∈bx)(hy:content (ρ y)=some us)
  (hs:Bm P T=some us.length)(hl:off+us.length<=cs.length):Bp P o ρ bx (.tuple []) ((k,.cells (Hc cs off us))::Ca k bx) []:=by
 intro C S w β a hi ha;have U:=(ha x (mo W (by grind [Op.operands])));rw[hx]at U;obtain⟨b,E,hv⟩:=U.A5i;obtain⟨b',ty,vs,J,hh,hr⟩:=hi.box k _ hb;rw[E]at J;cases J;obtain⟨I,M⟩:=((ha y (mo W (by grind [Op.operands])))).content hy;have L:=I.1;have V:=hr.1;obtain⟨w',O,g1,g2,g3,g4,g5,g6⟩:=B2b (P:=P) (a.eval y).cells.toList vs b off 0 ty w hh (by omega) (I.one M);have e0:Bk S w S w':=⟨λ_ h=>h,λb' J=>g2 b' λhe=>(hi.B7 k _ hb b E).1 (he ▸ J)⟩;obtain⟨h1,h2⟩:=hi.A5b (c:=.cells (Hc cs off us)) hb E g2 g3 g4 g5 g6 (by refine⟨b,ty,_,E,by simpa using g1,?_⟩;exact⟨(hr.Hc I hl).1,λj c v hc hv=>((hr.Hc I hl).2 j c v hc hv).ext e0 λ_ _=>rfl⟩)
 refine H6 ?_;unfold Oper.wp;have:(execOp a.eval o).run P w=.ok .skip w':=by
  have Z:(a.eval y).cells.size=us.length:=by rw[<-L];simp
  simp[execOp,W,Instr.storeAt,hv,Instr.sureAddr,storeVar,Q6 hs,Z,O]
 rw[this];exact⟨undef,S,β,rfl,h1,h2,.tuple [] [] rfl (by simp),λ_ _=>rfl⟩
theorem F2w{T k i off sz:Nat}{x y:Operand}(ho:o.op=.store T x y){rows:List (List D)}{row us:List D}(hx:ρ x=.Em k i off)(hb:(k,Ap.rows sz rows)∈bx)
  (hr:rows[i]?=some row)(hy:content (ρ y)=some (us.map SV.d))(hs:Bm P T=some us.length)(hl:off+us.length<=row.length) :
  Bp P o ρ bx (.tuple []) ((k,.rows sz (rows.set i (Hc row off us)))::Ca k bx) []:=by
 intro C S w β a hi ha;have Z:=(ha x (mo ho (by grind [Op.operands])));rw[hx]at Z;obtain⟨q1,q2,q3,q4,q5,q6,q7⟩:=hi.box k _ hb;obtain⟨V,M⟩:=((ha y (mo ho (by grind [Op.operands])))).content hy;have L:=V.1;simp only[Bn]at L;have a3:=(B5.1 hr).1;have a6:=q5 row (Br hr);generalize hv:a.eval x=v at Z;cases Z with
 |Em _ _ _ b E =>
  rw[E]at q7;obtain⟨ty,vs,hh,a7,O⟩:=q7;rw[q1]at hv;have a8:((β k).off+i)*sz+off+us.length<=vs.length:=by have h1:((β k).off+i+1)*sz<=((β k).off+(β k).cap)*sz:=I9 _ (by omega);rw[Gy _ 1]at h1;omega
  obtain⟨w',a1,g1,g2,g3,g4,g5,g6⟩:=B2b (P:=P) (a.eval y).cells.toList vs b (((β k).off+i)*sz+off) 0 ty w hh (by omega) (V.one M);have e0:Bk S w S w':=⟨λ_ h=>h,λb' a4=>g2 b' λhe=>(hi.B7 k _ hb b E).1 (he ▸ a4)⟩;obtain⟨h1,h2⟩:=hi.A5b (c:=.rows sz (rows.set i (Hc row off us))) hb E g2 g3 g4 g5 g6 (by
   refine⟨q1,by grind,q3,by grind,?_,?_,?_⟩
   .grind [A7s]
   .intro r I d J;rcases Au1 I with h|h
    .grind
    .subst h;obtain⟨j,W⟩:=N4.1 J;rw[A2d _ _ _ _ hl]at W;split at W
     .have:=Dr.1 M (.d d) (B1.2 ⟨d,Br W,rfl⟩);simpa [SV.one]using this
     .exact q6 row (Br hr) d (Br W)
   .rw[E];refine⟨ty,_,by simpa using g1,by rw[A7s];omega,?_⟩;intro r j U d u I J hu;rw[A2d _ _ _ _ (by omega)]at hu;by_cases a0:i=r
    .subst a0;simp only[Ao8,a3,Ae,B4]at I;subst I;rw[A2d _ _ _ _ hl]at J;by_cases W:off<=j/\j<off+us.length
     .rw[A9 W]at J;rw[A9 (by omega)]at hu;have:=V.2 (j - off) (.d d) u (by grind) (by grind);exact this.J0.ext e0
     .rw[A6 W]at J;rw[A6 (by omega)]at hu;exact(O i j row d u hr J hu).ext e0
    .rw[At4 a0]at I;have a5:j<sz:=by
      have:=(B5.1 J).1;have:=q5 U (Br I);omega
     rw[A6 (by
      intro a9;rcases Nat.lt_or_ge r i with a' |hge
      .have:((β k).off+r+1)*sz<=((β k).off+i)*sz:=I9 _ (by omega)
       grind
      .have:((β k).off+i+1)*sz<=((β k).off+r)*sz:=I9 _ (by omega)
       grind)]at hu
     exact(O r j U d u I J hu).ext e0)
  refine H6 ?_;unfold Oper.wp;have:(execOp a.eval o).run P w=.ok .skip w':=by
   have a2:(a.eval y).cells.size=us.length:=by rw[<-L];simp
   simp[execOp,ho,Instr.storeAt,hv,Instr.sureAddr,storeVar,Q6 hs,a2,a1]
  rw[this];exact⟨undef,S,β,rfl,h1,h2,.tuple [] [] rfl (by simp),λ_ _=>rfl⟩
end Go.Abs
namespace Go.Abs
open Go
variable {P:Program} {o:Oper} {ρ:Hb} {bx:Aa}
def B4z(P:Program):List Field->Option (List (Nat × Nat))
 |[]=>some []
 |f::fs=>match Bm P f.type with
  |some n=>(B4z P fs).map ((f.offset,n)::·)
  |none=>none
def Kb(P:Program)(T:TypeId):Option (List (Nat × Nat)) :=
 match P.underlying T with
 |some (.struct fs)=>B4z P fs.toList
 |_=>none
def run_places:∀(fs:List Field)(ps:List (Nat × Nat)),B4z P fs=some ps->∀w:World,(fs.mapM (λf=>do pure (f.offset,<-sizeOf f.type):Field->Sem (Nat × Nat))).run P w=.ok ps w
 |[],ps,h,w=>by simp only[B4z,B4]at h;simp_all
 |f::fs,ps,h,w=>by
  simp only[B4z]at h;cases E:Bm P f.type with
  |none=>grind
  |some n =>simp only[E,N9]at h;obtain⟨J,I,rfl⟩:=h;have:=run_places fs J I w;simp only[Av2,H5,Q6 E,Gz,Kx,this]
def A0t(ps:List (Nat × Nat))(cells:List SV):List (Nat × List SV)->Option (List SV)
 |[]=>some cells
 |(i,us)::r=>match ps[i]? with
  |none=>none
  |some (off,size)=>if us.length=size/\off+size<=cells.length then A0t ps (Hc cells off us) r else none
def C8t:∀(us vs:List Value)(off:Nat)(n:Nat),((us.zipIdx n).foldl (λ(cs:Array Value)(x:Value × Nat)=>cs.setIfInBounds (off+x.2) x.1) ⟨vs⟩)=⟨Hc vs (off+n) us⟩
 |[],vs,off,n=>by rfl
 |u::us,vs,off,n=>by
  simp only[Av0,Jp,Hc];have:=C8t us (vs.set (off+n) u) off (n+1)
  grind
def D0u{S:Nat->Prop}{w:World}{β:Names}(I:Nat->Option (Nat × Nat))(ps:List (Nat × Nat)) :
  ∀(parts:List (Nat × List SV)) (E:List (Nat × Value)) (cells out:List SV) (vs:List Value),Bv S w β cells vs->(∀(i:Nat) (q:Nat × Nat),ps[i]?=some q->I i=some q) ->
   parts.length=E.length->(∀(j:Nat) (p:Nat × List SV) (q:Nat × Value),parts[j]?=some p->E[j]?=some q->q.1=p.1/\Bv S w β p.2 q.2.cells.toList) ->
   A0t ps cells parts=some out->∃O:List Value,Instr.fill I ⟨vs⟩ E=some ⟨O⟩/\Bv S w β out O
 |[],E,cells,out,vs,h,hp,U,hr,J=>by
  simp only[A0t,B4]at J;subst J;have:E=[]:=by cases E <;> simp at U;rfl
  subst this;exact⟨vs,rfl,h⟩
 |(i,us)::parts,E,cells,out,vs,h,hp,U,hr,J=>by
  cases E with
  |nil=>grind
  |cons q E =>
   simp only[C6,Nat.add_right_cancel_iff]at U;obtain⟨V,L⟩:=hr 0 (i,us) q rfl rfl;simp only[A0t]at J;cases M:ps[i]? with
   |none=>grind
   |some pr =>
    obtain⟨off,size⟩:=pr;simp only[M]at J;split at J
    .rename_i hc;have Z:q.2.cells.size=us.length:=by have:=L.1;simpa using this
     have a0:=h.1;simp only at V L;obtain⟨O,g1,g2⟩:=D0u I ps parts E _ out _ (h.Hc L (off:=off) (by omega)) hp U (λj p q hp M=>hr (j+1) p q hp M) J;refine⟨O,?_,g2⟩;obtain⟨qi,W⟩:=q;simp only at V L Z;subst V;simp only[Instr.fill,hp _ _ M];rw[A6 (by simp only[ne_eq,Yj,Da,Uh];simp;omega)];have:=C8t W.cells.toList vs off 0;simp only[Sx]at this;have e:W.cells.toList.zipIdx=W.cells.zipIdx.toList:=by simp
     rw[e,Array.foldl_toList]at this;rw[<-g1,<-this]
    grind
def Yg(ρ:Hb):List (Nat × Operand)->Option (List (Nat × List SV))
 |[]=>some []
 |(i,x)::r=>match content (ρ x),Yg ρ r with
  |some c,some l=>some ((i,c)::l)
  |_,_=>none
def C8w{S:Nat->Prop}{w:World}{β:Names}{a:Act}:∀(parts:List (Nat × Operand))(l:List (Nat × List SV)),(∀p,p∈parts->Ak S w β (ρ p.2) (a.eval p.2))->Yg ρ parts=some l ->
  l.length=(parts.map λp=>(p.1,a.eval p.2)).length/\(∀(j:Nat) (p:Nat × List SV) (q:Nat × Value),l[j]?=some p->(parts.map λp=>(p.1,a.eval p.2))[j]?=some q->q.1=p.1/\Bv S w β p.2 q.2.cells.toList) /\
  ∀p,p∈l->p.2.all SV.one=true
 |[],l,_,h=>by grind [Yg]
 |(i,x)::r,l,E,h=>by
  simp only[Yg]at h;cases J:content (ρ x)with
  |none=>grind
  |some c =>
   cases I:Yg ρ r with
   |none=>grind
   |some m =>
    simp only[J,I,B4]at h;subst h;obtain⟨M,V,O⟩:=C8w r m (λp hp=>E p (by grind)) I;obtain⟨U,L⟩:=(E (i,x) (by simp)).content J
    grind
def G6x{T:TypeId}{parts:Array (Nat × Operand)}(O:o.op=.build T parts){L:List SV}{ps:List (Nat × Nat)}{l:List (Nat × List SV)}{out:List SV}
  (hz:Cf P T=some L)(hp:Kb P T=some ps)(hl:Yg ρ parts.toList=some l)(hf:A0t ps L l=some out)(h1:out.all SV.one=true):Bp P o ρ bx (.agg out) bx [] :=
 .Eb λ_ S w β a _ W=>by
  obtain⟨z,E,rfl⟩:=B4g hz w;unfold Kb at hp;cases U:P.underlying T with
  |none=>grind
  |some d =>
   rw[U]at hp;cases d <;> simp only[reduceCtorEq]at hp;rename_i fs;obtain⟨g1,V,_⟩:=C8w parts.toList l (λp hp=>W p.2 (mo O (by simp only[Op.operands,List.mem_toArray,B1];exact⟨p,hp,rfl⟩))) hl;obtain⟨M,q1,Z⟩:=D0u (λi=>(ps.toArray)[i]?) ps l (parts.toList.map λp=>(p.1,a.eval p.2)) _ out _ (C6m S w β z.cells.toList) (λi q hq=>by grind) g1 V hf;refine⟨.agg ⟨M⟩,?_,Ak.A4f Z h1⟩;have J:=run_places fs.toList ps hp w;have hm:(fs.mapM (λf=>do pure (f.offset,<-sizeOf f.type):Field->Sem (Nat × Nat))).run P w=.ok ps.toArray w:=by rw[Array.mapM_eq_mapM_toList,Sem.run_map,J];simp
   simp only[execOp,O,Instr.build,H5,E,Gz,underlying,run_program,U,Kx,hm];have I:z.cells=⟨z.cells.toList⟩:=rfl;have:Instr.fill (λx=>ps.toArray[x]?) z.cells (Array.map (λx=>(x.fst,a.eval x.snd)) parts).toList=some ⟨M⟩:=by rw[I,Ao5];exact q1
   simp only[this,Kx,Gz]
end Go.Abs
