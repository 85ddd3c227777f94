/- Data, abstract values, the operations that compute. Own framework. -/
import Derived.CallsIn
import Derived.Below
import Derived.Laws.Rows
import Derived.Laws.Cells
import Derived.Laws.World
import Derived.Laws.Append
import Derived.Orders
import Derived.Laws.Slices
import Derived.Laws.Strings
import Derived.Laws.Small
import Derived.Test.YtieakoebgfiniaaGreatDoorZTab
set_option linter.all false
namespace Go.Abs
open Go
def Az:=@List.getElem?_eq_some_iff
def Bi:=@List.getElem?_eq_getElem
def B6:=@List.length_append
def B5:=@Option.some.injEq
def Au:=@List.mem_map
def Bb:=@Bool.and_eq_true
def C6:=@List.mem_of_getElem?
def B1:=@List.mem_cons
def B3:=@Int.lt_irrefl
def Bg:=@List.length_cons
def Bc:=@List.length_map
def A6:=@if_neg
def A8:=@if_pos
def Bj:=@decide_eq_true
def Bz:=@List.mem_append
def Af:=@if_true
def Ci:=@List.take_length
def C9:=@decide_eq_false
def Ca:=@List.length_nil
def C3:=@Bool.false_and
def Eu:=@Bool.eq_false_or_eq_true
def D4:=@List.length_take
def Gb:=@List.drop_eq_getElem_cons
def Df:=@List.getElem?_map
def Dp:=@decide_eq_true_eq
def Ck:=@List.map_cons
def Cj:=@Bool.true_and
def Db:=@List.drop_length
def Bs:=@Nat.le_refl
def J0:=@List.take_succ_eq_append_getElem
def Dm:=@List.all_eq_true
def Cp:=@Nat.le_trans
def Dz:=@Option.getD_some
def E5:=@List.not_mem_nil
def Ez:=@Option.map_some
def Fq:=@List.getElem_mem
def Kd:=@List.getElem?_append_right
def Ga:=@List.append_assoc
def Ib:=@List.drop_eq_nil_of_le
def Hp:=@Nat.mul_le_mul_right
def Fj:=@List.append_nil
def Ie:=@List.map_congr_left
def L4:=@List.getElem?_append_left
def H0:=@Result.andThen_ok
def G0:=@List.map_append
def Jv:=@Option.map_eq_some_iff
def Ji:=@List.mem_of_mem_take
def I0:=@Bool.false_eq_true
def Fp:=@Prod.mk.injEq
def Qu:=@List.getElem?_of_mem
def Ff:=@List.map_map
def Je:=@Int.toNat_natCast
def G3:=@List.map_nil
def Js:=@Bool.not_eq_true'
def Sy:=@List.mem_iff_getElem?
def Jq:=@List.cons_append
def Ld:=@List.ext_getElem?
def Uq:=@Array.getElem?_eq_some_iff
def Jz:=@List.mem_filter
def Hm:=@Sem.run_bind
def Ns:=@List.mem_filterMap
def W7:=@List.fst_mem_of_mem_zipIdx
def Tz:=@Option.isSome_iff_exists
def J5:=@List.sum_cons
def Ea:=@or_false
def Lo:=@List.foldl_cons
def Sd:=@List.getElem?_mapIdx
def Uz:=@List.take_append_drop
def Zp:=@List.eq_nil_of_length_eq_zero
def Hw:=@Nat.add_mul
def Xb:=@Array.getElem?_eq_getElem
def Ah1:=@List.findIdx?_eq_some_iff_getElem
def S7:=@Bool.not_eq_false'
def K8:=@Sem.run_pure
def Xg:=@List.getElem?_cons_zero
def Sk:=@Option.isSome_none
def Fx:=@if_false
def Ky:=@Nat.zero_add
def U0:=@List.mem_singleton
def Z1:=@decide_eq_false_iff_not
def Gi:=@congrArg
def Ai1:=@MapKept.run_getObj_map
def Ma:=@Nat.add_zero
def Ai3:=@List.length_filterMap_le
def Wn:=@List.getElem?_drop
def Ai5:=@World.alloc_eq
def W5:=@Nat.lt_of_lt_of_le
def Ai7:=@List.getElem?_cons_succ
def Rc:=@Bool.and_false
def Kt:=@Array.ext'
def Zz:=@List.mem_of_mem_drop
def Aj1:=@List.take_of_length_le
def Qv:=@List.all_cons
def Zo:=@List.pairwise_cons
def M5:=@decide_not
def Vi:=@List.nil_append
def Vp:=@Bool.or_eq_true
def Si:=@Nat.add_assoc
def Xa:=@Option.getD_none
def Zw:=@List.flatMap_cons
def Ak0:=@UInt8.lt_iff_toNat_lt
def Vs:=@List.foldl_nil
def X9:=@Option.some.inj
def Y0:=@List.all_append
def Ak4:=@List.getElem?_take
def Xm:=@Bool.eq_iff_iff
def X2:=@Oper.upon_enter
def Y7:=@List.sum_append
def Ak8:=@List.mem_flatMap
def Ak9:=@Nat.mul_le_mul_left
def Am0:=@List.getElem?_range
def Am1:=@List.take_succ_cons
def Am2:=@List.getElem?_zip_eq_some
def Xp:=@run_underlying
def Am4:=@List.pairwise_iff_getElem
def Am5:=@List.mem_of_find?_eq_some
def V8:=@Bool.false_or
def Am7:=@Decidable.byContradiction
def Z2:=@List.cons.injEq
def Am9:=@Array.getElem?_toList
def An0:=@Array.getElem?_modify
def An1:=@List.contains_iff_mem
def An2:=@List.find?_cons
def Zc:=@UInt8.lt_irrefl
def Uk:=@Bool.true_or
def An5:=@List.getElem?_take_of_lt
def An6:=@Bool.or_eq_false_iff
def An7:=@Array.getD_eq_getD_getElem?
def An8:=@Array.size_range
def An9:=@List.length_filter_le
def Va:=@decide_true
def Ao1:=@List.findIdx?_eq_none_iff
def Ao2:=@List.pairwise_append
def Ao3:=@List.nodup_cons
def Ao4:=@List.nodup_append
def Ao5:=@List.getElem?_set
def Ao6:=@List.flatten_cons
def I7:=@Or.inl
def Ao8:=@Array.length_toList
def Ao9:=@List.flatMap_append
def Ap0:=@List.length_eq_zero_iff
def Ap1:=@List.length_drop
def Vk:=@beq_iff_eq
def Qi:=@true_and
def Ap4:=@List.filter_append
def Ap5:=@Option.map_none
def Ap6:=@Nat.zero_le
def Ap7:=@Nat.mul_comm
def Ap8:=@List.all_nil
def Ap9:=@List.length_zip
def Aq0:=@World.cells?_some
def Aq1:=@Bool.and_true
def Aq2:=@Array.getElem?_append_left
def Aq3:=@List.mem_cons_of_mem
def Aq4:=@List.drop_zero
def Sn:=@and_true
def Aq6:=@Option.bind_some
def Aq7:=@Array.toList_map
def Aq8:=@List.filter_cons
def Aq9:=@List.length_zipWith
def Ar0:=@List.map_eq_nil_iff
def Ar1:=@decide_false
def Ar2:=@Bool.or_false
def Ar3:=@Option.isSome_some
def Ar4:=@List.mem_cons_self
def Ar5:=@List.filter_nil
def Ar6:=@Nat.mod_lt
def Ar7:=@Nat.lt_trichotomy
def Ar8:=@List.mem_range
def Zq:=@wpIn_mono
def As0:=@getElem!_pos
def As1:=@List.eq_nil_iff_forall_not_mem
def As2:=@List.getElem?_zipWith
def As3:=@List.find?_eq_some_iff_getElem
def As4:=@forall_const
def As5:=@implies_true
def As6:=@Bool.not_eq_true
def As7:=@Callee.builtin.injEq
def As8:=@Nat.div_lt_of_lt_mul
def As9:=@List.getElem?_set_ne
def At0:=@Nat.one_mul
def At1:=@List.drop_succ_cons
def At2:=@List.find?_some
def At3:=@List.of_mem_zip
def At4:=@Nat.sub_zero
def At5:=@Nat.eq_zero_or_pos
def At6:=@List.mem_or_eq_of_mem_set
def At7:=@List.take_zero
def At8:=@Bool.not_false
def At9:=@not_true_eq_false
def Au0:=@MapKept.bytes_beq
def Au1:=@List.take_add_one
def Xn:=@Ne.symm
def Au3:=@Bool.not_true
def Au4:=@List.range'_succ
def Au5:=@List.zipIdx_cons
def Au6:=@List.isEmpty_iff
def Au7:=@Nat.sub_self
def Vc:=@not_or
abbrev A2:=List UInt8
def mkStr(s:A2):ByteArray:=⟨⟨s⟩⟩
def C7a(s:A2):(mkStr s).size=s.length:=rfl
def lim:Nat:=140737488355328
inductive D where
 |int (k:IntKind) (n:Int)
 |bool (b:Bool)
 |str (s:A2)
 |nil
 |emp
 |slice (rows:List (List D))
 |agg (cells:List D)
 |ptr (cells:List D)
 |Kx
 |map (kvs:List (D × D))
 |Lg
 |iface (t:TypeId) (x:D)
 |Hc
 |fn (f:FuncId) (caps:List D)
 |Fh
 |cl (f:FuncId) (caps:List D)
instance:Inhabited D:=⟨.nil⟩
def D.one:D->Bool
 |.agg _=>false
 |_=>true
def Vw(es:Array MapEntry)(E:Nat):Prop:=(∀x,x∈es.toList->x.born<E)/\(es.toList.map (·.born)).Nodup
def MSz(es:Array MapEntry)(E n:Nat):Prop:=es.size=n/\Vw es E
def Vw.push{es:Array MapEntry}{E:Nat}(h:Vw es E)(k v:Value):Vw (es.push { key:=k,val:=v,born:=E }) (E+1):=by
 refine⟨?_,?_⟩
 .intro x I;simp only[Array.toList_push,Bz,B1,E5,Ea]at I;rcases I with I|rfl
  .have:=h.1 x I;omega
  .simp
 .simp only[Array.toList_push,G0,Ck,G3];rw[Ao4];refine⟨h.2,by simp,?_⟩;intro a L b J;obtain⟨x,I,rfl⟩:=Au.1 L;simp only[B1,E5,Ea]at J;have:=h.1 x I;omega
def Vw.modify{es:Array MapEntry}{E:Nat}(h:Vw es E)(j:Nat)(f:MapEntry->MapEntry)(U:∀e,(f e).born=e.born):Vw (es.modify j f) E:=by
 have J:(es.modify j f).toList.map (·.born)=es.toList.map (·.born):=by
  apply Ld;intro i;simp only[Df,Am9,An0];split
  .grind
  .rfl
 refine⟨?_,by rw[J];exact h.2⟩;intro x L;have:x.born∈es.toList.map (·.born):=by rw[<-J];exact List.mem_map_of_mem L
 obtain⟨y,O,I⟩:=Au.1 this;rw[<-I];exact h.1 y O
inductive Bu(S:Nat->Prop)(w:World):D->Value->Prop where
 |int (k:IntKind) (n:Int):Bu S w (.int k n) (.int k n)
 |bool (b:Bool):Bu S w (.bool b) (.bool b)
 |str (s:A2):s.length<=lim->Bu S w (.str s) (.string (mkStr s))
 |nil:Bu S w .nil (.slice none 0 0)
 |emp (a:Addr) (cap:Nat):Bu S w .emp (.slice (some a) 0 cap)
 |Mk (a:Option Addr) (cap:Nat):(a=none->cap=0)->Bu S w (.slice []) (.slice a 0 cap)
 |slice (rows:List (List D)) (b off cap sz:Nat):S b->rows.length<=lim->rows.length<=cap ->
   (∀row,row∈rows->row.length=sz)->(∀row,row∈rows->∀d,d∈row->d.one=true) ->
   (∀i j,i<rows.length->j<sz->∃v,w.cell? ⟨b,off+(i*sz+j),none⟩=some v) ->
   (∀(i j:Nat) (row:List D) (d:D) (v:Value),rows[i]?=some row->row[j]?=some d->w.cell? ⟨b,off+(i*sz+j),none⟩=some v->Bu S w d v) ->
   Bu S w (.slice rows) (.slice (some ⟨b,off,none⟩) rows.length cap)
 |agg (cells:List D) (vs:List Value):vs.length=cells.length->(∀d,d∈cells->d.one=true) ->
   (∀(j:Nat) (d:D) (v:Value),cells[j]?=some d->vs[j]?=some v->Bu S w d v) ->
   Bu S w (.agg cells) (.agg ⟨vs⟩)
 |ptr (cells:List D) (b base:Nat):S b->(∀d,d∈cells->d.one=true)->(∀j,j<cells.length->∃v,w.cell? ⟨b,base+j,none⟩=some v) ->
   (∀(j:Nat) (d:D) (v:Value),cells[j]?=some d->w.cell? ⟨b,base+j,none⟩=some v->Bu S w d v) ->
   Bu S w (.ptr cells) (.pointer (some ⟨b,base,none⟩))
 |Kx:Bu S w .Kx (.pointer none)
 |map (kvs:List (D × D)) (r:Nat) (es:Array MapEntry) (clock:Nat):S r->w.heap[r]?=some (.map es clock)->MSz es clock kvs.length ->
   (∀(i:Nat) (kv:D × D) (e:MapEntry),kvs[i]?=some kv->es[i]?=some e->Bu S w kv.1 e.key) ->
   (∀(i:Nat) (kv:D × D) (e:MapEntry),kvs[i]?=some kv->es[i]?=some e->Bu S w kv.2 e.val) ->
   Bu S w (.map kvs) (.map (some r))
 |Lg:Bu S w .Lg (.map none)
 |iface (t:TypeId) (d:D) (v:Value):Bu S w d v->Bu S w (.iface t d) (.iface t v)
 |Hc:Bu S w .Hc .nilIface
 |fn (f:FuncId) (caps:List D) (vs:List Value):vs.length=caps.length->(∀(j:Nat) (d:D) (v:Value),caps[j]?=some d->vs[j]?=some v->Bu S w d v) ->
   Bu S w (.fn f caps) (.func (.func f) ⟨vs⟩ #[])
 |Fh:Bu S w .Fh .nilFunc
 |cl (f:FuncId) (caps:List D) (vs:List Value):vs.length=caps.length->(∀(j:Nat) (d:D) (v:Value),caps[j]?=some d->vs[j]?=some v->Bu S w d v) ->
   Bu S w (.cl f caps) (.func (.func f) #[] ⟨vs⟩)
structure C4(S:Nat->Prop)(w:World)(S':Nat->Prop)(w':World):Prop where
 sub:∀b,S b->S' b
 same:∀b,S b->w'.heap[b]?=w.heap[b]?
theorem C4.refl(S:Nat->Prop)(w:World):C4 S w S w:=⟨λ_ h=>h,λ_ _=>rfl⟩
def C4.trans{U O V:Nat->Prop}{I J L:World}(h:C4 U I O J)(k:C4 O J V L):C4 U I V L :=
 ⟨λb E=>k.sub b (h.sub b E),λb E=>(k.same b (h.sub b E)).trans (h.same b E)⟩
def C4.cell{S S':Nat->Prop}{w w':World}(h:C4 S w S' w'){b:Nat}(E:S b)(off:Nat):w'.cell? ⟨b,off,none⟩=w.cell? ⟨b,off,none⟩ :=
 World.cell?_of_block (w:=w) (h.same b E)
def Bu.ext{S S':Nat->Prop}{w w':World}{d:D}{v:Value}(h:Bu S w d v)(e:C4 S w S' w'):Bu S' w' d v:=by
 induction h with
 |int k n=>exact .int k n
 |bool b=>exact .bool b
 |str s hs=>exact .str s hs
 |nil=>exact .nil
 |emp a cap=>exact .emp a cap
 |Mk a cap h=>exact .Mk a cap h
 |slice rows b off cap sz L I h2 h3 O h4 _ E =>
  refine .slice rows b off cap sz (e.sub b L) I h2 h3 O ?_ ?_
  .intro i j hi Z;rw[e.cell L];grind
  .intro i j row d v hr hd U;rw[e.cell L]at U;grind
 |agg cells vs I O _ E=>exact .agg cells vs I O E
 |ptr cells b base L O I _ E =>
  refine .ptr cells b base (e.sub b L) O ?_ ?_
  .intro j Z;rw[e.cell L];grind
  .intro j d v hd U;rw[e.cell L]at U;grind
 |Kx=>exact .Kx
 |map kvs r es J hr hh hs _ _ W V=>exact .map kvs r es J (e.sub r hr) ((e.same r hr).trans hh) hs W V
 |Lg=>exact .Lg
 |iface t d v _ E=>exact .iface t d v E
 |Hc=>exact .Hc
 |fn f caps vs I _ E=>exact .fn f caps vs I E
 |Fh=>exact .Fh
 |cl f caps vs I _ E=>exact .cl f caps vs I E
inductive D.Bd:D->Prop where
 |int (k:IntKind) (n:Int):D.Bd (.int k n)
 |bool (b:Bool):D.Bd (.bool b)
 |str (s:A2):s.length<=lim->D.Bd (.str s)
 |nil:D.Bd .nil
 |emp:D.Bd .emp
 |slice (rows:List (List D)):rows.length<=lim->(∀(i j:Nat) (row:List D) (d:D),rows[i]?=some row->row[j]?=some d->D.Bd d)->D.Bd (.slice rows)
 |agg (cells:List D):(∀(j:Nat) (d:D),cells[j]?=some d->D.Bd d)->D.Bd (.agg cells)
 |ptr (cells:List D):(∀(j:Nat) (d:D),cells[j]?=some d->D.Bd d)->D.Bd (.ptr cells)
 |Kx:D.Bd .Kx
 |map (kvs:List (D × D)):(∀(i:Nat) (kv:D × D),kvs[i]?=some kv->D.Bd kv.1)->(∀(i:Nat) (kv:D × D),kvs[i]?=some kv->D.Bd kv.2)->D.Bd (.map kvs)
 |Lg:D.Bd .Lg
 |iface (t:TypeId) (d:D):D.Bd d->D.Bd (.iface t d)
 |Hc:D.Bd .Hc
 |fn (f:FuncId) (caps:List D):(∀(j:Nat) (d:D),caps[j]?=some d->D.Bd d)->D.Bd (.fn f caps)
 |Fh:D.Bd .Fh
 |cl (f:FuncId) (caps:List D):(∀(j:Nat) (d:D),caps[j]?=some d->D.Bd d)->D.Bd (.cl f caps)
variable {S:Nat->Prop} {w:World}
def Bu.bd{d:D}{v:Value}(h:Bu S w d v):d.Bd:=by
 induction h with
 |int k n=>exact .int k n
 |bool b=>exact .bool b
 |str s hs=>exact .str s hs
 |nil=>exact .nil
 |emp a cap=>exact .emp
 |Mk a cap=>exact .slice [] (by simp) (by simp)
 |slice rows b off cap sz Z I h2 h3 W h4 _ E =>
  refine .slice rows I ?_
  grind
 |agg cells vs I W _ E =>
  refine .agg cells ?_;intro j d hd;have J:j<vs.length:=by have:=(Az.1 hd).1;omega
  exact E j d vs[j] hd (Bi J)
 |ptr cells b base Z W I _ E =>
  refine .ptr cells ?_
  grind
 |Kx=>exact .Kx
 |map kvs r es L hr hh hs _ _ V U =>
  have hs:=hs.1;refine .map kvs ?_ ?_
  .intro i kv h;have O:i<es.size:=by have:=(Az.1 h).1;omega
   exact V i kv es[i] h (Xb O)
  .intro i kv h;have O:i<es.size:=by have:=(Az.1 h).1;omega
   exact U i kv es[i] h (Xb O)
 |Lg=>exact .Lg
 |iface t d v _ E=>exact .iface t d E
 |Hc=>exact .Hc
 |fn f caps vs I _ E =>
  refine .fn f caps ?_;intro j d hd;have J:j<vs.length:=by have:=(Az.1 hd).1;omega
  exact E j d vs[j] hd (Bi J)
 |Fh=>exact .Fh
 |cl f caps vs I _ E =>
  refine .cl f caps ?_;intro j d hd;have J:j<vs.length:=by have:=(Az.1 hd).1;omega
  exact E j d vs[j] hd (Bi J)
theorem Bu.one{d:D}{v:Value}(h:Bu S w d v)(hd:d.one=true):v.oneCell'=true:=by cases h <;> first|rfl|simp[D.one]at hd
def Bu.of_nil{v:Value}(h:Bu S w .nil v):Bu S w (.slice []) v:=by cases h;exact .Mk none 0 (λ_=>rfl)
def Bu.C3u{v:Value}(h:Bu S w .emp v):Bu S w (.slice []) v:=by cases h;exact .Mk _ _ (by simp)
end Go.Abs
namespace Go.Abs
open Go
structure BI where
 base:Option Nat
 off:Nat:=0
 len:Nat:=0
 cap:Nat:=0
 sz:Nat:=0
inductive SV where
 |undef
 |d (x:D)
 |agg (cells:List SV)
 |tuple (xs:List SV)
 |box (k:Nat) (off:Nat)
 |A9 (cells:List D) (off:Nat)
 |acc (k:Nat)
 |Eg (k i off:Nat)
 |mp (k:Nat)
 |Eo (l:Nat)
 |F5 (cells:List SV) (off:Nat)
 |Bf (f:FuncId) (caps:List SV)
instance:Inhabited SV:=⟨.undef⟩
def SV.one:SV->Bool
 |.undef| .agg _| .tuple _=>false
 |.d x=>x.one
 |_=>true
abbrev Names:=Nat->BI
inductive Am(S:Nat->Prop)(w:World)(β:Names):SV->Value->Prop where
 |undef (v:Value):Am S w β .undef v
 |d (x:D) (v:Value):Bu S w x v->Am S w β (.d x) v
 |agg (cells:List SV) (vs:List Value):vs.length=cells.length->(∀c,c∈cells->c.one=true) ->
   (∀(j:Nat) (c:SV) (v:Value),cells[j]?=some c->vs[j]?=some v->Am S w β c v)->Am S w β (.agg cells) (.agg ⟨vs⟩)
 |tuple (cells:List SV) (vs:List Value):vs.length=cells.length ->
   (∀(j:Nat) (c:SV) (v:Value),cells[j]?=some c->vs[j]?=some v->Am S w β c v)->Am S w β (.tuple cells) (.tuple ⟨vs⟩)
 |box (k off b:Nat):(β k).base=some b->Am S w β (.box k off) (.pointer (some ⟨b,off,none⟩))
 |A9 (cells:List D) (off b base:Nat):S b->(∀d,d∈cells->d.one=true)->(∀j,j<cells.length->∃v,w.cell? ⟨b,base+j,none⟩=some v) ->
   (∀(j:Nat) (d:D) (v:Value),cells[j]?=some d->w.cell? ⟨b,base+j,none⟩=some v->Bu S w d v) ->
   Am S w β (.A9 cells off) (.pointer (some ⟨b,base+off,none⟩))
 |acc (k:Nat):Am S w β (.acc k) (.slice ((β k).base.map λb=>⟨b,(β k).off*(β k).sz,none⟩) (β k).len (β k).cap)
 |Eg (k i off b:Nat):(β k).base=some b->Am S w β (.Eg k i off) (.pointer (some ⟨b,((β k).off+i)*(β k).sz+off,none⟩))
 |mp (k b:Nat):(β k).base=some b->Am S w β (.mp k) (.map (some b))
 |Eo (l:Nat):Am S w β (.Eo l) (.func (.yield l) #[] #[])
 |F5 (cells:List SV) (off b:Nat):S b->(∀c,c∈cells->c.one=true)->(∀j,j<cells.length->∃v,w.cell? ⟨b,j,none⟩=some v) ->
   (∀(j:Nat) (c:SV) (v:Value),cells[j]?=some c->w.cell? ⟨b,j,none⟩=some v->Am S w β c v)->Am S w β (.F5 cells off) (.pointer (some ⟨b,off,none⟩))
 |Bf (f:FuncId) (caps:List SV) (vs:List Value):vs.length=caps.length ->
   (∀(j:Nat) (c:SV) (v:Value),caps[j]?=some c->vs[j]?=some v->Am S w β c v)->Am S w β (.Bf f caps) (.func (.func f) #[] ⟨vs⟩)
mutual
def SV.has(k:Nat):SV->Bool
 |.undef| .d _| .A9 _ _| .Eo _=>false
 |.agg cs=>SV.Kw k cs
 |.tuple cs=>SV.Kw k cs
 |.Bf _ cs=>SV.Kw k cs
 |.F5 cs _=>SV.Kw k cs
 |.box j _=>j ==k
 |.acc j=>j ==k
 |.Eg j _ _=>j ==k
 |.mp j=>j ==k
def SV.Kw(k:Nat):List SV->Bool
 |[]=>false
 |c::cs=>c.has k ||SV.Kw k cs
end
mutual
def SV.closed:SV->Bool
 |.undef| .d _| .A9 _ _| .Eo _=>true
 |.agg cs=>SV.M8 cs
 |.tuple cs=>SV.M8 cs
 |.Bf _ cs=>SV.M8 cs
 |.F5 cs _=>SV.M8 cs
 |.box _ _| .acc _| .Eg _ _ _| .mp _=>false
def SV.M8:List SV->Bool
 |[]=>true
 |c::cs=>c.closed && SV.M8 cs
end
theorem SV.A4v{k:Nat} :∀{cs:List SV},SV.Kw k cs=false->∀(j:Nat)(c:SV),cs[j]?=some c->c.has k=false
 |[],_,j,c,h=>by grind
 |c::cs,h,j,x,E=>by
  simp only[SV.Kw,An6]at h;cases j with
  |zero=>grind
  |succ j=>simp at E;exact SV.A4v h.2 j x E
def SV.C0t:∀{cs:List SV},SV.M8 cs=true->∀(j:Nat)(c:SV),cs[j]?=some c->c.closed=true
 |[],_,j,c,h=>by grind
 |c::cs,h,j,x,E=>by
  simp only[SV.M8,Bb]at h;cases j with
  |zero=>grind
  |succ j=>simp at E;exact SV.C0t h.2 j x E
variable {x:SV}
def Am.ext{S S':Nat->Prop}{w w':World}{β β':Names}{v:Value}(h:Am S w β x v)(e:C4 S w S' w')
  (O:∀k,x.has k=true->β' k =β k):Am S' w' β' x v:=by
 induction h with
 |undef v=>exact .undef v
 |d x v h=>exact .d x v (h.ext e)
 |agg cells vs I U _ J =>
  refine .agg cells vs I U λj c v L E=>J j c v L E λk V=>O k ?_
  grind[SV.A4v,SV.has]
 |tuple cells vs I _ J =>
  refine .tuple cells vs I λj c v L E=>J j c v L E λk V=>O k ?_
  grind[SV.A4v,SV.has]
 |box k off b h=>exact .box k off b (by grind[SV.has])
 |A9 cells off b base hs I U Z =>
  refine .A9 cells off b base (e.sub b hs) I ?_ ?_
  .intro j W;rw[e.cell hs];grind
  .intro j d v hd E;rw[e.cell hs]at E;exact(Z j d v hd E).ext e
 |acc k=>have:=O k (by simp[SV.has]);rw[<-this];exact .acc k
 |Eg k i off b h=>have:=O k (by simp[SV.has]);rw[<-this];exact .Eg k i off b (by grind)
 |mp k b h=>exact .mp k b (by grind[SV.has])
 |Eo l=>exact .Eo l
 |F5 cells off b hs I U _ J =>
  refine .F5 cells off b (e.sub b hs) I ?_ ?_
  .intro j W;rw[e.cell hs];grind
  .intro j c v L E;rw[e.cell hs]at E
   grind[SV.A4v,SV.has]
 |Bf f cells vs I _ J =>
  refine .Bf f cells vs I λj c v L E=>J j c v L E λk V=>O k ?_
  grind[SV.A4v,SV.has]
mutual
theorem SV.C1u:∀{x:SV} (k:Nat),x.closed=true->x.has k=false
 |.undef,_,_=>rfl
 |.d _,_,_=>rfl
 |.A9 _ _,_,_=>rfl
 |.agg cs,k,h=>by simp only[SV.closed]at h;simp only[SV.has];exact SV.B0x k h
 |.tuple cs,k,h=>by simp only[SV.closed]at h;simp only[SV.has];exact SV.B0x k h
 |.Bf _ cs,k,h=>by simp only[SV.closed]at h;simp only[SV.has];exact SV.B0x k h
 |.F5 cs _,k,h=>by simp only[SV.closed]at h;simp only[SV.has];exact SV.B0x k h
 |.box _ _,_,h=>by simp[SV.closed]at h
 |.acc _,_,h=>by simp[SV.closed]at h
 |.Eg _ _ _,_,h=>by simp[SV.closed]at h
 |.mp _,_,h=>by simp[SV.closed]at h
 |.Eo _,_,_=>rfl
theorem SV.B0x:∀{cs:List SV} (k:Nat),SV.M8 cs=true->SV.Kw k cs=false
 |[],_,_=>rfl
 |c::cs,k,h=>by simp only[SV.M8,Bb]at h;simp only[SV.Kw,SV.C1u k h.1,SV.B0x k h.2,Ar2]
end
variable {S:Nat->Prop} {w:World}
def Am.closed{β β':Names}{v:Value}(h:Am S w β x v)(E:x.closed=true):Am S w β' x v :=
 h.ext (C4.refl S w) λk I=>by grind[SV.C1u]
variable {β:Names}
theorem Am.one{v:Value}(h:Am S w β x v)(E:x.one=true):v.oneCell'=true:=by
 cases h with
 |undef=>simp[SV.one]at E
 |agg=>simp[SV.one]at E
 |tuple=>simp[SV.one]at E
 |d x v h=>exact h.one E
 |_=>rfl
def Bv(S:Nat->Prop)(w:World)(β:Names)(xs:List SV)(vs:List Value):Prop :=
 vs.length=xs.length/\∀(j:Nat) (c:SV) (v:Value),xs[j]?=some c->vs[j]?=some v->Am S w β c v
theorem Bv.nil :Bv S w β [] []:=⟨rfl,by simp⟩
variable {vs:List Value}
def Bv.cons{xs:List SV}{v:Value}(h:Am S w β x v)(t:Bv S w β xs vs) :
  Bv S w β (x::xs) (v::vs):=by
 refine⟨by simp[t.1],?_⟩;intro j c u E I;cases j with
 |zero=>grind
 |succ j=>simp at E I;exact t.2 j c u E I
def Bv.get{xs:List SV}(h:Bv S w β xs vs){j:Nat}{c:SV}(E:xs[j]?=some c) :
  ∃v,vs[j]?=some v/\Am S w β c v:=by
 have I:j<vs.length:=by have:=(Az.1 E).1;have:=h.1;omega
 exact⟨vs[j],Bi I,h.2 j c _ E (Bi I)⟩
def Bv.append{xs ys:List SV}{vs us:List Value}(h:Bv S w β xs vs)(t:Bv S w β ys us) :
  Bv S w β (xs++ys) (vs++us):=by
 refine⟨by simp[h.1,t.1],?_⟩;intro j c u E I;by_cases J:j<xs.length
 .rw[L4 J]at E;rw[L4 (by have:=h.1;omega)]at I;exact h.2 j c u E I
 .rw[Kd (by omega)]at E;rw[Kd (by have:=h.1;omega)]at I;have:=h.1;exact t.2 (j - xs.length) c u E (by grind)
def Bv.map{S S':Nat->Prop}{w w':World}{β β':Names}{xs ys:List SV}(h:Bv S w β xs vs)(L:ys.length=xs.length)
  (J:∀(j:Nat) (x y:SV) (v:Value),xs[j]?=some x->ys[j]?=some y->Am S w β x v->Am S' w' β' y v):Bv S' w' β' ys vs:=by
 refine⟨by rw[h.1,L],?_⟩;intro j c v I O;have E:j<xs.length:=by have:=(Az.1 I).1;omega
 exact J j xs[j] c v (Bi E) I (h.2 j _ v (Bi E) O)
abbrev SL:=List (Nat × SV)
def Ae:SL->Nat->SV
 |[],_=>.undef
 |(u,x)::r,t=>if u=t then x else Ae r t
structure Gx where
 P:Program
 l:Nat
 n0:Nat
 N:Nat
 xs:Nat->SV
 go:Nat->Bool
 more:Nat->SV->Nat->Prop
def Gx.next(Y:Gx)(j:Nat):Option Nat:=if Y.go j then some (j+1)else none
inductive Aq where
 |cells (cs:List SV)
 |rows (sz:Nat) (rs:List (List D))
 |map (kvs:List (D × D))
 |iter (kvs:List (D × D)) (seen:List Nat)
 |ghost (Y:Gx) (st:Option Nat)
def Aq.has(k:Nat):Aq->Bool
 |.cells cs=>SV.Kw k cs
 |_=>false
def Aq.real:Aq->Bool
 |.ghost _ _=>false
 |_=>true
abbrev Ab:=List (Nat × Aq)
def G9u(es:Array MapEntry)(E:Array Nat)(seen:List Nat):Prop :=
 (∀(r:Nat) (e:MapEntry),es[r]?=some e->E.contains e.born=seen.contains r)/\(∀(r:Nat) (t:List Nat),seen=r::t->∃e,es[r]?=some e/\E.back? =some e.born)
def De(S:Nat->Prop)(w:World)(β:Names)(i:BI):Aq->Prop
 |.cells cs=>∃b ty vs,i.base=some b/\w.heap[b]?=some (.cells ⟨vs⟩ ty (0,0))/\Bv S w β cs vs
 |.rows sz rs=>i.sz=sz/\rs.length=i.len/\i.len<=i.cap/\rs.length<=lim/\(∀row,row∈rs->row.length=sz)/\(∀row,row∈rs->∀d,d∈row->d.one=true) /\
   match i.base with
   |none=>i.cap=0
   |some b=>∃ty vs,w.heap[b]?=some (.cells ⟨vs⟩ ty (0,0))/\(i.off+i.cap)*sz<=vs.length /\
     ∀(r j:Nat) (row:List D) (d:D) (v:Value),rs[r]?=some row->row[j]?=some d->vs[(i.off+r)*sz+j]?=some v->Bu S w d v
 |.map kvs=>∃b es E,i.base=some b/\w.heap[b]?=some (.map es E)/\MSz es E kvs.length /\
   (∀(r:Nat) (kv:D × D) (e:MapEntry),kvs[r]?=some kv->es[r]?=some e->Bu S w kv.1 e.key/\Bu S w kv.2 e.val)
 |.iter kvs seen=>∃b m es E I,i.base=some b/\w.heap[b]?=some (.mapIter (some m) E I E)/\S m/\w.heap[m]?=some (.map es E)/\MSz es E kvs.length /\
   (∀(r:Nat) (kv:D × D) (e:MapEntry),kvs[r]?=some kv->es[r]?=some e->Bu S w kv.1 e.key/\Bu S w kv.2 e.val)/\G9u es I seen
 |.ghost _ _=>i.base=none
def De.ext{S S':Nat->Prop}{w w':World}{β β':Names}{i:BI}{c:Aq}(h:De S w β i c)(e:C4 S w S' w')
  (W:∀b,i.base=some b->w'.heap[b]?=w.heap[b]?)(hb:∀k,c.has k=true->β' k =β k):De S' w' β' i c:=by
 cases c with
 |cells cs =>
  obtain⟨b,ty,vs,J,O,L⟩:=h;refine⟨b,ty,vs,J,(W b J).trans O,L.1,λj c v hc hv=>(L.2 j c v hc hv).ext e λk hk=>hb k ?_⟩
  grind[SV.A4v,Aq.has]
 |rows sz rs =>
  obtain⟨J,O,L,U,Z,h6,h7⟩:=h;refine⟨J,O,L,U,Z,h6,?_⟩;cases I:i.base with
  |none=>grind
  |some b =>rw[I]at h7;obtain⟨ty,vs,g1,g2,g3⟩:=h7;exact⟨ty,vs,(W b I).trans g1,g2,λr j row d v hr hd hv=>(g3 r j row d v hr hd hv).ext e⟩
 |map kvs =>obtain⟨b,es,E,J,O,L,U⟩:=h;exact⟨b,es,E,J,(W b J).trans O,L,λr kv x hr V=>⟨(U r kv x hr V).1.ext e,(U r kv x hr V).2.ext e⟩⟩
 |iter kvs seen =>obtain⟨b,m,es,E,sn,J,O,hS,hm,L,U,Z⟩:=h;exact⟨b,m,es,E,sn,J,(W b J).trans O,e.1 m hS,(e.2 m hS).trans hm,L,λr kv x hr V=>⟨(U r kv x hr V).1.ext e,(U r kv x hr V).2.ext e⟩,Z⟩
 |ghost Y st=>exact h
structure Gh where
 Y:Gx
 F:Option Nat->(Nat->Prop)->(Nat->Prop)->World->Prop
 sy:TypeId × Value
 ra:TypeId × Value
structure D9z(n0:Nat)(B S:Nat->Prop)(w:World)(S':Nat->Prop)(w':World):Prop where
 sub:∀b,S b->S' b
 new:∀b,S' b->S b\/n0<=b
 lt:∀b,S' b->b<w'.heap.size
 off:∀b,B b->¬S' b
 same:∀b,b<n0\/B b\/S b->w'.heap[b]?=w.heap[b]?
 os:w'.os=w.os
 tape:w'.tape=w.tape
 output:w'.output=w.output
 size:w.heap.size<=w'.heap.size
structure A0o(B S:Nat->Prop)(w:World)(B' S':Nat->Prop)(w':World):Prop where
 ext:C4 S w S' w'
 new:∀b,S' b->S b\/B b\/w.heap.size<=b
 lt:∀b,S' b->b<w'.heap.size
 own:∀b,B' b->¬S' b/\b<w'.heap.size/\(B b\/w.heap.size<=b)
 kept:∀b,b<w.heap.size->¬B b->w'.heap[b]?=w.heap[b]?
 os:w'.os=w.os
 tape:w'.tape=w.tape
 output:w'.output=w.output
 size:w.heap.size<=w'.heap.size
structure E6f(G:Gh):Prop where
 W3:∀st B S w S' w',G.F st B S w->D9z G.Y.n0 B S w S' w'->G.F st B S' w'
 shut:∀st B S w D l l',G.F st B S w->G.Y.n0<=D->¬B D->w.heap[D]?=some (.deferred l)->G.F st B S { w with heap:=w.heap.setIfInBounds D (.deferred l') }
 round:∀j B S w β v,j<G.Y.N->G.F (some j) B S w->(∀b,S b->b<w.heap.size)->(∀b,B b->¬S b/\b<w.heap.size)->Am S w β (G.Y.xs j) v ->
  ∃f tmps assign body,(Instr.yield G.Y.l #[v]).run G.Y.P w=.ok (.round G.Y.l f tmps assign body) w /\
   RoundIn Fence.wide 0 G.Y.P G.Y.l f tmps assign body w (λe w'=>∃S' B',e=.returned (.bool (G.Y.go j))/\G.F (G.Y.next j) B' S' w'/\A0o B S w B' S' w')
 H5v:∀j y j' B S w β v,G.Y.more j y j'->G.F (some j) B S w->(∀b,S b->b<w.heap.size)->(∀b,B b->¬S b/\b<w.heap.size)->Am S w β y v ->
  ∃f tmps assign body,(Instr.yield G.Y.l #[v]).run G.Y.P w=.ok (.round G.Y.l f tmps assign body) w /\
   RoundIn Fence.wide 0 G.Y.P G.Y.l f tmps assign body w (λe w'=>∃S' B',e=.returned (.bool true)/\G.F (some j') B' S' w'/\A0o B S w B' S' w')
structure Ctx where
 w0:World
 S0:Nat->Prop
 pre:Nat->Prop
 B0u:Nat->BI->Prop
 G:Gh
structure Inv(C:Ctx)(S:Nat->Prop)(w:World)(β:Names)(bx:Ab):Prop where
 Fe:∀b,C.S0 b->S b
 Ej:∀b,S b->C.S0 b\/C.pre b\/C.w0.heap.size<=b
 Bw:∀b,S b->b<w.heap.size
 kept:∀b,b<C.w0.heap.size->¬C.pre b->w.heap[b]?=C.w0.heap[b]?
 os:w.os=C.w0.os
 tape:w.tape=C.w0.tape
 output:w.output=C.w0.output
 size:C.w0.heap.size<=w.heap.size
 box:∀k c,(k,c)∈bx->De S w β (β k) c
 Ba:∀k c,(k,c)∈bx->∀b,(β k).base=some b->¬S b/\b<w.heap.size/\(C.pre b\/C.w0.heap.size<=b)
 inj:∀k c k' c',(k,c)∈bx->(k',c')∈bx->∀b,(β k).base=some b->(β k').base=some b->k=k'/\c=c'
 fix:∀k i,C.B0u k i->1000000<=k/\β k=i
 E2:∀b cs,A9q C.G.sy C.G.ra b cs->S b/\∃ty fr,w.heap[b]?=some (.cells cs ty fr)
 one:∀k Y st k' Y' st',(k,Aq.ghost Y st)∈bx->(k',Aq.ghost Y' st')∈bx->k=k'/\st=st'
 Fo:∀k Y st,(k,Aq.ghost Y st)∈bx->C.G.Y=Y/\E6f C.G/\Y.n0<=C.w0.heap.size/\(∀k' c',(k',c')∈bx->∀b,(β k').base=some b->Y.n0<=b) /\
  ∃B,C.G.F st B S w/\∀b,B b->¬S b/\b<w.heap.size/\(C.pre b\/C.w0.heap.size<=b)/\∀k' c',(k',c')∈bx->(β k').base≠some b
variable {C:Ctx}
def Inv.sub{bx bx':Ab}(h:Inv C S w β bx)(hs:∀k c,(k,c)∈bx'->(k,c)∈bx):Inv C S w β bx' :=
 { h with
  box:=λk c E=>h.box k c (hs k c E)
  Ba:=λk c E=>h.Ba k c (hs k c E)
  inj:=λk c J L E I=>h.inj k c J L (hs k c E) (hs J L I)
  one:=λk Y st J O st' E I=>h.one k Y st J O st' (hs _ _ E) (hs _ _ I)
  Fo:=λk Y st E=>by
   obtain⟨V,Z,h3,U,B,W,h6⟩:=h.Fo k Y st (hs _ _ E)
   grind }
def Inv.step{S S':Nat->Prop}{w w':World}{β β':Names}{bx bx':Ab}(h:Inv C S w β bx)(e:C4 S w S' w')
  (hS:∀b,S' b->S b\/w.heap.size<=b)(J:∀b,S' b->b<w'.heap.size)
  (O:∀b,b<w.heap.size->(∀k c,(k,c)∈bx->(β k).base≠some b)->w'.heap[b]?=w.heap[b]?)
  (a1:w'.os=w.os)(E:w'.tape=w.tape)(L:w'.output=w.output)(Ms:w.heap.size<=w'.heap.size)
  (a2:∀k c,(k,c)∈bx'->De S' w' β' (β' k) c/\∀b,(β' k).base=some b->¬S' b/\b<w'.heap.size/\(w.heap.size<=b\/∃j x,(j,x)∈bx/\(β j).base=some b))
  (a3:∀k c k' c',(k,c)∈bx'->(k',c')∈bx'->∀b,(β' k).base=some b->(β' k').base=some b->k=k'/\c=c')
  (a5:∀k,1000000<=k->β' k =β k)(V:∀k Y st,(k,Aq.ghost Y st)∈bx'->(k,Aq.ghost Y st)∈bx) :
  Inv C S' w' β' bx' where
 Fe b hb:=e.sub b (h.Fe b hb)
 Ej b hb:=by
  rcases hS b hb with hb|hb
  .exact h.Ej b hb
  .exact .inr (.inr (Cp h.size hb))
 Bw:=J
 kept b hb hp:=by
  rw[<-h.kept b hb hp];refine O b (W5 hb h.size) ?_;intro k c I U;rcases(h.Ba k c I b U).2.2 with h' |h'
  .grind
  .omega
 os:=a1.trans h.os
 tape:=E.trans h.tape
 output:=L.trans h.output
 size:=Cp h.size Ms
 box k c I:=(a2 k c I).1
 Ba k c I b hb:=by
  obtain⟨Z,W,h3⟩:=(a2 k c I).2 b hb;refine⟨Z,W,?_⟩;rcases h3 with h3|⟨j,x,hj,a4⟩
  .exact .inr (Cp h.size h3)
  .exact(h.Ba j x hj b a4).2.2
 inj:=a3
 fix k b hb:=by have:=h.fix k b hb;grind
 E2 b cs hv:=by obtain⟨Z,ty,fr,W⟩:=h.E2 b cs hv;exact⟨e.sub b Z,ty,fr,(e.same b Z).trans W⟩
 one k Y st k' Y' st' I a0:=h.one k Y st k' Y' st' (V _ _ _ I) (V _ _ _ a0)
 Fo k Y st I:=by
  obtain⟨Z,W,h3,h4,B,h5,h6⟩:=h.Fo k Y st (V k Y st I);have a6:=h.size;refine⟨Z,W,h3,λk' c' a0 b hb=>?_,B,W.W3 st B S w S' w' h5 ⟨e.sub,λb hb=>?_,J,λb hb hs=>?_,λb hb=>?_,a1,E,L,Ms⟩,λb hb=>?_⟩
  .grind
  .grind
  .grind
  .rcases hb with hb|hb|hb
   .grind
   .grind
   .exact e.same b hb
  grind
def Inv.grow{S S':Nat->Prop}{w w':World}{bx:Ab}(h:Inv C S w β bx)
  (U:∀b,S b->S' b)(Z:∀b,S' b->S b\/w.heap.size<=b)(V:∀b,S' b->b<w'.heap.size)
  (E:∀b,b<w.heap.size->w'.heap[b]?=w.heap[b]?)
  (W:w'.os=w.os)(J:w'.tape=w.tape)(L:w'.output=w.output)(Ms:w.heap.size<=w'.heap.size) :
  Inv C S' w' β bx/\C4 S w S' w':=by
 have e:C4 S w S' w':=⟨U,λb I=>E b (h.Bw b I)⟩;refine⟨h.step e Z V (λb I _=>E b I) W J L Ms ?_ h.inj (λ_ _=>rfl) (λ_ _ _ O=>O),e⟩;intro k c O;refine⟨(h.box k c O).ext e (λb I=>E b (h.Ba k c O b I).2.1) (λ_ _=>rfl),?_⟩;intro b I;obtain⟨h1,h2,h3⟩:=h.Ba k c O b I
 grind
end Go.Abs
namespace Go.Abs
open Go
abbrev Hz:=Operand->SV
def _root_.Go.Oper.wpx(P:Program)(o:Oper)(a:Act)(w:World)(next:Act->World->Prop):Prop :=
 o.wp P a w next (λ_ _ _=>False)\/∃l f tmps E body w',(execOp a.eval o).run P w=.ok (.round l f tmps E body) w' /\
  RoundIn Fence.wide 0 P l f tmps E body w' (λe I=>match e with| .returned v=>next (a.put o.dst v) I|_=>False)
def Br(P:Program)(o:Oper)(ρ:Hz)(bx:Ab)(r:SV)(bx':Ab)(pg:List Nat):Prop :=
 ∀(C:Ctx) (S:Nat->Prop) (w:World) (β:Names) (a:Act),Inv C S w β bx->(∀x,x∈o.op.operands->Am S w β (ρ x) (a.eval x)) ->
  o.wpx P a w (λE w'=>∃v S' β',E=a.put o.dst v/\Inv C S' w' β' bx'/\C4 S w S' w'/\Am S' w' β' r v/\(∀k,k∉pg->β' k =β k))
variable {x:Operand}
def mo{o:Oper}{op:Op}(h:o.op=op)(m:x∈op.operands):x∈o.op.operands:=h ▸ m
def mC{o:Oper}{op:Op}(E:o.op=op)(h:x∈op.operands:=by simp[Op.operands,Call.operands]):x∈o.op.operands:=mo E h
variable {P:Program} {o:Oper} {ρ:Hz} {bx:Ab}
def Br.E4{r:SV}(h:∀(C:Ctx)(S:Nat->Prop)(w:World) (β:Names)(a:Act),Inv C S w β bx->(∀x,x∈o.op.operands->Am S w β (ρ x) (a.eval x)) ->
  ∃v,(execOp a.eval o).run P w=.ok (.value v) w/\Am S w β r v):Br P o ρ bx r bx []:=by
 intro C S w β a E J;obtain⟨v,I,hr⟩:=h C S w β a E J;refine I7 ?_;unfold Oper.wp;rw[I];exact⟨v,S,β,rfl,E,C4.refl S w,hr,λ_ _=>rfl⟩
def F6p(E:o.op=.move x):Br P o ρ bx (ρ x) bx [] :=
 .E4 λ_ _ _ _ a _ I=>⟨a.eval x,by simp[execOp,E],(I x (mo E (by grind[Op.operands])))⟩
def G8h(E:o.op=.assign x):Br P o ρ bx (ρ x) bx [] :=
 .E4 λ_ _ _ _ a _ I=>⟨a.eval x,by simp[execOp,E],(I x (mo E (by grind[Op.operands])))⟩
variable {S:Nat->Prop} {w:World} {β:Names}
def Am.Ij{x:D}{v:Value}(h:Am S w β (.d x) v):Bu S w x v:=by cases h;omega
def Am.Vn{b:Bool}{v:Value}(h:Am S w β (.d (.bool b)) v):v=.bool b:=by cases h with|d _ _ h=>cases h;rfl
def Am.J2{k:IntKind}{n:Int}{v:Value}(h:Am S w β (.d (.int k n)) v):v=.int k n:=by cases h with|d _ _ h=>cases h;rfl
def Am.U1{s:A2}{v:Value}(h:Am S w β (.d (.str s)) v):v=.string (mkStr s)/\s.length<=lim:=by cases h with|d _ _ h=>cases h;grind
def Am.bool(b:Bool):Am S w β (.d (.bool b)) (.bool b):=.d _ _ (.bool b)
def Am.int(k:IntKind)(n:Int):Am S w β (.d (.int k n)) (.int k n):=.d _ _ (.int k n)
def F5j{c x y:Operand}(E:o.op=.pick c x y){t:Bool}(I:ρ c=.d (.bool t)):Br P o ρ bx (if t then ρ x else ρ y) bx [] :=
 .E4 λ_ _ _ _ a _ J=>by
  have h:=(J c (mo E (by grind[Op.operands])));rw[I]at h;have h:=h.Vn;refine⟨if t then a.eval x else a.eval y,?_,?_⟩
  .cases t <;> simp[execOp,E,h,asBool]
  grind[Op.operands]
def B5i(op:BinOp)(x y:Int):Option Bool :=
 match op with
 |.eql=>some (decide (x=y))
 |.neq=>some (decide (x≠y))
 |.lss=>some (decide (x<y))
 |.leq=>some (decide (x<=y))
 |.gtr=>some (decide (y<x))
 |.geq=>some (decide (y<=x))
 |_=>none
def C5b(op:BinOp)(k:IntKind)(x y:Int):Option Int :=
 match op with
 |.add=>some (k.wrap (x+y))
 |.sub=>some (k.wrap (x - y))
 |.mul=>some (k.wrap (x*y))
 |_=>none
def B1a(op:BinOp)(t:TypeId)(x y:Operand)(k E:IntKind)(m n:Int)(w:World):(eqGuard op t x y (.int k m) (.int E n)).run P w=.ok () w:=by unfold eqGuard;simp
def D9o(op:BinOp)(t:TypeId)(x y:Operand)(m n:ByteArray)(w:World):(eqGuard op t x y (.string m) (.string n)).run P w=.ok () w:=by unfold eqGuard;simp
def F5t(op:BinOp)(t:TypeId)(x y:Operand)(m n:Bool)(w:World):(eqGuard op t x y (.bool m) (.bool n)).run P w=.ok () w:=by unfold eqGuard;simp
def G2z(op:BinOp)(t:TypeId)(x y:Operand)(m:Option Addr)(n:Value)(w:World):(eqGuard op t x y (.pointer m) n).run P w=.ok () w:=by unfold eqGuard;simp
def H2z(op:BinOp)(t:TypeId)(x y:Operand)(m:Option Addr)(l c:Nat)(n:Value)(w:World):(eqGuard op t x y (.slice m l c) n).run P w=.ok () w:=by unfold eqGuard;simp
variable {op:BinOp}
def H5c{t u:TypeId}{x y:Operand}(J:o.op=.binOp op t x y u){k:IntKind}{m n:Int}{b:Bool}
  (U:ρ x=.d (.int k m))(V:ρ y=.d (.int k n))(L:B5i op m n=some b):Br P o ρ bx (.d (.bool b)) bx [] :=
 .E4 λ_ _ w _ a _ O=>by
  have E:=(O x (mo J (by grind[Op.operands])));rw[U]at E;have E:=E.J2;have I:=(O y (mo J (by grind[Op.operands])));rw[V]at I;have I:=I.J2;refine⟨.bool b,?_,.bool b⟩;simp only[execOp,J,Hm,Sem.run_map,E,I,B1a,H0];cases op <;> first
   |grind[B5i]
   |(simp only[B5i,B5]at L;subst L;simp only[binOp,Op.intCmp,ne_eq,At9,Fx,K8,H0];try(congr 3 <;> grind))
def F0x{t u:TypeId}{x y:Operand}(J:o.op=.binOp op t x y u){k:IntKind}{m n b:Int}
  (U:ρ x=.d (.int k m))(V:ρ y=.d (.int k n))(L:C5b op k m n=some b):Br P o ρ bx (.d (.int k b)) bx [] :=
 .E4 λ_ _ w _ a _ O=>by have E:=(O x (mo J (by grind[Op.operands])));rw[U]at E;have E:=E.J2;have I:=(O y (mo J (by grind[Op.operands])));rw[V]at I;have I:=I.J2;refine⟨.int k b,?_,.int k b⟩;simp only[execOp,J,Hm,Sem.run_map,E,I,B1a,H0];cases op <;> simp[C5b]at L <;> subst L <;> simp[binOp,Op.intArith]
def D4o{t u:TypeId}{x y:Operand}(J:o.op=.binOp .quo t x y u){k:IntKind}{m n:Int}
  (O:ρ x=.d (.int k m))(U:ρ y=.d (.int k n))(V:n≠0):Br P o ρ bx (.d (.int k (k.wrap (m.tdiv n)))) bx [] :=
 .E4 λ_ _ w _ a _ L=>by have E:=(L x (mo J (by grind[Op.operands])));rw[O]at E;have E:=E.J2;have I:=(L y (mo J (by grind[Op.operands])));rw[U]at I;have I:=I.J2;refine⟨_,?_,.int k _⟩;simp[execOp,J,E,I,B1a,binOp,Op.intDiv,V]
def G2c{t u:TypeId}{x y:Operand}(J:o.op=.binOp .rem t x y u){k:IntKind}{m n:Int}
  (O:ρ x=.d (.int k m))(U:ρ y=.d (.int k n))(V:n≠0):Br P o ρ bx (.d (.int k (m.tmod n))) bx [] :=
 .E4 λ_ _ w _ a _ L=>by have E:=(L x (mo J (by grind[Op.operands])));rw[O]at E;have E:=E.J2;have I:=(L y (mo J (by grind[Op.operands])));rw[U]at I;have I:=I.J2;refine⟨_,?_,.int k _⟩;simp[execOp,J,E,I,B1a,binOp,Op.intDiv,V]
def C8m(op:BinOp)(x y:A2):Option Bool :=
 match op with
 |.eql=>some (decide (x=y))
 |.neq=>some (decide (x≠y))
 |.lss=>some (Op.bytesLess x y)
 |.gtr=>some (Op.bytesLess y x)
 |_=>none
def E4o(s:A2):(mkStr s).toList=s:=by simp[mkStr]
def C7p:∀(x y:A2),(Op.bytesLess x y ||x ==y) = !Op.bytesLess y x
 |[],[]=>rfl
 |[],_::_=>by rfl
 |_::_,[]=>by rfl
 |a::x,b::y=>by
  have E:=C7p x y;simp only[Op.bytesLess]
  grind
def C0m{t u:TypeId}{x y:Operand}(J:o.op=.binOp op t x y u){m n:A2}{b:Bool}
  (U:ρ x=.d (.str m))(V:ρ y=.d (.str n))(L:C8m op m n=some b):Br P o ρ bx (.d (.bool b)) bx [] :=
 .E4 λ_ _ w _ a _ O=>by
  have E:=(O x (mo J (by grind[Op.operands])));rw[U]at E;have E:=E.U1.1;have I:=(O y (mo J (by grind[Op.operands])));rw[V]at I;have I:=I.U1.1;refine⟨.bool b,?_,.bool b⟩;have e:=C7p m n;simp only[execOp,J,Hm,Sem.run_map,E,I,D9o,H0];cases op <;> first
   |grind[C8m]
   |(simp only[C8m,B5]at L;subst L;simp only[binOp,Op.stringOp,E4o,e,Bool.not_not,K8,H0];try(congr 3 <;> (rw[Xm];simp)))
def G5n(x y:A2):mkStr x++mkStr y=mkStr (x++y):=by rfl
def G6q{t u:TypeId}{x y:Operand}(L:o.op=.binOp .add t x y u){m n:A2}
  (U:ρ x=.d (.str m))(Z:ρ y=.d (.str n))(W:m.length+n.length<=lim):Br P o ρ bx (.d (.str (m++n))) bx [] :=
 .E4 λ_ _ w _ a _ O=>by
  have I:=(O x (mo L (by grind[Op.operands])));rw[U]at I;have I:=I.U1.1;have J:=(O y (mo L (by grind[Op.operands])));rw[Z]at J;have J:=J.U1.1;refine⟨.string (mkStr (m++n)),?_,.d _ _ (.str _ (by grind))⟩;have E:IntKind.i64.max=9223372036854775807:=by decide
  have V:¬(IntKind.i64.max<(m.length:Int)+n.length):=by rw[E];unfold lim at W;omega
  simp only[execOp,L,Hm,Sem.run_map,I,J,D9o,H0,binOp,Op.stringOp,C7a,G5n];simp_all
def G3y{t:TypeId}(I:o.op=.unOp .not t x){b:Bool}(J:ρ x=.d (.bool b)):Br P o ρ bx (.d (.bool (!b))) bx [] :=
 .E4 λ_ _ w _ a _ L=>by have E:=(L x (mo I (by grind[Op.operands])));rw[J]at E;have E:=E.Vn;exact⟨.bool (!b),by simp[execOp,I,E,Op.unary],.bool _⟩
def G8v{t:TypeId}(I:o.op=.unOp .neg t x){k:IntKind}{n:Int}(J:ρ x=.d (.int k n)):Br P o ρ bx (.d (.int k (k.wrap (0 - n)))) bx [] :=
 .E4 λ_ _ w _ a _ L=>by have E:=(L x (mo I (by grind[Op.operands])));rw[J]at E;have E:=E.J2;exact⟨.int k (k.wrap (0 - n)),by simp[execOp,I,E,Op.unary,Op.intArith],.int _ _⟩
def C6d(op:BinOp)(x y:Bool):Option Bool :=
 match op with
 |.eql=>some (x ==y)
 |.neq=>some (!(x ==y))
 |_=>none
def E2o{t u:TypeId}{x y:Operand}(J:o.op=.binOp op t x y u)(ht:P.underlying t=some .bool){m n:Bool}{b:Bool}
  (U:ρ x=.d (.bool m))(V:ρ y=.d (.bool n))(L:C6d op m n=some b):Br P o ρ bx (.d (.bool b)) bx [] :=
 .E4 λ_ _ w _ a _ O=>by
  have E:=(O x (mo J (by grind[Op.operands])));rw[U]at E;have E:=E.Vn;have I:=(O y (mo J (by grind[Op.operands])));rw[V]at I;have I:=I.Vn;refine⟨.bool b,?_,.bool b⟩;simp only[execOp,J,Hm,Sem.run_map,E,I,F5t,H0];cases op <;> first
   |(simp only[C6d,reduceCtorEq]at L;done)
   |(simp only[C6d,B5]at L;subst L;first| (rw[run_eql_bool _ _ _ _ ht];rfl)| (rw[run_neq_bool _ _ _ _ ht];rfl))
def G7y{src dst:TypeId}(J:o.op=.convert src dst x){k E j:IntKind}{n:Int}
  (hs:P.underlying src=some (.int j))(hd:P.underlying dst=some (.int E))(L:ρ x=.d (.int k n)):Br P o ρ bx (.d (.int E (E.wrap n))) bx [] :=
 .E4 λ_ _ w _ a _ O=>by have I:=(O x (mo J (by grind[Op.operands])));rw[L]at I;have I:=I.J2;refine⟨.int E (E.wrap n),?_,.int _ _⟩;simp[execOp,J,I,convert,underlying,hs,hd,Conv.intToInt]
def F9r{src dst:TypeId}(E:o.op=.convert src dst x){s:A2}
  (hs:P.underlying src=some .string)(hd:P.underlying dst=some .string)(J:ρ x=.d (.str s)):Br P o ρ bx (.d (.str s)) bx [] :=
 .E4 λ_ _ w _ a _ O=>by have I:=(O x (mo E (by grind[Op.operands])));rw[J]at I;have L:=I.U1.1;refine⟨.string (mkStr s),?_,by grind⟩;simp[execOp,E,L,convert,underlying,hs,hd]
def G2y{i:Nat}(I:o.op=.extract x i){xs:List SV}{r:SV}(L:ρ x=.tuple xs)(hr:xs[i]?=some r):Br P o ρ bx r bx [] :=
 .E4 λ_ _ w _ a _ U=>by
  have E:=(U x (mo I (by grind[Op.operands])));rw[L]at E;generalize O:a.eval x=v at E;cases E with
  |tuple _ vs V h =>
   have J:i<vs.length:=by have:=(Az.1 hr).1;omega
   refine⟨vs[i],?_,h i r _ hr (Bi J)⟩;simp[execOp,I,O,Instr.extract,J]
def H1z{t:TypeId}(I:o.op=.makeInterface t x){y:D}(L:ρ x=.d y){E:TypeDesc}(ht:P.underlying t=some E)
  (O:(match E with| .interface _=>false|_=>true)=true):Br P o ρ bx (.d (.iface t y)) bx [] :=
 .E4 λ_ _ w _ a _ U=>by have J:=(U x (mC I));rw[L]at J;refine⟨.iface t (a.eval x),?_,.d _ _ (.iface t y _ J.Ij)⟩;cases E <;> simp at O <;> simp[execOp,I,Instr.makeInterface,underlying,ht]
def F0p{ds:List D}{v:Value}(h:Am S w β (.agg (ds.map SV.d)) v):Bu S w (.agg ds) v:=by
 generalize J:ds.map SV.d=cs at h;cases h with
 |agg _ vs O E I =>
  subst J;refine .agg ds vs (by grind) ?_ ?_
  .intro d hd;have:=E (.d d) (Au.2 ⟨d,hd,rfl⟩);simpa [SV.one]using this
  .intro j d v hd L;exact(I j (.d d) v (by grind) L).Ij
def D8p{ds:List D}{v:Value}(h:Bu S w (.agg ds) v):Am S w β (.agg (ds.map SV.d)) v:=by
 cases h with
 |agg _ vs O I J =>
  refine .agg _ vs (by grind) ?_ ?_
  .intro c E;obtain⟨d,hd,rfl⟩:=Au.1 E;exact I d hd
  .intro j c v E L;obtain⟨d,hd,rfl⟩:=by simpa using E
   exact .d _ _ (J j d v hd L)
def H4i{t:TypeId}(I:o.op=.makeInterface t x){ys:List D}(L:ρ x=.agg (ys.map SV.d)){E:TypeDesc}(ht:P.underlying t=some E)
  (O:(match E with| .interface _=>false|_=>true)=true):Br P o ρ bx (.d (.iface t (.agg ys))) bx [] :=
 .E4 λ_ _ w _ a _ U=>by have J:=(U x (mC I));rw[L]at J;refine⟨.iface t (a.eval x),?_,.d _ _ (.iface t _ _ (F0p J))⟩;cases E <;> simp at O <;> simp[execOp,I,Instr.makeInterface,underlying,ht]
end Go.Abs
namespace Go.Abs
open Go
variable {P:Program} {o:Oper} {ρ:Hz} {bx:Ab}
def Cr(P:Program)(T:TypeId):Option Bool:=(P.underlying T).map λd=>match d with| .struct _| .array _ _=>true|_=>false
def Be(P:Program)(T:TypeId):Option Nat:=(P.info? T).map (·.size)
def Cu(P:Program)(T:TypeId)(f:Nat):Option Nat :=
 match P.underlying T with
 |some (.struct fs)=>match fs[f]? with
  |some fd=>match P.info? fd.type with
   |some i=>if i.size=0 then none else some fd.offset
   |none=>none
  |none=>none
 |_=>none
def Dt(P:Program)(T:TypeId):Option TypeId :=
 match P.underlying T with
 |some (.slice e)=>some e
 |_=>none
def B5n{T:TypeId}{b:Bool}(h:Cr P T=some b)(w:World):(isAgg T).run P w=.ok b w:=by
 unfold Cr at h;cases E:P.underlying T with
 |none=>grind
 |some d =>simp only[E,Ez,B5]at h;subst h;simp only[isAgg,underlying,Hm,run_program,H0,E,K8];cases d <;> rfl
def Pb{T:TypeId}{n:Nat}(h:Be P T=some n)(w:World):(sizeOf T).run P w=.ok n w:=by
 unfold Be at h;cases E:P.info? T with
 |none=>grind
 |some d =>simp only[E,Ez,B5]at h;subst h;simp[sizeOf,typeInfo,E]
theorem Wt(b off n:Nat):(⟨b,off,none⟩:Addr).add n=⟨b,off+n,none⟩:=by grind[Addr.add]
def C4e{T f off b p:Nat}(h:Cu P T f=some off)(w:World):(Instr.fieldAt T (.pointer (some ⟨b,p,none⟩)) f).run P w=.ok (.pointer (some ⟨b,p+off,none⟩)) w:=by
 unfold Cu at h;cases I:P.underlying T with
 |none=>grind
 |some d =>
  rw[I]at h;cases d <;> simp only[reduceCtorEq]at h;rename_i fs;cases J:fs[f]? with
  |none=>grind
  |some fd =>
   simp only[J]at h;cases E:P.info? fd.type with
   |none=>grind
   |some i =>
    simp only[E]at h;split at h
    .grind
    .rename_i hs;simp only[B5]at h;subst h;simp[Instr.fieldAt,underlying,I,J,Instr.sureAddr,fieldPlace,sizeOf,typeInfo,E,hs,Wt]
variable {w:World}
def C2a{T b p:Nat}{v:Value}(hT:Cr P T=some false)(E:w.cell? ⟨b,p,none⟩=some v) :
  (Instr.loadAt T (.pointer (some ⟨b,p,none⟩))).run P w=.ok v w:=by
 simp[Instr.loadAt,Instr.sureAddr,loadVar,B5n hT,E]
variable {vs:List Value}
def C4h{T b p n:Nat}(hT:Cr P T=some true)(hs:Be P T=some n)(E:vs.length=n)
  (I:∀(j:Nat) (v:Value),vs[j]?=some v->w.cell? ⟨b,p+j,none⟩=some v) :
  (Instr.loadAt T (.pointer (some ⟨b,p,none⟩))).run P w=.ok (.agg ⟨vs⟩) w:=by
 have h:=run_loadCells_list (P:=P) w ⟨b,p,none⟩ vs (λj v J=>by rw[Wt];grind);subst E;simp[Instr.loadAt,Instr.sureAddr,loadVar,B5n hT,Pb hs,h]
theorem cells_of_row{b:Nat}{ty:TypeId}{E:Nat × Nat}(h:w.heap[b]?=some (.cells ⟨vs⟩ ty E))(p:Nat):w.cell? ⟨b,p,none⟩=vs[p]?:=by rw[cell_of_row w b p ⟨vs⟩ ty E h];simp
variable {S:Nat->Prop} {β:Names}
def Am.A8i{k off:Nat}{v:Value}(h:Am S w β (.box k off) v):∃b,(β k).base=some b/\v=.pointer (some ⟨b,off,none⟩):=by cases h with|box k off b h=>grind
def part(cs:List SV)(off n:Nat):List SV:=(cs.drop off).take n
def A3z(cs:List D)(off n:Nat):List D:=(cs.drop off).take n
def Am.A7x{cs:List SV}(h:Bv S w β cs vs)(I:cs.all SV.one=true):Am S w β (.agg cs) (.agg ⟨vs⟩) :=
 .agg cs vs h.1 (λc E=>Dm.1 I c E) h.2
def Bv.part{cs:List SV}(h:Bv S w β cs vs)(off n:Nat):Bv S w β (part cs off n) ((vs.drop off).take n):=by
 refine⟨by simp[Abs.part,h.1],?_⟩;intro j c v E I;simp only[Abs.part,Ak4,Wn]at E I;split at E
 .rw[A8 (by omega)]at I;exact h.2 _ c v E I
 grind
variable {x:Operand}
def F8r{T:TypeId}(O:o.op=.load T x){k off n:Nat}{cs:List SV}(U:ρ x=.box k off)(Z:(k,Aq.cells cs)∈bx)
  (hT:Cr P T=some true)(hs:Be P T=some n)(hl:off+n<=cs.length)(V:(part cs off n).all SV.one=true):Br P o ρ bx (.agg (part cs off n)) bx [] :=
 .E4 λ_ _ w β a W ha=>by
  have J:=(ha x (mo O (by grind[Op.operands])));rw[U]at J;obtain⟨b,E,hv⟩:=J.A8i;obtain⟨b',ty,vs,L,hh,hr⟩:=W.box k _ Z;rw[E]at L;cases L;refine⟨.agg ⟨(vs.drop off).take n⟩,?_,Am.A7x (hr.part off n) V⟩;have:=hr.1;have I:=C4h (P:=P) (w:=w) (b:=b) (p:=off) (vs:=(vs.drop off).take n) hT hs (by grind) (by grind[cells_of_row])
  simp[execOp,O,hv,I]
structure B4w(S:Nat->Prop)(w:World)(cells:List D)(off:Nat)(v:Value)(b base:Nat):Prop where
 v:v=.pointer (some ⟨b,base+off,none⟩)
 inS:S b
 one:∀d,d∈cells->d.one=true
 there:∀j,j<cells.length->∃v,w.cell? ⟨b,base+j,none⟩=some v
 rep:∀(j:Nat) (d:D) (v:Value),cells[j]?=some d->w.cell? ⟨b,base+j,none⟩=some v->Bu S w d v
def Am.B1u{cells:List D}{off:Nat}{v:Value}(h:Am S w β (.A9 cells off) v):∃b base,B4w S w cells off v b base:=by cases h with|A9 cells off b base L E I J=>exact⟨b,base,rfl,L,E,I,J⟩
def Am.E1m{cells:List D}{v:Value}(h:Am S w β (.d (.ptr cells)) v):∃b base,B4w S w cells 0 v b base:=by
 cases h with
 |d _ _ h=>cases h with|ptr cells b base L E I J=>exact⟨b,base,by simp,L,E,I,J⟩
def B4w.A9{cells:List D}{off E:Nat}{v:Value}{b base:Nat}(h:B4w S w cells off v b base):Am S w β (.A9 cells E) (.pointer (some ⟨b,base+E,none⟩)) :=
  .A9 cells E b base h.inS h.one h.there h.rep
inductive B4v:SV->List D->Nat->Prop where
 |A9 (cells:List D) (off:Nat):B4v (.A9 cells off) cells off
 |ptr (cells:List D):B4v (.d (.ptr cells)) cells 0
def Am.D0a{x:SV}{cells:List D}{off:Nat}{v:Value}(h:Am S w β x v)(E:B4v x cells off):∃b base,B4w S w cells off v b base:=by
 cases E with
 |A9=>exact h.B1u
 |ptr=>exact h.E1m
def E8n{T f d:Nat}(J:o.op=.fieldAddr T x f){k off:Nat}(L:ρ x=.box k off)(O:Cu P T f=some d):Br P o ρ bx (.box k (off+d)) bx [] :=
 .E4 λ_ _ w β a W V=>by have I:=(V x (mo J (by grind[Op.operands])));rw[L]at I;obtain⟨b,E,U⟩:=I.A8i;exact⟨.pointer (some ⟨b,off+d,none⟩),by simp[execOp,J,U,C4e O],.box _ _ _ E⟩
def D2z{T f d:Nat}(E:o.op=.fieldAddr T x f){cells:List D}{off:Nat}(J:B4v (ρ x) cells off)(L:Cu P T f=some d) :
  Br P o ρ bx (.A9 cells (off+d)) bx [] :=
 .E4 λ_ _ w β a U O=>by obtain⟨b,base,I⟩:=((O x (mo E (by grind[Op.operands])))).D0a J;exact⟨.pointer (some ⟨b,base+(off+d),none⟩),by simp[execOp,E,I.v,C4e L,Si],I.A9⟩
def F3n{T f d:Nat}(J:o.op=.fieldAddr T x f){k i off:Nat}(L:ρ x=.Eg k i off)(O:Cu P T f=some d):Br P o ρ bx (.Eg k i (off+d)) bx [] :=
 .E4 λ_ _ w β a W V=>by
  have I:=(V x (mo J (by grind[Op.operands])));rw[L]at I;generalize U:a.eval x=v at I;cases I with
  |Eg k i off b E =>exact⟨.pointer (some ⟨b,((β k).off+i)*(β k).sz+(off+d),none⟩),by simp[execOp,J,U,C4e O,Si],.Eg _ _ _ _ E⟩
def D3g{T e n:Nat}{b p len cap:Nat}{i:Int}{k:IntKind}(hT:Dt P T=some e)(hs:Be P e=some n)(I:0<=i)(J:i<len)(w:World) :
  (Instr.indexAt T (.slice (some ⟨b,p,none⟩) len cap) (.int k i)).run P w=.ok (.pointer (some ⟨b,p+i.toNat*n,none⟩)) w:=by
 unfold Dt at hT;cases E:P.underlying T with
 |none=>grind
 |some d =>rw[E]at hT;cases d <;> simp only[reduceCtorEq,B5]at hT;subst hT;simp[Instr.indexAt,asIntOf,underlying,E,I,J,Pb hs,Wt]
def H0t{T e n:Nat}{x y:Operand}(O:o.op=.indexAddr T x y){rows:List (List D)}{k:IntKind}{i:Int}{row:List D}(Z:ρ x=.d (.slice rows))(hy:ρ y=.d (.int k i))
  (hT:Dt P T=some e)(hs:Be P e=some n)(h0:0<=i)(hr:rows[i.toNat]?=some row)(hn:row.length=n):Br P o ρ bx (.A9 row 0) bx [] :=
 .E4 λ_ S w β a hi W=>by
  have E:=(W x (mo O (by grind[Op.operands])));rw[Z]at E;have I:=(W y (mo O (by grind[Op.operands])));rw[hy]at I;have I:=I.J2;have V:=(Az.1 hr).1;have J:=C6 hr;generalize hv:a.eval x=v at E;cases E with
  |d _ _ E =>
   cases E with
   |Mk=>grind
   |slice _ b off cap sz hS h1 h2 h3 L h4 h5 =>
    have U:sz=n:=by rw[<-hn];exact(h3 row J).symm
    subst U;refine⟨.pointer (some ⟨b,(off+i.toNat*sz)+0,none⟩),?_,.A9 row 0 b (off+i.toNat*sz) hS (L row J) ?_ ?_⟩
    .simp[execOp,O,hv,I,D3g hT hs h0 (show i<(rows.length:Int) by omega)]
    .grind
    grind
def H4y{T e n:Nat}{x y:Operand}(L:o.op=.indexAddr T x y){q:Nat}{sz:Nat}{rows:List (List D)}{k:IntKind}{i:Int}(W:ρ x=.acc q)(hb:(q,Aq.rows sz rows)∈bx)
  (hy:ρ y=.d (.int k i))(hT:Dt P T=some e)(hs:Be P e=some n)(O:sz=n)(h0:0<=i)(h1:i.toNat<rows.length):Br P o ρ bx (.Eg q i.toNat 0) bx [] :=
 .E4 λ_ S w β a Z V=>by
  have J:=(V x (mo L (by grind[Op.operands])));rw[W]at J;have I:=(V y (mo L (by grind[Op.operands])));rw[hy]at I;have I:=I.J2;generalize U:a.eval x=v at J;obtain⟨g1,g2,g3,g4,g5,g6,g7⟩:=Z.box q _ hb;cases J with
  |acc q =>
   cases E:(β q).base with
   |none=>grind
   |some b =>subst O;refine⟨.pointer (some ⟨b,((β q).off+i.toNat)*(β q).sz+0,none⟩),?_,.Eg q i.toNat 0 b E⟩;rw[E]at U;simp only[Ez]at U;simp[execOp,L,U,I,D3g hT hs h0 (show i<(((β q).len:Nat):Int) by omega),g1,Hw]
def G6w{T:Nat}{x y:Operand}(L:o.op=.index T x y){s:A2}{k:IntKind}{i:Int}{c:UInt8}(U:ρ x=.d (.str s))(Z:ρ y=.d (.int k i))
  (hT:P.underlying T=some .string)(h0:0<=i)(hr:s[i.toNat]?=some c):Br P o ρ bx (.d (.int .u8 c.toNat)) bx [] :=
 .E4 λ_ S w β a hi O=>by
  have E:=(O x (mo L (by grind[Op.operands])));rw[U]at E;have E:=E.U1.1;have I:=(O y (mo L (by grind[Op.operands])));rw[Z]at I;have I:=I.J2;refine⟨.int .u8 c.toNat,?_,.int _ _⟩;have W:(mkStr s)[i.toNat]?=some c:=by
   obtain⟨V,h2⟩:=Az.1 hr;have J:i.toNat<(mkStr s).size:=V;rw[getElem?_pos (mkStr s) i.toNat J]
   congr 1
  simp[execOp,L,E,I,Instr.index,asIntOf,underlying,hT,h0,W]
def F2v{T f d n:Nat}(L:o.op=.field T x f){cs:List SV}{J:TypeId}(O:ρ x=.agg cs){fs:Array Field}{fd:Field}
  (hT:P.underlying T=some (.struct fs))(U:fs[f]?=some fd)(hd:fd.offset=d)(I:fd.type=J)(ha:Cr P J=some true)(hs:Be P J=some n):Br P o ρ bx (.agg (part cs d n)) bx [] :=
 .E4 λ_ S w β a hi h=>by
  have E:=h x (mC L);rw[O]at E;generalize hv:a.eval x=v at E;cases E with
  |agg _ vs hl V Z =>
   subst hd I;refine⟨.agg ⟨(vs.drop fd.offset).take n⟩,?_,Am.A7x (Bv.part ⟨hl,Z⟩ _ _) ?_⟩
   .have W:(Array.mk vs).extract fd.offset (fd.offset+n)=⟨(vs.drop fd.offset).take n⟩:=by
     apply Kt;simp
    simp[execOp,L,hv,Instr.field,underlying,hT,U,Go.part,B5n ha,Pb hs,asAgg,W]
   .rw[Dm];intro c hc;exact V c (Zz (Ji hc))
def G0b{T f d:Nat}(J:o.op=.field T x f){cs:List SV}{U:TypeId}{c:SV}(V:ρ x=.agg cs){fs:Array Field}{fd:Field}
  (hT:P.underlying T=some (.struct fs))(W:fs[f]?=some fd)(hd:fd.offset=d)(I:fd.type=U)(ha:Cr P U=some false)(O:cs[d]?=some c):Br P o ρ bx c bx [] :=
 .E4 λ_ S w β a hi h=>by
  have E:=h x (mC J);rw[V]at E;generalize hv:a.eval x=v at E;cases E with
  |agg _ vs hl h1 Z =>
   subst hd I;have L:fd.offset<vs.length:=by have:=(Az.1 O).1;omega
   refine⟨vs[fd.offset],?_,Z _ c _ O (Bi L)⟩;simp[execOp,J,hv,Instr.field,underlying,hT,W,Go.part,B5n ha,asAgg,L]
def H1y(J:o.op=.nilCheck x){k off:Nat}(L:ρ x=.box k off):Br P o ρ bx (.box k off) bx [] :=
 .E4 λ_ _ w β a V U=>by have E:=(U x (mo J (by grind[Op.operands])));rw[L]at E;obtain⟨b,I,O⟩:=E.A8i;exact⟨a.eval x,by simp[execOp,J,O],E⟩
def C9r(E:o.op=.nilCheck x){cells:List D}{off:Nat}(J:B4v (ρ x) cells off):Br P o ρ bx (ρ x) bx [] :=
 .E4 λ_ _ w β a O I=>by obtain⟨b,base,L⟩:=((I x (mo E (by grind[Op.operands])))).D0a J;exact⟨a.eval x,by simp[execOp,E,L.v],(I x (mo E (by grind[Op.operands])))⟩
def run_len_slice{T:TypeId}{e:TypeId}(hT:Dt P T=some e)(a:Option Addr)(n c:Nat)(ty:TypeId)(w:World):(Builtin.len_ #[T] ty #[.slice a n c]).run P w=.ok (.int .i64 n) w:=by
 unfold Dt at hT;cases E:P.underlying T with
 |none=>grind
 |some d =>rw[E]at hT;cases d <;> simp only[reduceCtorEq,B5]at hT;simp[Builtin.len_,underlying,E,goInt]
def G7x{T e:Nat}(I:o.op=.call { callee:=.builtin .len,args:=#[x],argTypes:=#[T] }){rows:List (List D)}(J:ρ x=.d (.slice rows))(hT:Dt P T=some e) :
  Br P o ρ bx (.d (.int .i64 rows.length)) bx [] :=
 .E4 λ_ _ w β a U O=>by
  have E:=(O x (mC I));rw[J]at E;generalize L:a.eval x=v at E;refine⟨.int .i64 rows.length,?_,.int _ _⟩;cases E with
  |d _ _ E =>cases E <;> simp[execOp,I,resolve,invoke,builtin,L,run_len_slice hT]
def D2f{T e:Nat}(I:o.op=.call { callee:=.builtin .len,args:=#[x],argTypes:=#[T] })(hx:ρ x=.d .nil\/ρ x=.d .emp)(hT:Dt P T=some e) :
  Br P o ρ bx (.d (.int .i64 0)) bx [] :=
 .E4 λ_ _ w β a O L=>by
  have E:=(L x (mC I));generalize J:a.eval x=v at E;refine⟨.int .i64 0,?_,.int _ _⟩;rcases hx with hx|hx <;> rw[hx]at E <;> cases E with
  |d _ _ E=>cases E;simp[execOp,I,resolve,invoke,builtin,J,run_len_slice hT]
def F3s{T e:Nat}(I:o.op=.call { callee:=.builtin .len,args:=#[x],argTypes:=#[T] }){q sz:Nat}{rows:List (List D)}(J:ρ x=.acc q)(U:(q,Aq.rows sz rows)∈bx)(hT:Dt P T=some e) :
  Br P o ρ bx (.d (.int .i64 rows.length)) bx [] :=
 .E4 λ_ _ w β a L W=>by
  have E:=(W x (mC I));rw[J]at E;generalize V:a.eval x=v at E;obtain⟨Z,O,_⟩:=L.box q _ U;refine⟨.int .i64 rows.length,?_,.int _ _⟩;cases E with
  |acc q=>simp[execOp,I,resolve,invoke,builtin,V,run_len_slice hT,O]
def G5p{T:Nat}(I:o.op=.call { callee:=.builtin .len,args:=#[x],argTypes:=#[T] }){s:A2}(J:ρ x=.d (.str s))(hT:P.underlying T=some .string) :
  Br P o ρ bx (.d (.int .i64 s.length)) bx [] :=
 .E4 λ_ _ w β a U O=>by have E:=(O x (mC I));rw[J]at E;have L:=E.U1.1;refine⟨.int .i64 s.length,?_,.int _ _⟩;simp[execOp,I,resolve,invoke,builtin,L,Builtin.len_,underlying,hT,goInt,C7a]
def Ve(op:BinOp)(E:Bool):Option Bool :=
 match op with
 |.eql=>some E
 |.neq=>some (!E)
 |_=>none
def Pq:SV->Option Bool
 |.d .Kx=>some true
 |.d (.ptr _)| .A9 _ _| .box _ _| .Eg _ _ _=>some false
 |_=>none
theorem Am.Pq{x:SV}{v:Value}(h:Am S w β x v){b:Bool}(E:Pq x=some b):∃p,v=.pointer p/\p.isNone=b:=by
 cases h with
 |d _ _ h=>cases h <;> simp[Abs.Pq]at E <;> subst E <;> simp
 |box _ _ _ _=>grind[Abs.Pq]
 |A9 _ _ _ _ _ _ _=>grind[Abs.Pq]
 |Eg _ _ _ _ _=>grind[Abs.Pq]
 |_=>simp[Abs.Pq]at E
variable {op:BinOp}
def D8f{t u:TypeId}{x y:Operand}(J:o.op=.binOp op t x y u){b r:Bool}(ht:(P.underlying t).any (λd=>match d with| .pointer _=>true|_=>false)=true)
  (V:Pq (ρ x)=some b)(hy:ρ y=.d .Kx)(L:Ve op b=some r):Br P o ρ bx (.d (.bool r)) bx [] :=
 .E4 λ_ _ w _ a _ U=>by
  obtain⟨p,W,Z⟩:=((U x (mC J))).Pq V;have E:=(U y (mC J));rw[hy]at E;have E:a.eval y=.pointer none:=by generalize a.eval y=z at E;cases E with|d _ _ h=>cases h;rfl
  refine⟨.bool r,?_,.bool r⟩;cases O:P.underlying t with
  |none=>grind
  |some d =>
   cases d <;> simp[O]at ht;rename_i e;have I:(Op.equal t (.pointer p) (.pointer none)).run P w=.ok b w:=by unfold Op.equal Op.maxDepth Op.equalIn;cases p <;> simp[underlying,O]at* <;> omega <;> rfl
   simp only[execOp,J,Hm,Sem.run_map,W,E,G2z,H0];cases op <;> first
    |(simp only[Ve,reduceCtorEq]at L;done)
    |(simp only[Ve,B5]at L;subst L;simp[binOp,I])
def D2t:SV->Option Bool
 |.d .Hc=>some true
 |.d (.iface _ _)=>some false
 |_=>none
def A7c:Operand->Bool
 |.const .nilIface=>true
 |_=>false
def B6u{t u:TypeId}{x y:Operand}(V:o.op=.binOp op t x y u){b r:Bool}(ht:(P.underlying t).any (λd=>match d with| .interface _=>true|_=>false)=true)
  (E:D2t (ρ x)=some b)(hy:ρ y=.d .Hc)(W:A7c y=true)(J:Ve op b=some r):Br P o ρ bx (.d (.bool r)) bx [] :=
 .E4 λ_ _ w _ a _ ha=>by
  have U:=ha x (mC V);have Z:y=.const .nilIface:=by
   unfold A7c at W;split at W
   .rfl
   .simp at W
  subst Z;have h2:a.eval (.const .nilIface)=.nilIface:=rfl;refine⟨.bool r,?_,.bool r⟩;cases O:P.underlying t with
  |none=>simp[O]at ht
  |some d =>
   cases d <;> simp[O]at ht;rename_i e;generalize ρ x=rx at E U;generalize L:a.eval x=vx at U;have key:(vx=.nilIface/\b=true)\/∃T z,vx=.iface T z/\b=false:=by
    unfold D2t at E;split at E
    .simp only[B5]at E;have:=U.Ij;cases this;exact .inl ⟨rfl,E.symm⟩
    .simp only[B5]at E;have:=U.Ij;cases this;exact .inr ⟨_,_,rfl,E.symm⟩
    .simp at E
   rcases key with⟨rfl,rfl⟩|⟨T,z,rfl,rfl⟩
   .have I:(Op.equal t .nilIface .nilIface).run P w=.ok true w:=by
     unfold Op.equal Op.maxDepth Op.equalIn;simp[underlying,O]
    cases op <;> first
     |(simp only[Ve,reduceCtorEq]at J;done)
     |(simp only[Ve,B5]at J;subst J;simp[execOp,V,L,h2,eqGuard,binOp,I])
   .have I:(Op.equal t (.iface T z) .nilIface).run P w=.ok false w:=by
     unfold Op.equal Op.maxDepth Op.equalIn;simp[underlying,O]
    cases op <;> first
     |(simp only[Ve,reduceCtorEq]at J;done)
     |(simp only[Ve,B5]at J;subst J;simp[execOp,V,L,h2,eqGuard,binOp,I])
def Ph:SV->Option Bool
 |.d .nil=>some true
 |.d .emp=>some false
 |.d (.slice (_::_))=>some false
 |_=>none
theorem Am.Ph{x:SV}{v:Value}(h:Am S w β x v){b:Bool}(E:Ph x=some b):∃p l c,v=.slice p l c/\p.isNone=b:=by
 cases h with
 |d _ _ h =>
  cases h with
  |nil=>grind[Abs.Ph]
  |emp=>grind[Abs.Ph]
  |Mk=>simp[Abs.Ph]at E
  |slice rows=>cases rows <;> simp[Abs.Ph]at E;grind
  |_=>simp[Abs.Ph]at E
 |_=>simp[Abs.Ph]at E
def D5w{t u:TypeId}{x y:Operand}(J:o.op=.binOp op t x y u){e:Nat}{b r:Bool}(ht:Dt P t=some e)
  (V:Ph (ρ x)=some b)(hy:ρ y=.d .nil)(L:Ve op b=some r):Br P o ρ bx (.d (.bool r)) bx [] :=
 .E4 λ_ _ w _ a _ U=>by
  obtain⟨p,l,c,W,Z⟩:=((U x (mo J (by grind[Op.operands])))).Ph V;have E:=(U y (mo J (by grind[Op.operands])));rw[hy]at E;have E:a.eval y=.slice none 0 0:=by generalize a.eval y=z at E;cases E with|d _ _ h=>cases h;rfl
  refine⟨.bool r,?_,.bool r⟩;unfold Dt at ht;cases O:P.underlying t with
  |none=>grind
  |some d =>
   rw[O]at ht;cases d <;> simp only[reduceCtorEq,B5]at ht;rename_i e;have I:(Op.equal t (.slice p l c) (.slice none 0 0)).run P w=.ok b w:=by unfold Op.equal Op.maxDepth Op.equalIn;cases p <;> simp[underlying,O]at* <;> omega <;> rfl
   simp only[execOp,J,Hm,Sem.run_map,W,E,H2z,H0];cases op <;> first
    |(simp only[Ve,reduceCtorEq]at L;done)
    |(simp only[Ve,B5]at L;subst L;simp[binOp,I])
end Go.Abs
namespace Go.Abs
open Go
variable {P:Program} {o:Oper} {ρ:Hz} {bx:Ab}
def Cd(k:Nat):Ab->Ab
 |[]=>[]
 |(j,c)::r=>if j=k then Cd k r else(j,c)::Cd k r
variable {c:Aq}
theorem Ee{k j:Nat} :∀{bx:Ab},(j,c)∈Cd k bx↔j≠k/\(j,c)∈bx
 |[]=>by simp[Cd]
 |(i,x)::r=>by
  simp only[Cd];split
  .rename_i h;subst h;rw[Ee];grind
  .rename_i h;simp only[B1,Fp,Ee]
   grind
def Ly(k:Nat)(x:SV):SV:=if x.has k then .undef else x
def W9(k:Nat):SL->SL
 |[]=>[]
 |(t,x)::r=>(t,Ly k x)::W9 k r
def A7h(k:Nat):∀(sl:SL)(t:Nat),Ae (W9 k sl) t=Ly k (Ae sl t)
 |[],t=>by rfl
 |(u,x)::r,t=>by
  simp only[W9,Ae];split
  .rfl
  .exact A7h k r t
def Aq.Sc(k:Nat):Aq->Aq
 |.cells cs=>.cells (cs.map (Ly k))
 |c=>c
def H8(k:Nat):Ab->Ab
 |[]=>[]
 |(j,c)::r=>(j,c.Sc k)::H8 k r
def A8q{k j:Nat} :∀{bx:Ab},(j,c)∈H8 k bx->∃x,(j,x)∈bx/\c=x.Sc k
 |[],h=>by simp[H8]at h
 |(i,x)::r,h=>by
  simp only[H8,B1,Fp]at h;rcases h with⟨L,E⟩|h
  .grind
  .obtain⟨y,J,I⟩:=A8q h;grind
def Ed(β:Names)(k:Nat)(i:BI):Names:=λj=>if j=k then i else β j
theorem Gw(β:Names)(k:Nat)(i:BI):Ed β k i k=i:=by simp[Ed]
variable {β:Names}
theorem Lu{k j:Nat}{i:BI}(h:j≠k):Ed β k i j =β j:=by simp[Ed,h]
variable {k:Nat}
def Am.Sc{S S':Nat->Prop}{w w':World}{i:BI}{x:SV}{v:Value}(h:Am S w β x v)(e:C4 S w S' w'):Am S' w' (Ed β k i) (Ly k x) v:=by
 unfold Ly;split
 .exact .undef v
 .rename_i I;refine h.ext e λj E=>Lu ?_
  grind
def De.Sc{S S':Nat->Prop}{w w':World}{i I:BI}(h:De S w β I c)(e:C4 S w S' w')
  (E:∀b,I.base=some b->w'.heap[b]?=w.heap[b]?):De S' w' (Ed β k i) I (c.Sc k):=by
 cases c with
 |cells cs =>obtain⟨b,ty,vs,J,U,V⟩:=h;refine⟨b,ty,vs,J,(E b J).trans U,V.map (by simp) ?_⟩;intro j x y v O L hr;simp only[Df,O,Ez,B5]at L;subst L;exact hr.Sc e
 |rows sz rs=>exact De.ext (c:=.rows sz rs) h e E (by simp[Aq.has])
 |map kvs=>exact De.ext (c:=.map kvs) h e E (by simp[Aq.has])
 |iter kvs seen=>exact De.ext (c:=.iter kvs seen) h e E (by simp[Aq.has])
 |ghost Y st=>exact h
variable {C:Ctx} {S:Nat->Prop}
def Inv.B3d{w w':World}{k b:Nat}{x c:Aq}(h:Inv C S w β bx)(V:(k,x)∈bx)(hb:(β k).base=some b)
  (Z:∀I,I≠b->w'.heap[I]?=w.heap[I]?)(a0:w'.os=w.os)(U:w'.tape=w.tape)(W:w'.output=w.output)(Ms:w'.heap.size=w.heap.size)
  (hc:De S w' β (β k) c)(a2:c.real=true:=by rfl):Inv C S w' β ((k,c)::Cd k bx)/\C4 S w S w':=by
 have e:C4 S w S w':=⟨λ_ h=>h,λI E=>Z I λhe=>(h.Ba k x V b hb).1 (he ▸ E)⟩;refine⟨h.step e (λI E=>.inl E) (λI E=>by rw[Ms];exact h.Bw I E) (λI _ hn=>Z I λhe=>hn k x V (by grind)) a0 U W (by omega) ?_ ?_ (λ_ _=>rfl) ?_,e⟩
 .intro j d hj;simp only[B1,Fp]at hj;rcases hj with⟨rfl,rfl⟩|hj
  .refine⟨hc,λI E=>?_⟩;obtain⟨h1,h2,_⟩:=h.Ba _ x V I E
   grind
  .obtain⟨J,hj⟩:=Ee.1 hj;refine⟨(h.box j d hj).ext e (λI E=>Z I λhe=>J (h.inj j d k x hj V I E (by grind)).1) (λ_ _=>rfl),λI E=>?_⟩;obtain⟨h1,h2,_⟩:=h.Ba j d hj I E
   grind
 .intro j d j' d' hj hj' I L O;simp only[B1,Fp]at hj hj';rcases hj with⟨rfl,rfl⟩|hj
  .rcases hj' with⟨rfl,rfl⟩|hj'
   .simp
   .obtain⟨J,hj'⟩:=Ee.1 hj';exact absurd (h.inj j' d' _ x hj' V I O L).1 J
  .obtain⟨J,g⟩:=Ee.1 hj;clear hj;rcases hj' with⟨rfl,rfl⟩|hj'
   .exact absurd (h.inj j d _ x g V I L O).1 J
   .obtain⟨a1,g'⟩:=Ee.1 hj';exact h.inj j d j' d' g g' I L O
 grind[Aq.real,Ee]
def Inv.C9x{S S':Nat->Prop}{w w':World}(i:BI)(h:Inv C S w β bx)(a':k<=999999)
  (Z:∀b,S b->S' b)(a2:∀b,S' b->S b\/w.heap.size<=b)(a3:∀b,S' b->b<w'.heap.size)
  (hi:∀b,i.base=some b->¬S' b/\b<w'.heap.size/\(w.heap.size<=b\/∃x,(k,x)∈bx/\(β k).base=some b))
  (hw:∀E,E<w.heap.size->(∀x,(k,x)∈bx->(β k).base≠some E)->w'.heap[E]?=w.heap[E]?)
  (a6:w'.os=w.os)(W:w'.tape=w.tape)(a1:w'.output=w.output)(Ms:w.heap.size<=w'.heap.size)
  (hc:C4 S w S' w'->De S' w' (Ed β k i) i c)(a8:c.real=true:=by rfl):Inv C S' w' (Ed β k i) ((k,c)::H8 k (Cd k bx))/\C4 S w S' w':=by
 have e:C4 S w S' w':=⟨Z,λE I=>hw E (h.Bw E I) λx U he=>(h.Ba k x U E he).1 I⟩;refine⟨h.step e a2 a3 (λE hb hn=>hw E hb λx U=>hn k x U) a6 W a1 Ms ?_ ?_ (λj hj=>Lu (by omega)) ?_,e⟩
 .intro j d hj;simp only[B1,Fp]at hj;rcases hj with⟨rfl,rfl⟩|hj
  .rw[Gw];refine⟨hc e,λE I=>?_⟩;obtain⟨h1,h2,h3⟩:=hi E I;refine⟨h1,h2,?_⟩;rcases h3 with h3|⟨x,U,a7⟩
   .exact .inl h3
   .exact .inr ⟨_,x,U,a7⟩
  .obtain⟨x,V,rfl⟩:=A8q hj;obtain⟨J,g⟩:=Ee.1 V;rw[Lu J];refine⟨(h.box j x g).Sc e (λE I=>hw E (h.Ba j x g E I).2.1 λy hy he=>J (h.inj j x k y g hy E I he).1),λE I=>?_⟩;obtain⟨h1,h2,_⟩:=h.Ba j x g E I;exact⟨λhs=>(a2 E hs).elim h1 (by omega),by omega,.inr ⟨_,x,g,I⟩⟩
 .have fresh:∀j x E,j≠k->(j,x)∈bx->(β j).base=some E->i.base≠some E:=by
   intro j x E J hj I a9;rcases(hi E a9).2.2 with h3|⟨y,hy,a4⟩
   .have:=(h.Ba j x hj E I).2.1;omega
   .exact J (h.inj j x k y hj hy E I a4).1
  intro j d j' d' hj hj' E O L;simp only[B1,Fp]at hj hj';rcases hj with⟨rfl,rfl⟩|hj
  .rcases hj' with⟨rfl,rfl⟩|hj'
   .exact⟨rfl,rfl⟩
   .obtain⟨x,V,rfl⟩:=A8q hj';obtain⟨J,g⟩:=Ee.1 V;rw[Gw]at O;rw[Lu J]at L;exact absurd O (fresh j' x E J g L)
  .obtain⟨x,V,rfl⟩:=A8q hj;obtain⟨J,g⟩:=Ee.1 V;clear hj V;rw[Lu J]at O;rcases hj' with⟨rfl,rfl⟩|hj'
   .rw[Gw]at L;exact absurd L (fresh j x E J g O)
   .obtain⟨x',a5,rfl⟩:=A8q hj';obtain⟨a0,g'⟩:=Ee.1 a5;rw[Lu a0]at L;obtain⟨h1,h2⟩:=h.inj j x j' x' g g' E O L
    grind
 .intro j Y st hj;simp only[B1,Fp]at hj;rcases hj with⟨rfl,rfl⟩|hj
  .simp[Aq.real]at a8
  .obtain⟨x,V,U⟩:=A8q hj;cases x <;> simp only[Aq.Sc,reduceCtorEq]at U
   grind[Ee]
def Inv.Tb{w w':World}(i:BI)(h:Inv C S w β bx)(L:k<=999999)
  (V:∀b,i.base=some b->¬S b/\b<w'.heap.size/\(w.heap.size<=b\/∃x,(k,x)∈bx/\(β k).base=some b))
  (hw:∀J,J<w.heap.size->(∀x,(k,x)∈bx->(β k).base≠some J)->w'.heap[J]?=w.heap[J]?)
  (U:w'.os=w.os)(E:w'.tape=w.tape)(I:w'.output=w.output)(Ms:w.heap.size<=w'.heap.size)
  (W:C4 S w S w'->De S w' (Ed β k i) i c)(O:c.real=true:=by rfl):Inv C S w' (Ed β k i) ((k,c)::H8 k (Cd k bx))/\C4 S w S w' :=
 h.C9x i L (λ_ h=>h) (λ_ h=>.inl h) (λb Z=>W5 (h.Bw b Z) Ms) V hw U E I Ms W O
def R9:Value->SV
 |.int k n=>.d (.int k n)
 |.bool b=>.d (.bool b)
 |.string s=>if s.size<=lim then .d (.str s.data.toList)else .undef
 |.slice none 0 0=>.d .nil
 |.pointer none=>.d .Kx
 |.map none=>.d .Lg
 |.nilIface=>.d .Hc
 |.nilFunc=>.d .Fh
 |_=>.undef
def A5y:List SV->List SV->SV
 |[],l=>.agg l
 |c::r,l=>match c.one with
  |true=>A5y r l
  |false=>.undef
def Kc:Value->SV
 |.int k n=>.d (.int k n)
 |.bool b=>.d (.bool b)
 |.string s=>if s.size<=lim then .d (.str s.data.toList)else .undef
 |.slice none 0 0=>.d .nil
 |.pointer none=>.d .Kx
 |.map none=>.d .Lg
 |.nilIface=>.d .Hc
 |.nilFunc=>.d .Fh
 |.tuple ⟨[]⟩=>.tuple []
 |.agg cells=>A5y (cells.toList.map R9) (cells.toList.map R9)
 |_=>.undef
theorem G6k(S:Nat->Prop)(w:World)(β:Names)(v:Value):Am S w β (R9 v) v:=by
 unfold R9;split
 .exact .int _ _
 .exact .bool _
 .rename_i s;split
  .exact .d _ _ (.str s.data.toList (by assumption))
  .exact .undef _
 .exact .d _ _ .nil
 .exact .d _ _ .Kx
 .exact .d _ _ .Lg
 .exact .d _ _ .Hc
 .exact .d _ _ .Fh
 .exact .undef _
def D5e:∀cs l:List SV,A5y cs l=.undef\/(A5y cs l=.agg l/\∀c,c∈cs->c.one=true)
 |[],l=>.inr ⟨rfl,by simp⟩
 |c::r,l=>by
  rw[A5y];cases I:c.one with
  |false=>simp
  |true =>
   rcases D5e r l with h|⟨h,E⟩
   .grind
   grind
theorem A5a(S:Nat->Prop)(w:World)(β:Names)(v:Value):Am S w β (Kc v) v:=by
 unfold Kc;split
 .exact .int _ _
 .exact .bool _
 .rename_i s;split
  .exact .d _ _ (.str s.data.toList (by assumption))
  .exact .undef _
 .exact .d _ _ .nil
 .exact .d _ _ .Kx
 .exact .d _ _ .Lg
 .exact .d _ _ .Hc
 .exact .d _ _ .Fh
 .exact .tuple [] [] rfl (by simp)
 .rename_i cells;rcases D5e (cells.toList.map R9) (cells.toList.map R9)with h|⟨h,E⟩
  .rw[h];exact .undef _
  .rw[h];obtain⟨vs⟩:=cells;refine .agg _ vs (by simp) E λj c v I J=>?_
   grind[G6k]
 .exact .undef _
def Cb(P:Program)(T:TypeId):Option (List SV):=((P.info? T).bind (·.zero)).map λz=>z.cells.toList.map Kc
def B1o{T:TypeId}{E:List SV}(h:Cb P T=some E)(w:World):∃z,(zeroValue T).run P w=.ok z w/\E=z.cells.toList.map Kc:=by
 unfold Cb at h;cases J:P.info? T with
 |none=>grind
 |some i =>
  cases I:i.zero with
  |none=>grind
  |some z =>simp[J,I]at h;exact⟨z,by simp[zeroValue,typeInfo,J,I],h.symm⟩
def C7f(S:Nat->Prop)(w:World)(β:Names)(vs:List Value):Bv S w β (vs.map Kc) vs:=by
 refine⟨by simp,?_⟩
 grind[A5a]
def D7h(w:World)(x:Obj){b:Nat}(h:b<w.heap.size):(w.heap.push x)[b]?=w.heap[b]?:=by grind
def C3x(w:World)(x:Obj):(w.heap.push x)[w.heap.size]?=some x:=by simp
variable {w:World} {cs:List SV} {vs:List Value}
def Inv.E7n(h:Inv C S w β bx)(E:k<=999999)(T:TypeId)(hr:Bv S w β cs vs) :
  Inv C S { w with heap:=w.heap.push (.cells ⟨vs⟩ T) } (Ed β k { base:=some w.heap.size }) ((k,.cells (cs.map (Ly k)))::H8 k (Cd k bx))/\C4 S w S { w with heap:=w.heap.push (.cells ⟨vs⟩ T) }:=by
 refine h.Tb { base:=some w.heap.size } E ?_ ?_ rfl rfl rfl (by simp) ?_
 .intro b J;simp only[B5]at J;subst J;exact⟨λhs=>by have:=h.Bw _ hs;omega,by simp,.inl (Bs _)⟩
 .grind
 .intro e;refine⟨w.heap.size,T,vs,rfl,C3x w _,hr.map (by simp) ?_⟩;intro j x y v O L I;simp only[Df,O,Ez,B5]at L;subst L;exact I.Sc e
theorem D0t{T k:Nat}(I:k<=999999)(L:o.op=.alloc T){J:List SV}(W:Cb P T=some J) :
  Br P o ρ bx (.box k 0) ((k,.cells (J.map (Ly k)))::H8 k (Cd k bx)) [k]:=by
 intro C S w β a U ha;obtain⟨z,E,rfl⟩:=B1o W w;obtain⟨O,V⟩:=U.E7n (k:=k) I T (C7f S w β z.cells.toList);refine I7 ?_;unfold Oper.wp;have:(execOp a.eval o).run P w=.ok (.value (.pointer (some ⟨w.heap.size,0,none⟩))) { w with heap:=w.heap.push (.cells ⟨z.cells.toList⟩ T) }:=by simp[execOp,L,Instr.alloc,E,newVar,newRow]
 rw[this];exact⟨_,S,_,rfl,O,V,.box k 0 _ (by rw[Gw]),λj Z=>Lu (by grind)⟩
def content:SV->Option (List SV)
 |.agg cs=>some cs
 |x=>if x.one then some [x]else none
theorem Am.content{x:SV}{v:Value}(h:Am S w β x v)(E:content x=some cs):Bv S w β cs v.cells.toList/\cs.all SV.one=true:=by
 cases h with
 |agg cells vs I J O =>simp only[Abs.content,B5]at E;subst E;exact⟨⟨I,O⟩,Dm.2 J⟩
 |undef v=>grind[Abs.content,SV.one]
 |tuple cells vs=>grind[Abs.content,SV.one]
 |d x v h =>
  simp only[Abs.content]at E;by_cases V:(SV.d x).one=true
  .rw[A8 V]at E;simp only[B5]at E;subst E;have I:=h.one V;have:v.cells.toList=[v]:=by cases v <;> simp[Value.oneCell']at I <;> rfl
   rw[this];exact⟨.cons (.d _ _ h) .nil,by grind⟩
  .rw[A6 V]at E;simp at E
 |box k off b L=>simp only[Abs.content,SV.one,Af,B5]at E;subst E;exact⟨.cons (.box k off b L) .nil,rfl⟩
 |A9 cells off b base I J O U=>simp only[Abs.content,SV.one,Af,B5]at E;subst E;exact⟨.cons (.A9 cells off b base I J O U) .nil,rfl⟩
 |acc k=>simp only[Abs.content,SV.one,Af,B5]at E;subst E;exact⟨.cons (.acc k) .nil,rfl⟩
 |Eg k i off b L=>simp only[Abs.content,SV.one,Af,B5]at E;subst E;exact⟨.cons (.Eg k i off b L) .nil,rfl⟩
 |mp k b L=>simp only[Abs.content,SV.one,Af,B5]at E;subst E;exact⟨.cons (.mp k b L) .nil,rfl⟩
 |Eo l=>simp only[Abs.content,SV.one,Af,B5]at E;subst E;exact⟨.cons (.Eo l) .nil,rfl⟩
 |F5 cells off b I J O U=>simp only[Abs.content,SV.one,Af,B5]at E;subst E;exact⟨.cons (.F5 cells off b I J O U) .nil,rfl⟩
 |Bf f caps vs I J=>simp only[Abs.content,SV.one,Af,B5]at E;subst E;exact⟨.cons (.Bf f caps vs I J) .nil,rfl⟩
theorem G7e{T k:Nat}{x:Operand}(E:k<=999999)(I:o.op=.box T x){cs:List SV}(J:content (ρ x)=some cs) :
  Br P o ρ bx (.box k 0) ((k,.cells (cs.map (Ly k)))::H8 k (Cd k bx)) [k]:=by
 intro C S w β a O V;have hr:=(((V x (mo I (by grind[Op.operands])))).content J).1;obtain⟨L,U⟩:=O.E7n (k:=k) E T hr;refine I7 ?_;unfold Oper.wp;have:(execOp a.eval o).run P w=.ok (.value (.pointer (some ⟨w.heap.size,0,none⟩))) { w with heap:=w.heap.push (.cells ⟨(a.eval x).cells.toList⟩ T) }:=by simp[execOp,I,Instr.box,newVar,newRow]
 rw[this];exact⟨_,S,_,rfl,L,U,.box k 0 _ (by rw[Gw]),λj W=>Lu (by grind)⟩
def Gy{α:Type}:List α->Nat->List α->List α
 |cs,_,[]=>cs
 |cs,off,u::us=>Gy (cs.set off u) (off+1) us
theorem A5b{α:Type} :∀(us:List α)(cs:List α)(off:Nat),(Gy cs off us).length=cs.length
 |[],_,_=>rfl
 |u::us,cs,off=>by simp[Gy,A5b us]
def A0t{α:Type} :∀(us:List α)(cs:List α)(off j:Nat),off+us.length<=cs.length->(Gy cs off us)[j]?=if off<=j/\j<off+us.length then us[j - off]? else cs[j]?
 |[],cs,off,j,_=>by
  simp only[Gy,Ca,Ma]
  grind
 |u::us,cs,off,j,h=>by
  simp only[Bg]at h;simp only[Gy,Bg];rw[A0t us (cs.set off u) (off+1) j (by grind)]
  grind
theorem Bv.Gy{cs us:List SV}{vs J:List Value}(h:Bv S w β cs vs)(t:Bv S w β us J){off:Nat}(L:off+us.length<=cs.length) :
  Bv S w β (Gy cs off us) (Gy vs off J):=by
 refine⟨by rw[A5b,A5b,h.1],?_⟩;intro j c v I E;rw[A0t _ _ _ _ L]at I;rw[A0t _ _ _ _ (by rw[t.1,h.1];exact L)]at E;rw[t.1]at E;split at I
 .rw[A8 (by omega)]at E;exact t.2 _ c v I E
 .rw[A6 (by omega)]at E;exact h.2 _ c v I E
def F3q{b p:Nat}{ty:TypeId}{E:Nat × Nat}{v:Value}(h:w.heap[b]?=some (.cells ⟨vs⟩ ty E)) :
  (w.setCell ⟨b,p,none⟩ v).heap[b]?=some (.cells ⟨vs.set p v⟩ ty E):=by
 simp only[World.setCell,An0,Af,h,Ez,Sk,I0,Fx];simp
def B2j:∀(us vs:List Value)(b off i:Nat)(ty:TypeId)(w:World),w.heap[b]?=some (.cells ⟨vs⟩ ty (0,0))->off+i+us.length<=vs.length->us.all (·.oneCell')=true ->
  ∃w',(storeCells ⟨b,off,none⟩ us i).run P w=.ok () w'/\w'.heap[b]?=some (.cells ⟨Gy vs (off+i) us⟩ ty (0,0))/\(∀O,O≠b->w'.heap[O]?=w.heap[O]?) /\
   w'.os=w.os/\w'.tape=w.tape/\w'.output=w.output/\w'.heap.size=w.heap.size
 |[],vs,b,off,i,ty,w,I,_,_=>⟨w,by rfl,I,λ_ _=>rfl,rfl,rfl,rfl,rfl⟩
 |u::us,vs,b,off,i,ty,w,I,V,L=>by
  simp only[Bg]at V;simp only[Qv,Bb]at L;have E:w.cell? ⟨b,off+i,none⟩=some (vs[off+i]'(by omega)):=by rw[cells_of_row I];simp
  have J:w.frozen? ⟨b,off+i,none⟩=false:=by simp[World.frozen?,I]
  have W:(store ((⟨b,off,none⟩:Addr).add i) u).run P w=Result.ok () (w.setCell ⟨b,off+i,none⟩ u):=by rw[Wt,run_store P w _ u _ L.1,E,J];simp
  obtain⟨w',hr,g1,g2,U,g4,Z,g6⟩:=B2j us (vs.set (off+i) u) b off (i+1) ty (w.setCell ⟨b,off+i,none⟩ u) (F3q I) (by grind) L.2;refine⟨w',?_,?_,?_,by simpa [World.setCell]using U,by simp_all,by simpa [World.setCell]using Z,by simp_all⟩
  .simp only[storeCells,Hm];simp_all
  .grind[Gy]
  grind[heap_setCell_other]
theorem Bv.one(h:Bv S w β cs vs)(L:cs.all SV.one=true):vs.all (·.oneCell')=true:=by
 rw[Dm];intro v J;obtain⟨j,I⟩:=Sy.1 J;have E:j<cs.length:=by have:=(Az.1 I).1;have:=h.1;omega
 exact(h.2 j _ v (Bi E) I).one (Dm.1 L _ (Fq E))
def E2x{T k off:Nat}{x y:Operand}(Z:o.op=.store T x y){cs us:List SV}(hx:ρ x=.box k off)(hb:(k,Aq.cells cs)∈bx)(hy:content (ρ y)=some us)
  (hs:Be P T=some us.length)(hl:off+us.length<=cs.length):Br P o ρ bx (.tuple []) ((k,.cells (Gy cs off us))::Cd k bx) []:=by
 intro C S w β a W ha;have L:=(ha x (mo Z (by grind[Op.operands])));rw[hx]at L;obtain⟨b,E,hv⟩:=L.A8i;obtain⟨b',ty,vs,J,hh,hr⟩:=W.box k _ hb;rw[E]at J;cases J;obtain⟨I,V⟩:=((ha y (mo Z (by grind[Op.operands])))).content hy;have U:=I.1;have a1:=hr.1;obtain⟨w',O,g1,g2,g3,g4,g5,g6⟩:=B2j (P:=P) (a.eval y).cells.toList vs b off 0 ty w hh (by omega) (I.one V);have e0:C4 S w S w':=⟨λ_ h=>h,λb' J=>g2 b' λhe=>(W.Ba k _ hb b E).1 (he ▸ J)⟩;obtain⟨h1,h2⟩:=W.B3d (c:=.cells (Gy cs off us)) hb E g2 g3 g4 g5 g6 (by refine⟨b,ty,_,E,by simpa using g1,?_⟩;exact⟨(hr.Gy I hl).1,λj c v hc hv=>((hr.Gy I hl).2 j c v hc hv).ext e0 λ_ _=>rfl⟩)
 refine I7 ?_;unfold Oper.wp;have:(execOp a.eval o).run P w=.ok .skip w':=by
  have a0:(a.eval y).cells.size=us.length:=by rw[<-U];simp
  simp[execOp,Z,Instr.storeAt,hv,Instr.sureAddr,storeVar,Pb hs,a0,O]
 rw[this];exact⟨undef,S,β,rfl,h1,h2,.tuple [] [] rfl (by simp),λ_ _=>rfl⟩
theorem G4y{T k i off sz:Nat}{x y:Operand}(ho:o.op=.store T x y){rows:List (List D)}{row us:List D}(hx:ρ x=.Eg k i off)(hb:(k,Aq.rows sz rows)∈bx)
  (hr:rows[i]?=some row)(hy:content (ρ y)=some (us.map SV.d))(hs:Be P T=some us.length)(hl:off+us.length<=row.length) :
  Br P o ρ bx (.tuple []) ((k,.rows sz (rows.set i (Gy row off us)))::Cd k bx) []:=by
 intro C S w β a hi ha;have Z:=(ha x (mo ho (by grind[Op.operands])));rw[hx]at Z;obtain⟨q1,q2,q3,q4,q5,q6,q7⟩:=hi.box k _ hb;obtain⟨W,U⟩:=((ha y (mo ho (by grind[Op.operands])))).content hy;have O:=W.1;simp only[Bc]at O;have a4:=(Az.1 hr).1;have a6:=q5 row (C6 hr);generalize hv:a.eval x=v at Z;cases Z with
 |Eg _ _ _ b E =>
  rw[E]at q7;obtain⟨ty,vs,hh,a7,L⟩:=q7;rw[q1]at hv;have a8:((β k).off+i)*sz+off+us.length<=vs.length:=by have h1:((β k).off+i+1)*sz<=((β k).off+(β k).cap)*sz:=Hp _ (by omega);rw[Hw _ 1]at h1;omega
  obtain⟨w',a1,g1,g2,g3,g4,g5,g6⟩:=B2j (P:=P) (a.eval y).cells.toList vs b (((β k).off+i)*sz+off) 0 ty w hh (by omega) (W.one U);have e0:C4 S w S w':=⟨λ_ h=>h,λb' a3=>g2 b' λhe=>(hi.Ba k _ hb b E).1 (he ▸ a3)⟩;obtain⟨h1,h2⟩:=hi.B3d (c:=.rows sz (rows.set i (Gy row off us))) hb E g2 g3 g4 g5 g6 (by
   refine⟨q1,by grind,q3,by grind,?_,?_,?_⟩
   .grind[A5b]
   .intro r I d hd;rcases At6 I with h|h
    .grind
    .subst h;obtain⟨j,V⟩:=Sy.1 hd;rw[A0t _ _ _ _ hl]at V;split at V
     .have:=Dm.1 U (.d d) (Au.2 ⟨d,C6 V,rfl⟩);simpa [SV.one]using this
     .exact q6 row (C6 hr) d (C6 V)
   .rw[E];refine⟨ty,_,by simpa using g1,by rw[A5b];omega,?_⟩;intro r j J d u I hd hu;rw[A0t _ _ _ _ (by omega)]at hu;by_cases a0:i=r
    .subst a0;simp only[Ao5,a4,Af,B5]at I;subst I;rw[A0t _ _ _ _ hl]at hd;by_cases V:off<=j/\j<off+us.length
     .rw[A8 V]at hd;rw[A8 (by omega)]at hu;have:=W.2 (j - off) (.d d) u (by grind) (by grind);exact this.Ij.ext e0
     .rw[A6 V]at hd;rw[A6 (by omega)]at hu;exact(L i j row d u hr hd hu).ext e0
    .rw[As9 a0]at I;have a5:j<sz:=by
      have:=(Az.1 hd).1;have:=q5 J (C6 I);omega
     rw[A6 (by
      intro a9;rcases Nat.lt_or_ge r i with a' |hge
      .have:((β k).off+r+1)*sz<=((β k).off+i)*sz:=Hp _ (by omega)
       grind
      .have:((β k).off+i+1)*sz<=((β k).off+r)*sz:=Hp _ (by omega)
       grind)]at hu
     exact(L r j J d u I hd hu).ext e0)
  refine I7 ?_;unfold Oper.wp;have:(execOp a.eval o).run P w=.ok .skip w':=by
   have a2:(a.eval y).cells.size=us.length:=by rw[<-O];simp
   simp[execOp,ho,Instr.storeAt,hv,Instr.sureAddr,storeVar,Pb hs,a2,a1]
  rw[this];exact⟨undef,S,β,rfl,h1,h2,.tuple [] [] rfl (by simp),λ_ _=>rfl⟩
end Go.Abs
namespace Go.Abs
open Go
variable {P:Program} {o:Oper} {ρ:Hz} {bx:Ab}
def B1j(P:Program):List Field->Option (List (Nat × Nat))
 |[]=>some []
 |f::fs=>match Be P f.type with
  |some n=>(B1j P fs).map ((f.offset,n)::·)
  |none=>none
def L1(P:Program)(T:TypeId):Option (List (Nat × Nat)) :=
 match P.underlying T with
 |some (.struct fs)=>B1j P fs.toList
 |_=>none
def run_places:∀(fs:List Field)(ps:List (Nat × Nat)),B1j P fs=some ps->∀w:World,(fs.mapM (λf=>do pure (f.offset,<-sizeOf f.type):Field->Sem (Nat × Nat))).run P w=.ok ps w
 |[],ps,h,w=>by simp only[B1j,B5]at h;simp_all
 |f::fs,ps,h,w=>by
  simp only[B1j]at h;cases E:Be P f.type with
  |none=>grind
  |some n =>simp only[E,Jv]at h;obtain⟨J,I,rfl⟩:=h;have:=run_places fs J I w;simp only[List.mapM_cons,Hm,Pb E,H0,K8,this]
def A0g(ps:List (Nat × Nat))(cells:List SV):List (Nat × List SV)->Option (List SV)
 |[]=>some cells
 |(i,us)::r=>match ps[i]? with
  |none=>none
  |some (off,size)=>if us.length=size/\off+size<=cells.length then A0g ps (Gy cells off us) r else none
def C3h:∀(us vs:List Value)(off:Nat)(n:Nat),((us.zipIdx n).foldl (λ(cs:Array Value)(x:Value × Nat)=>cs.setIfInBounds (off+x.2) x.1) ⟨vs⟩)=⟨Gy vs (off+n) us⟩
 |[],vs,off,n=>by rfl
 |u::us,vs,off,n=>by
  simp only[Au5,Lo,Gy];have:=C3h us (vs.set (off+n) u) off (n+1)
  grind
def C8s{S:Nat->Prop}{w:World}{β:Names}(I:Nat->Option (Nat × Nat))(ps:List (Nat × Nat)) :
  ∀(parts:List (Nat × List SV)) (E:List (Nat × Value)) (cells out:List SV) (vs:List Value),Bv S w β cells vs->(∀(i:Nat) (q:Nat × Nat),ps[i]?=some q->I i=some q) ->
   parts.length=E.length->(∀(j:Nat) (p:Nat × List SV) (q:Nat × Value),parts[j]?=some p->E[j]?=some q->q.1=p.1/\Bv S w β p.2 q.2.cells.toList) ->
   A0g ps cells parts=some out->∃V:List Value,Instr.fill I ⟨vs⟩ E=some ⟨V⟩/\Bv S w β out V
 |[],E,cells,out,vs,h,L,W,hr,J=>by
  simp only[A0g,B5]at J;subst J;have:E=[]:=by cases E <;> simp at W;rfl
  subst this;exact⟨vs,rfl,h⟩
 |(i,us)::parts,E,cells,out,vs,h,L,W,hr,J=>by
  cases E with
  |nil=>grind
  |cons q E =>
   simp only[Bg,Nat.add_right_cancel_iff]at W;obtain⟨Z,U⟩:=hr 0 (i,us) q rfl rfl;simp only[A0g]at J;cases O:ps[i]? with
   |none=>grind
   |some pr =>
    obtain⟨off,size⟩:=pr;simp only[O]at J;split at J
    .rename_i hc;have a0:q.2.cells.size=us.length:=by have:=U.1;simpa using this
     have a1:=h.1;simp only at Z U;obtain⟨V,g1,g2⟩:=C8s I ps parts E _ out _ (h.Gy U (off:=off) (by omega)) L W (λj p q L O=>hr (j+1) p q L O) J;refine⟨V,?_,g2⟩;obtain⟨qi,qv⟩:=q;simp only at Z U a0;subst Z;simp only[Instr.fill,L _ _ O];rw[A6 (by simp only[ne_eq,Vp,Dp,Vc];simp;omega)];have:=C3h qv.cells.toList vs off 0;simp only[Ma]at this;have e:qv.cells.toList.zipIdx=qv.cells.zipIdx.toList:=by simp
     rw[e,Array.foldl_toList]at this;rw[<-g1,<-this]
    grind
def Yd(ρ:Hz):List (Nat × Operand)->Option (List (Nat × List SV))
 |[]=>some []
 |(i,x)::r=>match content (ρ x),Yd ρ r with
  |some c,some l=>some ((i,c)::l)
  |_,_=>none
def C4w{S:Nat->Prop}{w:World}{β:Names}{a:Act}:∀(parts:List (Nat × Operand))(l:List (Nat × List SV)),(∀p,p∈parts->Am S w β (ρ p.2) (a.eval p.2))->Yd ρ parts=some l ->
  l.length=(parts.map λp=>(p.1,a.eval p.2)).length/\(∀(j:Nat) (p:Nat × List SV) (q:Nat × Value),l[j]?=some p->(parts.map λp=>(p.1,a.eval p.2))[j]?=some q->q.1=p.1/\Bv S w β p.2 q.2.cells.toList) /\
  ∀p,p∈l->p.2.all SV.one=true
 |[],l,_,h=>by grind[Yd]
 |(i,x)::r,l,J,h=>by
  simp only[Yd]at h;cases E:content (ρ x)with
  |none=>grind
  |some c =>
   cases I:Yd ρ r with
   |none=>grind
   |some m =>
    simp only[E,I,B5]at h;subst h;obtain⟨L,W,Z⟩:=C4w r m (λp O=>J p (by grind)) I;obtain⟨V,U⟩:=(J (i,x) (by simp)).content E
    grind
def G8j{T:TypeId}{parts:Array (Nat × Operand)}(U:o.op=.build T parts){V:List SV}{ps:List (Nat × Nat)}{l:List (Nat × List SV)}{out:List SV}
  (hz:Cb P T=some V)(E:L1 P T=some ps)(hl:Yd ρ parts.toList=some l)(hf:A0g ps V l=some out)(h1:out.all SV.one=true):Br P o ρ bx (.agg out) bx [] :=
 .E4 λ_ S w β a _ ha=>by
  obtain⟨z,I,rfl⟩:=B1o hz w;unfold L1 at E;cases W:P.underlying T with
  |none=>grind
  |some d =>
   rw[W]at E;cases d <;> simp only[reduceCtorEq]at E;rename_i fs;obtain⟨g1,g2,_⟩:=C4w parts.toList l (λp E=>ha p.2 (mo U (by simp only[Op.operands,List.mem_toArray,Au];exact⟨p,E,rfl⟩))) hl;obtain⟨O,q1,q2⟩:=C8s (λi=>(ps.toArray)[i]?) ps l (parts.toList.map λp=>(p.1,a.eval p.2)) _ out _ (C7f S w β z.cells.toList) (λi q hq=>by grind) g1 g2 hf;refine⟨.agg ⟨O⟩,?_,Am.A7x q2 h1⟩;have J:=run_places fs.toList ps E w;have Z:(fs.mapM (λf=>do pure (f.offset,<-sizeOf f.type):Field->Sem (Nat × Nat))).run P w=.ok ps.toArray w:=by rw[Array.mapM_eq_mapM_toList,Sem.run_map,J];simp
   simp only[execOp,U,Instr.build,Hm,I,H0,underlying,run_program,W,K8,Z];have L:z.cells=⟨z.cells.toList⟩:=rfl;have:Instr.fill (λx=>ps.toArray[x]?) z.cells (Array.map (λx=>(x.fst,a.eval x.snd)) parts).toList=some ⟨O⟩:=by rw[L,Aq7];exact q1
   simp only[this,K8,H0]
end Go.Abs
