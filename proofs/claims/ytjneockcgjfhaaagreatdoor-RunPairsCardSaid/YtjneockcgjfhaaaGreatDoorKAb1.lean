/- Data, abstract values, the operations that compute. Own framework. -/
import Derived.CallsIn
import Derived.Below
import Derived.Laws.Rows
import Derived.Laws.Cells
import Derived.Laws.World
import Derived.Laws.Append
import Derived.Orders
import Derived.Laws.Slices
import Derived.Laws.Strings
import Derived.Laws.Small
import Derived.Test.YtjneockcgjfhaaaGreatDoorKTab
set_option linter.all false
namespace Go.Abs
open Go
def Aw:=@List.getElem?_eq_some_iff
def As:=@List.length_append
def Ar:=@List.length_cons
def Br:=@List.getElem?_eq_getElem
def B0:=@Option.some.injEq
def Bm:=@List.mem_of_getElem?
def Az:=@List.length_nil
def A3:=@if_neg
def Bi:=@Bool.and_eq_true
def A6:=@if_pos
def Bc:=@List.length_map
def Au:=@List.mem_map
def B5:=@List.mem_cons
def B6:=@Int.lt_irrefl
def Ac:=@if_true
def C6:=@List.mem_append
def C8:=@Bool.false_and
def Cc:=@decide_eq_true
def Cx:=@List.take_length
def D0:=@List.length_take
def Db:=@List.getElem?_map
def Fj:=@Bool.eq_false_or_eq_true
def D3:=@List.drop_length
def Cu:=@decide_eq_false
def Bq:=@Nat.le_refl
def Gv:=@List.drop_eq_getElem_cons
def Dh:=@Option.getD_some
def Cp:=@List.map_cons
def Dr:=@List.all_eq_true
def Cr:=@Bool.true_and
def E4:=@decide_eq_true_eq
def La:=@List.take_succ_eq_append_getElem
def Hb:=@List.map_congr_left
def Ef:=@Option.map_some
def Fb:=@List.not_mem_nil
def Dd:=@Nat.le_trans
def Jf:=@List.drop_eq_nil_of_le
def Dw:=@List.map_map
def Gi:=@List.getElem_mem
def H8:=@List.append_assoc
def Ma:=@List.getElem?_append_right
def Iv:=@Nat.mul_le_mul_right
def Hm:=@Result.andThen_ok
def I5:=@Bool.false_eq_true
def Ew:=@Prod.mk.injEq
def Hx:=@Int.toNat_natCast
def N0:=@List.getElem?_append_left
def Gy:=@List.append_nil
def Pu:=@List.getElem?_of_mem
def Md:=@List.getElem?_cons_zero
def Hc:=@List.map_append
def G0:=@forall_const
def G2:=@implies_true
def Jj:=@Bool.not_eq_true'
def P1:=@Option.map_eq_some_iff
def Q3:=@List.getElem?_cons_succ
def Mt:=@List.mem_of_mem_take
def Nb:=@Option.isSome_none
def Mm:=@List.ext_getElem?
def Kr:=@List.mem_filter
def Wz:=@List.mem_iff_getElem?
def Pb:=@List.mem_filterMap
def Ii:=@Sem.run_bind
def Yj:=@List.eq_nil_of_length_eq_zero
def S5:=@List.getElem?_mapIdx
def Vt:=@List.fst_mem_of_mem_zipIdx
def Vq:=@Option.isSome_iff_exists
def It:=@List.map_nil
def Nj:=@List.cons_append
def Qp:=@List.mem_singleton
def Qc:=@Bool.not_eq_false'
def Io:=@Nat.add_mul
def Uv:=@MapKept.run_getObj_map
def Mr:=@List.foldl_cons
def Fg:=@or_false
def Fm:=@if_false
def X5:=@List.take_append_drop
def L8:=@Sem.run_pure
def Yr:=@Array.getElem?_eq_getElem
def Rv:=@Option.getD_none
def Ym:=@List.take_of_length_le
def Nf:=@List.sum_cons
def Gf:=@congrArg
def Ai3:=@List.findIdx?_eq_some_iff_getElem
def Ai4:=@List.length_filterMap_le
def Vw:=@List.getElem?_drop
def Ai6:=@Array.getElem?_eq_some_iff
def Ai7:=@decide_eq_false_iff_not
def Sf:=@Bool.and_false
def T8:=@run_underlying
def Aj0:=@List.mem_of_find?_eq_some
def Rx:=@List.all_cons
def X9:=@Nat.lt_of_lt_of_le
def Lk:=@Array.ext'
def Qw:=@Nat.sub_zero
def Qe:=@Nat.zero_add
def Aj6:=@List.mem_of_mem_drop
def Aj7:=@List.pairwise_cons
def Aj8:=@Array.getElem?_toList
def Aj9:=@List.flatMap_cons
def Ak0:=@UInt8.lt_iff_toNat_lt
def We:=@List.foldl_nil
def Y7:=@List.nil_append
def Ya:=@List.all_append
def Ak4:=@List.getElem?_take
def Ak5:=@Option.isSome_some
def Xu:=@Bool.or_eq_true
def Xc:=@List.find?_cons
def Ra:=@decide_true
def Ak9:=@Nat.mul_le_mul_left
def Am0:=@List.getElem?_range
def Am1:=@List.drop_succ_cons
def Am2:=@List.take_succ_cons
def Am3:=@List.getElem?_zip_eq_some
def Am4:=@List.mem_or_eq_of_mem_set
def W7:=@Bool.false_or
def Am6:=@Decidable.byContradiction
def Am7:=@Bool.eq_iff_iff
def Am8:=@Oper.upon_enter
def Am9:=@List.contains_iff_mem
def Zc:=@UInt8.lt_irrefl
def Vn:=@Bool.true_or
def Tf:=@Nat.zero_le
def An3:=@Bool.or_eq_false_iff
def Xo:=@Nat.add_assoc
def Zu:=@List.drop_zero
def An6:=@Option.some.inj
def An7:=@List.cons.injEq
def An8:=@Array.getD_eq_getD_getElem?
def An9:=@List.length_drop
def U7:=@decide_not
def Ao1:=@Array.size_range
def Xh:=@Nat.add_zero
def Ao3:=@Array.getElem?_modify
def Ao4:=@List.length_filter_le
def Ao5:=@List.pairwise_append
def Ao6:=@Option.map_none
def Ao7:=@List.nodup_cons
def Ao8:=@List.getElem?_take_of_lt
def Ao9:=@List.getElem?_set
def Zj:=@decide_false
def Ap1:=@Array.length_toList
def Qo:=@true_and
def Ap3:=@List.length_zipWith
def Ap4:=@List.flatMap_append
def Ap5:=@Option.bind_some
def Ap6:=@List.mem_flatMap
def Wy:=@beq_iff_eq
def Ap8:=@World.alloc_eq
def Jk:=@Or.inl
def Aq0:=@List.filter_append
def Aq1:=@Nat.sub_self
def Aq2:=@Nat.mul_comm
def Aq3:=@List.all_nil
def Aq4:=@List.length_zip
def Aq5:=@World.cells?_some
def T9:=@and_true
def Aq7:=@List.flatten_cons
def Aq8:=@Array.getElem?_append_left
def Aq9:=@List.mem_cons_of_mem
def Ar0:=@List.pairwise_iff_getElem
def Ar1:=@List.findIdx?_eq_none_iff
def Ar2:=@List.filter_cons
def Ar3:=@List.map_eq_nil_iff
def Ar4:=@Bool.or_false
def Ar5:=@Bool.and_true
def Ar6:=@List.find?_some
def Ar7:=@List.filter_nil
def Ar8:=@List.length_eq_zero_iff
def Ar9:=@not_true_eq_false
def As0:=@Nat.mod_lt
def As1:=@List.nodup_append
def As2:=@Nat.lt_trichotomy
def As3:=@List.mem_range
def As4:=@wpIn_mono
def As5:=@getElem!_pos
def As6:=@List.eq_nil_iff_forall_not_mem
def As7:=@List.getElem?_zipWith
def As8:=@List.find?_eq_some_iff_getElem
def As9:=@Array.toList_map
def At0:=@Bool.not_eq_true
def At1:=@List.isEmpty_iff
def At2:=@Callee.builtin.injEq
def At3:=@Nat.div_lt_of_lt_mul
def At4:=@List.getElem?_set_ne
def At5:=@List.mem_append_left
def At6:=@Bool.not_true
def At7:=@Nat.one_mul
def At8:=@beq_eq_false_iff_ne
def At9:=@List.sum_append
def Au0:=@List.of_mem_zip
def Au1:=@Nat.eq_zero_or_pos
def Au2:=@List.mem_cons_self
def Au3:=@Bool.not_false
def Au4:=@MapKept.bytes_beq
def Au5:=@List.take_add_one
def Au6:=@List.zipIdx_cons
def Yo:=@Ne.symm
def Au8:=@List.take_zero
def Ye:=@not_or
abbrev A2:=List UInt8
def mkStr(s:A2):ByteArray:=⟨⟨s⟩⟩
def B6o(s:A2):(mkStr s).size=s.length:=rfl
def lim:Nat:=140737488355328
inductive D where
 |int (k:IntKind) (n:Int)
 |bool (b:Bool)
 |str (s:A2)
 |nil
 |emp
 |slice (rows:List (List D))
 |agg (cells:List D)
 |ptr (cells:List D)
 |Lb
 |map (kvs:List (D × D))
 |Ly
 |iface (t:TypeId) (x:D)
 |Kc
 |fn (f:FuncId) (caps:List D)
 |Lc
 |cl (f:FuncId) (caps:List D)
instance:Inhabited D:=⟨.nil⟩
def D.one:D->Bool
 |.agg _=>false
 |_=>true
def A1o(es:Array MapEntry)(E:Nat):Prop:=(∀x,x∈es.toList->x.born<E)/\(es.toList.map (·.born)).Nodup
def MSz(es:Array MapEntry)(E n:Nat):Prop:=es.size=n/\A1o es E
def A1o.push{es:Array MapEntry}{E:Nat}(h:A1o es E)(k v:Value):A1o (es.push { key:=k,val:=v,born:=E }) (E+1):=by refine⟨?_,?_⟩;intro x I;simp only[Array.toList_push,C6,B5,Fb,Fg]at I;rcases I with I|rfl;have:=h.1 x I;omega;simp;simp only[Array.toList_push,Hc,Cp,It];rw[As1];refine⟨h.2,by simp,?_⟩;intro a L b J;obtain⟨x,I,rfl⟩:=Au.1 L;simp only[B5,Fb,Fg]at J;have:=h.1 x I;omega
def A1o.modify{es:Array MapEntry}{E:Nat}(h:A1o es E)(j:Nat)(f:MapEntry->MapEntry)(U:∀e,(f e).born=e.born):A1o (es.modify j f) E:=by
 have J:(es.modify j f).toList.map (·.born)=es.toList.map (·.born):=by apply Mm;intro i;simp only[Db,Aj8,Ao3];split;grind;rfl
 refine⟨?_,by rw[J];exact h.2⟩;intro x L;have:x.born∈es.toList.map (·.born):=by rw[<-J];exact List.mem_map_of_mem L
 obtain⟨y,O,I⟩:=Au.1 this;rw[<-I];exact h.1 y O
inductive C0(S:Nat->Prop)(w:World):D->Value->Prop where
 |int (k:IntKind) (n:Int):C0 S w (.int k n) (.int k n)
 |bool (b:Bool):C0 S w (.bool b) (.bool b)
 |str (s:A2):s.length<=lim->C0 S w (.str s) (.string (mkStr s))
 |nil:C0 S w .nil (.slice none 0 0)
 |emp (a:Addr) (cap:Nat):C0 S w .emp (.slice (some a) 0 cap)
 |Lw (a:Option Addr) (cap:Nat):(a=none->cap=0)->C0 S w (.slice []) (.slice a 0 cap)
 |slice (rows:List (List D)) (b off cap sz:Nat):S b->rows.length<=lim->rows.length<=cap -> (∀row,row∈rows->row.length=sz)->(∀row,row∈rows->∀d,d∈row->d.one=true) -> (∀i j,i<rows.length->j<sz->∃v,w.cell? ⟨b,off+(i*sz+j),none⟩=some v) -> (∀(i j:Nat) (row:List D) (d:D) (v:Value),rows[i]?=some row->row[j]?=some d->w.cell? ⟨b,off+(i*sz+j),none⟩=some v->C0 S w d v) ->C0 S w (.slice rows) (.slice (some ⟨b,off,none⟩) rows.length cap)
 |agg (cells:List D) (vs:List Value):vs.length=cells.length->(∀d,d∈cells->d.one=true) -> (∀(j:Nat) (d:D) (v:Value),cells[j]?=some d->vs[j]?=some v->C0 S w d v) ->C0 S w (.agg cells) (.agg ⟨vs⟩)
 |ptr (cells:List D) (b base:Nat):S b->(∀d,d∈cells->d.one=true)->(∀j,j<cells.length->∃v,w.cell? ⟨b,base+j,none⟩=some v) -> (∀(j:Nat) (d:D) (v:Value),cells[j]?=some d->w.cell? ⟨b,base+j,none⟩=some v->C0 S w d v) ->C0 S w (.ptr cells) (.pointer (some ⟨b,base,none⟩))
 |Lb:C0 S w .Lb (.pointer none)
 |map (kvs:List (D × D)) (r:Nat) (es:Array MapEntry) (clock:Nat):S r->w.heap[r]?=some (.map es clock)->MSz es clock kvs.length -> (∀(i:Nat) (kv:D × D) (e:MapEntry),kvs[i]?=some kv->es[i]?=some e->C0 S w kv.1 e.key) -> (∀(i:Nat) (kv:D × D) (e:MapEntry),kvs[i]?=some kv->es[i]?=some e->C0 S w kv.2 e.val) ->C0 S w (.map kvs) (.map (some r))
 |Ly:C0 S w .Ly (.map none)
 |iface (t:TypeId) (d:D) (v:Value):C0 S w d v->C0 S w (.iface t d) (.iface t v)
 |Kc:C0 S w .Kc .nilIface
 |fn (f:FuncId) (caps:List D) (vs:List Value):vs.length=caps.length->(∀(j:Nat) (d:D) (v:Value),caps[j]?=some d->vs[j]?=some v->C0 S w d v) ->C0 S w (.fn f caps) (.func (.func f) ⟨vs⟩ #[])
 |Lc:C0 S w .Lc .nilFunc
 |cl (f:FuncId) (caps:List D) (vs:List Value):vs.length=caps.length->(∀(j:Nat) (d:D) (v:Value),caps[j]?=some d->vs[j]?=some v->C0 S w d v) ->C0 S w (.cl f caps) (.func (.func f) #[] ⟨vs⟩)
structure C9(S:Nat->Prop)(w:World)(S':Nat->Prop)(w':World):Prop where
 sub:∀b,S b->S' b
 same:∀b,S b->w'.heap[b]?=w.heap[b]?
theorem C9.refl(S:Nat->Prop)(w:World):C9 S w S w:=⟨λ_ h=>h,λ_ _=>rfl⟩
def C9.trans{I J L:Nat->Prop}{w1 w2 w3:World}(h:C9 I w1 J w2)(k:C9 J w2 L w3):C9 I w1 L w3 :=⟨λb E=>k.sub b (h.sub b E),λb E=>(k.same b (h.sub b E)).trans (h.same b E)⟩
def C9.cell{S S':Nat->Prop}{w w':World}(h:C9 S w S' w'){b:Nat}(E:S b)(off:Nat):w'.cell? ⟨b,off,none⟩=w.cell? ⟨b,off,none⟩ :=World.cell?_of_block (w:=w) (h.same b E)
def C0.ext{S S':Nat->Prop}{w w':World}{d:D}{v:Value}(h:C0 S w d v)(e:C9 S w S' w'):C0 S' w' d v:=by
 induction h with
 |int k n=>exact .int k n
 |bool b=>exact .bool b
 |str s hs=>exact .str s hs
 |nil=>exact .nil
 |emp a cap=>exact .emp a cap
 |Lw a cap h=>exact .Lw a cap h
 |slice rows b off cap sz J I h2 Z O h4 _ E =>refine .slice rows b off cap sz (e.sub b J) I h2 Z O ?_ ?_;intro i j hi hj;rw[e.cell J];grind;intro i j row d v hr hd U;rw[e.cell J]at U;grind
 |agg cells vs I O _ E=>exact .agg cells vs I O E
 |ptr cells b base J O I _ E =>refine .ptr cells b base (e.sub b J) O ?_ ?_;intro j hj;rw[e.cell J];grind;intro j d v hd U;rw[e.cell J]at U;grind
 |Lb=>exact .Lb
 |map kvs r es L hr hh hs _ _ V W=>exact .map kvs r es L (e.sub r hr) ((e.same r hr).trans hh) hs V W
 |Ly=>exact .Ly
 |iface t d v _ E=>exact .iface t d v E
 |Kc=>exact .Kc
 |fn f caps vs I _ E=>exact .fn f caps vs I E
 |Lc=>exact .Lc
 |cl f caps vs I _ E=>exact .cl f caps vs I E
inductive D.Bd:D->Prop where
 |int (k:IntKind) (n:Int):D.Bd (.int k n)
 |bool (b:Bool):D.Bd (.bool b)
 |str (s:A2):s.length<=lim->D.Bd (.str s)
 |nil:D.Bd .nil
 |emp:D.Bd .emp
 |slice (rows:List (List D)):rows.length<=lim->(∀(i j:Nat) (row:List D) (d:D),rows[i]?=some row->row[j]?=some d->D.Bd d)->D.Bd (.slice rows)
 |agg (cells:List D):(∀(j:Nat) (d:D),cells[j]?=some d->D.Bd d)->D.Bd (.agg cells)
 |ptr (cells:List D):(∀(j:Nat) (d:D),cells[j]?=some d->D.Bd d)->D.Bd (.ptr cells)
 |Lb:D.Bd .Lb
 |map (kvs:List (D × D)):(∀(i:Nat) (kv:D × D),kvs[i]?=some kv->D.Bd kv.1)->(∀(i:Nat) (kv:D × D),kvs[i]?=some kv->D.Bd kv.2)->D.Bd (.map kvs)
 |Ly:D.Bd .Ly
 |iface (t:TypeId) (d:D):D.Bd d->D.Bd (.iface t d)
 |Kc:D.Bd .Kc
 |fn (f:FuncId) (caps:List D):(∀(j:Nat) (d:D),caps[j]?=some d->D.Bd d)->D.Bd (.fn f caps)
 |Lc:D.Bd .Lc
 |cl (f:FuncId) (caps:List D):(∀(j:Nat) (d:D),caps[j]?=some d->D.Bd d)->D.Bd (.cl f caps)
variable {S:Nat->Prop} {w:World}
def C0.bd{d:D}{v:Value}(h:C0 S w d v):d.Bd:=by
 induction h with
 |int k n=>exact .int k n
 |bool b=>exact .bool b
 |str s hs=>exact .str s hs
 |nil=>exact .nil
 |emp a cap=>exact .emp
 |Lw a cap=>exact .slice [] (by simp) (by simp)
 |slice rows b off cap sz Z I h2 h3 W h4 _ E =>refine .slice rows I ?_;grind
 |agg cells vs I W _ E =>
  refine .agg cells ?_;intro j d hd;have J:j<vs.length:=by have:=(Aw.1 hd).1;omega
  exact E j d vs[j] hd (Br J)
 |ptr cells b base Z W I _ E =>refine .ptr cells ?_;grind
 |Lb=>exact .Lb
 |map kvs r es U hr hh hs _ _ L O =>
  have hs:=hs.1;refine .map kvs ?_ ?_
  .intro i kv h;have V:i<es.size:=by have:=(Aw.1 h).1;omega
   exact L i kv es[i] h (Yr V)
  .intro i kv h;have V:i<es.size:=by have:=(Aw.1 h).1;omega
   exact O i kv es[i] h (Yr V)
 |Ly=>exact .Ly
 |iface t d v _ E=>exact .iface t d E
 |Kc=>exact .Kc
 |fn f caps vs I _ E =>
  refine .fn f caps ?_;intro j d hd;have J:j<vs.length:=by have:=(Aw.1 hd).1;omega
  exact E j d vs[j] hd (Br J)
 |Lc=>exact .Lc
 |cl f caps vs I _ E =>
  refine .cl f caps ?_;intro j d hd;have J:j<vs.length:=by have:=(Aw.1 hd).1;omega
  exact E j d vs[j] hd (Br J)
theorem C0.one{d:D}{v:Value}(h:C0 S w d v)(hd:d.one=true):v.oneCell'=true:=by cases h <;> first|rfl|simp[D.one]at hd
def C0.of_nil{v:Value}(h:C0 S w .nil v):C0 S w (.slice []) v:=by cases h;exact .Lw none 0 (λ_=>rfl)
def C0.C4k{v:Value}(h:C0 S w .emp v):C0 S w (.slice []) v:=by cases h;exact .Lw _ _ (by simp)
end Go.Abs
namespace Go.Abs
open Go
structure BI where
 base:Option Nat
 off:Nat:=0
 len:Nat:=0
 cap:Nat:=0
 sz:Nat:=0
inductive SV where
 |undef
 |d (x:D)
 |agg (cells:List SV)
 |tuple (xs:List SV)
 |box (k:Nat) (off:Nat)
 |Aj (cells:List D) (off:Nat)
 |acc (k:Nat)
 |Ee (k i off:Nat)
 |mp (k:Nat)
 |Fa (l:Nat)
 |Fv (cells:List SV) (off:Nat)
 |Bk (f:FuncId) (caps:List SV)
instance:Inhabited SV:=⟨.undef⟩
def SV.one:SV->Bool
 |.undef| .agg _| .tuple _=>false
 |.d x=>x.one
 |_=>true
abbrev Names:=Nat->BI
inductive An(S:Nat->Prop)(w:World)(β:Names):SV->Value->Prop where
 |undef (v:Value):An S w β .undef v
 |d (x:D) (v:Value):C0 S w x v->An S w β (.d x) v
 |agg (cells:List SV) (vs:List Value):vs.length=cells.length->(∀c,c∈cells->c.one=true) -> (∀(j:Nat) (c:SV) (v:Value),cells[j]?=some c->vs[j]?=some v->An S w β c v)->An S w β (.agg cells) (.agg ⟨vs⟩)
 |tuple (cells:List SV) (vs:List Value):vs.length=cells.length -> (∀(j:Nat) (c:SV) (v:Value),cells[j]?=some c->vs[j]?=some v->An S w β c v)->An S w β (.tuple cells) (.tuple ⟨vs⟩)
 |box (k off b:Nat):(β k).base=some b->An S w β (.box k off) (.pointer (some ⟨b,off,none⟩))
 |Aj (cells:List D) (off b base:Nat):S b->(∀d,d∈cells->d.one=true)->(∀j,j<cells.length->∃v,w.cell? ⟨b,base+j,none⟩=some v) -> (∀(j:Nat) (d:D) (v:Value),cells[j]?=some d->w.cell? ⟨b,base+j,none⟩=some v->C0 S w d v) ->An S w β (.Aj cells off) (.pointer (some ⟨b,base+off,none⟩))
 |acc (k:Nat):An S w β (.acc k) (.slice ((β k).base.map λb=>⟨b,(β k).off*(β k).sz,none⟩) (β k).len (β k).cap)
 |Ee (k i off b:Nat):(β k).base=some b->An S w β (.Ee k i off) (.pointer (some ⟨b,((β k).off+i)*(β k).sz+off,none⟩))
 |mp (k b:Nat):(β k).base=some b->An S w β (.mp k) (.map (some b))
 |Fa (l:Nat):An S w β (.Fa l) (.func (.yield l) #[] #[])
 |Fv (cells:List SV) (off b:Nat):S b->(∀c,c∈cells->c.one=true)->(∀j,j<cells.length->∃v,w.cell? ⟨b,j,none⟩=some v) -> (∀(j:Nat) (c:SV) (v:Value),cells[j]?=some c->w.cell? ⟨b,j,none⟩=some v->An S w β c v)->An S w β (.Fv cells off) (.pointer (some ⟨b,off,none⟩))
 |Bk (f:FuncId) (caps:List SV) (vs:List Value):vs.length=caps.length -> (∀(j:Nat) (c:SV) (v:Value),caps[j]?=some c->vs[j]?=some v->An S w β c v)->An S w β (.Bk f caps) (.func (.func f) #[] ⟨vs⟩)
mutual
def SV.has(k:Nat):SV->Bool
 |.undef| .d _| .Aj _ _| .Fa _=>false
 |.agg cs=>SV.Lu k cs
 |.tuple cs=>SV.Lu k cs
 |.Bk _ cs=>SV.Lu k cs
 |.Fv cs _=>SV.Lu k cs
 |.box j _=>j ==k
 |.acc j=>j ==k
 |.Ee j _ _=>j ==k
 |.mp j=>j ==k
def SV.Lu(k:Nat):List SV->Bool
 |[]=>false
 |c::cs=>c.has k ||SV.Lu k cs
end
mutual
def SV.closed:SV->Bool
 |.undef| .d _| .Aj _ _| .Fa _=>true
 |.agg cs=>SV.Mw cs
 |.tuple cs=>SV.Mw cs
 |.Bk _ cs=>SV.Mw cs
 |.Fv cs _=>SV.Mw cs
 |.box _ _| .acc _| .Ee _ _ _| .mp _=>false
def SV.Mw:List SV->Bool
 |[]=>true
 |c::cs=>c.closed && SV.Mw cs
end
theorem SV.A6g{k:Nat} :∀{cs:List SV},SV.Lu k cs=false->∀(j:Nat)(c:SV),cs[j]?=some c->c.has k=false
 |[],_,j,c,h=>by grind
 |c::cs,h,j,x,E=>by
  simp only[SV.Lu,An3]at h;cases j with
  |zero=>grind
  |succ j=>simp at E;exact SV.A6g h.2 j x E
def SV.B8u:∀{cs:List SV},SV.Mw cs=true->∀(j:Nat)(c:SV),cs[j]?=some c->c.closed=true
 |[],_,j,c,h=>by grind
 |c::cs,h,j,x,E=>by
  simp only[SV.Mw,Bi]at h;cases j with
  |zero=>grind
  |succ j=>simp at E;exact SV.B8u h.2 j x E
variable {x:SV}
def An.ext{S S':Nat->Prop}{w w':World}{β β':Names}{v:Value}(h:An S w β x v)(e:C9 S w S' w')
  (O:∀k,x.has k=true->β' k =β k):An S' w' β' x v:=by
 induction h with
 |undef v=>exact .undef v
 |d x v h=>exact .d x v (h.ext e)
 |agg cells vs I U _ L =>refine .agg cells vs I U λj c v J E=>L j c v J E λk V=>O k ?_;grind[SV.A6g,SV.has]
 |tuple cells vs I _ L =>refine .tuple cells vs I λj c v J E=>L j c v J E λk V=>O k ?_;grind[SV.A6g,SV.has]
 |box k off b h=>exact .box k off b (by grind[SV.has])
 |Aj cells off b base hs I U W =>refine .Aj cells off b base (e.sub b hs) I ?_ ?_;intro j Z;rw[e.cell hs];grind;intro j d v hd E;rw[e.cell hs]at E;exact(W j d v hd E).ext e
 |acc k=>have:=O k (by simp[SV.has]);rw[<-this];exact .acc k
 |Ee k i off b h=>have:=O k (by simp[SV.has]);rw[<-this];exact .Ee k i off b (by grind)
 |mp k b h=>exact .mp k b (by grind[SV.has])
 |Fa l=>exact .Fa l
 |Fv cells off b hs I U _ L =>refine .Fv cells off b (e.sub b hs) I ?_ ?_;intro j Z;rw[e.cell hs];grind;intro j c v J E;rw[e.cell hs]at E;grind[SV.A6g,SV.has]
 |Bk f cells vs I _ L =>refine .Bk f cells vs I λj c v J E=>L j c v J E λk V=>O k ?_;grind[SV.A6g,SV.has]
mutual
theorem SV.C3y:∀{x:SV} (k:Nat),x.closed=true->x.has k=false
 |.undef,_,_=>rfl
 |.d _,_,_=>rfl
 |.Aj _ _,_,_=>rfl
 |.agg cs,k,h=>by simp only[SV.closed]at h;simp only[SV.has];exact SV.A8n k h
 |.tuple cs,k,h=>by simp only[SV.closed]at h;simp only[SV.has];exact SV.A8n k h
 |.Bk _ cs,k,h=>by simp only[SV.closed]at h;simp only[SV.has];exact SV.A8n k h
 |.Fv cs _,k,h=>by simp only[SV.closed]at h;simp only[SV.has];exact SV.A8n k h
 |.box _ _,_,h=>by simp[SV.closed]at h
 |.acc _,_,h=>by simp[SV.closed]at h
 |.Ee _ _ _,_,h=>by simp[SV.closed]at h
 |.mp _,_,h=>by simp[SV.closed]at h
 |.Fa _,_,_=>rfl
theorem SV.A8n:∀{cs:List SV} (k:Nat),SV.Mw cs=true->SV.Lu k cs=false
 |[],_,_=>rfl
 |c::cs,k,h=>by simp only[SV.Mw,Bi]at h;simp only[SV.Lu,SV.C3y k h.1,SV.A8n k h.2,Ar4]
end
variable {S:Nat->Prop} {w:World}
def An.closed{β β':Names}{v:Value}(h:An S w β x v)(I:x.closed=true):An S w β' x v :=h.ext (C9.refl S w) λk E=>by grind[SV.C3y]
variable {β:Names}
theorem An.one{v:Value}(h:An S w β x v)(E:x.one=true):v.oneCell'=true:=by
 cases h with
 |undef=>simp[SV.one]at E
 |agg=>simp[SV.one]at E
 |tuple=>simp[SV.one]at E
 |d x v h=>exact h.one E
 |_=>rfl
def Bz(S:Nat->Prop)(w:World)(β:Names)(xs:List SV)(vs:List Value):Prop :=vs.length=xs.length/\∀(j:Nat) (c:SV) (v:Value),xs[j]?=some c->vs[j]?=some v->An S w β c v
theorem Bz.nil :Bz S w β [] []:=⟨rfl,by simp⟩
variable {vs:List Value}
def Bz.cons{xs:List SV}{v:Value}(h:An S w β x v)(t:Bz S w β xs vs) :Bz S w β (x::xs) (v::vs):=by
 refine⟨by simp[t.1],?_⟩;intro j c u E I;cases j with
 |zero=>grind
 |succ j=>simp at E I;exact t.2 j c u E I
def Bz.get{xs:List SV}(h:Bz S w β xs vs){j:Nat}{c:SV}(E:xs[j]?=some c) :∃v,vs[j]?=some v/\An S w β c v:=by
 have I:j<vs.length:=by have:=(Aw.1 E).1;have:=h.1;omega
 exact⟨vs[j],Br I,h.2 j c _ E (Br I)⟩
def Bz.append{xs J:List SV}{vs us:List Value}(h:Bz S w β xs vs)(t:Bz S w β J us) :Bz S w β (xs++J) (vs++us):=by refine⟨by simp[h.1,t.1],?_⟩;intro j c u E I;by_cases L:j<xs.length;rw[N0 L]at E;rw[N0 (by have:=h.1;omega)]at I;exact h.2 j c u E I;rw[Ma (by omega)]at E;rw[Ma (by have:=h.1;omega)]at I;have:=h.1;exact t.2 (j - xs.length) c u E (by grind)
def Bz.map{S S':Nat->Prop}{w w':World}{β β':Names}{xs E:List SV}(h:Bz S w β xs vs)(U:E.length=xs.length)
  (O:∀(j:Nat) (x y:SV) (v:Value),xs[j]?=some x->E[j]?=some y->An S w β x v->An S' w' β' y v):Bz S' w' β' E vs:=by
 refine⟨by rw[h.1,U],?_⟩;intro j c v I L;have J:j<xs.length:=by have:=(Aw.1 I).1;omega
 exact O j xs[j] c v (Br J) I (h.2 j _ v (Br J) L)
abbrev SL:=List (Nat × SV)
def Af:SL->Nat->SV
 |[],_=>.undef
 |(u,x)::r,t=>if u=t then x else Af r t
structure Ku where
 P:Program
 l:Nat
 n0:Nat
 N:Nat
 xs:Nat->SV
 go:Nat->Bool
 more:Nat->SV->Nat->Prop
def Ku.next(Y:Ku)(j:Nat):Option Nat:=if Y.go j then some (j+1)else none
inductive Aq where
 |cells (cs:List SV)
 |rows (sz:Nat) (rs:List (List D))
 |map (kvs:List (D × D))
 |iter (kvs:List (D × D)) (seen:List Nat)
 |ghost (Y:Ku) (st:Option Nat)
def Aq.has(k:Nat):Aq->Bool
 |.cells cs=>SV.Lu k cs
 |_=>false
def Aq.real:Aq->Bool
 |.ghost _ _=>false
 |_=>true
abbrev Aa:=List (Nat × Aq)
def G3u(es:Array MapEntry)(E:Array Nat)(seen:List Nat):Prop :=(∀(r:Nat) (e:MapEntry),es[r]?=some e->E.contains e.born=seen.contains r)/\(∀(r:Nat) (t:List Nat),seen=r::t->∃e,es[r]?=some e/\E.back? =some e.born)
def Dj(S:Nat->Prop)(w:World)(β:Names)(i:BI):Aq->Prop
 |.cells cs=>∃b ty vs,i.base=some b/\w.heap[b]?=some (.cells ⟨vs⟩ ty (0,0))/\Bz S w β cs vs
 |.rows sz rs=>i.sz=sz/\rs.length=i.len/\i.len<=i.cap/\rs.length<=lim/\(∀row,row∈rs->row.length=sz)/\(∀row,row∈rs->∀d,d∈row->d.one=true) /\match i.base with
   |none=>i.cap=0
   |some b=>∃ty vs,w.heap[b]?=some (.cells ⟨vs⟩ ty (0,0))/\(i.off+i.cap)*sz<=vs.length /\∀(r j:Nat) (row:List D) (d:D) (v:Value),rs[r]?=some row->row[j]?=some d->vs[(i.off+r)*sz+j]?=some v->C0 S w d v
 |.map kvs=>∃b es E,i.base=some b/\w.heap[b]?=some (.map es E)/\MSz es E kvs.length /\ (∀(r:Nat) (kv:D × D) (e:MapEntry),kvs[r]?=some kv->es[r]?=some e->C0 S w kv.1 e.key/\C0 S w kv.2 e.val)
 |.iter kvs seen=>∃b m es E I,i.base=some b/\w.heap[b]?=some (.mapIter (some m) E I E)/\S m/\w.heap[m]?=some (.map es E)/\MSz es E kvs.length /\ (∀(r:Nat) (kv:D × D) (e:MapEntry),kvs[r]?=some kv->es[r]?=some e->C0 S w kv.1 e.key/\C0 S w kv.2 e.val)/\G3u es I seen
 |.ghost _ _=>i.base=none
def Dj.ext{S S':Nat->Prop}{w w':World}{β β':Names}{i:BI}{c:Aq}(h:Dj S w β i c)(e:C9 S w S' w')
  (W:∀b,i.base=some b->w'.heap[b]?=w.heap[b]?)(hb:∀k,c.has k=true->β' k =β k):Dj S' w' β' i c:=by
 cases c with
 |cells cs =>obtain⟨b,ty,vs,J,U,L⟩:=h;refine⟨b,ty,vs,J,(W b J).trans U,L.1,λj c v hc Z=>(L.2 j c v hc Z).ext e λk hk=>hb k ?_⟩;grind[SV.A6g,Aq.has]
 |rows sz rs =>
  obtain⟨J,U,L,O,h5,h6,h7⟩:=h;refine⟨J,U,L,O,h5,h6,?_⟩;cases I:i.base with
  |none=>grind
  |some b =>rw[I]at h7;obtain⟨ty,vs,g1,g2,g3⟩:=h7;exact⟨ty,vs,(W b I).trans g1,g2,λr j row d v hr hd Z=>(g3 r j row d v hr hd Z).ext e⟩
 |map kvs =>obtain⟨b,es,E,J,U,L,O⟩:=h;exact⟨b,es,E,J,(W b J).trans U,L,λr kv x hr V=>⟨(O r kv x hr V).1.ext e,(O r kv x hr V).2.ext e⟩⟩
 |iter kvs seen =>obtain⟨b,m,es,E,sn,J,U,hS,hm,L,O,h5⟩:=h;exact⟨b,m,es,E,sn,J,(W b J).trans U,e.1 m hS,(e.2 m hS).trans hm,L,λr kv x hr V=>⟨(O r kv x hr V).1.ext e,(O r kv x hr V).2.ext e⟩,h5⟩
 |ghost Y st=>exact h
structure Gh where
 Y:Ku
 F:Option Nat->(Nat->Prop)->(Nat->Prop)->World->Prop
 sy:TypeId × Value
 ra:TypeId × Value
structure E1d(n0:Nat)(B S:Nat->Prop)(w:World)(S':Nat->Prop)(w':World):Prop where
 sub:∀b,S b->S' b
 new:∀b,S' b->S b\/n0<=b
 lt:∀b,S' b->b<w'.heap.size
 off:∀b,B b->¬S' b
 same:∀b,b<n0\/B b\/S b->w'.heap[b]?=w.heap[b]?
 os:w'.os=w.os
 tape:w'.tape=w.tape
 output:w'.output=w.output
 size:w.heap.size<=w'.heap.size
structure A0q(B S:Nat->Prop)(w:World)(B' S':Nat->Prop)(w':World):Prop where
 ext:C9 S w S' w'
 new:∀b,S' b->S b\/B b\/w.heap.size<=b
 lt:∀b,S' b->b<w'.heap.size
 own:∀b,B' b->¬S' b/\b<w'.heap.size/\(B b\/w.heap.size<=b)
 kept:∀b,b<w.heap.size->¬B b->w'.heap[b]?=w.heap[b]?
 os:w'.os=w.os
 tape:w'.tape=w.tape
 output:w'.output=w.output
 size:w.heap.size<=w'.heap.size
structure D9d(G:Gh):Prop where
 X3:∀st B S w S' w',G.F st B S w->E1d G.Y.n0 B S w S' w'->G.F st B S' w'
 shut:∀st B S w D l l',G.F st B S w->G.Y.n0<=D->¬B D->w.heap[D]?=some (.deferred l)->G.F st B S { w with heap:=w.heap.setIfInBounds D (.deferred l') }
 round:∀j B S w β v,j<G.Y.N->G.F (some j) B S w->(∀b,S b->b<w.heap.size)->(∀b,B b->¬S b/\b<w.heap.size)->An S w β (G.Y.xs j) v ->∃f tmps assign body,(Instr.yield G.Y.l #[v]).run G.Y.P w=.ok (.round G.Y.l f tmps assign body) w /\RoundIn Fence.wide 0 G.Y.P G.Y.l f tmps assign body w (λe w'=>∃S' B',e=.returned (.bool (G.Y.go j))/\G.F (G.Y.next j) B' S' w'/\A0q B S w B' S' w')
 H1p:∀j y j' B S w β v,G.Y.more j y j'->G.F (some j) B S w->(∀b,S b->b<w.heap.size)->(∀b,B b->¬S b/\b<w.heap.size)->An S w β y v ->∃f tmps assign body,(Instr.yield G.Y.l #[v]).run G.Y.P w=.ok (.round G.Y.l f tmps assign body) w /\RoundIn Fence.wide 0 G.Y.P G.Y.l f tmps assign body w (λe w'=>∃S' B',e=.returned (.bool true)/\G.F (some j') B' S' w'/\A0q B S w B' S' w')
structure Ctx where
 w0:World
 S0:Nat->Prop
 pre:Nat->Prop
 A6y:Nat->BI->Prop
 G:Gh
structure Inv(C:Ctx)(S:Nat->Prop)(w:World)(β:Names)(bx:Aa):Prop where
 Fh:∀b,C.S0 b->S b
 Ei:∀b,S b->C.S0 b\/C.pre b\/C.w0.heap.size<=b
 C3:∀b,S b->b<w.heap.size
 kept:∀b,b<C.w0.heap.size->¬C.pre b->w.heap[b]?=C.w0.heap[b]?
 os:w.os=C.w0.os
 tape:w.tape=C.w0.tape
 output:w.output=C.w0.output
 size:C.w0.heap.size<=w.heap.size
 box:∀k c,(k,c)∈bx->Dj S w β (β k) c
 Bh:∀k c,(k,c)∈bx->∀b,(β k).base=some b->¬S b/\b<w.heap.size/\(C.pre b\/C.w0.heap.size<=b)
 inj:∀k c k' c',(k,c)∈bx->(k',c')∈bx->∀b,(β k).base=some b->(β k').base=some b->k=k'/\c=c'
 fix:∀k i,C.A6y k i->1000000<=k/\β k=i
 Dv:∀b cs,A2s C.G.sy C.G.ra b cs->S b/\∃ty fr,w.heap[b]?=some (.cells cs ty fr)
 one:∀k Y st k' Y' st',(k,Aq.ghost Y st)∈bx->(k',Aq.ghost Y' st')∈bx->k=k'/\st=st'
 Fp:∀k Y st,(k,Aq.ghost Y st)∈bx->C.G.Y=Y/\D9d C.G/\Y.n0<=C.w0.heap.size/\(∀k' c',(k',c')∈bx->∀b,(β k').base=some b->Y.n0<=b) /\∃B,C.G.F st B S w/\∀b,B b->¬S b/\b<w.heap.size/\(C.pre b\/C.w0.heap.size<=b)/\∀k' c',(k',c')∈bx->(β k').base≠some b
variable {C:Ctx}
def Inv.sub{bx bx':Aa}(h:Inv C S w β bx)(hs:∀k c,(k,c)∈bx'->(k,c)∈bx):Inv C S w β bx' :={ h with
  box:=λk c E=>h.box k c (hs k c E)
  Bh:=λk c E=>h.Bh k c (hs k c E)
  inj:=λk c J L E I=>h.inj k c J L (hs k c E) (hs J L I)
  one:=λk Y st J O st' E I=>h.one k Y st J O st' (hs _ _ E) (hs _ _ I)
  Fp:=λk Y st E=>by
   obtain⟨U,h2,W,h4,B,Z,V⟩:=h.Fp k Y st (hs _ _ E)
   grind }
def Inv.step{S S':Nat->Prop}{w w':World}{β β':Names}{bx bx':Aa}(h:Inv C S w β bx)(e:C9 S w S' w')
  (hS:∀b,S' b->S b\/w.heap.size<=b)(J:∀b,S' b->b<w'.heap.size)
  (O:∀b,b<w.heap.size->(∀k c,(k,c)∈bx->(β k).base≠some b)->w'.heap[b]?=w.heap[b]?)
  (a0:w'.os=w.os)(E:w'.tape=w.tape)(L:w'.output=w.output)(Np:w.heap.size<=w'.heap.size)
  (a2:∀k c,(k,c)∈bx'->Dj S' w' β' (β' k) c/\∀b,(β' k).base=some b->¬S' b/\b<w'.heap.size/\(w.heap.size<=b\/∃j x,(j,x)∈bx/\(β j).base=some b))
  (a3:∀k c Z c',(k,c)∈bx'->(Z,c')∈bx'->∀b,(β' k).base=some b->(β' Z).base=some b->k=Z/\c=c')
  (a5:∀k,1000000<=k->β' k =β k)(U:∀k Y st,(k,Aq.ghost Y st)∈bx'->(k,Aq.ghost Y st)∈bx) :
  Inv C S' w' β' bx' where
 Fh b hb:=e.sub b (h.Fh b hb)
 Ei b hb:=by
  rcases hS b hb with hb|hb
  .exact h.Ei b hb
  .exact .inr (.inr (Dd h.size hb))
 C3:=J
 kept b hb hp:=by
  rw[<-h.kept b hb hp];refine O b (X9 hb h.size) ?_;intro k c I V;rcases(h.Bh k c I b V).2.2 with h' |h'
  .grind
  .omega
 os:=a0.trans h.os
 tape:=E.trans h.tape
 output:=L.trans h.output
 size:=Dd h.size Np
 box k c I:=(a2 k c I).1
 Bh k c I b hb:=by
  obtain⟨W,h2,h3⟩:=(a2 k c I).2 b hb;refine⟨W,h2,?_⟩;rcases h3 with h3|⟨j,x,hj,a4⟩
  .exact .inr (Dd h.size h3)
  .exact(h.Bh j x hj b a4).2.2
 inj:=a3
 fix k b hb:=by have:=h.fix k b hb;grind
 Dv b cs hv:=by obtain⟨W,ty,fr,h2⟩:=h.Dv b cs hv;exact⟨e.sub b W,ty,fr,(e.same b W).trans h2⟩
 one k Y st Z Y' st' I a1:=h.one k Y st Z Y' st' (U _ _ _ I) (U _ _ _ a1)
 Fp k Y st I:=by
  obtain⟨W,h2,h3,h4,B,h5,h6⟩:=h.Fp k Y st (U k Y st I);have a6:=h.size;refine⟨W,h2,h3,λZ c' a1 b hb=>?_,B,h2.X3 st B S w S' w' h5 ⟨e.sub,λb hb=>?_,J,λb hb hs=>?_,λb hb=>?_,a0,E,L,Np⟩,λb hb=>?_⟩
  .grind
  .grind
  .grind
  .rcases hb with hb|hb|hb
   .grind
   .grind
   .exact e.same b hb
  grind
def Inv.grow{S S':Nat->Prop}{w w':World}{bx:Aa}(h:Inv C S w β bx)
  (O:∀b,S b->S' b)(Z:∀b,S' b->S b\/w.heap.size<=b)(L:∀b,S' b->b<w'.heap.size)
  (E:∀b,b<w.heap.size->w'.heap[b]?=w.heap[b]?)
  (W:w'.os=w.os)(J:w'.tape=w.tape)(V:w'.output=w.output)(Np:w.heap.size<=w'.heap.size) :
  Inv C S' w' β bx/\C9 S w S' w':=by have e:C9 S w S' w':=⟨O,λb I=>E b (h.C3 b I)⟩;refine⟨h.step e Z L (λb I _=>E b I) W J V Np ?_ h.inj (λ_ _=>rfl) (λ_ _ _ U=>U),e⟩;intro k c U;refine⟨(h.box k c U).ext e (λb I=>E b (h.Bh k c U b I).2.1) (λ_ _=>rfl),?_⟩;intro b I;obtain⟨h1,h2,h3⟩:=h.Bh k c U b I;grind
end Go.Abs
namespace Go.Abs
open Go
abbrev Kf:=Operand->SV
def _root_.Go.Oper.wpx(P:Program)(o:Oper)(a:Act)(w:World)(next:Act->World->Prop):Prop :=o.wp P a w next (λ_ _ _=>False)\/∃l f tmps E body w',(execOp a.eval o).run P w=.ok (.round l f tmps E body) w' /\RoundIn Fence.wide 0 P l f tmps E body w' (λe I=>match e with| .returned v=>next (a.put o.dst v) I|_=>False)
def C1(P:Program)(o:Oper)(ρ:Kf)(bx:Aa)(r:SV)(bx':Aa)(pg:List Nat):Prop :=∀(C:Ctx) (S:Nat->Prop) (w:World) (β:Names) (a:Act),Inv C S w β bx->(∀x,x∈o.op.operands->An S w β (ρ x) (a.eval x)) ->o.wpx P a w (λE w'=>∃v S' β',E=a.put o.dst v/\Inv C S' w' β' bx'/\C9 S w S' w'/\An S' w' β' r v/\(∀k,k∉pg->β' k =β k))
variable {x:Operand}
def mo{o:Oper}{op:Op}(h:o.op=op)(m:x∈op.operands):x∈o.op.operands:=h ▸ m
def mC{o:Oper}{op:Op}(E:o.op=op)(h:x∈op.operands:=by simp[Op.operands,Call.operands]):x∈o.op.operands:=mo E h
variable {P:Program} {o:Oper} {ρ:Kf} {bx:Aa}
def C1.E3{r:SV}(h:∀(C:Ctx)(S:Nat->Prop)(w:World) (β:Names)(a:Act),Inv C S w β bx->(∀x,x∈o.op.operands->An S w β (ρ x) (a.eval x)) -> ∃v,(execOp a.eval o).run P w=.ok (.value v) w/\An S w β r v):C1 P o ρ bx r bx []:=by intro C S w β a E J;obtain⟨v,I,hr⟩:=h C S w β a E J;refine Jk ?_;unfold Oper.wp;rw[I];exact⟨v,S,β,rfl,E,C9.refl S w,hr,λ_ _=>rfl⟩
def B5k(E:o.op=.move x):C1 P o ρ bx (ρ x) bx [] :=.E3 λ_ _ _ _ a _ I=>⟨a.eval x,by simp[execOp,E],(I x (mo E (by grind[Op.operands])))⟩
def B9x(E:o.op=.assign x):C1 P o ρ bx (ρ x) bx [] :=.E3 λ_ _ _ _ a _ I=>⟨a.eval x,by simp[execOp,E],(I x (mo E (by grind[Op.operands])))⟩
variable {S:Nat->Prop} {w:World} {β:Names}
def An.Gq{x:D}{v:Value}(h:An S w β (.d x) v):C0 S w x v:=by cases h;omega
def An.Wk{b:Bool}{v:Value}(h:An S w β (.d (.bool b)) v):v=.bool b:=by cases h with|d _ _ h=>cases h;rfl
def An.Ih{k:IntKind}{n:Int}{v:Value}(h:An S w β (.d (.int k n)) v):v=.int k n:=by cases h with|d _ _ h=>cases h;rfl
def An.Vb{s:A2}{v:Value}(h:An S w β (.d (.str s)) v):v=.string (mkStr s)/\s.length<=lim:=by cases h with|d _ _ h=>cases h;grind
def An.bool(b:Bool):An S w β (.d (.bool b)) (.bool b):=.d _ _ (.bool b)
def An.int(k:IntKind)(n:Int):An S w β (.d (.int k n)) (.int k n):=.d _ _ (.int k n)
def G4o{c x y:Operand}(E:o.op=.pick c x y){t:Bool}(I:ρ c=.d (.bool t)):C1 P o ρ bx (if t then ρ x else ρ y) bx [] :=.E3 λ_ _ _ _ a _ J=>by
  have h:=(J c (mo E (by grind[Op.operands])));rw[I]at h;have h:=h.Wk;refine⟨if t then a.eval x else a.eval y,?_,?_⟩
  .cases t <;> simp[execOp,E,h,asBool]
  grind[Op.operands]
def C0o(op:BinOp)(x y:Int):Option Bool :=match op with
 |.eql=>some (decide (x=y))
 |.neq=>some (decide (x≠y))
 |.lss=>some (decide (x<y))
 |.leq=>some (decide (x<=y))
 |.gtr=>some (decide (y<x))
 |.geq=>some (decide (y<=x))
 |_=>none
def C2x(op:BinOp)(k:IntKind)(x y:Int):Option Int :=match op with
 |.add=>some (k.wrap (x+y))
 |.sub=>some (k.wrap (x - y))
 |.mul=>some (k.wrap (x*y))
 |_=>none
def B3d(op:BinOp)(t:TypeId)(x y:Operand)(k E:IntKind)(m n:Int)(w:World):(eqGuard op t x y (.int k m) (.int E n)).run P w=.ok () w:=by unfold eqGuard;simp
def D6a(op:BinOp)(t:TypeId)(x y:Operand)(m n:ByteArray)(w:World):(eqGuard op t x y (.string m) (.string n)).run P w=.ok () w:=by unfold eqGuard;simp
def E9b(op:BinOp)(t:TypeId)(x y:Operand)(m n:Bool)(w:World):(eqGuard op t x y (.bool m) (.bool n)).run P w=.ok () w:=by unfold eqGuard;simp
def G2j(op:BinOp)(t:TypeId)(x y:Operand)(m:Option Addr)(n:Value)(w:World):(eqGuard op t x y (.pointer m) n).run P w=.ok () w:=by unfold eqGuard;simp
def E8g(op:BinOp)(t:TypeId)(x y:Operand)(m:Option Addr)(l c:Nat)(n:Value)(w:World):(eqGuard op t x y (.slice m l c) n).run P w=.ok () w:=by unfold eqGuard;simp
variable {op:BinOp}
def G5y{t u:TypeId}{x y:Operand}(J:o.op=.binOp op t x y u){k:IntKind}{m n:Int}{b:Bool}
  (U:ρ x=.d (.int k m))(V:ρ y=.d (.int k n))(L:C0o op m n=some b):C1 P o ρ bx (.d (.bool b)) bx [] :=
 .E3 λ_ _ w _ a _ O=>by
  have E:=(O x (mo J (by grind[Op.operands])));rw[U]at E;have E:=E.Ih;have I:=(O y (mo J (by grind[Op.operands])));rw[V]at I;have I:=I.Ih;refine⟨.bool b,?_,.bool b⟩;simp only[execOp,J,Ii,Sem.run_map,E,I,B3d,Hm];cases op <;> first
   |grind[C0o]
   |(simp only[C0o,B0]at L;subst L;simp only[binOp,Op.intCmp,ne_eq,Ar9,Fm,L8,Hm];try(congr 3 <;> grind))
def E8j{t u:TypeId}{x y:Operand}(J:o.op=.binOp op t x y u){k:IntKind}{m n b:Int}
  (U:ρ x=.d (.int k m))(V:ρ y=.d (.int k n))(L:C2x op k m n=some b):C1 P o ρ bx (.d (.int k b)) bx [] :=
 .E3 λ_ _ w _ a _ O=>by have E:=(O x (mo J (by grind[Op.operands])));rw[U]at E;have E:=E.Ih;have I:=(O y (mo J (by grind[Op.operands])));rw[V]at I;have I:=I.Ih;refine⟨.int k b,?_,.int k b⟩;simp only[execOp,J,Ii,Sem.run_map,E,I,B3d,Hm];cases op <;> simp[C2x]at L <;> subst L <;> simp[binOp,Op.intArith]
def D7e{t u:TypeId}{x y:Operand}(J:o.op=.binOp .quo t x y u){k:IntKind}{m n:Int}
  (O:ρ x=.d (.int k m))(U:ρ y=.d (.int k n))(V:n≠0):C1 P o ρ bx (.d (.int k (k.wrap (m.tdiv n)))) bx [] :=
 .E3 λ_ _ w _ a _ L=>by have E:=(L x (mo J (by grind[Op.operands])));rw[O]at E;have E:=E.Ih;have I:=(L y (mo J (by grind[Op.operands])));rw[U]at I;have I:=I.Ih;refine⟨_,?_,.int k _⟩;simp[execOp,J,E,I,B3d,binOp,Op.intDiv,V]
def E7w{t u:TypeId}{x y:Operand}(J:o.op=.binOp .rem t x y u){k:IntKind}{m n:Int}
  (O:ρ x=.d (.int k m))(U:ρ y=.d (.int k n))(V:n≠0):C1 P o ρ bx (.d (.int k (m.tmod n))) bx [] :=
 .E3 λ_ _ w _ a _ L=>by have E:=(L x (mo J (by grind[Op.operands])));rw[O]at E;have E:=E.Ih;have I:=(L y (mo J (by grind[Op.operands])));rw[U]at I;have I:=I.Ih;refine⟨_,?_,.int k _⟩;simp[execOp,J,E,I,B3d,binOp,Op.intDiv,V]
def C7f(op:BinOp)(x y:A2):Option Bool :=match op with
 |.eql=>some (decide (x=y))
 |.neq=>some (decide (x≠y))
 |.lss=>some (Op.bytesLess x y)
 |.gtr=>some (Op.bytesLess y x)
 |_=>none
def E7c(s:A2):(mkStr s).toList=s:=by simp[mkStr]
def C2u:∀(x y:A2),(Op.bytesLess x y ||x ==y) = !Op.bytesLess y x
 |[],[]=>rfl
 |[],_::_=>by rfl
 |_::_,[]=>by rfl
 |a::x,b::y=>by have E:=C2u x y;simp only[Op.bytesLess];grind
def B6x{t u:TypeId}{x y:Operand}(J:o.op=.binOp op t x y u){m n:A2}{b:Bool}
  (U:ρ x=.d (.str m))(V:ρ y=.d (.str n))(L:C7f op m n=some b):C1 P o ρ bx (.d (.bool b)) bx [] :=
 .E3 λ_ _ w _ a _ O=>by
  have E:=(O x (mo J (by grind[Op.operands])));rw[U]at E;have E:=E.Vb.1;have I:=(O y (mo J (by grind[Op.operands])));rw[V]at I;have I:=I.Vb.1;refine⟨.bool b,?_,.bool b⟩;have e:=C2u m n;simp only[execOp,J,Ii,Sem.run_map,E,I,D6a,Hm];cases op <;> first
   |grind[C7f]
   |(simp only[C7f,B0]at L;subst L;simp only[binOp,Op.stringOp,E7c,e,Bool.not_not,L8,Hm];try(congr 3 <;> (rw[Am7];simp)))
def F5a(x y:A2):mkStr x++mkStr y=mkStr (x++y):=by rfl
def E9c{t u:TypeId}{x y:Operand}(L:o.op=.binOp .add t x y u){m n:A2}
  (U:ρ x=.d (.str m))(W:ρ y=.d (.str n))(V:m.length+n.length<=lim):C1 P o ρ bx (.d (.str (m++n))) bx [] :=
 .E3 λ_ _ w _ a _ O=>by
  have I:=(O x (mo L (by grind[Op.operands])));rw[U]at I;have I:=I.Vb.1;have J:=(O y (mo L (by grind[Op.operands])));rw[W]at J;have J:=J.Vb.1;refine⟨.string (mkStr (m++n)),?_,.d _ _ (.str _ (by grind))⟩;have E:IntKind.i64.max=9223372036854775807:=by decide
  have Z:¬(IntKind.i64.max<(m.length:Int)+n.length):=by rw[E];unfold lim at V;omega
  simp only[execOp,L,Ii,Sem.run_map,I,J,D6a,Hm,binOp,Op.stringOp,B6o,F5a];simp_all
def F9b{t:TypeId}(I:o.op=.unOp .not t x){b:Bool}(J:ρ x=.d (.bool b)):C1 P o ρ bx (.d (.bool (!b))) bx [] :=.E3 λ_ _ w _ a _ L=>by have E:=(L x (mo I (by grind[Op.operands])));rw[J]at E;have E:=E.Wk;exact⟨.bool (!b),by simp[execOp,I,E,Op.unary],.bool _⟩
def F5p{t:TypeId}(I:o.op=.unOp .neg t x){k:IntKind}{n:Int}(J:ρ x=.d (.int k n)):C1 P o ρ bx (.d (.int k (k.wrap (0 - n)))) bx [] :=.E3 λ_ _ w _ a _ L=>by have E:=(L x (mo I (by grind[Op.operands])));rw[J]at E;have E:=E.Ih;exact⟨.int k (k.wrap (0 - n)),by simp[execOp,I,E,Op.unary,Op.intArith],.int _ _⟩
def C2a(op:BinOp)(x y:Bool):Option Bool :=match op with
 |.eql=>some (x ==y)
 |.neq=>some (!(x ==y))
 |_=>none
def D9q{t u:TypeId}{x y:Operand}(L:o.op=.binOp op t x y u)(ht:P.underlying t=some .bool){m n:Bool}{b:Bool}
  (U:ρ x=.d (.bool m))(V:ρ y=.d (.bool n))(J:C2a op m n=some b):C1 P o ρ bx (.d (.bool b)) bx [] :=
 .E3 λ_ _ w _ a _ O=>by
  have E:=(O x (mo L (by grind[Op.operands])));rw[U]at E;have E:=E.Wk;have I:=(O y (mo L (by grind[Op.operands])));rw[V]at I;have I:=I.Wk;refine⟨.bool b,?_,.bool b⟩;simp only[execOp,L,Ii,Sem.run_map,E,I,E9b,Hm];cases op <;> first
   |(simp only[C2a,reduceCtorEq]at J;done)
   |(simp only[C2a,B0]at J;subst J;first| (rw[run_eql_bool _ _ _ _ ht];rfl)| (rw[run_neq_bool _ _ _ _ ht];rfl))
def F6c{src dst:TypeId}(J:o.op=.convert src dst x){k E j:IntKind}{n:Int}
  (hs:P.underlying src=some (.int j))(hd:P.underlying dst=some (.int E))(L:ρ x=.d (.int k n)):C1 P o ρ bx (.d (.int E (E.wrap n))) bx [] :=
 .E3 λ_ _ w _ a _ O=>by have I:=(O x (mo J (by grind[Op.operands])));rw[L]at I;have I:=I.Ih;refine⟨.int E (E.wrap n),?_,.int _ _⟩;simp[execOp,J,I,convert,underlying,hs,hd,Conv.intToInt]
def F0u{src dst:TypeId}(E:o.op=.convert src dst x){s:A2}
  (hs:P.underlying src=some .string)(hd:P.underlying dst=some .string)(J:ρ x=.d (.str s)):C1 P o ρ bx (.d (.str s)) bx [] :=
 .E3 λ_ _ w _ a _ O=>by have I:=(O x (mo E (by grind[Op.operands])));rw[J]at I;have L:=I.Vb.1;refine⟨.string (mkStr s),?_,by grind⟩;simp[execOp,E,L,convert,underlying,hs,hd]
def C4z{i:Nat}(I:o.op=.extract x i){xs:List SV}{r:SV}(L:ρ x=.tuple xs)(hr:xs[i]?=some r):C1 P o ρ bx r bx [] :=.E3 λ_ _ w _ a _ U=>by
  have E:=(U x (mo I (by grind[Op.operands])));rw[L]at E;generalize O:a.eval x=v at E;cases E with
  |tuple _ vs V h =>
   have J:i<vs.length:=by have:=(Aw.1 hr).1;omega
   refine⟨vs[i],?_,h i r _ hr (Br J)⟩;simp[execOp,I,O,Instr.extract,J]
def G8s{t:TypeId}(I:o.op=.makeInterface t x){y:D}(L:ρ x=.d y){E:TypeDesc}(ht:P.underlying t=some E)
  (U:(match E with| .interface _=>false|_=>true)=true):C1 P o ρ bx (.d (.iface t y)) bx [] :=
 .E3 λ_ _ w _ a _ O=>by have J:=(O x (mC I));rw[L]at J;refine⟨.iface t (a.eval x),?_,.d _ _ (.iface t y _ J.Gq)⟩;cases E <;> simp at U <;> simp[execOp,I,Instr.makeInterface,underlying,ht]
def F8d{ds:List D}{v:Value}(h:An S w β (.agg (ds.map SV.d)) v):C0 S w (.agg ds) v:=by
 generalize J:ds.map SV.d=cs at h;cases h with
 |agg _ vs O E L =>
  subst J;refine .agg ds vs (by grind) ?_ ?_;intro d hd;have:=E (.d d) (Au.2 ⟨d,hd,rfl⟩);simpa [SV.one]using this;intro j d v hd I;exact(L j (.d d) v (by grind) I).Gq
def E3m{ds:List D}{v:Value}(h:C0 S w (.agg ds) v):An S w β (.agg (ds.map SV.d)) v:=by
 cases h with
 |agg _ vs O J L =>
  refine .agg _ vs (by grind) ?_ ?_;intro c E;obtain⟨d,hd,rfl⟩:=Au.1 E;exact J d hd
  .intro j c v E I;obtain⟨d,hd,rfl⟩:=by simpa using E
   exact .d _ _ (L j d v hd I)
def F2y{t:TypeId}(I:o.op=.makeInterface t x){L:List D}(O:ρ x=.agg (L.map SV.d)){E:TypeDesc}(ht:P.underlying t=some E)
  (V:(match E with| .interface _=>false|_=>true)=true):C1 P o ρ bx (.d (.iface t (.agg L))) bx [] :=
 .E3 λ_ _ w _ a _ U=>by have J:=(U x (mC I));rw[O]at J;refine⟨.iface t (a.eval x),?_,.d _ _ (.iface t _ _ (F8d J))⟩;cases E <;> simp at V <;> simp[execOp,I,Instr.makeInterface,underlying,ht]
end Go.Abs
namespace Go.Abs
open Go
variable {P:Program} {o:Oper} {ρ:Kf} {bx:Aa}
def D2(P:Program)(T:TypeId):Option Bool:=(P.underlying T).map λd=>match d with| .struct _| .array _ _=>true|_=>false
def C4(P:Program)(T:TypeId):Option Nat:=(P.info? T).map (·.size)
def Cm(P:Program)(T:TypeId)(f:Nat):Option Nat :=match P.underlying T with
 |some (.struct fs)=>match fs[f]? with
  |some fd=>match P.info? fd.type with
   |some i=>if i.size=0 then none else some fd.offset
   |none=>none
  |none=>none
 |_=>none
def Ec(P:Program)(T:TypeId):Option TypeId :=match P.underlying T with
 |some (.slice e)=>some e
 |_=>none
def B6v{T:TypeId}{b:Bool}(h:D2 P T=some b)(w:World):(isAgg T).run P w=.ok b w:=by
 unfold D2 at h;cases E:P.underlying T with
 |none=>grind
 |some d =>simp only[E,Ef,B0]at h;subst h;simp only[isAgg,underlying,Ii,run_program,Hm,E,L8];cases d <;> rfl
def Qn{T:TypeId}{n:Nat}(h:C4 P T=some n)(w:World):(sizeOf T).run P w=.ok n w:=by
 unfold C4 at h;cases E:P.info? T with
 |none=>grind
 |some d =>simp only[E,Ef,B0]at h;subst h;simp[sizeOf,typeInfo,E]
theorem Yi(b off n:Nat):(⟨b,off,none⟩:Addr).add n=⟨b,off+n,none⟩:=by grind[Addr.add]
def C2s{T f off b p:Nat}(h:Cm P T f=some off)(w:World):(Instr.fieldAt T (.pointer (some ⟨b,p,none⟩)) f).run P w=.ok (.pointer (some ⟨b,p+off,none⟩)) w:=by
 unfold Cm at h;cases E:P.underlying T with
 |none=>grind
 |some d =>
  rw[E]at h;cases d <;> simp only[reduceCtorEq]at h;rename_i fs;cases I:fs[f]? with
  |none=>grind
  |some fd =>
   simp only[I]at h;cases J:P.info? fd.type with
   |none=>grind
   |some i =>simp only[J]at h;split at h;grind;rename_i hs;simp only[B0]at h;subst h;simp[Instr.fieldAt,underlying,E,I,Instr.sureAddr,fieldPlace,sizeOf,typeInfo,J,hs,Yi]
variable {w:World}
def B9f{T b p:Nat}{v:Value}(hT:D2 P T=some false)(E:w.cell? ⟨b,p,none⟩=some v) :(Instr.loadAt T (.pointer (some ⟨b,p,none⟩))).run P w=.ok v w:=by simp[Instr.loadAt,Instr.sureAddr,loadVar,B6v hT,E]
variable {vs:List Value}
def C1o{T b p n:Nat}(hT:D2 P T=some true)(hs:C4 P T=some n)(E:vs.length=n)
  (J:∀(j:Nat) (v:Value),vs[j]?=some v->w.cell? ⟨b,p+j,none⟩=some v) :
  (Instr.loadAt T (.pointer (some ⟨b,p,none⟩))).run P w=.ok (.agg ⟨vs⟩) w:=by have h:=run_loadCells_list (P:=P) w ⟨b,p,none⟩ vs (λj v I=>by rw[Yi];grind);subst E;simp[Instr.loadAt,Instr.sureAddr,loadVar,B6v hT,Qn hs,h]
theorem cells_of_row{b:Nat}{ty:TypeId}{E:Nat × Nat}(h:w.heap[b]?=some (.cells ⟨vs⟩ ty E))(p:Nat):w.cell? ⟨b,p,none⟩=vs[p]?:=by rw[cell_of_row w b p ⟨vs⟩ ty E h];simp
variable {S:Nat->Prop} {β:Names}
def An.A8e{k off:Nat}{v:Value}(h:An S w β (.box k off) v):∃b,(β k).base=some b/\v=.pointer (some ⟨b,off,none⟩):=by cases h with|box k off b h=>grind
def part(cs:List SV)(off n:Nat):List SV:=(cs.drop off).take n
def A5p(cs:List D)(off n:Nat):List D:=(cs.drop off).take n
variable {x:Operand}
def G6v{T:TypeId}(V:o.op=.load T x){k off:Nat}{cs:List SV}{c:SV}(W:ρ x=.box k off)(Z:(k,Aq.cells cs)∈bx)
  (hT:D2 P T=some false)(hc:cs[off]?=some c):C1 P o ρ bx c bx [] :=
 .E3 λ_ _ w β a hi ha=>by
  have U:=(ha x (mo V (by grind[Op.operands])));rw[W]at U;obtain⟨b,I,hv⟩:=U.A8e;obtain⟨b',ty,vs,L,hh,hr⟩:=hi.box k _ Z;rw[I]at L;cases L;obtain⟨v,O,J⟩:=hr.get hc;refine⟨v,?_,J⟩;have E:w.cell? ⟨b,off,none⟩=some v:=by rw[cells_of_row hh];exact O
  simp[execOp,V,hv,B9f hT E]
def An.B4v{cs:List SV}(h:Bz S w β cs vs)(E:cs.all SV.one=true):An S w β (.agg cs) (.agg ⟨vs⟩) :=.agg cs vs h.1 (λc I=>Dr.1 E c I) h.2
def Bz.part{cs:List SV}(h:Bz S w β cs vs)(off n:Nat):Bz S w β (part cs off n) ((vs.drop off).take n):=by refine⟨by simp[Abs.part,h.1],?_⟩;intro j c v I E;simp only[Abs.part,Ak4,Vw]at I E;split at I;rw[A6 (by omega)]at E;exact h.2 _ c v I E;grind
def C4p{T:TypeId}(O:o.op=.load T x){k off n:Nat}{cs:List SV}(U:ρ x=.box k off)(V:(k,Aq.cells cs)∈bx)
  (hT:D2 P T=some true)(hs:C4 P T=some n)(hl:off+n<=cs.length)(Z:(part cs off n).all SV.one=true):C1 P o ρ bx (.agg (part cs off n)) bx [] :=
 .E3 λ_ _ w β a hi ha=>by
  have I:=(ha x (mo O (by grind[Op.operands])));rw[U]at I;obtain⟨b,E,W⟩:=I.A8e;obtain⟨b',ty,vs,L,hh,hr⟩:=hi.box k _ V;rw[E]at L;cases L;refine⟨.agg ⟨(vs.drop off).take n⟩,?_,An.B4v (hr.part off n) Z⟩;have:=hr.1;have J:=C1o (P:=P) (w:=w) (b:=b) (p:=off) (vs:=(vs.drop off).take n) hT hs (by grind) (by grind[cells_of_row])
  simp[execOp,O,W,J]
structure B4f(S:Nat->Prop)(w:World)(cells:List D)(off:Nat)(v:Value)(b base:Nat):Prop where
 v:v=.pointer (some ⟨b,base+off,none⟩)
 inS:S b
 one:∀d,d∈cells->d.one=true
 there:∀j,j<cells.length->∃v,w.cell? ⟨b,base+j,none⟩=some v
 rep:∀(j:Nat) (d:D) (v:Value),cells[j]?=some d->w.cell? ⟨b,base+j,none⟩=some v->C0 S w d v
def An.B9z{cells:List D}{off:Nat}{v:Value}(h:An S w β (.Aj cells off) v):∃b base,B4f S w cells off v b base:=by cases h with|Aj cells off b base E J L I=>exact⟨b,base,rfl,E,J,L,I⟩
def An.E5t{cells:List D}{v:Value}(h:An S w β (.d (.ptr cells)) v):∃b base,B4f S w cells 0 v b base:=by
 cases h with
 |d _ _ h=>cases h with|ptr cells b base E J L I=>exact⟨b,base,by simp,E,J,L,I⟩
def B4f.Aj{cells:List D}{off E:Nat}{v:Value}{b base:Nat}(h:B4f S w cells off v b base):An S w β (.Aj cells E) (.pointer (some ⟨b,base+E,none⟩)) :=.Aj cells E b base h.inS h.one h.there h.rep
inductive B4q:SV->List D->Nat->Prop where
 |Aj (cells:List D) (off:Nat):B4q (.Aj cells off) cells off
 |ptr (cells:List D):B4q (.d (.ptr cells)) cells 0
def An.D6m{x:SV}{cells:List D}{off:Nat}{v:Value}(h:An S w β x v)(E:B4q x cells off):∃b base,B4f S w cells off v b base:=by
 cases E with
 |Aj=>exact h.B9z
 |ptr=>exact h.E5t
def D4o{T f d:Nat}(J:o.op=.fieldAddr T x f){k off:Nat}(L:ρ x=.box k off)(U:Cm P T f=some d):C1 P o ρ bx (.box k (off+d)) bx [] :=.E3 λ_ _ w β a W V=>by have I:=(V x (mo J (by grind[Op.operands])));rw[L]at I;obtain⟨b,E,O⟩:=I.A8e;exact⟨.pointer (some ⟨b,off+d,none⟩),by simp[execOp,J,O,C2s U],.box _ _ _ E⟩
def E2i{T f d:Nat}(E:o.op=.fieldAddr T x f){cells:List D}{off:Nat}(J:B4q (ρ x) cells off)(L:Cm P T f=some d) :C1 P o ρ bx (.Aj cells (off+d)) bx [] :=.E3 λ_ _ w β a U O=>by obtain⟨b,base,I⟩:=((O x (mo E (by grind[Op.operands])))).D6m J;exact⟨.pointer (some ⟨b,base+(off+d),none⟩),by simp[execOp,E,I.v,C2s L,Xo],I.Aj⟩
def G5r{T f d:Nat}(J:o.op=.fieldAddr T x f){k i off:Nat}(L:ρ x=.Ee k i off)(U:Cm P T f=some d):C1 P o ρ bx (.Ee k i (off+d)) bx [] :=.E3 λ_ _ w β a W V=>by
  have E:=(V x (mo J (by grind[Op.operands])));rw[L]at E;generalize O:a.eval x=v at E;cases E with
  |Ee k i off b I =>exact⟨.pointer (some ⟨b,((β k).off+i)*(β k).sz+(off+d),none⟩),by simp[execOp,J,O,C2s U,Xo],.Ee _ _ _ _ I⟩
def D0o{T e n:Nat}{b p len cap:Nat}{i:Int}{k:IntKind}(hT:Ec P T=some e)(hs:C4 P e=some n)(I:0<=i)(J:i<len)(w:World) :(Instr.indexAt T (.slice (some ⟨b,p,none⟩) len cap) (.int k i)).run P w=.ok (.pointer (some ⟨b,p+i.toNat*n,none⟩)) w:=by
 unfold Ec at hT;cases E:P.underlying T with
 |none=>grind
 |some d =>rw[E]at hT;cases d <;> simp only[reduceCtorEq,B0]at hT;subst hT;simp[Instr.indexAt,asIntOf,underlying,E,I,J,Qn hs,Yi]
def F9v{T e n:Nat}{x y:Operand}(O:o.op=.indexAddr T x y){rows:List (List D)}{k:IntKind}{i:Int}{row:List D}(Z:ρ x=.d (.slice rows))(hy:ρ y=.d (.int k i))
  (hT:Ec P T=some e)(hs:C4 P e=some n)(h0:0<=i)(hr:rows[i.toNat]?=some row)(hn:row.length=n):C1 P o ρ bx (.Aj row 0) bx [] :=
 .E3 λ_ S w β a hi V=>by
  have E:=(V x (mo O (by grind[Op.operands])));rw[Z]at E;have I:=(V y (mo O (by grind[Op.operands])));rw[hy]at I;have I:=I.Ih;have W:=(Aw.1 hr).1;have J:=Bm hr;generalize hv:a.eval x=v at E;cases E with
  |d _ _ E =>
   cases E with
   |Lw=>grind
   |slice _ b off cap sz hS h1 h2 h3 L h4 h5 =>
    have U:sz=n:=by rw[<-hn];exact(h3 row J).symm
    subst U;refine⟨.pointer (some ⟨b,(off+i.toNat*sz)+0,none⟩),?_,.Aj row 0 b (off+i.toNat*sz) hS (L row J) ?_ ?_⟩
    .simp[execOp,O,hv,I,D0o hT hs h0 (show i<(rows.length:Int) by omega)]
    .grind
    grind
def H0s{T e n:Nat}{x y:Operand}(O:o.op=.indexAddr T x y){q:Nat}{sz:Nat}{rows:List (List D)}{k:IntKind}{i:Int}(W:ρ x=.acc q)(hb:(q,Aq.rows sz rows)∈bx)
  (Z:ρ y=.d (.int k i))(hT:Ec P T=some e)(hs:C4 P e=some n)(U:sz=n)(h0:0<=i)(h1:i.toNat<rows.length):C1 P o ρ bx (.Ee q i.toNat 0) bx [] :=
 .E3 λ_ S w β a hi V=>by
  have J:=(V x (mo O (by grind[Op.operands])));rw[W]at J;have I:=(V y (mo O (by grind[Op.operands])));rw[Z]at I;have I:=I.Ih;generalize L:a.eval x=v at J;obtain⟨g1,g2,g3,g4,g5,g6,g7⟩:=hi.box q _ hb;cases J with
  |acc q =>
   cases E:(β q).base with
   |none=>grind
   |some b =>subst U;refine⟨.pointer (some ⟨b,((β q).off+i.toNat)*(β q).sz+0,none⟩),?_,.Ee q i.toNat 0 b E⟩;rw[E]at L;simp only[Ef]at L;simp[execOp,O,L,I,D0o hT hs h0 (show i<(((β q).len:Nat):Int) by omega),g1,Io]
def H1a{T:Nat}{x y:Operand}(L:o.op=.index T x y){s:A2}{k:IntKind}{i:Int}{c:UInt8}(U:ρ x=.d (.str s))(Z:ρ y=.d (.int k i))
  (hT:P.underlying T=some .string)(h0:0<=i)(hr:s[i.toNat]?=some c):C1 P o ρ bx (.d (.int .u8 c.toNat)) bx [] :=
 .E3 λ_ S w β a hi O=>by
  have I:=(O x (mo L (by grind[Op.operands])));rw[U]at I;have I:=I.Vb.1;have E:=(O y (mo L (by grind[Op.operands])));rw[Z]at E;have E:=E.Ih;refine⟨.int .u8 c.toNat,?_,.int _ _⟩;have V:(mkStr s)[i.toNat]?=some c:=by
   obtain⟨W,h2⟩:=Aw.1 hr;have J:i.toNat<(mkStr s).size:=W;rw[getElem?_pos (mkStr s) i.toNat J]
   congr 1
  simp[execOp,L,I,E,Instr.index,asIntOf,underlying,hT,h0,V]
def G2i{T f d n:Nat}(L:o.op=.field T x f){cs:List SV}{I:TypeId}(O:ρ x=.agg cs){fs:Array Field}{fd:Field}
  (hT:P.underlying T=some (.struct fs))(W:fs[f]?=some fd)(hd:fd.offset=d)(J:fd.type=I)(ha:D2 P I=some true)(hs:C4 P I=some n):C1 P o ρ bx (.agg (part cs d n)) bx [] :=
 .E3 λ_ S w β a hi h=>by
  have E:=h x (mC L);rw[O]at E;generalize U:a.eval x=v at E;cases E with
  |agg _ vs hl V h2 =>
   subst hd J;refine⟨.agg ⟨(vs.drop fd.offset).take n⟩,?_,An.B4v (Bz.part ⟨hl,h2⟩ _ _) ?_⟩
   .have he:(Array.mk vs).extract fd.offset (fd.offset+n)=⟨(vs.drop fd.offset).take n⟩:=by
     apply Lk;simp
    simp[execOp,L,U,Instr.field,underlying,hT,W,Go.part,B6v ha,Qn hs,asAgg,he]
   .rw[Dr];intro c Z;exact V c (Aj6 (Mt Z))
def G8t{T f d:Nat}(J:o.op=.field T x f){cs:List SV}{O:TypeId}{c:SV}(V:ρ x=.agg cs){fs:Array Field}{fd:Field}
  (hT:P.underlying T=some (.struct fs))(Z:fs[f]?=some fd)(hd:fd.offset=d)(I:fd.type=O)(ha:D2 P O=some false)(L:cs[d]?=some c):C1 P o ρ bx c bx [] :=
 .E3 λ_ S w β a hi h=>by
  have E:=h x (mC J);rw[V]at E;generalize W:a.eval x=v at E;cases E with
  |agg _ vs hl h1 h2 =>
   subst hd I;have U:fd.offset<vs.length:=by have:=(Aw.1 L).1;omega
   refine⟨vs[fd.offset],?_,h2 _ c _ L (Br U)⟩;simp[execOp,J,W,Instr.field,underlying,hT,Z,Go.part,B6v ha,asAgg,U]
def F3b(J:o.op=.nilCheck x){k off:Nat}(L:ρ x=.box k off):C1 P o ρ bx (.box k off) bx [] :=.E3 λ_ _ w β a V U=>by have E:=(U x (mo J (by grind[Op.operands])));rw[L]at E;obtain⟨b,I,O⟩:=E.A8e;exact⟨a.eval x,by simp[execOp,J,O],E⟩
def E4i(E:o.op=.nilCheck x){cells:List D}{off:Nat}(J:B4q (ρ x) cells off):C1 P o ρ bx (ρ x) bx [] :=.E3 λ_ _ w β a O I=>by obtain⟨b,base,L⟩:=((I x (mo E (by grind[Op.operands])))).D6m J;exact⟨a.eval x,by simp[execOp,E,L.v],(I x (mo E (by grind[Op.operands])))⟩
def run_len_slice{T:TypeId}{e:TypeId}(hT:Ec P T=some e)(a:Option Addr)(n c:Nat)(ty:TypeId)(w:World):(Builtin.len_ #[T] ty #[.slice a n c]).run P w=.ok (.int .i64 n) w:=by
 unfold Ec at hT;cases E:P.underlying T with
 |none=>grind
 |some d =>rw[E]at hT;cases d <;> simp only[reduceCtorEq,B0]at hT;simp[Builtin.len_,underlying,E,goInt]
def H1f{T e:Nat}(I:o.op=.call { callee:=.builtin .len,args:=#[x],argTypes:=#[T] }){rows:List (List D)}(J:ρ x=.d (.slice rows))(hT:Ec P T=some e) :C1 P o ρ bx (.d (.int .i64 rows.length)) bx [] :=.E3 λ_ _ w β a U O=>by
  have E:=(O x (mC I));rw[J]at E;generalize L:a.eval x=v at E;refine⟨.int .i64 rows.length,?_,.int _ _⟩;cases E with
  |d _ _ E =>cases E <;> simp[execOp,I,resolve,invoke,builtin,L,run_len_slice hT]
def D6b{T e:Nat}(I:o.op=.call { callee:=.builtin .len,args:=#[x],argTypes:=#[T] })(hx:ρ x=.d .nil\/ρ x=.d .emp)(hT:Ec P T=some e) :C1 P o ρ bx (.d (.int .i64 0)) bx [] :=.E3 λ_ _ w β a O L=>by
  have E:=(L x (mC I));generalize J:a.eval x=v at E;refine⟨.int .i64 0,?_,.int _ _⟩;rcases hx with hx|hx <;> rw[hx]at E <;> cases E with
  |d _ _ E=>cases E;simp[execOp,I,resolve,invoke,builtin,J,run_len_slice hT]
def F2g{T e:Nat}(I:o.op=.call { callee:=.builtin .len,args:=#[x],argTypes:=#[T] }){q sz:Nat}{rows:List (List D)}(J:ρ x=.acc q)(L:(q,Aq.rows sz rows)∈bx)(hT:Ec P T=some e) :C1 P o ρ bx (.d (.int .i64 rows.length)) bx [] :=.E3 λ_ _ w β a W V=>by
  have E:=(V x (mC I));rw[J]at E;generalize O:a.eval x=v at E;obtain⟨Z,U,_⟩:=W.box q _ L;refine⟨.int .i64 rows.length,?_,.int _ _⟩;cases E with
  |acc q=>simp[execOp,I,resolve,invoke,builtin,O,run_len_slice hT,U]
def E9x{T:Nat}(I:o.op=.call { callee:=.builtin .len,args:=#[x],argTypes:=#[T] }){s:A2}(J:ρ x=.d (.str s))(hT:P.underlying T=some .string) :C1 P o ρ bx (.d (.int .i64 s.length)) bx [] :=.E3 λ_ _ w β a U O=>by have E:=(O x (mC I));rw[J]at E;have L:=E.Vb.1;refine⟨.int .i64 s.length,?_,.int _ _⟩;simp[execOp,I,resolve,invoke,builtin,L,Builtin.len_,underlying,hT,goInt,B6o]
def Wc(op:BinOp)(E:Bool):Option Bool :=match op with
 |.eql=>some E
 |.neq=>some (!E)
 |_=>none
def Qa:SV->Option Bool
 |.d .Lb=>some true
 |.d (.ptr _)| .Aj _ _| .box _ _| .Ee _ _ _=>some false
 |_=>none
theorem An.Qa{x:SV}{v:Value}(h:An S w β x v){b:Bool}(E:Qa x=some b):∃p,v=.pointer p/\p.isNone=b:=by
 cases h with
 |d _ _ h=>cases h <;> simp[Abs.Qa]at E <;> subst E <;> simp
 |box _ _ _ _=>grind[Abs.Qa]
 |Aj _ _ _ _ _ _ _=>grind[Abs.Qa]
 |Ee _ _ _ _ _=>grind[Abs.Qa]
 |_=>simp[Abs.Qa]at E
variable {op:BinOp}
def E3g{t u:TypeId}{x y:Operand}(J:o.op=.binOp op t x y u){b r:Bool}(ht:(P.underlying t).any (λd=>match d with| .pointer _=>true|_=>false)=true)
  (V:Qa (ρ x)=some b)(W:ρ y=.d .Lb)(I:Wc op b=some r):C1 P o ρ bx (.d (.bool r)) bx [] :=
 .E3 λ_ _ w _ a _ O=>by
  obtain⟨p,hp,Z⟩:=((O x (mC J))).Qa V;have E:=(O y (mC J));rw[W]at E;have E:a.eval y=.pointer none:=by generalize a.eval y=z at E;cases E with|d _ _ h=>cases h;rfl
  refine⟨.bool r,?_,.bool r⟩;cases U:P.underlying t with
  |none=>grind
  |some d =>
   cases d <;> simp[U]at ht;rename_i e;have L:(Op.equal t (.pointer p) (.pointer none)).run P w=.ok b w:=by unfold Op.equal Op.maxDepth Op.equalIn;cases p <;> simp[underlying,U]at* <;> omega <;> rfl
   simp only[execOp,J,Ii,Sem.run_map,hp,E,G2j,Hm];cases op <;> first
    |(simp only[Wc,reduceCtorEq]at I;done)
    |(simp only[Wc,B0]at I;subst I;simp[binOp,L])
def D1v:SV->Option Bool
 |.d .Kc=>some true
 |.d (.iface _ _)=>some false
 |_=>none
def B0b:Operand->Bool
 |.const .nilIface=>true
 |_=>false
def B9p{t u:TypeId}{x y:Operand}(V:o.op=.binOp op t x y u){b r:Bool}(ht:(P.underlying t).any (λd=>match d with| .interface _=>true|_=>false)=true)
  (E:D1v (ρ x)=some b)(hy:ρ y=.d .Kc)(W:B0b y=true)(J:Wc op b=some r):C1 P o ρ bx (.d (.bool r)) bx [] :=
 .E3 λ_ _ w _ a _ ha=>by
  have O:=ha x (mC V);have Z:y=.const .nilIface:=by
   unfold B0b at W;split at W
   .rfl
   .simp at W
  subst Z;have h2:a.eval (.const .nilIface)=.nilIface:=rfl;refine⟨.bool r,?_,.bool r⟩;cases U:P.underlying t with
  |none=>simp[U]at ht
  |some d =>
   cases d <;> simp[U]at ht;rename_i e;generalize ρ x=rx at E O;generalize L:a.eval x=vx at O;have key:(vx=.nilIface/\b=true)\/∃T z,vx=.iface T z/\b=false:=by
    unfold D1v at E;split at E
    .simp only[B0]at E;have:=O.Gq;cases this;exact .inl ⟨rfl,E.symm⟩
    .simp only[B0]at E;have:=O.Gq;cases this;exact .inr ⟨_,_,rfl,E.symm⟩
    .simp at E
   rcases key with⟨rfl,rfl⟩|⟨T,z,rfl,rfl⟩
   .have I:(Op.equal t .nilIface .nilIface).run P w=.ok true w:=by
     unfold Op.equal Op.maxDepth Op.equalIn;simp[underlying,U]
    cases op <;> first
     |(simp only[Wc,reduceCtorEq]at J;done)
     |(simp only[Wc,B0]at J;subst J;simp[execOp,V,L,h2,eqGuard,binOp,I])
   .have I:(Op.equal t (.iface T z) .nilIface).run P w=.ok false w:=by
     unfold Op.equal Op.maxDepth Op.equalIn;simp[underlying,U]
    cases op <;> first
     |(simp only[Wc,reduceCtorEq]at J;done)
     |(simp only[Wc,B0]at J;subst J;simp[execOp,V,L,h2,eqGuard,binOp,I])
def Qi:SV->Option Bool
 |.d .nil=>some true
 |.d .emp=>some false
 |.d (.slice (_::_))=>some false
 |_=>none
theorem An.Qi{x:SV}{v:Value}(h:An S w β x v){b:Bool}(E:Qi x=some b):∃p l c,v=.slice p l c/\p.isNone=b:=by
 cases h with
 |d _ _ h =>
  cases h with
  |nil=>grind[Abs.Qi]
  |emp=>grind[Abs.Qi]
  |Lw=>simp[Abs.Qi]at E
  |slice rows=>cases rows <;> simp[Abs.Qi]at E;grind
  |_=>simp[Abs.Qi]at E
 |_=>simp[Abs.Qi]at E
def C9j{t u:TypeId}{x y:Operand}(J:o.op=.binOp op t x y u){e:Nat}{b r:Bool}(ht:Ec P t=some e)
  (V:Qi (ρ x)=some b)(W:ρ y=.d .nil)(I:Wc op b=some r):C1 P o ρ bx (.d (.bool r)) bx [] :=
 .E3 λ_ _ w _ a _ O=>by
  obtain⟨p,l,c,hp,Z⟩:=((O x (mo J (by grind[Op.operands])))).Qi V;have E:=(O y (mo J (by grind[Op.operands])));rw[W]at E;have E:a.eval y=.slice none 0 0:=by generalize a.eval y=z at E;cases E with|d _ _ h=>cases h;rfl
  refine⟨.bool r,?_,.bool r⟩;unfold Ec at ht;cases U:P.underlying t with
  |none=>grind
  |some d =>
   rw[U]at ht;cases d <;> simp only[reduceCtorEq,B0]at ht;rename_i e;have L:(Op.equal t (.slice p l c) (.slice none 0 0)).run P w=.ok b w:=by unfold Op.equal Op.maxDepth Op.equalIn;cases p <;> simp[underlying,U]at* <;> omega <;> rfl
   simp only[execOp,J,Ii,Sem.run_map,hp,E,E8g,Hm];cases op <;> first
    |(simp only[Wc,reduceCtorEq]at I;done)
    |(simp only[Wc,B0]at I;subst I;simp[binOp,L])
end Go.Abs
namespace Go.Abs
open Go
variable {P:Program} {o:Oper} {ρ:Kf} {bx:Aa}
def C5(k:Nat):Aa->Aa
 |[]=>[]
 |(j,c)::r=>if j=k then C5 k r else(j,c)::C5 k r
variable {c:Aq}
theorem Ed{k j:Nat} :∀{bx:Aa},(j,c)∈C5 k bx↔j≠k/\(j,c)∈bx
 |[]=>by simp[C5]
 |(i,x)::r=>by simp only[C5];split;rename_i h;subst h;rw[Ed];grind;rename_i h;simp only[B5,Ew,Ed];grind
def N7(k:Nat)(x:SV):SV:=if x.has k then .undef else x
def Wr(k:Nat):SL->SL
 |[]=>[]
 |(t,x)::r=>(t,N7 k x)::Wr k r
def A8h(k:Nat):∀(sl:SL)(t:Nat),Af (Wr k sl) t=N7 k (Af sl t)
 |[],t=>by rfl
 |(u,x)::r,t=>by simp only[Wr,Af];split;rfl;exact A8h k r t
def Aq.Se(k:Nat):Aq->Aq
 |.cells cs=>.cells (cs.map (N7 k))
 |c=>c
def G7(k:Nat):Aa->Aa
 |[]=>[]
 |(j,c)::r=>(j,c.Se k)::G7 k r
def B0f{k j:Nat} :∀{bx:Aa},(j,c)∈G7 k bx->∃x,(j,x)∈bx/\c=x.Se k
 |[],h=>by simp[G7]at h
 |(i,x)::r,h=>by simp only[G7,B5,Ew]at h;rcases h with⟨E,I⟩|h;grind;obtain⟨y,L,J⟩:=B0f h;grind
def Ej(β:Names)(k:Nat)(i:BI):Names:=λj=>if j=k then i else β j
theorem Hp(β:Names)(k:Nat)(i:BI):Ej β k i k=i:=by simp[Ej]
variable {β:Names}
theorem M3{k j:Nat}{i:BI}(h:j≠k):Ej β k i j =β j:=by simp[Ej,h]
variable {k:Nat}
def An.Se{S S':Nat->Prop}{w w':World}{i:BI}{x:SV}{v:Value}(h:An S w β x v)(e:C9 S w S' w'):An S' w' (Ej β k i) (N7 k x) v:=by unfold N7;split;exact .undef v;rename_i E;refine h.ext e λj I=>M3 ?_;grind
def Dj.Se{S S':Nat->Prop}{w w':World}{i I:BI}(h:Dj S w β I c)(e:C9 S w S' w')
  (E:∀b,I.base=some b->w'.heap[b]?=w.heap[b]?):Dj S' w' (Ej β k i) I (c.Se k):=by
 cases c with
 |cells cs =>obtain⟨b,ty,vs,J,V,U⟩:=h;refine⟨b,ty,vs,J,(E b J).trans V,U.map (by simp) ?_⟩;intro j x y v O L hr;simp only[Db,O,Ef,B0]at L;subst L;exact hr.Se e
 |rows sz rs=>exact Dj.ext (c:=.rows sz rs) h e E (by simp[Aq.has])
 |map kvs=>exact Dj.ext (c:=.map kvs) h e E (by simp[Aq.has])
 |iter kvs seen=>exact Dj.ext (c:=.iter kvs seen) h e E (by simp[Aq.has])
 |ghost Y st=>exact h
variable {C:Ctx} {S:Nat->Prop}
def Inv.B4w{w w':World}{k b:Nat}{x c:Aq}(h:Inv C S w β bx)(V:(k,x)∈bx)(hb:(β k).base=some b)
  (hw:∀I,I≠b->w'.heap[I]?=w.heap[I]?)(a0:w'.os=w.os)(O:w'.tape=w.tape)(W:w'.output=w.output)(Np:w'.heap.size=w.heap.size)
  (hc:Dj S w' β (β k) c)(a2:c.real=true:=by rfl):Inv C S w' β ((k,c)::C5 k bx)/\C9 S w S w':=by have e:C9 S w S w':=⟨λ_ h=>h,λI E=>hw I λZ=>(h.Bh k x V b hb).1 (Z ▸ E)⟩;refine⟨h.step e (λI E=>.inl E) (λI E=>by rw[Np];exact h.C3 I E) (λI _ hn=>hw I λZ=>hn k x V (by grind)) a0 O W (by omega) ?_ ?_ (λ_ _=>rfl) ?_,e⟩;intro j d hj;simp only[B5,Ew]at hj;rcases hj with⟨rfl,rfl⟩|hj;refine⟨hc,λI E=>?_⟩;obtain⟨h1,h2,_⟩:=h.Bh _ x V I E;grind;obtain⟨J,hj⟩:=Ed.1 hj;refine⟨(h.box j d hj).ext e (λI E=>hw I λZ=>J (h.inj j d k x hj V I E (by grind)).1) (λ_ _=>rfl),λI E=>?_⟩;obtain⟨h1,h2,_⟩:=h.Bh j d hj I E;grind;intro j d j' d' hj hj' I L U;simp only[B5,Ew]at hj hj';rcases hj with⟨rfl,rfl⟩|hj;rcases hj' with⟨rfl,rfl⟩|hj';simp;obtain⟨J,hj'⟩:=Ed.1 hj';exact absurd (h.inj j' d' _ x hj' V I U L).1 J;obtain⟨J,g⟩:=Ed.1 hj;clear hj;rcases hj' with⟨rfl,rfl⟩|hj';exact absurd (h.inj j d _ x g V I L U).1 J;obtain⟨a1,g'⟩:=Ed.1 hj';exact h.inj j d j' d' g g' I L U;grind[Aq.real,Ed]
def Inv.D2x{S S':Nat->Prop}{w w':World}(i:BI)(h:Inv C S w β bx)(a':k<=999999)
  (Z:∀b,S b->S' b)(a0:∀b,S' b->S b\/w.heap.size<=b)(a6:∀b,S' b->b<w'.heap.size)
  (hi:∀b,i.base=some b->¬S' b/\b<w'.heap.size/\(w.heap.size<=b\/∃x,(k,x)∈bx/\(β k).base=some b))
  (hw:∀E,E<w.heap.size->(∀x,(k,x)∈bx->(β k).base≠some E)->w'.heap[E]?=w.heap[E]?)
  (a9:w'.os=w.os)(W:w'.tape=w.tape)(a2:w'.output=w.output)(Np:w.heap.size<=w'.heap.size)
  (hc:C9 S w S' w'->Dj S' w' (Ej β k i) i c)(a5:c.real=true:=by rfl):Inv C S' w' (Ej β k i) ((k,c)::G7 k (C5 k bx))/\C9 S w S' w':=by
 have e:C9 S w S' w':=⟨Z,λE I=>hw E (h.C3 E I) λx U he=>(h.Bh k x U E he).1 I⟩;refine⟨h.step e a0 a6 (λE hb hn=>hw E hb λx U=>hn k x U) a9 W a2 Np ?_ ?_ (λj hj=>M3 (by omega)) ?_,e⟩;intro j d hj;simp only[B5,Ew]at hj;rcases hj with⟨rfl,rfl⟩|hj;rw[Hp];refine⟨hc e,λE I=>?_⟩;obtain⟨h1,h2,h3⟩:=hi E I;refine⟨h1,h2,?_⟩;rcases h3 with h3|⟨x,U,a8⟩;exact .inl h3;exact .inr ⟨_,x,U,a8⟩;obtain⟨x,V,rfl⟩:=B0f hj;obtain⟨J,g⟩:=Ed.1 V;rw[M3 J];refine⟨(h.box j x g).Se e (λE I=>hw E (h.Bh j x g E I).2.1 λy hy he=>J (h.inj j x k y g hy E I he).1),λE I=>?_⟩;obtain⟨h1,h2,_⟩:=h.Bh j x g E I;exact⟨λhs=>(a0 E hs).elim h1 (by omega),by omega,.inr ⟨_,x,g,I⟩⟩
 .have fresh:∀j x E,j≠k->(j,x)∈bx->(β j).base=some E->i.base≠some E:=by intro j x E J hj I a3;rcases(hi E a3).2.2 with h3|⟨y,hy,a4⟩;have:=(h.Bh j x hj E I).2.1;omega;exact J (h.inj j x k y hj hy E I a4).1
  intro j d j' d' hj hj' E O L;simp only[B5,Ew]at hj hj';rcases hj with⟨rfl,rfl⟩|hj;rcases hj' with⟨rfl,rfl⟩|hj';exact⟨rfl,rfl⟩;obtain⟨x,V,rfl⟩:=B0f hj';obtain⟨J,g⟩:=Ed.1 V;rw[Hp]at O;rw[M3 J]at L;exact absurd O (fresh j' x E J g L);obtain⟨x,V,rfl⟩:=B0f hj;obtain⟨J,g⟩:=Ed.1 V;clear hj V;rw[M3 J]at O;rcases hj' with⟨rfl,rfl⟩|hj';rw[Hp]at L;exact absurd L (fresh j x E J g O);obtain⟨x',a7,rfl⟩:=B0f hj';obtain⟨a1,g'⟩:=Ed.1 a7;rw[M3 a1]at L;obtain⟨h1,h2⟩:=h.inj j x j' x' g g' E O L;grind
 intro j Y st hj;simp only[B5,Ew]at hj;rcases hj with⟨rfl,rfl⟩|hj;simp[Aq.real]at a5;obtain⟨x,V,U⟩:=B0f hj;cases x <;> simp only[Aq.Se,reduceCtorEq]at U;grind[Ed]
def Inv.Wg{w w':World}(i:BI)(h:Inv C S w β bx)(U:k<=999999)
  (hi:∀b,i.base=some b->¬S b/\b<w'.heap.size/\(w.heap.size<=b\/∃x,(k,x)∈bx/\(β k).base=some b))
  (Z:∀J,J<w.heap.size->(∀x,(k,x)∈bx->(β k).base≠some J)->w'.heap[J]?=w.heap[J]?)
  (O:w'.os=w.os)(E:w'.tape=w.tape)(I:w'.output=w.output)(Np:w.heap.size<=w'.heap.size)
  (W:C9 S w S w'->Dj S w' (Ej β k i) i c)(L:c.real=true:=by rfl):Inv C S w' (Ej β k i) ((k,c)::G7 k (C5 k bx))/\C9 S w S w' :=
 h.D2x i U (λ_ h=>h) (λ_ h=>.inl h) (λb V=>X9 (h.C3 b V) Np) hi Z O E I Np W L
def R5:Value->SV
 |.int k n=>.d (.int k n)
 |.bool b=>.d (.bool b)
 |.string s=>if s.size<=lim then .d (.str s.data.toList)else .undef
 |.slice none 0 0=>.d .nil
 |.pointer none=>.d .Lb
 |.map none=>.d .Ly
 |.nilIface=>.d .Kc
 |.nilFunc=>.d .Lc
 |_=>.undef
def A3z:List SV->List SV->SV
 |[],l=>.agg l
 |c::r,l=>match c.one with
  |true=>A3z r l
  |false=>.undef
def Kw:Value->SV
 |.int k n=>.d (.int k n)
 |.bool b=>.d (.bool b)
 |.string s=>if s.size<=lim then .d (.str s.data.toList)else .undef
 |.slice none 0 0=>.d .nil
 |.pointer none=>.d .Lb
 |.map none=>.d .Ly
 |.nilIface=>.d .Kc
 |.nilFunc=>.d .Lc
 |.tuple ⟨[]⟩=>.tuple []
 |.agg cells=>A3z (cells.toList.map R5) (cells.toList.map R5)
 |_=>.undef
theorem F0d(S:Nat->Prop)(w:World)(β:Names)(v:Value):An S w β (R5 v) v:=by unfold R5;split;exact .int _ _;exact .bool _;rename_i s;split;exact .d _ _ (.str s.data.toList (by assumption));exact .undef _;exact .d _ _ .nil;exact .d _ _ .Lb;exact .d _ _ .Ly;exact .d _ _ .Kc;exact .d _ _ .Lc;exact .undef _
def E4y:∀cs l:List SV,A3z cs l=.undef\/(A3z cs l=.agg l/\∀c,c∈cs->c.one=true)
 |[],l=>.inr ⟨rfl,by simp⟩
 |c::r,l=>by
  rw[A3z];cases I:c.one with
  |false=>simp
  |true =>rcases E4y r l with h|⟨h,E⟩;grind;grind
theorem B3e(S:Nat->Prop)(w:World)(β:Names)(v:Value):An S w β (Kw v) v:=by unfold Kw;split;exact .int _ _;exact .bool _;rename_i s;split;exact .d _ _ (.str s.data.toList (by assumption));exact .undef _;exact .d _ _ .nil;exact .d _ _ .Lb;exact .d _ _ .Ly;exact .d _ _ .Kc;exact .d _ _ .Lc;exact .tuple [] [] rfl (by simp);rename_i cells;rcases E4y (cells.toList.map R5) (cells.toList.map R5)with h|⟨h,E⟩;rw[h];exact .undef _;rw[h];obtain⟨vs⟩:=cells;refine .agg _ vs (by simp) E λj c v J I=>?_;grind[F0d];exact .undef _
def Cz(P:Program)(T:TypeId):Option (List SV):=((P.info? T).bind (·.zero)).map λz=>z.cells.toList.map Kw
def B5u{T:TypeId}{J:List SV}(h:Cz P T=some J)(w:World):∃z,(zeroValue T).run P w=.ok z w/\J=z.cells.toList.map Kw:=by
 unfold Cz at h;cases E:P.info? T with
 |none=>grind
 |some i =>
  cases I:i.zero with
  |none=>grind
  |some z =>simp[E,I]at h;exact⟨z,by simp[zeroValue,typeInfo,E,I],h.symm⟩
def D3r(S:Nat->Prop)(w:World)(β:Names)(vs:List Value):Bz S w β (vs.map Kw) vs:=by refine⟨by simp,?_⟩;grind[B3e]
def D1d(w:World)(x:Obj){b:Nat}(h:b<w.heap.size):(w.heap.push x)[b]?=w.heap[b]?:=by grind
def C4x(w:World)(x:Obj):(w.heap.push x)[w.heap.size]?=some x:=by simp
variable {w:World} {cs:List SV} {vs:List Value}
def Inv.E5f(h:Inv C S w β bx)(I:k<=999999)(T:TypeId)(hr:Bz S w β cs vs) :Inv C S { w with heap:=w.heap.push (.cells ⟨vs⟩ T) } (Ej β k { base:=some w.heap.size }) ((k,.cells (cs.map (N7 k)))::G7 k (C5 k bx))/\C9 S w S { w with heap:=w.heap.push (.cells ⟨vs⟩ T) }:=by refine h.Wg { base:=some w.heap.size } I ?_ ?_ rfl rfl rfl (by simp) ?_;intro b J;simp only[B0]at J;subst J;exact⟨λhs=>by have:=h.C3 _ hs;omega,by simp,.inl (Bq _)⟩;grind;intro e;refine⟨w.heap.size,T,vs,rfl,C4x w _,hr.map (by simp) ?_⟩;intro j x y v O L E;simp only[Db,O,Ef,B0]at L;subst L;exact E.Se e
theorem F9p{T k:Nat}(I:k<=999999)(O:o.op=.alloc T){J:List SV}(U:Cz P T=some J) :C1 P o ρ bx (.box k 0) ((k,.cells (J.map (N7 k)))::G7 k (C5 k bx)) [k]:=by
 intro C S w β a V Z;obtain⟨z,E,rfl⟩:=B5u U w;obtain⟨L,W⟩:=V.E5f (k:=k) I T (D3r S w β z.cells.toList);refine Jk ?_;unfold Oper.wp;have:(execOp a.eval o).run P w=.ok (.value (.pointer (some ⟨w.heap.size,0,none⟩))) { w with heap:=w.heap.push (.cells ⟨z.cells.toList⟩ T) }:=by simp[execOp,O,Instr.alloc,E,newVar,newRow]
 rw[this];exact⟨_,S,_,rfl,L,W,.box k 0 _ (by rw[Hp]),λj hj=>M3 (by grind)⟩
def content:SV->Option (List SV)
 |.agg cs=>some cs
 |x=>if x.one then some [x]else none
theorem An.content{x:SV}{v:Value}(h:An S w β x v)(E:content x=some cs):Bz S w β cs v.cells.toList/\cs.all SV.one=true:=by
 cases h with
 |agg cells vs I J O =>simp only[Abs.content,B0]at E;subst E;exact⟨⟨I,O⟩,Dr.2 J⟩
 |undef v=>grind[Abs.content,SV.one]
 |tuple cells vs=>grind[Abs.content,SV.one]
 |d x v h =>
  simp only[Abs.content]at E;by_cases U:(SV.d x).one=true
  .rw[A6 U]at E;simp only[B0]at E;subst E;have I:=h.one U;have:v.cells.toList=[v]:=by cases v <;> simp[Value.oneCell']at I <;> rfl
   rw[this];exact⟨.cons (.d _ _ h) .nil,by grind⟩
  rw[A3 U]at E;simp at E
 |box k off b L=>simp only[Abs.content,SV.one,Ac,B0]at E;subst E;exact⟨.cons (.box k off b L) .nil,rfl⟩
 |Aj cells off b base I J O V=>simp only[Abs.content,SV.one,Ac,B0]at E;subst E;exact⟨.cons (.Aj cells off b base I J O V) .nil,rfl⟩
 |acc k=>simp only[Abs.content,SV.one,Ac,B0]at E;subst E;exact⟨.cons (.acc k) .nil,rfl⟩
 |Ee k i off b L=>simp only[Abs.content,SV.one,Ac,B0]at E;subst E;exact⟨.cons (.Ee k i off b L) .nil,rfl⟩
 |mp k b L=>simp only[Abs.content,SV.one,Ac,B0]at E;subst E;exact⟨.cons (.mp k b L) .nil,rfl⟩
 |Fa l=>simp only[Abs.content,SV.one,Ac,B0]at E;subst E;exact⟨.cons (.Fa l) .nil,rfl⟩
 |Fv cells off b I J O V=>simp only[Abs.content,SV.one,Ac,B0]at E;subst E;exact⟨.cons (.Fv cells off b I J O V) .nil,rfl⟩
 |Bk f caps vs I J=>simp only[Abs.content,SV.one,Ac,B0]at E;subst E;exact⟨.cons (.Bk f caps vs I J) .nil,rfl⟩
theorem F3f{T k:Nat}{x:Operand}(E:k<=999999)(I:o.op=.box T x){cs:List SV}(J:content (ρ x)=some cs) :C1 P o ρ bx (.box k 0) ((k,.cells (cs.map (N7 k)))::G7 k (C5 k bx)) [k]:=by
 intro C S w β a U O;have hr:=(((O x (mo I (by grind[Op.operands])))).content J).1;obtain⟨L,V⟩:=U.E5f (k:=k) E T hr;refine Jk ?_;unfold Oper.wp;have:(execOp a.eval o).run P w=.ok (.value (.pointer (some ⟨w.heap.size,0,none⟩))) { w with heap:=w.heap.push (.cells ⟨(a.eval x).cells.toList⟩ T) }:=by simp[execOp,I,Instr.box,newVar,newRow]
 rw[this];exact⟨_,S,_,rfl,L,V,.box k 0 _ (by rw[Hp]),λj W=>M3 (by grind)⟩
def H5{α:Type}:List α->Nat->List α->List α
 |cs,_,[]=>cs
 |cs,off,u::us=>H5 (cs.set off u) (off+1) us
theorem A6c{α:Type} :∀(us:List α)(cs:List α)(off:Nat),(H5 cs off us).length=cs.length
 |[],_,_=>rfl
 |u::us,cs,off=>by simp[H5,A6c us]
def A0e{α:Type} :∀(us:List α)(cs:List α)(off j:Nat),off+us.length<=cs.length->(H5 cs off us)[j]?=if off<=j/\j<off+us.length then us[j - off]? else cs[j]?
 |[],cs,off,j,_=>by simp only[H5,Az,Xh];grind
 |u::us,cs,off,j,h=>by simp only[Ar]at h;simp only[H5,Ar];rw[A0e us (cs.set off u) (off+1) j (by grind)];grind
theorem Bz.H5{cs us:List SV}{vs J:List Value}(h:Bz S w β cs vs)(t:Bz S w β us J){off:Nat}(L:off+us.length<=cs.length) :Bz S w β (H5 cs off us) (H5 vs off J):=by refine⟨by rw[A6c,A6c,h.1],?_⟩;intro j c v I E;rw[A0e _ _ _ _ L]at I;rw[A0e _ _ _ _ (by rw[t.1,h.1];exact L)]at E;rw[t.1]at E;split at I;rw[A6 (by omega)]at E;exact t.2 _ c v I E;rw[A3 (by omega)]at E;exact h.2 _ c v I E
def F8a{b p:Nat}{ty:TypeId}{E:Nat × Nat}{v:Value}(h:w.heap[b]?=some (.cells ⟨vs⟩ ty E)) :(w.setCell ⟨b,p,none⟩ v).heap[b]?=some (.cells ⟨vs.set p v⟩ ty E):=by simp only[World.setCell,Ao3,Ac,h,Ef,Nb,I5,Fm];simp
def B2c:∀(us vs:List Value)(b off i:Nat)(ty:TypeId)(w:World),w.heap[b]?=some (.cells ⟨vs⟩ ty (0,0))->off+i+us.length<=vs.length->us.all (·.oneCell')=true ->∃w',(storeCells ⟨b,off,none⟩ us i).run P w=.ok () w'/\w'.heap[b]?=some (.cells ⟨H5 vs (off+i) us⟩ ty (0,0))/\(∀O,O≠b->w'.heap[O]?=w.heap[O]?) /\w'.os=w.os/\w'.tape=w.tape/\w'.output=w.output/\w'.heap.size=w.heap.size
 |[],vs,b,off,i,ty,w,I,_,_=>⟨w,by rfl,I,λ_ _=>rfl,rfl,rfl,rfl,rfl⟩
 |u::us,vs,b,off,i,ty,w,I,Z,J=>by
  simp only[Ar]at Z;simp only[Rx,Bi]at J;have E:w.cell? ⟨b,off+i,none⟩=some (vs[off+i]'(by omega)):=by rw[cells_of_row I];simp
  have L:w.frozen? ⟨b,off+i,none⟩=false:=by simp[World.frozen?,I]
  have V:(store ((⟨b,off,none⟩:Addr).add i) u).run P w=Result.ok () (w.setCell ⟨b,off+i,none⟩ u):=by rw[Yi,run_store P w _ u _ J.1,E,L];simp
  obtain⟨w',hr,g1,g2,U,g4,W,g6⟩:=B2c us (vs.set (off+i) u) b off (i+1) ty (w.setCell ⟨b,off+i,none⟩ u) (F8a I) (by grind) J.2;refine⟨w',?_,?_,?_,by simpa [World.setCell]using U,by simp_all,by simpa [World.setCell]using W,by simp_all⟩
  .simp only[storeCells,Ii];simp_all
  .grind[H5]
  grind[heap_setCell_other]
theorem Bz.one(h:Bz S w β cs vs)(J:cs.all SV.one=true):vs.all (·.oneCell')=true:=by
 rw[Dr];intro v L;obtain⟨j,I⟩:=Wz.1 L;have E:j<cs.length:=by have:=(Aw.1 I).1;have:=h.1;omega
 exact(h.2 j _ v (Br E) I).one (Dr.1 J _ (Gi E))
def G7z{T k off:Nat}{x y:Operand}(ho:o.op=.store T x y){cs us:List SV}(hx:ρ x=.box k off)(hb:(k,Aq.cells cs)∈bx)(hy:content (ρ y)=some us)
  (hs:C4 P T=some us.length)(hl:off+us.length<=cs.length):C1 P o ρ bx (.tuple []) ((k,.cells (H5 cs off us))::C5 k bx) []:=by
 intro C S w β a Z ha;have L:=(ha x (mo ho (by grind[Op.operands])));rw[hx]at L;obtain⟨b,E,W⟩:=L.A8e;obtain⟨b',ty,vs,I,hh,hr⟩:=Z.box k _ hb;rw[E]at I;cases I;obtain⟨J,O⟩:=((ha y (mo ho (by grind[Op.operands])))).content hy;have V:=J.1;have a0:=hr.1;obtain⟨w',U,g1,g2,g3,g4,g5,g6⟩:=B2c (P:=P) (a.eval y).cells.toList vs b off 0 ty w hh (by omega) (J.one O);have e0:C9 S w S w':=⟨λ_ h=>h,λb' I=>g2 b' λhe=>(Z.Bh k _ hb b E).1 (he ▸ I)⟩;obtain⟨h1,h2⟩:=Z.B4w (c:=.cells (H5 cs off us)) hb E g2 g3 g4 g5 g6 (by refine⟨b,ty,_,E,by simpa using g1,?_⟩;exact⟨(hr.H5 J hl).1,λj c v hc W=>((hr.H5 J hl).2 j c v hc W).ext e0 λ_ _=>rfl⟩)
 refine Jk ?_;unfold Oper.wp;have:(execOp a.eval o).run P w=.ok .skip w':=by
  have a1:(a.eval y).cells.size=us.length:=by rw[<-V];simp
  simp[execOp,ho,Instr.storeAt,W,Instr.sureAddr,storeVar,Qn hs,a1,U]
 rw[this];exact⟨undef,S,β,rfl,h1,h2,.tuple [] [] rfl (by simp),λ_ _=>rfl⟩
theorem G4f{T k i off sz:Nat}{x y:Operand}(ho:o.op=.store T x y){rows:List (List D)}{row us:List D}(hx:ρ x=.Ee k i off)(hb:(k,Aq.rows sz rows)∈bx)
  (hr:rows[i]?=some row)(hy:content (ρ y)=some (us.map SV.d))(hs:C4 P T=some us.length)(hl:off+us.length<=row.length) :
  C1 P o ρ bx (.tuple []) ((k,.rows sz (rows.set i (H5 row off us)))::C5 k bx) []:=by
 intro C S w β a hi ha;have V:=(ha x (mo ho (by grind[Op.operands])));rw[hx]at V;obtain⟨q1,q2,q3,q4,q5,q6,q7⟩:=hi.box k _ hb;obtain⟨Z,J⟩:=((ha y (mo ho (by grind[Op.operands])))).content hy;have U:=Z.1;simp only[Bc]at U;have a2:=(Aw.1 hr).1;have a7:=q5 row (Bm hr);generalize hv:a.eval x=v at V;cases V with
 |Ee _ _ _ b E =>
  rw[E]at q7;obtain⟨ty,vs,hh,a6,L⟩:=q7;rw[q1]at hv;have a8:((β k).off+i)*sz+off+us.length<=vs.length:=by have h1:((β k).off+i+1)*sz<=((β k).off+(β k).cap)*sz:=Iv _ (by omega);rw[Io _ 1]at h1;omega
  obtain⟨w',a1,g1,g2,g3,g4,g5,g6⟩:=B2c (P:=P) (a.eval y).cells.toList vs b (((β k).off+i)*sz+off) 0 ty w hh (by omega) (Z.one J);have e0:C9 S w S w':=⟨λ_ h=>h,λb' a3=>g2 b' λhe=>(hi.Bh k _ hb b E).1 (he ▸ a3)⟩;obtain⟨h1,h2⟩:=hi.B4w (c:=.rows sz (rows.set i (H5 row off us))) hb E g2 g3 g4 g5 g6 (by
   refine⟨q1,by grind,q3,by grind,?_,?_,?_⟩;grind[A6c];intro r I d hd;rcases Am4 I with h|h;grind;subst h;obtain⟨j,W⟩:=Wz.1 hd;rw[A0e _ _ _ _ hl]at W;split at W;have:=Dr.1 J (.d d) (Au.2 ⟨d,Bm W,rfl⟩);simpa [SV.one]using this;exact q6 row (Bm hr) d (Bm W)
   .rw[E];refine⟨ty,_,by simpa using g1,by rw[A6c];omega,?_⟩;intro r j O d u I hd hu;rw[A0e _ _ _ _ (by omega)]at hu;by_cases a0:i=r;subst a0;simp only[Ao9,a2,Ac,B0]at I;subst I;rw[A0e _ _ _ _ hl]at hd;by_cases W:off<=j/\j<off+us.length;rw[A6 W]at hd;rw[A6 (by omega)]at hu;have:=Z.2 (j - off) (.d d) u (by grind) (by grind);exact this.Gq.ext e0;rw[A3 W]at hd;rw[A3 (by omega)]at hu;exact(L i j row d u hr hd hu).ext e0
    .rw[At4 a0]at I;have a5:j<sz:=by have:=(Aw.1 hd).1;have:=q5 O (Bm I);omega
     rw[A3 (by intro a9;rcases Nat.lt_or_ge r i with a' |hge;have:((β k).off+r+1)*sz<=((β k).off+i)*sz:=Iv _ (by omega);grind;have:((β k).off+i+1)*sz<=((β k).off+r)*sz:=Iv _ (by omega);grind)]at hu;exact(L r j O d u I hd hu).ext e0)
  refine Jk ?_;unfold Oper.wp;have:(execOp a.eval o).run P w=.ok .skip w':=by
   have a4:(a.eval y).cells.size=us.length:=by rw[<-U];simp
   simp[execOp,ho,Instr.storeAt,hv,Instr.sureAddr,storeVar,Qn hs,a4,a1]
  rw[this];exact⟨undef,S,β,rfl,h1,h2,.tuple [] [] rfl (by simp),λ_ _=>rfl⟩
end Go.Abs
namespace Go.Abs
open Go
variable {P:Program} {o:Oper} {ρ:Kf} {bx:Aa}
def B1d(P:Program):List Field->Option (List (Nat × Nat))
 |[]=>some []
 |f::fs=>match C4 P f.type with
  |some n=>(B1d P fs).map ((f.offset,n)::·)
  |none=>none
def Kp(P:Program)(T:TypeId):Option (List (Nat × Nat)) :=match P.underlying T with
 |some (.struct fs)=>B1d P fs.toList
 |_=>none
def run_places:∀(fs:List Field)(ps:List (Nat × Nat)),B1d P fs=some ps->∀w:World,(fs.mapM (λf=>do pure (f.offset,<-sizeOf f.type):Field->Sem (Nat × Nat))).run P w=.ok ps w
 |[],ps,h,w=>by simp only[B1d,B0]at h;simp_all
 |f::fs,ps,h,w=>by
  simp only[B1d]at h;cases E:C4 P f.type with
  |none=>grind
  |some n =>simp only[E,P1]at h;obtain⟨I,J,rfl⟩:=h;have:=run_places fs I J w;simp only[List.mapM_cons,Ii,Qn E,Hm,L8,this]
def A2r(ps:List (Nat × Nat))(cells:List SV):List (Nat × List SV)->Option (List SV)
 |[]=>some cells
 |(i,us)::r=>match ps[i]? with
  |none=>none
  |some (off,size)=>if us.length=size/\off+size<=cells.length then A2r ps (H5 cells off us) r else none
def C7m:∀(us vs:List Value)(off:Nat)(n:Nat),((us.zipIdx n).foldl (λ(cs:Array Value)(x:Value × Nat)=>cs.setIfInBounds (off+x.2) x.1) ⟨vs⟩)=⟨H5 vs (off+n) us⟩
 |[],vs,off,n=>by rfl
 |u::us,vs,off,n=>by simp only[Au6,Mr,H5];have:=C7m us (vs.set (off+n) u) off (n+1);grind
def D4w{S:Nat->Prop}{w:World}{β:Names}(I:Nat->Option (Nat × Nat))(ps:List (Nat × Nat)) :∀(parts:List (Nat × List SV)) (E:List (Nat × Value)) (cells out:List SV) (vs:List Value),Bz S w β cells vs->(∀(i:Nat) (q:Nat × Nat),ps[i]?=some q->I i=some q) ->parts.length=E.length->(∀(j:Nat) (p:Nat × List SV) (q:Nat × Value),parts[j]?=some p->E[j]?=some q->q.1=p.1/\Bz S w β p.2 q.2.cells.toList) ->A2r ps cells parts=some out->∃U:List Value,Instr.fill I ⟨vs⟩ E=some ⟨U⟩/\Bz S w β out U
 |[],E,cells,out,vs,h,L,V,hr,J=>by
  simp only[A2r,B0]at J;subst J;have:E=[]:=by cases E <;> simp at V;rfl
  subst this;exact⟨vs,rfl,h⟩
 |(i,us)::parts,E,cells,out,vs,h,L,V,hr,J=>by
  cases E with
  |nil=>grind
  |cons q E =>
   simp only[Ar,Nat.add_right_cancel_iff]at V;obtain⟨Z,W⟩:=hr 0 (i,us) q rfl rfl;simp only[A2r]at J;cases O:ps[i]? with
   |none=>grind
   |some pr =>
    obtain⟨off,size⟩:=pr;simp only[O]at J;split at J
    .rename_i hc;have a0:q.2.cells.size=us.length:=by have:=W.1;simpa using this
     have a1:=h.1;simp only at Z W;obtain⟨U,g1,g2⟩:=D4w I ps parts E _ out _ (h.H5 W (off:=off) (by omega)) L V (λj p q L O=>hr (j+1) p q L O) J;refine⟨U,?_,g2⟩;obtain⟨qi,qv⟩:=q;simp only at Z W a0;subst Z;simp only[Instr.fill,L _ _ O];rw[A3 (by simp only[ne_eq,Xu,E4,Ye];simp;omega)];have:=C7m qv.cells.toList vs off 0;simp only[Xh]at this;have e:qv.cells.toList.zipIdx=qv.cells.zipIdx.toList:=by simp
     rw[e,Array.foldl_toList]at this;rw[<-g1,<-this]
    grind
def Z8(ρ:Kf):List (Nat × Operand)->Option (List (Nat × List SV))
 |[]=>some []
 |(i,x)::r=>match content (ρ x),Z8 ρ r with
  |some c,some l=>some ((i,c)::l)
  |_,_=>none
def D7h{S:Nat->Prop}{w:World}{β:Names}{a:Act}:∀(parts:List (Nat × Operand))(l:List (Nat × List SV)),(∀p,p∈parts->An S w β (ρ p.2) (a.eval p.2))->Z8 ρ parts=some l ->l.length=(parts.map λp=>(p.1,a.eval p.2)).length/\(∀(j:Nat) (p:Nat × List SV) (q:Nat × Value),l[j]?=some p->(parts.map λp=>(p.1,a.eval p.2))[j]?=some q->q.1=p.1/\Bz S w β p.2 q.2.cells.toList) /\∀p,p∈l->p.2.all SV.one=true
 |[],l,_,h=>by grind[Z8]
 |(i,x)::r,l,I,h=>by
  simp only[Z8]at h;cases E:content (ρ x)with
  |none=>grind
  |some c =>
   cases J:Z8 ρ r with
   |none=>grind
   |some m =>
    simp only[E,J,B0]at h;subst h;obtain⟨L,Z,V⟩:=D7h r m (λp W=>I p (by grind)) J;obtain⟨U,O⟩:=(I (i,x) (by simp)).content E
    grind
def G8x{T:TypeId}{parts:Array (Nat × Operand)}(O:o.op=.build T parts){W:List SV}{ps:List (Nat × Nat)}{l:List (Nat × List SV)}{out:List SV}
  (Z:Cz P T=some W)(E:Kp P T=some ps)(hl:Z8 ρ parts.toList=some l)(hf:A2r ps W l=some out)(h1:out.all SV.one=true):C1 P o ρ bx (.agg out) bx [] :=
 .E3 λ_ S w β a _ ha=>by
  obtain⟨z,I,rfl⟩:=B5u Z w;unfold Kp at E;cases V:P.underlying T with
  |none=>grind
  |some d =>
   rw[V]at E;cases d <;> simp only[reduceCtorEq]at E;rename_i fs;obtain⟨g1,g2,_⟩:=D7h parts.toList l (λp E=>ha p.2 (mo O (by simp only[Op.operands,List.mem_toArray,Au];exact⟨p,E,rfl⟩))) hl;obtain⟨U,q1,q2⟩:=D4w (λi=>(ps.toArray)[i]?) ps l (parts.toList.map λp=>(p.1,a.eval p.2)) _ out _ (D3r S w β z.cells.toList) (λi q hq=>by grind) g1 g2 hf;refine⟨.agg ⟨U⟩,?_,An.B4v q2 h1⟩;have L:=run_places fs.toList ps E w;have hm:(fs.mapM (λf=>do pure (f.offset,<-sizeOf f.type):Field->Sem (Nat × Nat))).run P w=.ok ps.toArray w:=by rw[Array.mapM_eq_mapM_toList,Sem.run_map,L];simp
   simp only[execOp,O,Instr.build,Ii,I,Hm,underlying,run_program,V,L8,hm];have J:z.cells=⟨z.cells.toList⟩:=rfl;have:Instr.fill (λx=>ps.toArray[x]?) z.cells (Array.map (λx=>(x.fst,a.eval x.snd)) parts).toList=some ⟨U⟩:=by rw[J,As9];exact q1
   simp only[this,L8,Hm]
end Go.Abs
