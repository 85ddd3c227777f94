import Derived.CallsIn
import Derived.Below
import Derived.Laws.Rows
import Derived.Laws.Cells
import Derived.Laws.World
import Derived.Laws.Append
import Derived.Orders
import Derived.Laws.Slices
import Derived.Laws.Strings
import Derived.Laws.Small
import Derived.Test.YtoajimpjknbnoaaGreatDoorKTab
set_option linter.all false
namespace Go.iA
open Go
def Az:=@List.getElem?_eq_some_iff
def Bu:=@List.getElem?_eq_getElem
def B5:=@List.length_append
def B8:=@Option.some.injEq
def Bs:=@List.mem_of_getElem?
def Ap:=@List.mem_map
def Ay:=@List.mem_cons
def B7:=@List.length_map
def B1:=@Int.lt_irrefl
def Bh:=@Bool.and_eq_true
def Bg:=@List.length_cons
def A5:=@if_neg
def Bj:=@List.mem_append
def A7:=@if_pos
def Bn:=@decide_eq_true
def Ca:=@List.take_length
def Cb:=@decide_eq_false
def Ck:=@List.length_nil
def C6:=@Bool.false_and
def Fc:=@Bool.eq_false_or_eq_true
def Df:=@List.getElem?_map
def Di:=@decide_eq_true_eq
def Cj:=@List.map_cons
def Ch:=@Bool.true_and
def Dh:=@List.length_take
def Dk:=@List.drop_length
def H7:=@List.drop_eq_getElem_cons
def Bv:=@Nat.le_refl
def Dz:=@List.all_eq_true
def Dx:=@Option.getD_some
def Kj:=@List.take_succ_eq_append_getElem
def Cy:=@Nat.le_trans
def Av:=@if_true
def Eh:=@List.not_mem_nil
def Hb:=@List.map_congr_left
def Em:=@Option.map_some
def Dn:=@List.map_map
def Fv:=@List.append_nil
def Gc:=@List.getElem_mem
def H3:=@List.append_assoc
def Lq:=@List.getElem?_append_right
def Jk:=@List.drop_eq_nil_of_le
def Jn:=@Option.map_eq_some_iff
def Ih:=@Nat.mul_le_mul_right
def Lx:=@List.getElem?_of_mem
def Mm:=@List.getElem?_append_left
def Hp:=@Result.andThen_ok
def Gy:=@List.map_append
def Iu:=@Bool.false_eq_true
def Kv:=@List.mem_of_mem_take
def Ic:=@Int.toNat_natCast
def Gg:=@Prod.mk.injEq
def G5:=@List.map_nil
def Re:=@List.mem_iff_getElem?
def Kx:=@List.ext_getElem?
def Ha:=@Sem.run_bind
def U6:=@Array.getElem?_eq_some_iff
def Md:=@List.mem_filterMap
def Kn:=@List.cons_append
def Lu:=@Bool.not_eq_true'
def Rh:=@List.getElem?_cons_zero
def Px:=@List.getElem?_mapIdx
def Kp:=@List.mem_filter
def Pj:=@List.mem_singleton
def Xr:=@List.fst_mem_of_mem_zipIdx
def Ue:=@List.take_append_drop
def X3:=@Option.isSome_iff_exists
def Eo:=@or_false
def Jy:=@List.sum_cons
def F8:=@congrArg
def Ii:=@Nat.add_mul
def Mt:=@List.foldl_cons
def Wu:=@List.length_eq_zero_iff
def MG:=@List.findIdx?_eq_some_iff_getElem
def XC:=@List.eq_nil_of_length_eq_zero
def P4:=@List.mem_flatMap
def Kf:=@Nat.zero_add
def Zk:=@Array.getElem?_eq_getElem
def Tm:=@List.pairwise_cons
def nC:=@List.length_filterMap_le
def Ai0:=@World.alloc_eq
def L3:=@Sem.run_pure
def lC:=@decide_eq_false_iff_not
def Uj:=@Option.isSome_none
def Gi:=@if_false
def Uw:=@Bool.not_eq_false'
def M6:=@forall_const
def Mp:=@implies_true
def WC:=@List.getElem?_cons_succ
def X0:=@Nat.lt_of_lt_of_le
def VC:=@MapKept.run_getObj_map
def Nd:=@Nat.add_zero
def UC:=@List.take_of_length_le
def Qa:=@List.all_cons
def Tf:=@Option.some.inj
def Ww:=@List.flatMap_cons
def Y0:=@List.getElem?_drop
def L5:=@Array.ext'
def Vm:=@List.nodup_cons
def U7:=@Bool.or_eq_true
def Tx:=@Bool.and_false
def LG:=@List.pairwise_iff_getElem
def KG:=@Decidable.byContradiction
def SC:=@List.mem_of_mem_drop
def M9:=@decide_not
def Wv:=@List.nil_append
def RC:=@List.take_succ_cons
def Ya:=@List.cons.injEq
def Y6:=@List.find?_cons
def Uf:=@Nat.add_assoc
def jC:=@Option.getD_none
def JG:=@UInt8.lt_iff_toNat_lt
def Xq:=@List.foldl_nil
def Z1:=@List.all_append
def tE:=@List.getElem?_take
def iC:=@Bool.eq_iff_iff
def gC:=@Oper.upon_enter
def Wd:=@Bool.false_or
def Z3:=@List.sum_append
def Uz:=@Bool.true_or
def IG:=@Nat.mul_le_mul_left
def HG:=@List.getElem?_range
def xR:=@List.getElem?_zip_eq_some
def fC:=@run_underlying
def vN:=@List.mem_of_find?_eq_some
def GJ:=@Array.getElem?_toList
def FJ:=@Array.getElem?_modify
def EJ:=@List.contains_iff_mem
def QC:=@UInt8.lt_irrefl
def uN:=@List.getElem?_take_of_lt
def GG:=@List.mem_cons_self
def DJ:=@Bool.or_eq_false_iff
def Xa:=@Nat.zero_le
def wR:=@Array.getD_eq_getD_getElem?
def rE:=@List.length_zip
def FG:=@Array.size_range
def eC:=@List.all_nil
def tN:=@List.length_filter_le
def Xx:=@decide_true
def vR:=@List.findIdx?_eq_none_iff
def sN:=@List.pairwise_append
def rN:=@List.mem_cons_of_mem
def W8:=@beq_iff_eq
def CJ:=@List.nodup_append
def BJ:=@List.getElem?_set
def AJ:=@List.flatten_cons
def Ja:=@Or.inl
def qN:=@Array.length_toList
def Qx:=@true_and
def pN:=@List.length_zipWith
def oN:=@List.flatMap_append
def nN:=@List.map_eq_nil_iff
def zJ:=@Option.bind_some
def yJ:=@List.length_drop
def mN:=@List.filter_append
def xJ:=@Option.map_none
def qE:=@Nat.mul_comm
def lN:=@World.cells?_some
def EG:=@Bool.and_true
def IW:=@Array.getElem?_append_left
def uR:=@List.getElem?_set_ne
def wJ:=@List.mem_range
def vJ:=@List.drop_zero
def Va:=@and_true
def kN:=@Array.toList_map
def jN:=@List.filter_cons
def CG:=@decide_false
def uJ:=@Bool.or_false
def tR:=@Option.isSome_some
def iN:=@List.filter_nil
def rR:=@not_true_eq_false
def oE:=@Nat.mod_lt
def qR:=@Nat.lt_trichotomy
def PC:=@wpIn_mono
def tJ:=@Nat.sub_zero
def sJ:=@getElem!_pos
def yq:=@List.eq_nil_iff_forall_not_mem
def GW:=@List.getElem?_zipWith
def As8:=@List.find?_eq_some_iff_getElem
def pR:=@Bool.not_eq_true
def EW:=@Callee.builtin.injEq
def DW:=@Nat.div_lt_of_lt_mul
def CW:=@List.mem_append_left
def rJ:=@Nat.one_mul
def BW:=@beq_eq_false_iff_ne
def AW:=@List.drop_succ_cons
def oR:=@List.find?_some
def nR:=@List.of_mem_zip
def zW:=@Nat.eq_zero_or_pos
def xq:=@List.mem_or_eq_of_mem_set
def mR:=@Bool.not_false
def lR:=@List.take_zero
def wq:=@MapKept.bytes_beq
def yW:=@List.take_add_one
def Zy:=@Ne.symm
def jR:=@Bool.not_true
def xW:=@List.range'_succ
def wW:=@List.zipIdx_cons
def vW:=@List.isEmpty_iff
def iR:=@Nat.sub_self
def Yo:=@not_or
abbrev A3:=List UInt8
def mkStr(s:A3):ByteArray:=⟨⟨s⟩⟩
def dT(s:A3):(mkStr s).size=s.length:=rfl
def lim:Nat:=140737488355328
inductive D where
 |int (k:IntKind) (n:Int)
 |bool (b:Bool)
 |str (s:A3)
 |nil
 |emp
 |slice (rows:List (List D))
 |agg (cells:List D)
 |ptr (cells:List D)
 |Mo
 |map (kvs:List (D × D))
 |N6
 |iface (t:TypeId) (x:D)
 |Hd
 |fn (f:FuncId) (caps:List D)
 |G3
 |cl (f:FuncId) (caps:List D)
instance:Inhabited D:=⟨.nil⟩
def D.one:D->Bool
 |.agg _=>false
 |_=>true
def Y7(es:Array MapEntry)(E:Nat):Prop:=(∀x,x∈es.toList->x.born<E)/\(es.toList.map (·.born)).Nodup
def yN(es:Array MapEntry)(E n:Nat):Prop:=es.size=n/\Y7 es E
def Y7.push{es:Array MapEntry}{E:Nat}(h:Y7 es E)(k v:Value):Y7 (es.push { key:=k,val:=v,born:=E }) (E+1):=by refine⟨?_,?_⟩;intro x I;simp only[Array.toList_push,Bj,Ay,Eh,Eo]at I;rcases I with I|rfl;have:=h.1 x I;omega;simp;simp only[Array.toList_push,Gy,Cj,G5];rw[CJ];refine⟨h.2,by simp,?_⟩;intro a J b L;obtain⟨x,I,rfl⟩:=Ap.1 J;simp only[Ay,Eh,Eo]at L;have:=h.1 x I;omega
def Y7.modify{es:Array MapEntry}{E:Nat}(h:Y7 es E)(j:Nat)(f:MapEntry->MapEntry)(U:∀e,(f e).born=e.born):Y7 (es.modify j f) E:=by
 have J:(es.modify j f).toList.map (·.born)=es.toList.map (·.born):=by apply Kx;intro i;simp only[Df,GJ,FJ];split;grind;rfl
 refine⟨?_,by rw[J];exact h.2⟩;intro x O;have:x.born∈es.toList.map (·.born):=by rw[<-J];exact List.mem_map_of_mem O
 obtain⟨y,L,I⟩:=Ap.1 this;rw[<-I];exact h.1 y L
inductive C5(S:Nat->Prop)(w:World):D->Value->Prop where
 |int (k:IntKind) (n:Int):C5 S w (.int k n) (.int k n)
 |bool (b:Bool):C5 S w (.bool b) (.bool b)
 |str (s:A3):s.length<=lim->C5 S w (.str s) (.string (mkStr s))
 |nil:C5 S w .nil (.slice none 0 0)
 |emp (a:Addr) (cap:Nat):C5 S w .emp (.slice (some a) 0 cap)
 |Nv (a:Option Addr) (cap:Nat):(a=none->cap=0)->C5 S w (.slice []) (.slice a 0 cap)
 |slice (rows:List (List D)) (b off cap sz:Nat):S b->rows.length<=lim->rows.length<=cap -> (∀row,row∈rows->row.length=sz)->(∀row,row∈rows->∀d,d∈row->d.one=true) -> (∀i j,i<rows.length->j<sz->∃v,w.cell? ⟨b,off+(i*sz+j),none⟩=some v) -> (∀(i j:Nat) (row:List D) (d:D) (v:Value),rows[i]?=some row->row[j]?=some d->w.cell? ⟨b,off+(i*sz+j),none⟩=some v->C5 S w d v) ->C5 S w (.slice rows) (.slice (some ⟨b,off,none⟩) rows.length cap)
 |agg (cells:List D) (vs:List Value):vs.length=cells.length->(∀d,d∈cells->d.one=true) -> (∀(j:Nat) (d:D) (v:Value),cells[j]?=some d->vs[j]?=some v->C5 S w d v) ->C5 S w (.agg cells) (.agg ⟨vs⟩)
 |ptr (cells:List D) (b base:Nat):S b->(∀d,d∈cells->d.one=true)->(∀j,j<cells.length->∃v,w.cell? ⟨b,base+j,none⟩=some v) -> (∀(j:Nat) (d:D) (v:Value),cells[j]?=some d->w.cell? ⟨b,base+j,none⟩=some v->C5 S w d v) ->C5 S w (.ptr cells) (.pointer (some ⟨b,base,none⟩))
 |Mo:C5 S w .Mo (.pointer none)
 |map (kvs:List (D × D)) (r:Nat) (es:Array MapEntry) (clock:Nat):S r->w.heap[r]?=some (.map es clock)->yN es clock kvs.length -> (∀(i:Nat) (kv:D × D) (e:MapEntry),kvs[i]?=some kv->es[i]?=some e->C5 S w kv.1 e.key) -> (∀(i:Nat) (kv:D × D) (e:MapEntry),kvs[i]?=some kv->es[i]?=some e->C5 S w kv.2 e.val) ->C5 S w (.map kvs) (.map (some r))
 |N6:C5 S w .N6 (.map none)
 |iface (t:TypeId) (d:D) (v:Value):C5 S w d v->C5 S w (.iface t d) (.iface t v)
 |Hd:C5 S w .Hd .nilIface
 |fn (f:FuncId) (caps:List D) (vs:List Value):vs.length=caps.length->(∀(j:Nat) (d:D) (v:Value),caps[j]?=some d->vs[j]?=some v->C5 S w d v) ->C5 S w (.fn f caps) (.func (.func f) ⟨vs⟩ #[])
 |G3:C5 S w .G3 .nilFunc
 |cl (f:FuncId) (caps:List D) (vs:List Value):vs.length=caps.length->(∀(j:Nat) (d:D) (v:Value),caps[j]?=some d->vs[j]?=some v->C5 S w d v) ->C5 S w (.cl f caps) (.func (.func f) #[] ⟨vs⟩)
structure Cg(S:Nat->Prop)(w:World)(S':Nat->Prop)(w':World):Prop where
 sub:∀b,S b->S' b
 same:∀b,S b->w'.heap[b]?=w.heap[b]?
theorem Cg.refl(S:Nat->Prop)(w:World):Cg S w S w:=⟨λ_ h=>h,λ_ _=>rfl⟩
def Cg.trans{O I J:Nat->Prop}{L V U:World}(h:Cg O L I V)(k:Cg I V J U):Cg O L J U :=⟨λb E=>k.sub b (h.sub b E),λb E=>(k.same b (h.sub b E)).trans (h.same b E)⟩
def Cg.cell{S S':Nat->Prop}{w w':World}(h:Cg S w S' w'){b:Nat}(E:S b)(off:Nat):w'.cell? ⟨b,off,none⟩=w.cell? ⟨b,off,none⟩ :=World.cell?_of_block (w:=w) (h.same b E)
def C5.ext{S S':Nat->Prop}{w w':World}{d:D}{v:Value}(h:C5 S w d v)(e:Cg S w S' w'):C5 S' w' d v:=by
 induction h with
 |int k n=>exact .int k n
 |bool b=>exact .bool b
 |str s hs=>exact .str s hs
 |nil=>exact .nil
 |emp a cap=>exact .emp a cap
 |Nv a cap h=>exact .Nv a cap h
 |slice rows b off cap sz J I h2 h3 O h4 _ E =>refine .slice rows b off cap sz (e.sub b J) I h2 h3 O ?_ ?_;intro i j hi hj;rw[e.cell J];grind;intro i j row d v hr hd U;rw[e.cell J]at U;grind
 |agg cells vs I O _ E=>exact .agg cells vs I O E
 |ptr cells b base J O I _ E =>refine .ptr cells b base (e.sub b J) O ?_ ?_;intro j hj;rw[e.cell J];grind;intro j d v hd U;rw[e.cell J]at U;grind
 |Mo=>exact .Mo
 |map kvs r es L hr Z hs _ _ V W=>exact .map kvs r es L (e.sub r hr) ((e.same r hr).trans Z) hs V W
 |N6=>exact .N6
 |iface t d v _ E=>exact .iface t d v E
 |Hd=>exact .Hd
 |fn f caps vs I _ E=>exact .fn f caps vs I E
 |G3=>exact .G3
 |cl f caps vs I _ E=>exact .cl f caps vs I E
inductive D.Bd:D->Prop where
 |int (k:IntKind) (n:Int):D.Bd (.int k n)
 |bool (b:Bool):D.Bd (.bool b)
 |str (s:A3):s.length<=lim->D.Bd (.str s)
 |nil:D.Bd .nil
 |emp:D.Bd .emp
 |slice (rows:List (List D)):rows.length<=lim->(∀(i j:Nat) (row:List D) (d:D),rows[i]?=some row->row[j]?=some d->D.Bd d)->D.Bd (.slice rows)
 |agg (cells:List D):(∀(j:Nat) (d:D),cells[j]?=some d->D.Bd d)->D.Bd (.agg cells)
 |ptr (cells:List D):(∀(j:Nat) (d:D),cells[j]?=some d->D.Bd d)->D.Bd (.ptr cells)
 |Mo:D.Bd .Mo
 |map (kvs:List (D × D)):(∀(i:Nat) (kv:D × D),kvs[i]?=some kv->D.Bd kv.1)->(∀(i:Nat) (kv:D × D),kvs[i]?=some kv->D.Bd kv.2)->D.Bd (.map kvs)
 |N6:D.Bd .N6
 |iface (t:TypeId) (d:D):D.Bd d->D.Bd (.iface t d)
 |Hd:D.Bd .Hd
 |fn (f:FuncId) (caps:List D):(∀(j:Nat) (d:D),caps[j]?=some d->D.Bd d)->D.Bd (.fn f caps)
 |G3:D.Bd .G3
 |cl (f:FuncId) (caps:List D):(∀(j:Nat) (d:D),caps[j]?=some d->D.Bd d)->D.Bd (.cl f caps)
variable {S:Nat->Prop} {w:World}
def C5.bd{d:D}{v:Value}(h:C5 S w d v):d.Bd:=by
 induction h with
 |int k n=>exact .int k n
 |bool b=>exact .bool b
 |str s hs=>exact .str s hs
 |nil=>exact .nil
 |emp a cap=>exact .emp
 |Nv a cap=>exact .slice [] (by simp) (by simp)
 |slice rows b off cap sz Z J h2 h3 W h4 _ E =>refine .slice rows J ?_;grind
 |agg cells vs J W _ E =>
  refine .agg cells ?_;intro j d hd;have I:j<vs.length:=by have:=(Az.1 hd).1;omega
  exact E j d vs[j] hd (Bu I)
 |ptr cells b base Z W J _ E =>refine .ptr cells ?_;grind
 |Mo=>exact .Mo
 |map kvs r es V hr hh hs _ _ L O =>
  have hs:=hs.1;refine .map kvs ?_ ?_
  .intro i kv h;have U:i<es.size:=by have:=(Az.1 h).1;omega
   exact L i kv es[i] h (Zk U)
  .intro i kv h;have U:i<es.size:=by have:=(Az.1 h).1;omega
   exact O i kv es[i] h (Zk U)
 |N6=>exact .N6
 |iface t d v _ E=>exact .iface t d E
 |Hd=>exact .Hd
 |fn f caps vs J _ E =>
  refine .fn f caps ?_;intro j d hd;have I:j<vs.length:=by have:=(Az.1 hd).1;omega
  exact E j d vs[j] hd (Bu I)
 |G3=>exact .G3
 |cl f caps vs J _ E =>
  refine .cl f caps ?_;intro j d hd;have I:j<vs.length:=by have:=(Az.1 hd).1;omega
  exact E j d vs[j] hd (Bu I)
theorem C5.one{d:D}{v:Value}(h:C5 S w d v)(hd:d.one=true):v.oneCell'=true:=by cases h <;> first|rfl|simp[D.one]at hd
def C5.of_nil{v:Value}(h:C5 S w .nil v):C5 S w (.slice []) v:=by cases h;exact .Nv none 0 (λ_=>rfl)
def C5.WT{v:Value}(h:C5 S w .emp v):C5 S w (.slice []) v:=by cases h;exact .Nv _ _ (by simp)
end Go.iA
namespace Go.iA
open Go
structure BI where
 base:Option Nat
 off:Nat:=0
 len:Nat:=0
 cap:Nat:=0
 sz:Nat:=0
inductive SV where
 |undef
 |d (x:D)
 |agg (cells:List SV)
 |tuple (xs:List SV)
 |box (k:Nat) (off:Nat)
 |A8 (cells:List D) (off:Nat)
 |acc (k:Nat)
 |Fa (k i off:Nat)
 |mp (k:Nat)
 |Fg (l:Nat)
 |Fy (cells:List SV) (off:Nat)
 |Bi (f:FuncId) (caps:List SV)
instance:Inhabited SV:=⟨.undef⟩
def SV.one:SV->Bool
 |.undef| .agg _| .tuple _=>false
 |.d x=>x.one
 |_=>true
abbrev Names:=Nat->BI
inductive An(S:Nat->Prop)(w:World)(β:Names):SV->Value->Prop where
 |undef (v:Value):An S w β .undef v
 |d (x:D) (v:Value):C5 S w x v->An S w β (.d x) v
 |agg (cells:List SV) (vs:List Value):vs.length=cells.length->(∀c,c∈cells->c.one=true) -> (∀(j:Nat) (c:SV) (v:Value),cells[j]?=some c->vs[j]?=some v->An S w β c v)->An S w β (.agg cells) (.agg ⟨vs⟩)
 |tuple (cells:List SV) (vs:List Value):vs.length=cells.length -> (∀(j:Nat) (c:SV) (v:Value),cells[j]?=some c->vs[j]?=some v->An S w β c v)->An S w β (.tuple cells) (.tuple ⟨vs⟩)
 |box (k off b:Nat):(β k).base=some b->An S w β (.box k off) (.pointer (some ⟨b,off,none⟩))
 |A8 (cells:List D) (off b base:Nat):S b->(∀d,d∈cells->d.one=true)->(∀j,j<cells.length->∃v,w.cell? ⟨b,base+j,none⟩=some v) -> (∀(j:Nat) (d:D) (v:Value),cells[j]?=some d->w.cell? ⟨b,base+j,none⟩=some v->C5 S w d v) ->An S w β (.A8 cells off) (.pointer (some ⟨b,base+off,none⟩))
 |acc (k:Nat):An S w β (.acc k) (.slice ((β k).base.map λb=>⟨b,(β k).off*(β k).sz,none⟩) (β k).len (β k).cap)
 |Fa (k i off b:Nat):(β k).base=some b->An S w β (.Fa k i off) (.pointer (some ⟨b,((β k).off+i)*(β k).sz+off,none⟩))
 |mp (k b:Nat):(β k).base=some b->An S w β (.mp k) (.map (some b))
 |Fg (l:Nat):An S w β (.Fg l) (.func (.yield l) #[] #[])
 |Fy (cells:List SV) (off b:Nat):S b->(∀c,c∈cells->c.one=true)->(∀j,j<cells.length->∃v,w.cell? ⟨b,j,none⟩=some v) -> (∀(j:Nat) (c:SV) (v:Value),cells[j]?=some c->w.cell? ⟨b,j,none⟩=some v->An S w β c v)->An S w β (.Fy cells off) (.pointer (some ⟨b,off,none⟩))
 |Bi (f:FuncId) (caps:List SV) (vs:List Value):vs.length=caps.length -> (∀(j:Nat) (c:SV) (v:Value),caps[j]?=some c->vs[j]?=some v->An S w β c v)->An S w β (.Bi f caps) (.func (.func f) #[] ⟨vs⟩)
mutual
def SV.has(k:Nat):SV->Bool
 |.undef| .d _| .A8 _ _| .Fg _=>false
 |.agg cs=>SV.Mh k cs
 |.tuple cs=>SV.Mh k cs
 |.Bi _ cs=>SV.Mh k cs
 |.Fy cs _=>SV.Mh k cs
 |.box j _=>j ==k
 |.acc j=>j ==k
 |.Fa j _ _=>j ==k
 |.mp j=>j ==k
def SV.Mh(k:Nat):List SV->Bool
 |[]=>false
 |c::cs=>c.has k ||SV.Mh k cs
end
mutual
def SV.closed:SV->Bool
 |.undef| .d _| .A8 _ _| .Fg _=>true
 |.agg cs=>SV.Ng cs
 |.tuple cs=>SV.Ng cs
 |.Bi _ cs=>SV.Ng cs
 |.Fy cs _=>SV.Ng cs
 |.box _ _| .acc _| .Fa _ _ _| .mp _=>false
def SV.Ng:List SV->Bool
 |[]=>true
 |c::cs=>c.closed && SV.Ng cs
end
theorem SA{k:Nat} :∀{cs:List SV},SV.Mh k cs=false->∀(j:Nat)(c:SV),cs[j]?=some c->c.has k=false
 |[],_,j,c,h=>by grind
 |c::cs,h,j,x,E=>by
  simp only[SV.Mh,DJ]at h;cases j with
  |zero=>grind
  |succ j=>simp at E;exact SA h.2 j x E
def mB:∀{cs:List SV},SV.Ng cs=true->∀(j:Nat)(c:SV),cs[j]?=some c->c.closed=true
 |[],_,j,c,h=>by grind
 |c::cs,h,j,x,E=>by
  simp only[SV.Ng,Bh]at h;cases j with
  |zero=>grind
  |succ j=>simp at E;exact mB h.2 j x E
variable {x:SV}
def An.ext{S S':Nat->Prop}{w w':World}{β β':Names}{v:Value}(h:An S w β x v)(e:Cg S w S' w')
  (O:∀k,x.has k=true->β' k =β k):An S' w' β' x v:=by
 induction h with
 |undef v=>exact .undef v
 |d x v h=>exact .d x v (h.ext e)
 |agg cells vs I U _ J =>refine .agg cells vs I U λj c v L E=>J j c v L E λk V=>O k ?_;grind[SA,SV.has]
 |tuple cells vs I _ J =>refine .tuple cells vs I λj c v L E=>J j c v L E λk V=>O k ?_;grind[SA,SV.has]
 |box k off b h=>exact .box k off b (by grind[SV.has])
 |A8 cells off b base hs I U Z =>refine .A8 cells off b base (e.sub b hs) I ?_ ?_;intro j W;rw[e.cell hs];grind;intro j d v hd E;rw[e.cell hs]at E;exact(Z j d v hd E).ext e
 |acc k=>have:=O k (by simp[SV.has]);rw[<-this];exact .acc k
 |Fa k i off b h=>have:=O k (by simp[SV.has]);rw[<-this];exact .Fa k i off b (by grind)
 |mp k b h=>exact .mp k b (by grind[SV.has])
 |Fg l=>exact .Fg l
 |Fy cells off b hs I U _ J =>refine .Fy cells off b (e.sub b hs) I ?_ ?_;intro j W;rw[e.cell hs];grind;intro j c v L E;rw[e.cell hs]at E;grind[SA,SV.has]
 |Bi f cells vs I _ J =>refine .Bi f cells vs I λj c v L E=>J j c v L E λk V=>O k ?_;grind[SA,SV.has]
mutual
theorem tB:∀{x:SV} (k:Nat),x.closed=true->x.has k=false
 |.undef,_,_=>rfl
 |.d _,_,_=>rfl
 |.A8 _ _,_,_=>rfl
 |.agg cs,k,h=>by simp only[SV.closed]at h;simp only[SV.has];exact WA k h
 |.tuple cs,k,h=>by simp only[SV.closed]at h;simp only[SV.has];exact WA k h
 |.Bi _ cs,k,h=>by simp only[SV.closed]at h;simp only[SV.has];exact WA k h
 |.Fy cs _,k,h=>by simp only[SV.closed]at h;simp only[SV.has];exact WA k h
 |.box _ _,_,h=>by simp[SV.closed]at h
 |.acc _,_,h=>by simp[SV.closed]at h
 |.Fa _ _ _,_,h=>by simp[SV.closed]at h
 |.mp _,_,h=>by simp[SV.closed]at h
 |.Fg _,_,_=>rfl
theorem WA:∀{cs:List SV} (k:Nat),SV.Ng cs=true->SV.Mh k cs=false
 |[],_,_=>rfl
 |c::cs,k,h=>by simp only[SV.Ng,Bh]at h;simp only[SV.Mh,tB k h.1,WA k h.2,uJ]
end
variable {S:Nat->Prop} {w:World}
def An.closed{β β':Names}{v:Value}(h:An S w β x v)(E:x.closed=true):An S w β' x v :=h.ext (Cg.refl S w) λk I=>by grind[tB]
variable {β:Names}
theorem An.one{v:Value}(h:An S w β x v)(E:x.one=true):v.oneCell'=true:=by
 cases h with
 |undef=>simp[SV.one]at E
 |agg=>simp[SV.one]at E
 |tuple=>simp[SV.one]at E
 |d x v h=>exact h.one E
 |_=>rfl
def C7(S:Nat->Prop)(w:World)(β:Names)(xs:List SV)(vs:List Value):Prop :=vs.length=xs.length/\∀(j:Nat) (c:SV) (v:Value),xs[j]?=some c->vs[j]?=some v->An S w β c v
theorem C7.nil :C7 S w β [] []:=⟨rfl,by simp⟩
variable {vs:List Value}
def C7.cons{xs:List SV}{v:Value}(h:An S w β x v)(t:C7 S w β xs vs) :C7 S w β (x::xs) (v::vs):=by
 refine⟨by simp[t.1],?_⟩;intro j c u E I;cases j with
 |zero=>grind
 |succ j=>simp at E I;exact t.2 j c u E I
def C7.get{xs:List SV}(h:C7 S w β xs vs){j:Nat}{c:SV}(I:xs[j]?=some c) :∃v,vs[j]?=some v/\An S w β c v:=by
 have E:j<vs.length:=by have:=(Az.1 I).1;have:=h.1;omega
 exact⟨vs[j],Bu E,h.2 j c _ I (Bu E)⟩
def C7.append{xs ys:List SV}{vs us:List Value}(h:C7 S w β xs vs)(t:C7 S w β ys us) :C7 S w β (xs++ys) (vs++us):=by refine⟨by simp[h.1,t.1],?_⟩;intro j c u E I;by_cases J:j<xs.length;rw[Mm J]at E;rw[Mm (by have:=h.1;omega)]at I;exact h.2 j c u E I;rw[Lq (by omega)]at E;rw[Lq (by have:=h.1;omega)]at I;have:=h.1;exact t.2 (j - xs.length) c u E (by grind)
def C7.map{S S':Nat->Prop}{w w':World}{β β':Names}{xs ys:List SV}(h:C7 S w β xs vs)(J:ys.length=xs.length)
  (O:∀(j:Nat) (x y:SV) (v:Value),xs[j]?=some x->ys[j]?=some y->An S w β x v->An S' w' β' y v):C7 S' w' β' ys vs:=by
 refine⟨by rw[h.1,J],?_⟩;intro j c v E L;have I:j<xs.length:=by have:=(Az.1 E).1;omega
 exact O j xs[j] c v (Bu I) E (h.2 j _ v (Bu I) L)
abbrev SL:=List (Nat × SV)
def Ae:SL->Nat->SV
 |[],_=>.undef
 |(u,x)::r,t=>if u=t then x else Ae r t
structure Hq where
 P:Program
 l:Nat
 n0:Nat
 N:Nat
 xs:Nat->SV
 go:Nat->Bool
 more:Nat->SV->Nat->Prop
def Hq.next(Y:Hq)(j:Nat):Option Nat:=if Y.go j then some (j+1)else none
inductive Ax where
 |cells (cs:List SV)
 |rows (sz:Nat) (rs:List (List D))
 |map (kvs:List (D × D))
 |iter (kvs:List (D × D)) (seen:List Nat)
 |ghost (Y:Hq) (st:Option Nat)
def Ax.has(k:Nat):Ax->Bool
 |.cells cs=>SV.Mh k cs
 |_=>false
def Ax.real:Ax->Bool
 |.ghost _ _=>false
 |_=>true
abbrev Ac:=List (Nat × Ax)
def lu(es:Array MapEntry)(E:Array Nat)(seen:List Nat):Prop :=(∀(r:Nat) (e:MapEntry),es[r]?=some e->E.contains e.born=seen.contains r)/\(∀(r:Nat) (t:List Nat),seen=r::t->∃e,es[r]?=some e/\E.back? =some e.born)
def E4(S:Nat->Prop)(w:World)(β:Names)(i:BI):Ax->Prop
 |.cells cs=>∃b ty vs,i.base=some b/\w.heap[b]?=some (.cells ⟨vs⟩ ty (0,0))/\C7 S w β cs vs
 |.rows sz rs=>i.sz=sz/\rs.length=i.len/\i.len<=i.cap/\rs.length<=lim/\(∀row,row∈rs->row.length=sz)/\(∀row,row∈rs->∀d,d∈row->d.one=true) /\match i.base with
   |none=>i.cap=0
   |some b=>∃ty vs,w.heap[b]?=some (.cells ⟨vs⟩ ty (0,0))/\(i.off+i.cap)*sz<=vs.length /\∀(r j:Nat) (row:List D) (d:D) (v:Value),rs[r]?=some row->row[j]?=some d->vs[(i.off+r)*sz+j]?=some v->C5 S w d v
 |.map kvs=>∃b es E,i.base=some b/\w.heap[b]?=some (.map es E)/\yN es E kvs.length /\ (∀(r:Nat) (kv:D × D) (e:MapEntry),kvs[r]?=some kv->es[r]?=some e->C5 S w kv.1 e.key/\C5 S w kv.2 e.val)
 |.iter kvs seen=>∃b m es E I,i.base=some b/\w.heap[b]?=some (.mapIter (some m) E I E)/\S m/\w.heap[m]?=some (.map es E)/\yN es E kvs.length /\ (∀(r:Nat) (kv:D × D) (e:MapEntry),kvs[r]?=some kv->es[r]?=some e->C5 S w kv.1 e.key/\C5 S w kv.2 e.val)/\lu es I seen
 |.ghost _ _=>i.base=none
def E4.ext{S S':Nat->Prop}{w w':World}{β β':Names}{i:BI}{c:Ax}(h:E4 S w β i c)(e:Cg S w S' w')
  (W:∀b,i.base=some b->w'.heap[b]?=w.heap[b]?)(hb:∀k,c.has k=true->β' k =β k):E4 S' w' β' i c:=by
 cases c with
 |cells cs =>obtain⟨b,ty,vs,J,O,L⟩:=h;refine⟨b,ty,vs,J,(W b J).trans O,L.1,λj c v hc Z=>(L.2 j c v hc Z).ext e λk hk=>hb k ?_⟩;grind[SA,Ax.has]
 |rows sz rs =>
  obtain⟨J,O,L,U,h5,h6,h7⟩:=h;refine⟨J,O,L,U,h5,h6,?_⟩;cases I:i.base with
  |none=>grind
  |some b =>rw[I]at h7;obtain⟨ty,vs,g1,g2,g3⟩:=h7;exact⟨ty,vs,(W b I).trans g1,g2,λr j row d v hr hd Z=>(g3 r j row d v hr hd Z).ext e⟩
 |map kvs =>obtain⟨b,es,E,J,O,L,U⟩:=h;exact⟨b,es,E,J,(W b J).trans O,L,λr kv x hr V=>⟨(U r kv x hr V).1.ext e,(U r kv x hr V).2.ext e⟩⟩
 |iter kvs seen =>obtain⟨b,m,es,E,sn,J,O,hS,hm,L,U,h5⟩:=h;exact⟨b,m,es,E,sn,J,(W b J).trans O,e.1 m hS,(e.2 m hS).trans hm,L,λr kv x hr V=>⟨(U r kv x hr V).1.ext e,(U r kv x hr V).2.ext e⟩,h5⟩
 |ghost Y st=>exact h
structure Gh where
 Y:Hq
 F:Option Nat->(Nat->Prop)->(Nat->Prop)->World->Prop
 sy:TypeId × Value
 ra:TypeId × Value
structure TX(n0:Nat)(B S:Nat->Prop)(w:World)(S':Nat->Prop)(w':World):Prop where
 sub:∀b,S b->S' b
 new:∀b,S' b->S b\/n0<=b
 lt:∀b,S' b->b<w'.heap.size
 off:∀b,B b->¬S' b
 same:∀b,b<n0\/B b\/S b->w'.heap[b]?=w.heap[b]?
 os:w'.os=w.os
 tape:w'.tape=w.tape
 output:w'.output=w.output
 size:w.heap.size<=w'.heap.size
structure FD(B S:Nat->Prop)(w:World)(B' S':Nat->Prop)(w':World):Prop where
 ext:Cg S w S' w'
 new:∀b,S' b->S b\/B b\/w.heap.size<=b
 lt:∀b,S' b->b<w'.heap.size
 own:∀b,B' b->¬S' b/\b<w'.heap.size/\(B b\/w.heap.size<=b)
 kept:∀b,b<w.heap.size->¬B b->w'.heap[b]?=w.heap[b]?
 os:w'.os=w.os
 tape:w'.tape=w.tape
 output:w'.output=w.output
 size:w.heap.size<=w'.heap.size
structure RW(G:Gh):Prop where
 Xi:∀st B S w S' w',G.F st B S w->TX G.Y.n0 B S w S' w'->G.F st B S' w'
 shut:∀st B S w D l l',G.F st B S w->G.Y.n0<=D->¬B D->w.heap[D]?=some (.deferred l)->G.F st B S { w with heap:=w.heap.setIfInBounds D (.deferred l') }
 round:∀j B S w β v,j<G.Y.N->G.F (some j) B S w->(∀b,S b->b<w.heap.size)->(∀b,B b->¬S b/\b<w.heap.size)->An S w β (G.Y.xs j) v ->∃f tmps assign body,(Instr.yield G.Y.l #[v]).run G.Y.P w=.ok (.round G.Y.l f tmps assign body) w /\RoundIn Fence.wide 0 G.Y.P G.Y.l f tmps assign body w (λe w'=>∃S' B',e=.returned (.bool (G.Y.go j))/\G.F (G.Y.next j) B' S' w'/\FD B S w B' S' w')
 I4e:∀j y j' B S w β v,G.Y.more j y j'->G.F (some j) B S w->(∀b,S b->b<w.heap.size)->(∀b,B b->¬S b/\b<w.heap.size)->An S w β y v ->∃f tmps assign body,(Instr.yield G.Y.l #[v]).run G.Y.P w=.ok (.round G.Y.l f tmps assign body) w /\RoundIn Fence.wide 0 G.Y.P G.Y.l f tmps assign body w (λe w'=>∃S' B',e=.returned (.bool true)/\G.F (some j') B' S' w'/\FD B S w B' S' w')
structure Ctx where
 w0:World
 S0:Nat->Prop
 pre:Nat->Prop
 bI:Nat->BI->Prop
 G:Gh
structure Inv(C:Ctx)(S:Nat->Prop)(w:World)(β:Names)(bx:Ac):Prop where
 G7:∀b,C.S0 b->S b
 F9:∀b,S b->C.S0 b\/C.pre b\/C.w0.heap.size<=b
 C9:∀b,S b->b<w.heap.size
 kept:∀b,b<C.w0.heap.size->¬C.pre b->w.heap[b]?=C.w0.heap[b]?
 os:w.os=C.w0.os
 tape:w.tape=C.w0.tape
 output:w.output=C.w0.output
 size:C.w0.heap.size<=w.heap.size
 box:∀k c,(k,c)∈bx->E4 S w β (β k) c
 Bk:∀k c,(k,c)∈bx->∀b,(β k).base=some b->¬S b/\b<w.heap.size/\(C.pre b\/C.w0.heap.size<=b)
 inj:∀k c k' c',(k,c)∈bx->(k',c')∈bx->∀b,(β k).base=some b->(β k').base=some b->k=k'/\c=c'
 fix:∀k i,C.bI k i->1000000<=k/\β k=i
 Ek:∀b cs,qJ C.G.sy C.G.ra b cs->S b/\∃ty fr,w.heap[b]?=some (.cells cs ty fr)
 one:∀k Y st k' Y' st',(k,Ax.ghost Y st)∈bx->(k',Ax.ghost Y' st')∈bx->k=k'/\st=st'
 Gf:∀k Y st,(k,Ax.ghost Y st)∈bx->C.G.Y=Y/\RW C.G/\Y.n0<=C.w0.heap.size/\(∀k' c',(k',c')∈bx->∀b,(β k').base=some b->Y.n0<=b) /\∃B,C.G.F st B S w/\∀b,B b->¬S b/\b<w.heap.size/\(C.pre b\/C.w0.heap.size<=b)/\∀k' c',(k',c')∈bx->(β k').base≠some b
variable {C:Ctx}
def Inv.sub{bx bx':Ac}(h:Inv C S w β bx)(hs:∀k c,(k,c)∈bx'->(k,c)∈bx):Inv C S w β bx' :={ h with
  box:=λk c E=>h.box k c (hs k c E)
  Bk:=λk c E=>h.Bk k c (hs k c E)
  inj:=λk c J L E I=>h.inj k c J L (hs k c E) (hs J L I)
  one:=λk Y st J O st' E I=>h.one k Y st J O st' (hs _ _ E) (hs _ _ I)
  Gf:=λk Y st E=>by
   obtain⟨h1,Z,h3,W,B,U,V⟩:=h.Gf k Y st (hs _ _ E)
   grind }
def Inv.step{S S':Nat->Prop}{w w':World}{β β':Names}{bx bx':Ac}(h:Inv C S w β bx)(e:Cg S w S' w')
  (hS:∀b,S' b->S b\/w.heap.size<=b)(J:∀b,S' b->b<w'.heap.size)
  (V:∀b,b<w.heap.size->(∀k c,(k,c)∈bx->(β k).base≠some b)->w'.heap[b]?=w.heap[b]?)
  (a2:w'.os=w.os)(E:w'.tape=w.tape)(L:w'.output=w.output)(Pr:w.heap.size<=w'.heap.size)
  (a0:∀k c,(k,c)∈bx'->E4 S' w' β' (β' k) c/\∀b,(β' k).base=some b->¬S' b/\b<w'.heap.size/\(w.heap.size<=b\/∃j x,(j,x)∈bx/\(β j).base=some b))
  (a3:∀k c Z c',(k,c)∈bx'->(Z,c')∈bx'->∀b,(β' k).base=some b->(β' Z).base=some b->k=Z/\c=c')
  (a5:∀k,1000000<=k->β' k =β k)(O:∀k Y st,(k,Ax.ghost Y st)∈bx'->(k,Ax.ghost Y st)∈bx) :
  Inv C S' w' β' bx' where
 G7 b hb:=e.sub b (h.G7 b hb)
 F9 b hb:=by
  rcases hS b hb with hb|hb
  .exact h.F9 b hb
  .exact .inr (.inr (Cy h.size hb))
 C9:=J
 kept b hb hp:=by
  rw[<-h.kept b hb hp];refine V b (X0 hb h.size) ?_;intro k c I U;rcases(h.Bk k c I b U).2.2 with h' |h'
  .grind
  .omega
 os:=a2.trans h.os
 tape:=E.trans h.tape
 output:=L.trans h.output
 size:=Cy h.size Pr
 box k c I:=(a0 k c I).1
 Bk k c I b hb:=by
  obtain⟨h1,W,h3⟩:=(a0 k c I).2 b hb;refine⟨h1,W,?_⟩;rcases h3 with h3|⟨j,x,hj,a4⟩
  .exact .inr (Cy h.size h3)
  .exact(h.Bk j x hj b a4).2.2
 inj:=a3
 fix k b hb:=by have:=h.fix k b hb;grind
 Ek b cs hv:=by obtain⟨h1,ty,fr,W⟩:=h.Ek b cs hv;exact⟨e.sub b h1,ty,fr,(e.same b h1).trans W⟩
 one k Y st Z Y' st' I a1:=h.one k Y st Z Y' st' (O _ _ _ I) (O _ _ _ a1)
 Gf k Y st I:=by
  obtain⟨h1,W,h3,h4,B,h5,h6⟩:=h.Gf k Y st (O k Y st I);have a6:=h.size;refine⟨h1,W,h3,λZ c' a1 b hb=>?_,B,W.Xi st B S w S' w' h5 ⟨e.sub,λb hb=>?_,J,λb hb hs=>?_,λb hb=>?_,a2,E,L,Pr⟩,λb hb=>?_⟩
  .grind
  .grind
  .grind
  .rcases hb with hb|hb|hb
   .grind
   .grind
   .exact e.same b hb
  grind
def Inv.grow{S S':Nat->Prop}{w w':World}{bx:Ac}(h:Inv C S w β bx)
  (O:∀b,S b->S' b)(Z:∀b,S' b->S b\/w.heap.size<=b)(V:∀b,S' b->b<w'.heap.size)
  (E:∀b,b<w.heap.size->w'.heap[b]?=w.heap[b]?)
  (W:w'.os=w.os)(I:w'.tape=w.tape)(U:w'.output=w.output)(Pr:w.heap.size<=w'.heap.size) :
  Inv C S' w' β bx/\Cg S w S' w':=by have e:Cg S w S' w':=⟨O,λb J=>E b (h.C9 b J)⟩;refine⟨h.step e Z V (λb J _=>E b J) W I U Pr ?_ h.inj (λ_ _=>rfl) (λ_ _ _ L=>L),e⟩;intro k c L;refine⟨(h.box k c L).ext e (λb J=>E b (h.Bk k c L b J).2.1) (λ_ _=>rfl),?_⟩;intro b J;obtain⟨h1,h2,h3⟩:=h.Bk k c L b J;grind
end Go.iA
namespace Go.iA
open Go
abbrev Iq:=Operand->SV
def _root_.Go.Oper.wpx(P:Program)(o:Oper)(a:Act)(w:World)(next:Act->World->Prop):Prop :=o.wp P a w next (λ_ _ _=>False)\/∃l f tmps E body w',(execOp a.eval o).run P w=.ok (.round l f tmps E body) w' /\RoundIn Fence.wide 0 P l f tmps E body w' (λe I=>match e with| .returned v=>next (a.put o.dst v) I|_=>False)
def C1(P:Program)(o:Oper)(ρ:Iq)(bx:Ac)(r:SV)(bx':Ac)(pg:List Nat):Prop :=∀(C:Ctx) (S:Nat->Prop) (w:World) (β:Names) (a:Act),Inv C S w β bx->(∀x,x∈o.op.operands->An S w β (ρ x) (a.eval x)) ->o.wpx P a w (λE w'=>∃v S' β',E=a.put o.dst v/\Inv C S' w' β' bx'/\Cg S w S' w'/\An S' w' β' r v/\(∀k,k∉pg->β' k =β k))
variable {x:Operand}
def mo{o:Oper}{op:Op}(h:o.op=op)(m:x∈op.operands):x∈o.op.operands:=h ▸ m
def mC{o:Oper}{op:Op}(E:o.op=op)(h:x∈op.operands:=by simp[Op.operands,Call.operands]):x∈o.op.operands:=mo E h
variable {P:Program} {o:Oper} {ρ:Iq} {bx:Ac}
def C1.Ei{r:SV}(h:∀(C:Ctx)(S:Nat->Prop)(w:World) (β:Names)(a:Act),Inv C S w β bx->(∀x,x∈o.op.operands->An S w β (ρ x) (a.eval x)) -> ∃v,(execOp a.eval o).run P w=.ok (.value v) w/\An S w β r v):C1 P o ρ bx r bx []:=by intro C S w β a E J;obtain⟨v,I,hr⟩:=h C S w β a E J;refine Ja ?_;unfold Oper.wp;rw[I];exact⟨v,S,β,rfl,E,Cg.refl S w,hr,λ_ _=>rfl⟩
def H4t(E:o.op=.move x):C1 P o ρ bx (ρ x) bx [] :=.Ei λ_ _ _ _ a _ I=>⟨a.eval x,by simp[execOp,E],(I x (mo E (by grind[Op.operands])))⟩
def H3x(E:o.op=.assign x):C1 P o ρ bx (ρ x) bx [] :=.Ei λ_ _ _ _ a _ I=>⟨a.eval x,by simp[execOp,E],(I x (mo E (by grind[Op.operands])))⟩
variable {S:Nat->Prop} {w:World} {β:Names}
def An.Js{x:D}{v:Value}(h:An S w β (.d x) v):C5 S w x v:=by cases h;omega
def An.Yg{b:Bool}{v:Value}(h:An S w β (.d (.bool b)) v):v=.bool b:=by cases h with|d _ _ h=>cases h;rfl
def An.J6{k:IntKind}{n:Int}{v:Value}(h:An S w β (.d (.int k n)) v):v=.int k n:=by cases h with|d _ _ h=>cases h;rfl
def An.Vw{s:A3}{v:Value}(h:An S w β (.d (.str s)) v):v=.string (mkStr s)/\s.length<=lim:=by cases h with|d _ _ h=>cases h;grind
def An.bool(b:Bool):An S w β (.d (.bool b)) (.bool b):=.d _ _ (.bool b)
def An.int(k:IntKind)(n:Int):An S w β (.d (.int k n)) (.int k n):=.d _ _ (.int k n)
def F7m{c x y:Operand}(E:o.op=.pick c x y){t:Bool}(I:ρ c=.d (.bool t)):C1 P o ρ bx (if t then ρ x else ρ y) bx [] :=.Ei λ_ _ _ _ a _ J=>by
  have h:=(J c (mo E (by grind[Op.operands])));rw[I]at h;have h:=h.Yg;refine⟨if t then a.eval x else a.eval y,?_,?_⟩
  .cases t <;> simp[execOp,E,h,asBool]
  grind[Op.operands]
def BO(op:BinOp)(x y:Int):Option Bool :=match op with
 |.eql=>some (decide (x=y))
 |.neq=>some (decide (x≠y))
 |.lss=>some (decide (x<y))
 |.leq=>some (decide (x<=y))
 |.gtr=>some (decide (y<x))
 |.geq=>some (decide (y<=x))
 |_=>none
def kV(op:BinOp)(k:IntKind)(x y:Int):Option Int :=match op with
 |.add=>some (k.wrap (x+y))
 |.sub=>some (k.wrap (x - y))
 |.mul=>some (k.wrap (x*y))
 |_=>none
def WL(op:BinOp)(t:TypeId)(x y:Operand)(k E:IntKind)(m n:Int)(w:World):(eqGuard op t x y (.int k m) (.int E n)).run P w=.ok () w:=by unfold eqGuard;simp
def pf(op:BinOp)(t:TypeId)(x y:Operand)(m n:ByteArray)(w:World):(eqGuard op t x y (.string m) (.string n)).run P w=.ok () w:=by unfold eqGuard;simp
def F7a(op:BinOp)(t:TypeId)(x y:Operand)(m n:Bool)(w:World):(eqGuard op t x y (.bool m) (.bool n)).run P w=.ok () w:=by unfold eqGuard;simp
def H0r(op:BinOp)(t:TypeId)(x y:Operand)(m:Option Addr)(n:Value)(w:World):(eqGuard op t x y (.pointer m) n).run P w=.ok () w:=by unfold eqGuard;simp
def tr(op:BinOp)(t:TypeId)(x y:Operand)(m:Option Addr)(l c:Nat)(n:Value)(w:World):(eqGuard op t x y (.slice m l c) n).run P w=.ok () w:=by unfold eqGuard;simp
variable {op:BinOp}
def H2o{t u:TypeId}{x y:Operand}(J:o.op=.binOp op t x y u){k:IntKind}{m n:Int}{b:Bool}
  (V:ρ x=.d (.int k m))(U:ρ y=.d (.int k n))(O:BO op m n=some b):C1 P o ρ bx (.d (.bool b)) bx [] :=
 .Ei λ_ _ w _ a _ L=>by
  have I:=(L x (mo J (by grind[Op.operands])));rw[V]at I;have I:=I.J6;have E:=(L y (mo J (by grind[Op.operands])));rw[U]at E;have E:=E.J6;refine⟨.bool b,?_,.bool b⟩;simp only[execOp,J,Ha,Sem.run_map,I,E,WL,Hp];cases op <;> first
   |grind[BO]
   |(simp only[BO,B8]at O;subst O;simp only[binOp,Op.intCmp,ne_eq,rR,Gi,L3,Hp];try(congr 3 <;> grind))
def G9w{t u:TypeId}{x y:Operand}(J:o.op=.binOp op t x y u){k:IntKind}{m n b:Int}
  (V:ρ x=.d (.int k m))(U:ρ y=.d (.int k n))(O:kV op k m n=some b):C1 P o ρ bx (.d (.int k b)) bx [] :=
 .Ei λ_ _ w _ a _ L=>by have I:=(L x (mo J (by grind[Op.operands])));rw[V]at I;have I:=I.J6;have E:=(L y (mo J (by grind[Op.operands])));rw[U]at E;have E:=E.J6;refine⟨.int k b,?_,.int k b⟩;simp only[execOp,J,Ha,Sem.run_map,I,E,WL,Hp];cases op <;> simp[kV]at O <;> subst O <;> simp[binOp,Op.intArith]
def fX{t u:TypeId}{x y:Operand}(J:o.op=.binOp .quo t x y u){k:IntKind}{m n:Int}
  (V:ρ x=.d (.int k m))(O:ρ y=.d (.int k n))(U:n≠0):C1 P o ρ bx (.d (.int k (k.wrap (m.tdiv n)))) bx [] :=
 .Ei λ_ _ w _ a _ L=>by have I:=(L x (mo J (by grind[Op.operands])));rw[V]at I;have I:=I.J6;have E:=(L y (mo J (by grind[Op.operands])));rw[O]at E;have E:=E.J6;refine⟨_,?_,.int k _⟩;simp[execOp,J,I,E,WL,binOp,Op.intDiv,U]
def F8x{t u:TypeId}{x y:Operand}(J:o.op=.binOp .rem t x y u){k:IntKind}{m n:Int}
  (V:ρ x=.d (.int k m))(O:ρ y=.d (.int k n))(U:n≠0):C1 P o ρ bx (.d (.int k (m.tmod n))) bx [] :=
 .Ei λ_ _ w _ a _ L=>by have I:=(L x (mo J (by grind[Op.operands])));rw[V]at I;have I:=I.J6;have E:=(L y (mo J (by grind[Op.operands])));rw[O]at E;have E:=E.J6;refine⟨_,?_,.int k _⟩;simp[execOp,J,I,E,WL,binOp,Op.intDiv,U]
def gW(op:BinOp)(x y:A3):Option Bool :=match op with
 |.eql=>some (decide (x=y))
 |.neq=>some (decide (x≠y))
 |.lss=>some (Op.bytesLess x y)
 |.gtr=>some (Op.bytesLess y x)
 |_=>none
def uf(s:A3):(mkStr s).toList=s:=by simp[mkStr]
def cS:∀(x y:A3),(Op.bytesLess x y ||x ==y) = !Op.bytesLess y x
 |[],[]=>rfl
 |[],_::_=>by rfl
 |_::_,[]=>by rfl
 |a::x,b::y=>by have E:=cS x y;simp only[Op.bytesLess];grind
def sO{t u:TypeId}{x y:Operand}(J:o.op=.binOp op t x y u){m n:A3}{b:Bool}
  (V:ρ x=.d (.str m))(U:ρ y=.d (.str n))(O:gW op m n=some b):C1 P o ρ bx (.d (.bool b)) bx [] :=
 .Ei λ_ _ w _ a _ L=>by
  have I:=(L x (mo J (by grind[Op.operands])));rw[V]at I;have I:=I.Vw.1;have E:=(L y (mo J (by grind[Op.operands])));rw[U]at E;have E:=E.Vw.1;refine⟨.bool b,?_,.bool b⟩;have e:=cS m n;simp only[execOp,J,Ha,Sem.run_map,I,E,pf,Hp];cases op <;> first
   |grind[gW]
   |(simp only[gW,B8]at O;subst O;simp only[binOp,Op.stringOp,uf,e,Bool.not_not,L3,Hp];try(congr 3 <;> (rw[iC];simp)))
def wv(x y:A3):mkStr x++mkStr y=mkStr (x++y):=by rfl
def H4x{t u:TypeId}{x y:Operand}(L:o.op=.binOp .add t x y u){m n:A3}
  (Z:ρ x=.d (.str m))(W:ρ y=.d (.str n))(V:m.length+n.length<=lim):C1 P o ρ bx (.d (.str (m++n))) bx [] :=
 .Ei λ_ _ w _ a _ O=>by
  have J:=(O x (mo L (by grind[Op.operands])));rw[Z]at J;have J:=J.Vw.1;have I:=(O y (mo L (by grind[Op.operands])));rw[W]at I;have I:=I.Vw.1;refine⟨.string (mkStr (m++n)),?_,.d _ _ (.str _ (by grind))⟩;have E:IntKind.i64.max=9223372036854775807:=by decide
  have U:¬(IntKind.i64.max<(m.length:Int)+n.length):=by rw[E];unfold lim at V;omega
  simp only[execOp,L,Ha,Sem.run_map,J,I,pf,Hp,binOp,Op.stringOp,dT,wv];simp_all
def G2t{t:TypeId}(I:o.op=.unOp .not t x){b:Bool}(L:ρ x=.d (.bool b)):C1 P o ρ bx (.d (.bool (!b))) bx [] :=.Ei λ_ _ w _ a _ J=>by have E:=(J x (mo I (by grind[Op.operands])));rw[L]at E;have E:=E.Yg;exact⟨.bool (!b),by simp[execOp,I,E,Op.unary],.bool _⟩
def H6q{t:TypeId}(I:o.op=.unOp .neg t x){k:IntKind}{n:Int}(L:ρ x=.d (.int k n)):C1 P o ρ bx (.d (.int k (k.wrap (0 - n)))) bx [] :=.Ei λ_ _ w _ a _ J=>by have E:=(J x (mo I (by grind[Op.operands])));rw[L]at E;have E:=E.J6;exact⟨.int k (k.wrap (0 - n)),by simp[execOp,I,E,Op.unary,Op.intArith],.int _ _⟩
def uT(op:BinOp)(x y:Bool):Option Bool :=match op with
 |.eql=>some (x ==y)
 |.neq=>some (!(x ==y))
 |_=>none
def tj{t u:TypeId}{x y:Operand}(J:o.op=.binOp op t x y u)(ht:P.underlying t=some .bool){m n:Bool}{b:Bool}
  (V:ρ x=.d (.bool m))(U:ρ y=.d (.bool n))(L:uT op m n=some b):C1 P o ρ bx (.d (.bool b)) bx [] :=
 .Ei λ_ _ w _ a _ O=>by
  have I:=(O x (mo J (by grind[Op.operands])));rw[V]at I;have I:=I.Yg;have E:=(O y (mo J (by grind[Op.operands])));rw[U]at E;have E:=E.Yg;refine⟨.bool b,?_,.bool b⟩;simp only[execOp,J,Ha,Sem.run_map,I,E,F7a,Hp];cases op <;> first
   |(simp only[uT,reduceCtorEq]at L;done)
   |(simp only[uT,B8]at L;subst L;first| (rw[run_eql_bool _ _ _ _ ht];rfl)| (rw[run_neq_bool _ _ _ _ ht];rfl))
def G9o{src dst:TypeId}(J:o.op=.convert src dst x){k E j:IntKind}{n:Int}
  (hs:P.underlying src=some (.int j))(hd:P.underlying dst=some (.int E))(O:ρ x=.d (.int k n)):C1 P o ρ bx (.d (.int E (E.wrap n))) bx [] :=
 .Ei λ_ _ w _ a _ L=>by have I:=(L x (mo J (by grind[Op.operands])));rw[O]at I;have I:=I.J6;refine⟨.int E (E.wrap n),?_,.int _ _⟩;simp[execOp,J,I,convert,underlying,hs,hd,Conv.intToInt]
def F6s{src dst:TypeId}(E:o.op=.convert src dst x){s:A3}
  (hs:P.underlying src=some .string)(hd:P.underlying dst=some .string)(O:ρ x=.d (.str s)):C1 P o ρ bx (.d (.str s)) bx [] :=
 .Ei λ_ _ w _ a _ J=>by have I:=(J x (mo E (by grind[Op.operands])));rw[O]at I;have L:=I.Vw.1;refine⟨.string (mkStr s),?_,by grind⟩;simp[execOp,E,L,convert,underlying,hs,hd]
def G9h{i:Nat}(I:o.op=.extract x i){xs:List SV}{r:SV}(U:ρ x=.tuple xs)(hr:xs[i]?=some r):C1 P o ρ bx r bx [] :=.Ei λ_ _ w _ a _ O=>by
  have E:=(O x (mo I (by grind[Op.operands])));rw[U]at E;generalize L:a.eval x=v at E;cases E with
  |tuple _ vs V h =>
   have J:i<vs.length:=by have:=(Az.1 hr).1;omega
   refine⟨vs[i],?_,h i r _ hr (Bu J)⟩;simp[execOp,I,L,Instr.extract,J]
def G0w{t:TypeId}(I:o.op=.makeInterface t x){y:D}(U:ρ x=.d y){E:TypeDesc}(ht:P.underlying t=some E)
  (O:(match E with| .interface _=>false|_=>true)=true):C1 P o ρ bx (.d (.iface t y)) bx [] :=
 .Ei λ_ _ w _ a _ L=>by have J:=(L x (mC I));rw[U]at J;refine⟨.iface t (a.eval x),?_,.d _ _ (.iface t y _ J.Js)⟩;cases E <;> simp at O <;> simp[execOp,I,Instr.makeInterface,underlying,ht]
def H2a{ds:List D}{v:Value}(h:An S w β (.agg (ds.map SV.d)) v):C5 S w (.agg ds) v:=by
 generalize E:ds.map SV.d=cs at h;cases h with
 |agg _ vs O L J =>
  subst E;refine .agg ds vs (by grind) ?_ ?_;intro d hd;have:=L (.d d) (Ap.2 ⟨d,hd,rfl⟩);simpa [SV.one]using this;intro j d v hd I;exact(J j (.d d) v (by grind) I).Js
def F3{ds:List D}{v:Value}(h:C5 S w (.agg ds) v):An S w β (.agg (ds.map SV.d)) v:=by
 cases h with
 |agg _ vs O L J =>
  refine .agg _ vs (by grind) ?_ ?_;intro c E;obtain⟨d,hd,rfl⟩:=Ap.1 E;exact L d hd
  .intro j c v E I;obtain⟨d,hd,rfl⟩:=by simpa using E
   exact .d _ _ (J j d v hd I)
def xr{t:TypeId}(I:o.op=.makeInterface t x){ys:List D}(U:ρ x=.agg (ys.map SV.d)){E:TypeDesc}(ht:P.underlying t=some E)
  (O:(match E with| .interface _=>false|_=>true)=true):C1 P o ρ bx (.d (.iface t (.agg ys))) bx [] :=
 .Ei λ_ _ w _ a _ L=>by have J:=(L x (mC I));rw[U]at J;refine⟨.iface t (a.eval x),?_,.d _ _ (.iface t _ _ (H2a J))⟩;cases E <;> simp at O <;> simp[execOp,I,Instr.makeInterface,underlying,ht]
end Go.iA
namespace Go.iA
open Go
variable {P:Program} {o:Oper} {ρ:Iq} {bx:Ac}
def D2(P:Program)(T:TypeId):Option Bool:=(P.underlying T).map λd=>match d with| .struct _| .array _ _=>true|_=>false
def Bp(P:Program)(T:TypeId):Option Nat:=(P.info? T).map (·.size)
def D9(P:Program)(T:TypeId)(f:Nat):Option Nat :=match P.underlying T with
 |some (.struct fs)=>match fs[f]? with
  |some fd=>match P.info? fd.type with
   |some i=>if i.size=0 then none else some fd.offset
   |none=>none
  |none=>none
 |_=>none
def E9(P:Program)(T:TypeId):Option TypeId :=match P.underlying T with
 |some (.slice e)=>some e
 |_=>none
def wO{T:TypeId}{b:Bool}(h:D2 P T=some b)(w:World):(isAgg T).run P w=.ok b w:=by
 unfold D2 at h;cases E:P.underlying T with
 |none=>grind
 |some d =>simp only[E,Em,B8]at h;subst h;simp only[isAgg,underlying,Ha,run_program,Hp,E,L3];cases d <;> rfl
def Qh{T:TypeId}{n:Nat}(h:Bp P T=some n)(w:World):(sizeOf T).run P w=.ok n w:=by
 unfold Bp at h;cases E:P.info? T with
 |none=>grind
 |some d =>simp only[E,Em,B8]at h;subst h;simp[sizeOf,typeInfo,E]
theorem Zf(b off n:Nat):(⟨b,off,none⟩:Addr).add n=⟨b,off+n,none⟩:=by grind[Addr.add]
def NV{T f off b p:Nat}(h:D9 P T f=some off)(w:World):(Instr.fieldAt T (.pointer (some ⟨b,p,none⟩)) f).run P w=.ok (.pointer (some ⟨b,p+off,none⟩)) w:=by
 unfold D9 at h;cases J:P.underlying T with
 |none=>grind
 |some d =>
  rw[J]at h;cases d <;> simp only[reduceCtorEq]at h;rename_i fs;cases E:fs[f]? with
  |none=>grind
  |some fd =>
   simp only[E]at h;cases I:P.info? fd.type with
   |none=>grind
   |some i =>simp only[I]at h;split at h;grind;rename_i hs;simp only[B8]at h;subst h;simp[Instr.fieldAt,underlying,J,E,Instr.sureAddr,fieldPlace,sizeOf,typeInfo,I,hs,Zf]
variable {w:World}
def IS{T b p:Nat}{v:Value}(hT:D2 P T=some false)(E:w.cell? ⟨b,p,none⟩=some v) :(Instr.loadAt T (.pointer (some ⟨b,p,none⟩))).run P w=.ok v w:=by simp[Instr.loadAt,Instr.sureAddr,loadVar,wO hT,E]
variable {vs:List Value}
def aU{T b p n:Nat}(hT:D2 P T=some true)(hs:Bp P T=some n)(E:vs.length=n)
  (I:∀(j:Nat) (v:Value),vs[j]?=some v->w.cell? ⟨b,p+j,none⟩=some v) :
  (Instr.loadAt T (.pointer (some ⟨b,p,none⟩))).run P w=.ok (.agg ⟨vs⟩) w:=by have h:=run_loadCells_list (P:=P) w ⟨b,p,none⟩ vs (λj v J=>by rw[Zf];grind);subst E;simp[Instr.loadAt,Instr.sureAddr,loadVar,wO hT,Qh hs,h]
theorem cells_of_row{b:Nat}{ty:TypeId}{E:Nat × Nat}(h:w.heap[b]?=some (.cells ⟨vs⟩ ty E))(p:Nat):w.cell? ⟨b,p,none⟩=vs[p]?:=by rw[cell_of_row w b p ⟨vs⟩ ty E h];simp
variable {S:Nat->Prop} {β:Names}
def An.eJ{k off:Nat}{v:Value}(h:An S w β (.box k off) v):∃b,(β k).base=some b/\v=.pointer (some ⟨b,off,none⟩):=by cases h with|box k off b h=>grind
def part(cs:List SV)(off n:Nat):List SV:=(cs.drop off).take n
def VH(cs:List D)(off n:Nat):List D:=(cs.drop off).take n
def YA{cs:List SV}(h:C7 S w β cs vs)(I:cs.all SV.one=true):An S w β (.agg cs) (.agg ⟨vs⟩) :=.agg cs vs h.1 (λc E=>Dz.1 I c E) h.2
def C7.part{cs:List SV}(h:C7 S w β cs vs)(off n:Nat):C7 S w β (part cs off n) ((vs.drop off).take n):=by refine⟨by simp[iA.part,h.1],?_⟩;intro j c v E I;simp only[iA.part,tE,Y0]at E I;split at E;rw[A7 (by omega)]at I;exact h.2 _ c v E I;grind
variable {x:Operand}
def kr{T:TypeId}(O:o.op=.load T x){k off n:Nat}{cs:List SV}(hx:ρ x=.box k off)(hb:(k,Ax.cells cs)∈bx)
  (hT:D2 P T=some true)(hs:Bp P T=some n)(hl:off+n<=cs.length)(U:(part cs off n).all SV.one=true):C1 P o ρ bx (.agg (part cs off n)) bx [] :=
 .Ei λ_ _ w β a Z W=>by
  have I:=(W x (mo O (by grind[Op.operands])));rw[hx]at I;obtain⟨b,E,V⟩:=I.eJ;obtain⟨b',ty,vs,J,hh,hr⟩:=Z.box k _ hb;rw[E]at J;cases J;refine⟨.agg ⟨(vs.drop off).take n⟩,?_,YA (hr.part off n) U⟩;have:=hr.1;have L:=aU (P:=P) (w:=w) (b:=b) (p:=off) (vs:=(vs.drop off).take n) hT hs (by grind) (by grind[cells_of_row])
  simp[execOp,O,V,L]
structure bM(S:Nat->Prop)(w:World)(cells:List D)(off:Nat)(v:Value)(b base:Nat):Prop where
 v:v=.pointer (some ⟨b,base+off,none⟩)
 inS:S b
 one:∀d,d∈cells->d.one=true
 there:∀j,j<cells.length->∃v,w.cell? ⟨b,base+j,none⟩=some v
 rep:∀(j:Nat) (d:D) (v:Value),cells[j]?=some d->w.cell? ⟨b,base+j,none⟩=some v->C5 S w d v
def An.DL{cells:List D}{off:Nat}{v:Value}(h:An S w β (.A8 cells off) v):∃b base,bM S w cells off v b base:=by cases h with|A8 cells off b base I L E J=>exact⟨b,base,rfl,I,L,E,J⟩
def An.uk{cells:List D}{v:Value}(h:An S w β (.d (.ptr cells)) v):∃b base,bM S w cells 0 v b base:=by
 cases h with
 |d _ _ h=>cases h with|ptr cells b base I L E J=>exact⟨b,base,by simp,I,L,E,J⟩
def bM.A8{cells:List D}{off E:Nat}{v:Value}{b base:Nat}(h:bM S w cells off v b base):An S w β (.A8 cells E) (.pointer (some ⟨b,base+E,none⟩)) :=.A8 cells E b base h.inS h.one h.there h.rep
inductive pM:SV->List D->Nat->Prop where
 |A8 (cells:List D) (off:Nat):pM (.A8 cells off) cells off
 |ptr (cells:List D):pM (.d (.ptr cells)) cells 0
def An.q8{x:SV}{cells:List D}{off:Nat}{v:Value}(h:An S w β x v)(E:pM x cells off):∃b base,bM S w cells off v b base:=by
 cases E with
 |A8=>exact h.DL
 |ptr=>exact h.uk
def yv{T f d:Nat}(J:o.op=.fieldAddr T x f){k off:Nat}(V:ρ x=.box k off)(L:D9 P T f=some d):C1 P o ρ bx (.box k (off+d)) bx [] :=.Ei λ_ _ w β a W U=>by have I:=(U x (mo J (by grind[Op.operands])));rw[V]at I;obtain⟨b,E,O⟩:=I.eJ;exact⟨.pointer (some ⟨b,off+d,none⟩),by simp[execOp,J,O,NV L],.box _ _ _ E⟩
def tf{T f d:Nat}(E:o.op=.fieldAddr T x f){cells:List D}{off:Nat}(L:pM (ρ x) cells off)(I:D9 P T f=some d) :C1 P o ρ bx (.A8 cells (off+d)) bx [] :=.Ei λ_ _ w β a O J=>by obtain⟨b,base,hp⟩:=((J x (mo E (by grind[Op.operands])))).q8 L;exact⟨.pointer (some ⟨b,base+(off+d),none⟩),by simp[execOp,E,hp.v,NV I,Uf],hp.A8⟩
def H5s{T f d:Nat}(J:o.op=.fieldAddr T x f){k i off:Nat}(V:ρ x=.Fa k i off)(L:D9 P T f=some d):C1 P o ρ bx (.Fa k i (off+d)) bx [] :=.Ei λ_ _ w β a W U=>by
  have E:=(U x (mo J (by grind[Op.operands])));rw[V]at E;generalize O:a.eval x=v at E;cases E with
  |Fa k i off b I =>exact⟨.pointer (some ⟨b,((β k).off+i)*(β k).sz+(off+d),none⟩),by simp[execOp,J,O,NV L,Uf],.Fa _ _ _ _ I⟩
def ee{T e n:Nat}{b p len cap:Nat}{i:Int}{k:IntKind}(hT:E9 P T=some e)(hs:Bp P e=some n)(I:0<=i)(J:i<len)(w:World) :(Instr.indexAt T (.slice (some ⟨b,p,none⟩) len cap) (.int k i)).run P w=.ok (.pointer (some ⟨b,p+i.toNat*n,none⟩)) w:=by
 unfold E9 at hT;cases E:P.underlying T with
 |none=>grind
 |some d =>rw[E]at hT;cases d <;> simp only[reduceCtorEq,B8]at hT;subst hT;simp[Instr.indexAt,asIntOf,underlying,E,I,J,Qh hs,Zf]
def iv{T e n:Nat}{x y:Operand}(U:o.op=.indexAddr T x y){rows:List (List D)}{k:IntKind}{i:Int}{row:List D}(hx:ρ x=.d (.slice rows))(hy:ρ y=.d (.int k i))
  (hT:E9 P T=some e)(hs:Bp P e=some n)(h0:0<=i)(hr:rows[i.toNat]?=some row)(hn:row.length=n):C1 P o ρ bx (.A8 row 0) bx [] :=
 .Ei λ_ S w β a hi V=>by
  have E:=(V x (mo U (by grind[Op.operands])));rw[hx]at E;have I:=(V y (mo U (by grind[Op.operands])));rw[hy]at I;have I:=I.J6;have W:=(Az.1 hr).1;have J:=Bs hr;generalize Z:a.eval x=v at E;cases E with
  |d _ _ E =>
   cases E with
   |Nv=>grind
   |slice _ b off cap sz hS h1 h2 h3 L h4 h5 =>
    have O:sz=n:=by rw[<-hn];exact(h3 row J).symm
    subst O;refine⟨.pointer (some ⟨b,(off+i.toNat*sz)+0,none⟩),?_,.A8 row 0 b (off+i.toNat*sz) hS (L row J) ?_ ?_⟩
    .simp[execOp,U,Z,I,ee hT hs h0 (show i<(rows.length:Int) by omega)]
    .grind
    grind
def mw{T e n:Nat}{x y:Operand}(U:o.op=.indexAddr T x y){q:Nat}{sz:Nat}{rows:List (List D)}{k:IntKind}{i:Int}(W:ρ x=.acc q)(Z:(q,Ax.rows sz rows)∈bx)
  (hy:ρ y=.d (.int k i))(hT:E9 P T=some e)(hs:Bp P e=some n)(O:sz=n)(h0:0<=i)(h1:i.toNat<rows.length):C1 P o ρ bx (.Fa q i.toNat 0) bx [] :=
 .Ei λ_ S w β a hi V=>by
  have J:=(V x (mo U (by grind[Op.operands])));rw[W]at J;have I:=(V y (mo U (by grind[Op.operands])));rw[hy]at I;have I:=I.J6;generalize L:a.eval x=v at J;obtain⟨g1,g2,g3,g4,g5,g6,g7⟩:=hi.box q _ Z;cases J with
  |acc q =>
   cases E:(β q).base with
   |none=>grind
   |some b =>subst O;refine⟨.pointer (some ⟨b,((β q).off+i.toNat)*(β q).sz+0,none⟩),?_,.Fa q i.toNat 0 b E⟩;rw[E]at L;simp only[Em]at L;simp[execOp,U,L,I,ee hT hs h0 (show i<(((β q).len:Nat):Int) by omega),g1,Ii]
def F6f{T:Nat}{x y:Operand}(J:o.op=.index T x y){s:A3}{k:IntKind}{i:Int}{c:UInt8}(hx:ρ x=.d (.str s))(W:ρ y=.d (.int k i))
  (hT:P.underlying T=some .string)(U:0<=i)(hr:s[i.toNat]?=some c):C1 P o ρ bx (.d (.int .u8 c.toNat)) bx [] :=
 .Ei λ_ S w β a hi O=>by
  have I:=(O x (mo J (by grind[Op.operands])));rw[hx]at I;have I:=I.Vw.1;have E:=(O y (mo J (by grind[Op.operands])));rw[W]at E;have E:=E.J6;refine⟨.int .u8 c.toNat,?_,.int _ _⟩;have V:(mkStr s)[i.toNat]?=some c:=by
   obtain⟨Z,h2⟩:=Az.1 hr;have L:i.toNat<(mkStr s).size:=Z;rw[getElem?_pos (mkStr s) i.toNat L]
   congr 1
  simp[execOp,J,I,E,Instr.index,asIntOf,underlying,hT,U,V]
def G3z{T f d n:Nat}(L:o.op=.field T x f){cs:List SV}{J:TypeId}(hx:ρ x=.agg cs){fs:Array Field}{fd:Field}
  (hT:P.underlying T=some (.struct fs))(O:fs[f]?=some fd)(hd:fd.offset=d)(I:fd.type=J)(Z:D2 P J=some true)(hs:Bp P J=some n):C1 P o ρ bx (.agg (part cs d n)) bx [] :=
 .Ei λ_ S w β a hi h=>by
  have E:=h x (mC L);rw[hx]at E;generalize W:a.eval x=v at E;cases E with
  |agg _ vs U h1 h2 =>
   subst hd I;refine⟨.agg ⟨(vs.drop fd.offset).take n⟩,?_,YA (C7.part ⟨U,h2⟩ _ _) ?_⟩
   .have he:(Array.mk vs).extract fd.offset (fd.offset+n)=⟨(vs.drop fd.offset).take n⟩:=by
     apply L5;simp
    simp[execOp,L,W,Instr.field,underlying,hT,O,Go.part,wO Z,Qh hs,asAgg,he]
   .rw[Dz];intro c V;exact h1 c (SC (Kv V))
def G6y{T f d:Nat}(O:o.op=.field T x f){cs:List SV}{U:TypeId}{c:SV}(hx:ρ x=.agg cs){fs:Array Field}{fd:Field}
  (hT:P.underlying T=some (.struct fs))(V:fs[f]?=some fd)(hd:fd.offset=d)(I:fd.type=U)(Z:D2 P U=some false)(J:cs[d]?=some c):C1 P o ρ bx c bx [] :=
 .Ei λ_ S w β a hi h=>by
  have E:=h x (mC O);rw[hx]at E;generalize W:a.eval x=v at E;cases E with
  |agg _ vs hl h1 h2 =>
   subst hd I;have L:fd.offset<vs.length:=by have:=(Az.1 J).1;omega
   refine⟨vs[fd.offset],?_,h2 _ c _ J (Bu L)⟩;simp[execOp,O,W,Instr.field,underlying,hT,V,Go.part,wO Z,asAgg,L]
def mu(J:o.op=.nilCheck x){k off:Nat}(U:ρ x=.box k off):C1 P o ρ bx (.box k off) bx [] :=.Ei λ_ _ w β a V O=>by have E:=(O x (mo J (by grind[Op.operands])));rw[U]at E;obtain⟨b,I,L⟩:=E.eJ;exact⟨a.eval x,by simp[execOp,J,L],E⟩
def Od(E:o.op=.nilCheck x){cells:List D}{off:Nat}(J:pM (ρ x) cells off):C1 P o ρ bx (ρ x) bx [] :=.Ei λ_ _ w β a L I=>by obtain⟨b,base,hp⟩:=((I x (mo E (by grind[Op.operands])))).q8 J;exact⟨a.eval x,by simp[execOp,E,hp.v],(I x (mo E (by grind[Op.operands])))⟩
def run_len_slice{T:TypeId}{e:TypeId}(hT:E9 P T=some e)(a:Option Addr)(n c:Nat)(ty:TypeId)(w:World):(Builtin.len_ #[T] ty #[.slice a n c]).run P w=.ok (.int .i64 n) w:=by
 unfold E9 at hT;cases E:P.underlying T with
 |none=>grind
 |some d =>rw[E]at hT;cases d <;> simp only[reduceCtorEq,B8]at hT;simp[Builtin.len_,underlying,E,goInt]
def F5z{T e:Nat}(I:o.op=.call { callee:=.builtin .len,args:=#[x],argTypes:=#[T] }){rows:List (List D)}(O:ρ x=.d (.slice rows))(hT:E9 P T=some e) :C1 P o ρ bx (.d (.int .i64 rows.length)) bx [] :=.Ei λ_ _ w β a U L=>by
  have E:=(L x (mC I));rw[O]at E;generalize J:a.eval x=v at E;refine⟨.int .i64 rows.length,?_,.int _ _⟩;cases E with
  |d _ _ E =>cases E <;> simp[execOp,I,resolve,invoke,builtin,J,run_len_slice hT]
def aY{T e:Nat}(I:o.op=.call { callee:=.builtin .len,args:=#[x],argTypes:=#[T] })(hx:ρ x=.d .nil\/ρ x=.d .emp)(hT:E9 P T=some e) :C1 P o ρ bx (.d (.int .i64 0)) bx [] :=.Ei λ_ _ w β a O L=>by
  have E:=(L x (mC I));generalize J:a.eval x=v at E;refine⟨.int .i64 0,?_,.int _ _⟩;rcases hx with hx|hx <;> rw[hx]at E <;> cases E with
  |d _ _ E=>cases E;simp[execOp,I,resolve,invoke,builtin,J,run_len_slice hT]
def F7b{T e:Nat}(I:o.op=.call { callee:=.builtin .len,args:=#[x],argTypes:=#[T] }){q sz:Nat}{rows:List (List D)}(W:ρ x=.acc q)(V:(q,Ax.rows sz rows)∈bx)(hT:E9 P T=some e) :C1 P o ρ bx (.d (.int .i64 rows.length)) bx [] :=.Ei λ_ _ w β a O L=>by
  have E:=(L x (mC I));rw[W]at E;generalize J:a.eval x=v at E;obtain⟨Z,U,_⟩:=O.box q _ V;refine⟨.int .i64 rows.length,?_,.int _ _⟩;cases E with
  |acc q=>simp[execOp,I,resolve,invoke,builtin,J,run_len_slice hT,U]
def zw{T:Nat}(I:o.op=.call { callee:=.builtin .len,args:=#[x],argTypes:=#[T] }){s:A3}(O:ρ x=.d (.str s))(hT:P.underlying T=some .string) :C1 P o ρ bx (.d (.int .i64 s.length)) bx [] :=.Ei λ_ _ w β a U L=>by have E:=(L x (mC I));rw[O]at E;have J:=E.Vw.1;refine⟨.int .i64 s.length,?_,.int _ _⟩;simp[execOp,I,resolve,invoke,builtin,J,Builtin.len_,underlying,hT,goInt,dT]
def Yb(op:BinOp)(E:Bool):Option Bool :=match op with
 |.eql=>some E
 |.neq=>some (!E)
 |_=>none
def Rf:SV->Option Bool
 |.d .Mo=>some true
 |.d (.ptr _)| .A8 _ _| .box _ _| .Fa _ _ _=>some false
 |_=>none
theorem An.Rf{x:SV}{v:Value}(h:An S w β x v){b:Bool}(E:Rf x=some b):∃p,v=.pointer p/\p.isNone=b:=by
 cases h with
 |d _ _ h=>cases h <;> simp[iA.Rf]at E <;> subst E <;> simp
 |box _ _ _ _=>grind[iA.Rf]
 |A8 _ _ _ _ _ _ _=>grind[iA.Rf]
 |Fa _ _ _ _ _=>grind[iA.Rf]
 |_=>simp[iA.Rf]at E
variable {op:BinOp}
def ue{t u:TypeId}{x y:Operand}(J:o.op=.binOp op t x y u){b r:Bool}(ht:(P.underlying t).any (λd=>match d with| .pointer _=>true|_=>false)=true)
  (Z:Rf (ρ x)=some b)(W:ρ y=.d .Mo)(L:Yb op b=some r):C1 P o ρ bx (.d (.bool r)) bx [] :=
 .Ei λ_ _ w _ a _ O=>by
  obtain⟨p,hp,V⟩:=((O x (mC J))).Rf Z;have E:=(O y (mC J));rw[W]at E;have E:a.eval y=.pointer none:=by generalize a.eval y=z at E;cases E with|d _ _ h=>cases h;rfl
  refine⟨.bool r,?_,.bool r⟩;cases U:P.underlying t with
  |none=>grind
  |some d =>
   cases d <;> simp[U]at ht;rename_i e;have I:(Op.equal t (.pointer p) (.pointer none)).run P w=.ok b w:=by unfold Op.equal Op.maxDepth Op.equalIn;cases p <;> simp[underlying,U]at* <;> omega <;> rfl
   simp only[execOp,J,Ha,Sem.run_map,hp,E,H0r,Hp];cases op <;> first
    |(simp only[Yb,reduceCtorEq]at L;done)
    |(simp only[Yb,B8]at L;subst L;simp[binOp,I])
def mY:SV->Option Bool
 |.d .Hd=>some true
 |.d (.iface _ _)=>some false
 |_=>none
def dI:Operand->Bool
 |.const .nilIface=>true
 |_=>false
def vP{t u:TypeId}{x y:Operand}(Z:o.op=.binOp op t x y u){b r:Bool}(ht:(P.underlying t).any (λd=>match d with| .interface _=>true|_=>false)=true)
  (E:mY (ρ x)=some b)(hy:ρ y=.d .Hd)(W:dI y=true)(J:Yb op b=some r):C1 P o ρ bx (.d (.bool r)) bx [] :=
 .Ei λ_ _ w _ a _ ha=>by
  have O:=ha x (mC Z);have V:y=.const .nilIface:=by
   unfold dI at W;split at W
   .rfl
   .simp at W
  subst V;have h2:a.eval (.const .nilIface)=.nilIface:=rfl;refine⟨.bool r,?_,.bool r⟩;cases U:P.underlying t with
  |none=>simp[U]at ht
  |some d =>
   cases d <;> simp[U]at ht;rename_i e;generalize ρ x=rx at E O;generalize L:a.eval x=vx at O;have key:(vx=.nilIface/\b=true)\/∃T z,vx=.iface T z/\b=false:=by
    unfold mY at E;split at E
    .simp only[B8]at E;have:=O.Js;cases this;exact .inl ⟨rfl,E.symm⟩
    .simp only[B8]at E;have:=O.Js;cases this;exact .inr ⟨_,_,rfl,E.symm⟩
    .simp at E
   rcases key with⟨rfl,rfl⟩|⟨T,z,rfl,rfl⟩
   .have I:(Op.equal t .nilIface .nilIface).run P w=.ok true w:=by
     unfold Op.equal Op.maxDepth Op.equalIn;simp[underlying,U]
    cases op <;> first
     |(simp only[Yb,reduceCtorEq]at J;done)
     |(simp only[Yb,B8]at J;subst J;simp[execOp,Z,L,h2,eqGuard,binOp,I])
   .have I:(Op.equal t (.iface T z) .nilIface).run P w=.ok false w:=by
     unfold Op.equal Op.maxDepth Op.equalIn;simp[underlying,U]
    cases op <;> first
     |(simp only[Yb,reduceCtorEq]at J;done)
     |(simp only[Yb,B8]at J;subst J;simp[execOp,Z,L,h2,eqGuard,binOp,I])
def Qz:SV->Option Bool
 |.d .nil=>some true
 |.d .emp=>some false
 |.d (.slice (_::_))=>some false
 |_=>none
theorem An.Qz{x:SV}{v:Value}(h:An S w β x v){b:Bool}(E:Qz x=some b):∃p l c,v=.slice p l c/\p.isNone=b:=by
 cases h with
 |d _ _ h =>
  cases h with
  |nil=>grind[iA.Qz]
  |emp=>grind[iA.Qz]
  |Nv=>simp[iA.Qz]at E
  |slice rows=>cases rows <;> simp[iA.Qz]at E;grind
  |_=>simp[iA.Qz]at E
 |_=>simp[iA.Qz]at E
def di{t u:TypeId}{x y:Operand}(J:o.op=.binOp op t x y u){e:Nat}{b r:Bool}(ht:E9 P t=some e)
  (Z:Qz (ρ x)=some b)(W:ρ y=.d .nil)(L:Yb op b=some r):C1 P o ρ bx (.d (.bool r)) bx [] :=
 .Ei λ_ _ w _ a _ O=>by
  obtain⟨p,l,c,hp,V⟩:=((O x (mo J (by grind[Op.operands])))).Qz Z;have E:=(O y (mo J (by grind[Op.operands])));rw[W]at E;have E:a.eval y=.slice none 0 0:=by generalize a.eval y=z at E;cases E with|d _ _ h=>cases h;rfl
  refine⟨.bool r,?_,.bool r⟩;unfold E9 at ht;cases U:P.underlying t with
  |none=>grind
  |some d =>
   rw[U]at ht;cases d <;> simp only[reduceCtorEq,B8]at ht;rename_i e;have I:(Op.equal t (.slice p l c) (.slice none 0 0)).run P w=.ok b w:=by unfold Op.equal Op.maxDepth Op.equalIn;cases p <;> simp[underlying,U]at* <;> omega <;> rfl
   simp only[execOp,J,Ha,Sem.run_map,hp,E,tr,Hp];cases op <;> first
    |(simp only[Yb,reduceCtorEq]at L;done)
    |(simp only[Yb,B8]at L;subst L;simp[binOp,I])
end Go.iA
namespace Go.iA
open Go
variable {P:Program} {o:Oper} {ρ:Iq} {bx:Ac}
def Cu(k:Nat):Ac->Ac
 |[]=>[]
 |(j,c)::r=>if j=k then Cu k r else(j,c)::Cu k r
variable {c:Ax}
theorem Ev{k j:Nat} :∀{bx:Ac},(j,c)∈Cu k bx↔j≠k/\(j,c)∈bx
 |[]=>by simp[Cu]
 |(i,x)::r=>by simp only[Cu];split;rename_i h;subst h;rw[Ev];grind;rename_i h;simp only[Ay,Gg,Ev];grind
def Nr(k:Nat)(x:SV):SV:=if x.has k then .undef else x
def Y9(k:Nat):SL->SL
 |[]=>[]
 |(t,x)::r=>(t,Nr k x)::Y9 k r
def KJ(k:Nat):∀(sl:SL)(t:Nat),Ae (Y9 k sl) t=Nr k (Ae sl t)
 |[],t=>by rfl
 |(u,x)::r,t=>by simp only[Y9,Ae];split;rfl;exact KJ k r t
def Ax.Tn(k:Nat):Ax->Ax
 |.cells cs=>.cells (cs.map (Nr k))
 |c=>c
def Hx(k:Nat):Ac->Ac
 |[]=>[]
 |(j,c)::r=>(j,c.Tn k)::Hx k r
def TJ{k j:Nat} :∀{bx:Ac},(j,c)∈Hx k bx->∃x,(j,x)∈bx/\c=x.Tn k
 |[],h=>by simp[Hx]at h
 |(i,x)::r,h=>by simp only[Hx,Ay,Gg]at h;rcases h with⟨J,I⟩|h;grind;obtain⟨y,E,L⟩:=TJ h;grind
def F4(β:Names)(k:Nat)(i:BI):Names:=λj=>if j=k then i else β j
theorem Ht(β:Names)(k:Nat)(i:BI):F4 β k i k=i:=by simp[F4]
variable {β:Names}
theorem Mz{k j:Nat}{i:BI}(h:j≠k):F4 β k i j =β j:=by simp[F4,h]
variable {k:Nat}
def An.Tn{S S':Nat->Prop}{w w':World}{i:BI}{x:SV}{v:Value}(h:An S w β x v)(e:Cg S w S' w'):An S' w' (F4 β k i) (Nr k x) v:=by unfold Nr;split;exact .undef v;rename_i I;refine h.ext e λj E=>Mz ?_;grind
def E4.Tn{S S':Nat->Prop}{w w':World}{i I:BI}(h:E4 S w β I c)(e:Cg S w S' w')
  (E:∀b,I.base=some b->w'.heap[b]?=w.heap[b]?):E4 S' w' (F4 β k i) I (c.Tn k):=by
 cases c with
 |cells cs =>obtain⟨b,ty,vs,L,O,U⟩:=h;refine⟨b,ty,vs,L,(E b L).trans O,U.map (by simp) ?_⟩;intro j x y v V J hr;simp only[Df,V,Em,B8]at J;subst J;exact hr.Tn e
 |rows sz rs=>exact E4.ext (c:=.rows sz rs) h e E (by simp[Ax.has])
 |map kvs=>exact E4.ext (c:=.map kvs) h e E (by simp[Ax.has])
 |iter kvs seen=>exact E4.ext (c:=.iter kvs seen) h e E (by simp[Ax.has])
 |ghost Y st=>exact h
variable {C:Ctx} {S:Nat->Prop}
def Inv.dM{w w':World}{k b:Nat}{x c:Ax}(h:Inv C S w β bx)(V:(k,x)∈bx)(hb:(β k).base=some b)
  (hw:∀I,I≠b->w'.heap[I]?=w.heap[I]?)(a0:w'.os=w.os)(U:w'.tape=w.tape)(W:w'.output=w.output)(Pr:w'.heap.size=w.heap.size)
  (hc:E4 S w' β (β k) c)(a2:c.real=true:=by rfl):Inv C S w' β ((k,c)::Cu k bx)/\Cg S w S w':=by have e:Cg S w S w':=⟨λ_ h=>h,λI E=>hw I λZ=>(h.Bk k x V b hb).1 (Z ▸ E)⟩;refine⟨h.step e (λI E=>.inl E) (λI E=>by rw[Pr];exact h.C9 I E) (λI _ hn=>hw I λZ=>hn k x V (by grind)) a0 U W (by omega) ?_ ?_ (λ_ _=>rfl) ?_,e⟩;intro j d hj;simp only[Ay,Gg]at hj;rcases hj with⟨rfl,rfl⟩|hj;refine⟨hc,λI E=>?_⟩;obtain⟨h1,h2,_⟩:=h.Bk _ x V I E;grind;obtain⟨J,hj⟩:=Ev.1 hj;refine⟨(h.box j d hj).ext e (λI E=>hw I λZ=>J (h.inj j d k x hj V I E (by grind)).1) (λ_ _=>rfl),λI E=>?_⟩;obtain⟨h1,h2,_⟩:=h.Bk j d hj I E;grind;intro j d j' d' hj hj' I L O;simp only[Ay,Gg]at hj hj';rcases hj with⟨rfl,rfl⟩|hj;rcases hj' with⟨rfl,rfl⟩|hj';simp;obtain⟨J,hj'⟩:=Ev.1 hj';exact absurd (h.inj j' d' _ x hj' V I O L).1 J;obtain⟨J,g⟩:=Ev.1 hj;rcases hj' with⟨rfl,rfl⟩|hj';exact absurd (h.inj j d _ x g V I L O).1 J;obtain⟨a1,g'⟩:=Ev.1 hj';exact h.inj j d j' d' g g' I L O;grind[Ax.real,Ev]
def Inv.KX{S S':Nat->Prop}{w w':World}(i:BI)(h:Inv C S w β bx)(a':k<=999999)
  (a2:∀b,S b->S' b)(Z:∀b,S' b->S b\/w.heap.size<=b)(a5:∀b,S' b->b<w'.heap.size)
  (hi:∀b,i.base=some b->¬S' b/\b<w'.heap.size/\(w.heap.size<=b\/∃x,(k,x)∈bx/\(β k).base=some b))
  (hw:∀E,E<w.heap.size->(∀x,(k,x)∈bx->(β k).base≠some E)->w'.heap[E]?=w.heap[E]?)
  (a7:w'.os=w.os)(W:w'.tape=w.tape)(a1:w'.output=w.output)(Pr:w.heap.size<=w'.heap.size)
  (hc:Cg S w S' w'->E4 S' w' (F4 β k i) i c)(a8:c.real=true:=by rfl):Inv C S' w' (F4 β k i) ((k,c)::Hx k (Cu k bx))/\Cg S w S' w':=by
 have e:Cg S w S' w':=⟨a2,λE I=>hw E (h.C9 E I) λx V he=>(h.Bk k x V E he).1 I⟩;refine⟨h.step e Z a5 (λE hb hn=>hw E hb λx V=>hn k x V) a7 W a1 Pr ?_ ?_ (λj hj=>Mz (by omega)) ?_,e⟩;intro j d hj;simp only[Ay,Gg]at hj;rcases hj with⟨rfl,rfl⟩|hj;rw[Ht];refine⟨hc e,λE I=>?_⟩;obtain⟨h1,h2,h3⟩:=hi E I;refine⟨h1,h2,?_⟩;rcases h3 with h3|⟨x,V,a4⟩;exact .inl h3;exact .inr ⟨_,x,V,a4⟩;obtain⟨x,U,rfl⟩:=TJ hj;obtain⟨J,g⟩:=Ev.1 U;rw[Mz J];refine⟨(h.box j x g).Tn e (λE I=>hw E (h.Bk j x g E I).2.1 λy hy he=>J (h.inj j x k y g hy E I he).1),λE I=>?_⟩;obtain⟨h1,h2,_⟩:=h.Bk j x g E I;exact⟨λhs=>(Z E hs).elim h1 (by omega),by omega,.inr ⟨_,x,g,I⟩⟩
 .have fresh:∀j x E,j≠k->(j,x)∈bx->(β j).base=some E->i.base≠some E:=by intro j x E J hj I a3;rcases(hi E a3).2.2 with h3|⟨y,hy,a9⟩;have:=(h.Bk j x hj E I).2.1;omega;exact J (h.inj j x k y hj hy E I a9).1
  intro j d j' d' hj hj' E O L;simp only[Ay,Gg]at hj hj';rcases hj with⟨rfl,rfl⟩|hj;rcases hj' with⟨rfl,rfl⟩|hj';exact⟨rfl,rfl⟩;obtain⟨x,U,rfl⟩:=TJ hj';obtain⟨J,g⟩:=Ev.1 U;rw[Ht]at O;rw[Mz J]at L;exact absurd O (fresh j' x E J g L);obtain⟨x,U,rfl⟩:=TJ hj;obtain⟨J,g⟩:=Ev.1 U;rw[Mz J]at O;rcases hj' with⟨rfl,rfl⟩|hj';rw[Ht]at L;exact absurd L (fresh j x E J g O);obtain⟨x',a6,rfl⟩:=TJ hj';obtain⟨a0,g'⟩:=Ev.1 a6;rw[Mz a0]at L;obtain⟨h1,h2⟩:=h.inj j x j' x' g g' E O L;grind
 intro j Y st hj;simp only[Ay,Gg]at hj;rcases hj with⟨rfl,rfl⟩|hj;simp[Ax.real]at a8;obtain⟨x,U,V⟩:=TJ hj;cases x <;> simp only[Ax.Tn,reduceCtorEq]at V;grind[Ev]
def Inv.Vj{w w':World}(i:BI)(h:Inv C S w β bx)(O:k<=999999)
  (Z:∀b,i.base=some b->¬S b/\b<w'.heap.size/\(w.heap.size<=b\/∃x,(k,x)∈bx/\(β k).base=some b))
  (V:∀J,J<w.heap.size->(∀x,(k,x)∈bx->(β k).base≠some J)->w'.heap[J]?=w.heap[J]?)
  (U:w'.os=w.os)(E:w'.tape=w.tape)(I:w'.output=w.output)(Pr:w.heap.size<=w'.heap.size)
  (W:Cg S w S w'->E4 S w' (F4 β k i) i c)(L:c.real=true:=by rfl):Inv C S w' (F4 β k i) ((k,c)::Hx k (Cu k bx))/\Cg S w S w' :=
 h.KX i O (λ_ h=>h) (λ_ h=>.inl h) (λb hb=>X0 (h.C9 b hb) Pr) Z V U E I Pr W L
def Su:Value->SV
 |.int k n=>.d (.int k n)
 |.bool b=>.d (.bool b)
 |.string s=>if s.size<=lim then .d (.str s.data.toList)else .undef
 |.slice none 0 0=>.d .nil
 |.pointer none=>.d .Mo
 |.map none=>.d .N6
 |.nilIface=>.d .Hd
 |.nilFunc=>.d .G3
 |_=>.undef
def HH:List SV->List SV->SV
 |[],l=>.agg l
 |c::r,l=>match c.one with
  |true=>HH r l
  |false=>.undef
def M5:Value->SV
 |.int k n=>.d (.int k n)
 |.bool b=>.d (.bool b)
 |.string s=>if s.size<=lim then .d (.str s.data.toList)else .undef
 |.slice none 0 0=>.d .nil
 |.pointer none=>.d .Mo
 |.map none=>.d .N6
 |.nilIface=>.d .Hd
 |.nilFunc=>.d .G3
 |.tuple ⟨[]⟩=>.tuple []
 |.agg cells=>HH (cells.toList.map Su) (cells.toList.map Su)
 |_=>.undef
theorem G9b(S:Nat->Prop)(w:World)(β:Names)(v:Value):An S w β (Su v) v:=by unfold Su;split;exact .int _ _;exact .bool _;rename_i s;split;exact .d _ _ (.str s.data.toList (by assumption));exact .undef _;exact .d _ _ .nil;exact .d _ _ .Mo;exact .d _ _ .N6;exact .d _ _ .Hd;exact .d _ _ .G3;exact .undef _
def lY:∀cs l:List SV,HH cs l=.undef\/(HH cs l=.agg l/\∀c,c∈cs->c.one=true)
 |[],l=>.inr ⟨rfl,by simp⟩
 |c::r,l=>by
  rw[HH];cases E:c.one with
  |false=>simp
  |true =>rcases lY r l with h|⟨h,I⟩;grind;grind
theorem zH(S:Nat->Prop)(w:World)(β:Names)(v:Value):An S w β (M5 v) v:=by unfold M5;split;exact .int _ _;exact .bool _;rename_i s;split;exact .d _ _ (.str s.data.toList (by assumption));exact .undef _;exact .d _ _ .nil;exact .d _ _ .Mo;exact .d _ _ .N6;exact .d _ _ .Hd;exact .d _ _ .G3;exact .tuple [] [] rfl (by simp);rename_i cells;rcases lY (cells.toList.map Su) (cells.toList.map Su)with h|⟨h,E⟩;rw[h];exact .undef _;rw[h];obtain⟨vs⟩:=cells;refine .agg _ vs (by simp) E λj c v I J=>?_;grind[G9b];exact .undef _
def Co(P:Program)(T:TypeId):Option (List SV):=((P.info? T).bind (·.zero)).map λz=>z.cells.toList.map M5
def SK{T:TypeId}{E:List SV}(h:Co P T=some E)(w:World):∃z,(zeroValue T).run P w=.ok z w/\E=z.cells.toList.map M5:=by
 unfold Co at h;cases I:P.info? T with
 |none=>grind
 |some i =>
  cases J:i.zero with
  |none=>grind
  |some z =>simp[I,J]at h;exact⟨z,by simp[zeroValue,typeInfo,I,J],h.symm⟩
def MU(S:Nat->Prop)(w:World)(β:Names)(vs:List Value):C7 S w β (vs.map M5) vs:=by refine⟨by simp,?_⟩;grind[zH]
def yg(w:World)(x:Obj){b:Nat}(h:b<w.heap.size):(w.heap.push x)[b]?=w.heap[b]?:=by grind
def cW(w:World)(x:Obj):(w.heap.push x)[w.heap.size]?=some x:=by simp
variable {w:World} {cs:List SV} {vs:List Value}
def Inv.eo(h:Inv C S w β bx)(I:k<=999999)(T:TypeId)(hr:C7 S w β cs vs) :Inv C S { w with heap:=w.heap.push (.cells ⟨vs⟩ T) } (F4 β k { base:=some w.heap.size }) ((k,.cells (cs.map (Nr k)))::Hx k (Cu k bx))/\Cg S w S { w with heap:=w.heap.push (.cells ⟨vs⟩ T) }:=by refine h.Vj { base:=some w.heap.size } I ?_ ?_ rfl rfl rfl (by simp) ?_;intro b J;simp only[B8]at J;subst J;exact⟨λhs=>by have:=h.C9 _ hs;omega,by simp,.inl (Bv _)⟩;grind;intro e;refine⟨w.heap.size,T,vs,rfl,cW w _,hr.map (by simp) ?_⟩;intro j x y v O L E;simp only[Df,O,Em,B8]at L;subst L;exact E.Tn e
theorem qh{T k:Nat}(I:k<=999999)(U:o.op=.alloc T){J:List SV}(L:Co P T=some J) :C1 P o ρ bx (.box k 0) ((k,.cells (J.map (Nr k)))::Hx k (Cu k bx)) [k]:=by
 intro C S w β a V ha;obtain⟨z,E,rfl⟩:=SK L w;obtain⟨W,O⟩:=V.eo (k:=k) I T (MU S w β z.cells.toList);refine Ja ?_;unfold Oper.wp;have:(execOp a.eval o).run P w=.ok (.value (.pointer (some ⟨w.heap.size,0,none⟩))) { w with heap:=w.heap.push (.cells ⟨z.cells.toList⟩ T) }:=by simp[execOp,U,Instr.alloc,E,newVar,newRow]
 rw[this];exact⟨_,S,_,rfl,W,O,.box k 0 _ (by rw[Ht]),λj Z=>Mz (by grind)⟩
def content:SV->Option (List SV)
 |.agg cs=>some cs
 |x=>if x.one then some [x]else none
theorem An.content{x:SV}{v:Value}(h:An S w β x v)(E:content x=some cs):C7 S w β cs v.cells.toList/\cs.all SV.one=true:=by
 cases h with
 |agg cells vs I J L =>simp only[iA.content,B8]at E;subst E;exact⟨⟨I,L⟩,Dz.2 J⟩
 |undef v=>grind[iA.content,SV.one]
 |tuple cells vs=>grind[iA.content,SV.one]
 |d x v h =>
  simp only[iA.content]at E;by_cases V:(SV.d x).one=true
  .rw[A7 V]at E;simp only[B8]at E;subst E;have I:=h.one V;have:v.cells.toList=[v]:=by cases v <;> simp[Value.oneCell']at I <;> rfl
   rw[this];exact⟨.cons (.d _ _ h) .nil,by grind⟩
  rw[A5 V]at E;simp at E
 |box k off b O=>simp only[iA.content,SV.one,Av,B8]at E;subst E;exact⟨.cons (.box k off b O) .nil,rfl⟩
 |A8 cells off b base I J L U=>simp only[iA.content,SV.one,Av,B8]at E;subst E;exact⟨.cons (.A8 cells off b base I J L U) .nil,rfl⟩
 |acc k=>simp only[iA.content,SV.one,Av,B8]at E;subst E;exact⟨.cons (.acc k) .nil,rfl⟩
 |Fa k i off b O=>simp only[iA.content,SV.one,Av,B8]at E;subst E;exact⟨.cons (.Fa k i off b O) .nil,rfl⟩
 |mp k b O=>simp only[iA.content,SV.one,Av,B8]at E;subst E;exact⟨.cons (.mp k b O) .nil,rfl⟩
 |Fg l=>simp only[iA.content,SV.one,Av,B8]at E;subst E;exact⟨.cons (.Fg l) .nil,rfl⟩
 |Fy cells off b I J L U=>simp only[iA.content,SV.one,Av,B8]at E;subst E;exact⟨.cons (.Fy cells off b I J L U) .nil,rfl⟩
 |Bi f caps vs I J=>simp only[iA.content,SV.one,Av,B8]at E;subst E;exact⟨.cons (.Bi f caps vs I J) .nil,rfl⟩
theorem H2r{T k:Nat}{x:Operand}(E:k<=999999)(I:o.op=.box T x){cs:List SV}(U:content (ρ x)=some cs) :C1 P o ρ bx (.box k 0) ((k,.cells (cs.map (Nr k)))::Hx k (Cu k bx)) [k]:=by
 intro C S w β a O J;have hr:=(((J x (mo I (by grind[Op.operands])))).content U).1;obtain⟨V,L⟩:=O.eo (k:=k) E T hr;refine Ja ?_;unfold Oper.wp;have:(execOp a.eval o).run P w=.ok (.value (.pointer (some ⟨w.heap.size,0,none⟩))) { w with heap:=w.heap.push (.cells ⟨(a.eval x).cells.toList⟩ T) }:=by simp[execOp,I,Instr.box,newVar,newRow]
 rw[this];exact⟨_,S,_,rfl,V,L,.box k 0 _ (by rw[Ht]),λj W=>Mz (by grind)⟩
def Hr{α:Type}:List α->Nat->List α->List α
 |cs,_,[]=>cs
 |cs,off,u::us=>Hr (cs.set off u) (off+1) us
theorem PG{α:Type} :∀(us:List α)(cs:List α)(off:Nat),(Hr cs off us).length=cs.length
 |[],_,_=>rfl
 |u::us,cs,off=>by simp[Hr,PG us]
def YC{α:Type} :∀(us:List α)(cs:List α)(off j:Nat),off+us.length<=cs.length->(Hr cs off us)[j]?=if off<=j/\j<off+us.length then us[j - off]? else cs[j]?
 |[],cs,off,j,_=>by simp only[Hr,Ck,Nd];grind
 |u::us,cs,off,j,h=>by simp only[Bg]at h;simp only[Hr,Bg];rw[YC us (cs.set off u) (off+1) j (by grind)];grind
theorem C7.Hr{cs us:List SV}{vs J:List Value}(h:C7 S w β cs vs)(t:C7 S w β us J){off:Nat}(L:off+us.length<=cs.length) :C7 S w β (Hr cs off us) (Hr vs off J):=by refine⟨by rw[PG,PG,h.1],?_⟩;intro j c v I E;rw[YC _ _ _ _ L]at I;rw[YC _ _ _ _ (by rw[t.1,h.1];exact L)]at E;rw[t.1]at E;split at I;rw[A7 (by omega)]at E;exact t.2 _ c v I E;rw[A5 (by omega)]at E;exact h.2 _ c v I E
def H6y{b p:Nat}{ty:TypeId}{E:Nat × Nat}{v:Value}(h:w.heap[b]?=some (.cells ⟨vs⟩ ty E)) :(w.setCell ⟨b,p,none⟩ v).heap[b]?=some (.cells ⟨vs.set p v⟩ ty E):=by simp only[World.setCell,FJ,Av,h,Em,Uj,Iu,Gi];simp
def ZL:∀(us vs:List Value)(b off i:Nat)(ty:TypeId)(w:World),w.heap[b]?=some (.cells ⟨vs⟩ ty (0,0))->off+i+us.length<=vs.length->us.all (·.oneCell')=true ->∃w',(storeCells ⟨b,off,none⟩ us i).run P w=.ok () w'/\w'.heap[b]?=some (.cells ⟨Hr vs (off+i) us⟩ ty (0,0))/\(∀O,O≠b->w'.heap[O]?=w.heap[O]?) /\w'.os=w.os/\w'.tape=w.tape/\w'.output=w.output/\w'.heap.size=w.heap.size
 |[],vs,b,off,i,ty,w,I,_,_=>⟨w,by rfl,I,λ_ _=>rfl,rfl,rfl,rfl,rfl⟩
 |u::us,vs,b,off,i,ty,w,I,V,J=>by
  simp only[Bg]at V;simp only[Qa,Bh]at J;have E:w.cell? ⟨b,off+i,none⟩=some (vs[off+i]'(by omega)):=by rw[cells_of_row I];simp
  have L:w.frozen? ⟨b,off+i,none⟩=false:=by simp[World.frozen?,I]
  have Z:(store ((⟨b,off,none⟩:Addr).add i) u).run P w=Result.ok () (w.setCell ⟨b,off+i,none⟩ u):=by rw[Zf,run_store P w _ u _ J.1,E,L];simp
  obtain⟨w',hr,g1,g2,U,g4,W,g6⟩:=ZL us (vs.set (off+i) u) b off (i+1) ty (w.setCell ⟨b,off+i,none⟩ u) (H6y I) (by grind) J.2;refine⟨w',?_,?_,?_,by simpa [World.setCell]using U,by simp_all,by simpa [World.setCell]using W,by simp_all⟩
  .simp only[storeCells,Ha];simp_all
  .grind[Hr]
  grind[heap_setCell_other]
theorem C7.one(h:C7 S w β cs vs)(L:cs.all SV.one=true):vs.all (·.oneCell')=true:=by
 rw[Dz];intro v J;obtain⟨j,I⟩:=Re.1 J;have E:j<cs.length:=by have:=(Az.1 I).1;have:=h.1;omega
 exact(h.2 j _ v (Bu E) I).one (Dz.1 L _ (Gc E))
def Ob{T k off:Nat}{x y:Operand}(ho:o.op=.store T x y){cs us:List SV}(hx:ρ x=.box k off)(hb:(k,Ax.cells cs)∈bx)(hy:content (ρ y)=some us)
  (hs:Bp P T=some us.length)(hl:off+us.length<=cs.length):C1 P o ρ bx (.tuple []) ((k,.cells (Hr cs off us))::Cu k bx) []:=by
 intro C S w β a hi ha;have L:=(ha x (mo ho (by grind[Op.operands])));rw[hx]at L;obtain⟨b,E,W⟩:=L.eJ;obtain⟨b',ty,vs,J,hh,hr⟩:=hi.box k _ hb;rw[E]at J;cases J;obtain⟨I,U⟩:=((ha y (mo ho (by grind[Op.operands])))).content hy;have O:=I.1;have a0:=hr.1;obtain⟨w',V,g1,g2,g3,g4,g5,g6⟩:=ZL (P:=P) (a.eval y).cells.toList vs b off 0 ty w hh (by omega) (I.one U);have e0:Cg S w S w':=⟨λ_ h=>h,λb' J=>g2 b' λhe=>(hi.Bk k _ hb b E).1 (he ▸ J)⟩;obtain⟨h1,h2⟩:=hi.dM (c:=.cells (Hr cs off us)) hb E g2 g3 g4 g5 g6 (by refine⟨b,ty,_,E,by simpa using g1,?_⟩;exact⟨(hr.Hr I hl).1,λj c v hc W=>((hr.Hr I hl).2 j c v hc W).ext e0 λ_ _=>rfl⟩)
 refine Ja ?_;unfold Oper.wp;have:(execOp a.eval o).run P w=.ok .skip w':=by
  have Z:(a.eval y).cells.size=us.length:=by rw[<-O];simp
  simp[execOp,ho,Instr.storeAt,W,Instr.sureAddr,storeVar,Qh hs,Z,V]
 rw[this];exact⟨undef,S,β,rfl,h1,h2,.tuple [] [] rfl (by simp),λ_ _=>rfl⟩
theorem F6r{T k i off sz:Nat}{x y:Operand}(ho:o.op=.store T x y){rows:List (List D)}{row us:List D}(hx:ρ x=.Fa k i off)(hb:(k,Ax.rows sz rows)∈bx)
  (hr:rows[i]?=some row)(hy:content (ρ y)=some (us.map SV.d))(hs:Bp P T=some us.length)(hl:off+us.length<=row.length) :
  C1 P o ρ bx (.tuple []) ((k,.rows sz (rows.set i (Hr row off us)))::Cu k bx) []:=by
 intro C S w β a hi ha;have V:=(ha x (mo ho (by grind[Op.operands])));rw[hx]at V;obtain⟨q1,q2,q3,q4,q5,q6,q7⟩:=hi.box k _ hb;obtain⟨W,O⟩:=((ha y (mo ho (by grind[Op.operands])))).content hy;have J:=W.1;simp only[B7]at J;have a2:=(Az.1 hr).1;have a6:=q5 row (Bs hr);generalize hv:a.eval x=v at V;cases V with
 |Fa _ _ _ b E =>
  rw[E]at q7;obtain⟨ty,vs,hh,a8,U⟩:=q7;rw[q1]at hv;have a7:((β k).off+i)*sz+off+us.length<=vs.length:=by have h1:((β k).off+i+1)*sz<=((β k).off+(β k).cap)*sz:=Ih _ (by omega);rw[Ii _ 1]at h1;omega
  obtain⟨w',a1,g1,g2,g3,g4,g5,g6⟩:=ZL (P:=P) (a.eval y).cells.toList vs b (((β k).off+i)*sz+off) 0 ty w hh (by omega) (W.one O);have e0:Cg S w S w':=⟨λ_ h=>h,λb' a4=>g2 b' λhe=>(hi.Bk k _ hb b E).1 (he ▸ a4)⟩;obtain⟨h1,h2⟩:=hi.dM (c:=.rows sz (rows.set i (Hr row off us))) hb E g2 g3 g4 g5 g6 (by
   refine⟨q1,by grind,q3,by grind,?_,?_,?_⟩;grind[PG];intro r I d hd;rcases xq I with h|h;grind;subst h;obtain⟨j,Z⟩:=Re.1 hd;rw[YC _ _ _ _ hl]at Z;split at Z;have:=Dz.1 O (.d d) (Ap.2 ⟨d,Bs Z,rfl⟩);simpa [SV.one]using this;exact q6 row (Bs hr) d (Bs Z)
   .rw[E];refine⟨ty,_,by simpa using g1,by rw[PG];omega,?_⟩;intro r j L d u I hd hu;rw[YC _ _ _ _ (by omega)]at hu;by_cases a0:i=r;subst a0;simp only[BJ,a2,Av,B8]at I;subst I;rw[YC _ _ _ _ hl]at hd;by_cases Z:off<=j/\j<off+us.length;rw[A7 Z]at hd;rw[A7 (by omega)]at hu;have:=W.2 (j - off) (.d d) u (by grind) (by grind);exact this.Js.ext e0;rw[A5 Z]at hd;rw[A5 (by omega)]at hu;exact(U i j row d u hr hd hu).ext e0
    .rw[uR a0]at I;have a5:j<sz:=by have:=(Az.1 hd).1;have:=q5 L (Bs I);omega
     rw[A5 (by intro a';rcases Nat.lt_or_ge r i with a9|hge;have:((β k).off+r+1)*sz<=((β k).off+i)*sz:=Ih _ (by omega);grind;have:((β k).off+i+1)*sz<=((β k).off+r)*sz:=Ih _ (by omega);grind)]at hu;exact(U r j L d u I hd hu).ext e0)
  refine Ja ?_;unfold Oper.wp;have:(execOp a.eval o).run P w=.ok .skip w':=by
   have a3:(a.eval y).cells.size=us.length:=by rw[<-J];simp
   simp[execOp,ho,Instr.storeAt,hv,Instr.sureAddr,storeVar,Qh hs,a3,a1]
  rw[this];exact⟨undef,S,β,rfl,h1,h2,.tuple [] [] rfl (by simp),λ_ _=>rfl⟩
end Go.iA
namespace Go.iA
open Go
variable {P:Program} {o:Oper} {ρ:Iq} {bx:Ac}
def fM(P:Program):List Field->Option (List (Nat × Nat))
 |[]=>some []
 |f::fs=>match Bp P f.type with
  |some n=>(fM P fs).map ((f.offset,n)::·)
  |none=>none
def Mi(P:Program)(T:TypeId):Option (List (Nat × Nat)) :=match P.underlying T with
 |some (.struct fs)=>fM P fs.toList
 |_=>none
def run_places:∀(fs:List Field)(ps:List (Nat × Nat)),fM P fs=some ps->∀w:World,(fs.mapM (λf=>do pure (f.offset,<-sizeOf f.type):Field->Sem (Nat × Nat))).run P w=.ok ps w
 |[],ps,h,w=>by simp only[fM,B8]at h;simp_all
 |f::fs,ps,h,w=>by
  simp only[fM]at h;cases E:Bp P f.type with
  |none=>grind
  |some n =>simp only[E,Jn]at h;obtain⟨qs,I,rfl⟩:=h;have:=run_places fs qs I w;simp only[List.mapM_cons,Ha,Qh E,Hp,L3,this]
def ID(ps:List (Nat × Nat))(cells:List SV):List (Nat × List SV)->Option (List SV)
 |[]=>some cells
 |(i,us)::r=>match ps[i]? with
  |none=>none
  |some (off,size)=>if us.length=size/\off+size<=cells.length then ID ps (Hr cells off us) r else none
def pT:∀(us vs:List Value)(off:Nat)(n:Nat),((us.zipIdx n).foldl (λ(cs:Array Value)(x:Value × Nat)=>cs.setIfInBounds (off+x.2) x.1) ⟨vs⟩)=⟨Hr vs (off+n) us⟩
 |[],vs,off,n=>by rfl
 |u::us,vs,off,n=>by simp only[wW,Mt,Hr];have:=pT us (vs.set (off+n) u) off (n+1);grind
def lW{S:Nat->Prop}{w:World}{β:Names}(I:Nat->Option (Nat × Nat))(ps:List (Nat × Nat)) :∀(parts:List (Nat × List SV)) (E:List (Nat × Value)) (cells out:List SV) (vs:List Value),C7 S w β cells vs->(∀(i:Nat) (q:Nat × Nat),ps[i]?=some q->I i=some q) ->parts.length=E.length->(∀(j:Nat) (p:Nat × List SV) (q:Nat × Value),parts[j]?=some p->E[j]?=some q->q.1=p.1/\C7 S w β p.2 q.2.cells.toList) ->ID ps cells parts=some out->∃V:List Value,Instr.fill I ⟨vs⟩ E=some ⟨V⟩/\C7 S w β out V
 |[],E,cells,out,vs,h,hp,L,hr,J=>by
  simp only[ID,B8]at J;subst J;have:E=[]:=by cases E <;> simp at L;rfl
  subst this;exact⟨vs,rfl,h⟩
 |(i,us)::parts,E,cells,out,vs,h,hp,L,hr,J=>by
  cases E with
  |nil=>grind
  |cons q E =>
   simp only[Bg,Nat.add_right_cancel_iff]at L;obtain⟨W,O⟩:=hr 0 (i,us) q rfl rfl;simp only[ID]at J;cases U:ps[i]? with
   |none=>grind
   |some pr =>
    obtain⟨off,size⟩:=pr;simp only[U]at J;split at J
    .rename_i hc;have Z:q.2.cells.size=us.length:=by have:=O.1;simpa using this
     have a0:=h.1;simp only at W O;obtain⟨V,g1,g2⟩:=lW I ps parts E _ out _ (h.Hr O (off:=off) (by omega)) hp L (λj p q hp U=>hr (j+1) p q hp U) J;refine⟨V,?_,g2⟩;obtain⟨qi,qv⟩:=q;simp only at W O Z;subst W;simp only[Instr.fill,hp _ _ U];rw[A5 (by simp only[ne_eq,U7,Di,Yo];simp;omega)];have:=pT qv.cells.toList vs off 0;simp only[Nd]at this;have e:qv.cells.toList.zipIdx=qv.cells.zipIdx.toList:=by simp
     rw[e,Array.foldl_toList]at this;rw[<-g1,<-this]
    grind
def Zc(ρ:Iq):List (Nat × Operand)->Option (List (Nat × List SV))
 |[]=>some []
 |(i,x)::r=>match content (ρ x),Zc ρ r with
  |some c,some l=>some ((i,c)::l)
  |_,_=>none
def NS{S:Nat->Prop}{w:World}{β:Names}{a:Act}:∀(parts:List (Nat × Operand))(l:List (Nat × List SV)),(∀p,p∈parts->An S w β (ρ p.2) (a.eval p.2))->Zc ρ parts=some l ->l.length=(parts.map λp=>(p.1,a.eval p.2)).length/\(∀(j:Nat) (p:Nat × List SV) (q:Nat × Value),l[j]?=some p->(parts.map λp=>(p.1,a.eval p.2))[j]?=some q->q.1=p.1/\C7 S w β p.2 q.2.cells.toList) /\∀p,p∈l->p.2.all SV.one=true
 |[],l,_,h=>by grind[Zc]
 |(i,x)::r,l,J,h=>by
  simp only[Zc]at h;cases I:content (ρ x)with
  |none=>grind
  |some c =>
   cases E:Zc ρ r with
   |none=>grind
   |some m =>
    simp only[I,E,B8]at h;subst h;obtain⟨W,O,U⟩:=NS r m (λp hp=>J p (by grind)) E;obtain⟨L,V⟩:=(J (i,x) (by simp)).content I
    grind
def iu{T:TypeId}{parts:Array (Nat × Operand)}(O:o.op=.build T parts){L:List SV}{ps:List (Nat × Nat)}{l:List (Nat × List SV)}{out:List SV}
  (hz:Co P T=some L)(hp:Mi P T=some ps)(hl:Zc ρ parts.toList=some l)(Z:ID ps L l=some out)(h1:out.all SV.one=true):C1 P o ρ bx (.agg out) bx [] :=
 .Ei λ_ S w β a _ ha=>by
  obtain⟨z,E,rfl⟩:=SK hz w;unfold Mi at hp;cases V:P.underlying T with
  |none=>grind
  |some d =>
   rw[V]at hp;cases d <;> simp only[reduceCtorEq]at hp;rename_i fs;obtain⟨g1,g2,_⟩:=NS parts.toList l (λp hp=>ha p.2 (mo O (by simp only[Op.operands,List.mem_toArray,Ap];exact⟨p,hp,rfl⟩))) hl;obtain⟨U,W,q2⟩:=lW (λi=>(ps.toArray)[i]?) ps l (parts.toList.map λp=>(p.1,a.eval p.2)) _ out _ (MU S w β z.cells.toList) (λi q hq=>by grind) g1 g2 Z;refine⟨.agg ⟨U⟩,?_,YA q2 h1⟩;have I:=run_places fs.toList ps hp w;have hm:(fs.mapM (λf=>do pure (f.offset,<-sizeOf f.type):Field->Sem (Nat × Nat))).run P w=.ok ps.toArray w:=by rw[Array.mapM_eq_mapM_toList,Sem.run_map,I];simp
   simp only[execOp,O,Instr.build,Ha,E,Hp,underlying,run_program,V,L3,hm];have J:z.cells=⟨z.cells.toList⟩:=rfl;have:Instr.fill (λx=>ps.toArray[x]?) z.cells (Array.map (λx=>(x.fst,a.eval x.snd)) parts).toList=some ⟨U⟩:=by rw[J,kN];exact W
   simp only[this,L3,Hp]
end Go.iA
