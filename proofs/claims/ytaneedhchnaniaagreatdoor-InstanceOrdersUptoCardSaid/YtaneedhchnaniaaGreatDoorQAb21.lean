/- (empty) -/
import Derived.Test.YtaneedhchnaniaaGreatDoorQAb7
import Derived.Scope
import Derived.Test.YtaneedhchnaniaaGreatDoorQAb4
/- Function values with first arguments, as data: kept in a map, called. Own framework. -/
set_option linter.unusedVariables false
set_option linter.unusedSimpArgs false
namespace Go.Abs
set_option linter.unusedSimpArgs false
set_option linter.unusedVariables false
open Go
variable {P:Program} {sl:SL} {bx:Boxes} {o:Oper} {ρ:Rho}
end Go.Abs
/- scopes through which no jump goes, labels -/
namespace Go.Abs
set_option linter.unusedSimpArgs false
set_option linter.unusedVariables false
open Go
section
variable {P:Program} {n:Nat} {Q:Exit→SL→Boxes→Prop} {sl:SL} {bx:Boxes}
end
end Go.Abs
/- Methods bound to a record of several cells, kept in an array variable. Own framework. -/
set_option linter.unusedVariables false
set_option linter.unusedSimpArgs false
namespace Go.Abs
set_option linter.unusedSimpArgs false
set_option linter.unusedVariables false
open Go
variable {P:Program} {sl:SL} {bx:Boxes} {o:Oper} {ρ:Rho}
theorem opT_buildArr {T e len sz:Nat} {parts:Array (Nat × Operand)} (ho:o.op=.build T parts) {zs:List SV} {ps:List (Nat × Nat)} {l:List (Nat × List SV)} {out:List SV}
  (hT:P.underlying T=some (.array len e)) (hs:tsize P e=some sz) (hz:tzero P T=some zs) (hp:∀ (i:Nat) (q:Nat × Nat),ps[i]? = some q→q=(i*sz,sz)) (hl:partsSV ρ parts.toList=some l) (hf:fillSV ps zs l=some out) (h1:out.all SV.one=true):OpT P o ρ bx (.agg out) bx [] :=
 .of_value fun _ S w β a _ ha=>by
  obtain⟨z,hrun,rfl⟩:=run_zeroValue' hz w
  obtain⟨g1,g2,_⟩:=partsSV_rep parts.toList l (fun p hp=>ha p.2 (mo ho (by simp only [Op.operands,List.mem_toArray,List.mem_map];exact⟨p,hp,rfl⟩))) hl
  obtain⟨ws,q1,q2⟩:=fill_rep (fun i=>some (i*sz,sz)) ps l (parts.toList.map fun p=>(p.1,a.eval p.2)) _ out _ (repL_const S w β z.cells.toList) (fun i q hq=>by rw [hp i q hq]) g1 g2 hf
  refine⟨.agg ⟨ws⟩,?_,RepV.agg_of q2 h1⟩
  have hz':z.cells=⟨z.cells.toList⟩:=rfl
  have:Instr.fill (fun i=>some (i*sz,sz)) z.cells (Array.map (fun x=>(x.fst,a.eval x.snd)) parts).toList=some ⟨ws⟩:=by
   rw [hz',Array.toList_map];exact q1
  simp only [execOp,ho,Instr.build,Sem.run_bind,hrun,Result.andThen_ok,underlying,run_program,hT,Sem.run_pure,run_sizeOf' hs,this]
variable {ro:Option Nat} {P:Program} {n:Nat} {Q:Exit→SL→Boxes→Prop} {sl:SL} {bx:Boxes}
end Go.Abs
/- Closures kept as data: made, called; variables that hold addresses, frozen. Own framework. -/
set_option linter.unusedVariables false
set_option linter.unusedSimpArgs false
namespace Go.Abs
set_option linter.unusedSimpArgs false
set_option linter.unusedVariables false
open Go
variable {P:Program} {sl:SL} {bx:Boxes} {o:Oper} {ρ:Rho}
theorem CallOK.ptr {f:FuncId} {c:List D} {args:List SV} {r:SV} (h:CallOK P f (.dptr c 0::args) r):CallOK P f (.d (.ptr c)::args) r:=by
 refine⟨h.1,fun C β vs hi hv=>h.2 C β vs hi ?_⟩
 cases vs with
 | nil=>exact absurd hv.1 (by simp)
 | cons v vs =>
  have h0:=hv.2 0 _ v rfl rfl
  refine .cons ?_ ?_
  ·have:=h0.inv_d
   cases this with
   | ptr _ b base q1 q2 q3 q4=>exact .dptr _ 0 b base q1 q2 q3 q4
  ·exact⟨by have:=hv.1;simp at this ⊢;omega,fun j c u hc hu=>hv.2 (j+1) c u hc hu⟩
variable {ro:Option Nat} {n:Nat} {Q:Exit→SL→Boxes→Prop}
end Go.Abs
/- the greater of two numbers; the address of an element of a package variable that is laid. Own framework. -/
set_option linter.unusedVariables false
set_option linter.unusedSimpArgs false
namespace Go.Abs
set_option linter.unusedSimpArgs false
set_option linter.unusedVariables false
open Go
variable {P:Program} {sl:SL} {bx:Boxes}
end Go.Abs
/- delete from a map of one's own. Own framework. -/
set_option linter.unusedVariables false
set_option linter.unusedSimpArgs false
namespace Go.Abs
set_option linter.unusedSimpArgs false
set_option linter.unusedVariables false
open Go
variable {P:Program} {sl:SL} {bx:Boxes}
end Go.Abs
/- a drawn region with a slice built of one zero type (a constant aggregate) -/
namespace Go.Abs
set_option linter.unusedSimpArgs false
set_option linter.unusedVariables false
open Go
set_option maxRecDepth 100000
variable {ro:Option Nat} {P:Program} {n:Nat} {Q:Exit→SL→Boxes→Prop} {sl:SL} {bx:Boxes}
abbrev zTy:Value:=.agg #[.string ⟨#[]⟩,.slice none 0 0,.int .i64 0]
abbrev zTyR:List D:=[.str [],.nil,.int .i64 0]
abbrev zTyW:List D:=[.str [],.slice [],.int .i64 0]
theorem OpT.rho {o:Oper} {ρ ρ':Rho} {bx bx':Boxes} {r:SV} {pg:List Nat} (h:OpT P o ρ' bx r bx' pg)(hs:∀ (S:Nat→Prop)(w:World) (β:Names)(a:Act)(x:Operand),RepV S w β (ρ x) (a.eval x)→RepV S w β (ρ' x) (a.eval x)):OpT P o ρ bx r bx' pg :=
 fun C S w β a hi ha=>h C S w β a hi fun x hx=>hs S w β a x (ha x hx)
def rhoZ (ρ:Rho)(x:Operand):SV:=match x with
 | .const (.agg ⟨[.string ⟨⟨[]⟩⟩,.slice none 0 0,.int .i64 0]⟩)=>.agg (zTyR.map SV.d)
 | x=>ρ x
theorem rhoZ_rep (ρ:Rho)(S:Nat→Prop)(w:World) (β:Names)(a:Act)(x:Operand)(h:RepV S w β (ρ x) (a.eval x)):RepV S w β (rhoZ ρ x) (a.eval x):=by
 unfold rhoZ
 split
 ·refine .agg _ _ rfl (by simp [SV.one,D.one]) fun j c v hc hv=>?_
  match j with
  | 0=>cases hc;cases hv;exact repV_const S w β (.string ⟨#[]⟩)
  | 1=>cases hc;cases hv;exact repV_const S w β (.slice none 0 0)
  | 2=>cases hc;cases hv;exact repV_const S w β (.int .i64 0)
 ·exact h
theorem opT_zTy {o:Oper} {ρ:Rho} {T e:Nat} (ho:o.op=.buildSlice T 1 #[(0,.const zTy)])(hT:selem P T=some e)(hs:tsize P e=some 3)(hz:tzero P e=some (zTyR.map SV.d))(bx:Boxes):OpT P o ρ bx (.d (.slice [zTyW])) bx [] :=
 (opT_buildSlicePub (ρ:=rhoZ ρ) (bx:=bx) ho hT hs hz rfl (by decide) rfl (by
  have h:rhoZ ρ (.const zTy)=.agg (zTyR.map SV.d):=rfl
  simp [rowsOf,h,content,toDs]) (by decide)).rho (rhoZ_rep ρ)
theorem zipI_split:∀ (os1 os2:List Oper)(is:List GInfo),zipI (os1++os2) is=zipI os1 is++zipI os2 (is.drop os1.length)
 | [],_,_=>rfl
 | o::os1,os2,is=>by
  rw [List.cons_append,zipI,zipI,zipI_split os1 os2 is.tail,List.cons_append,List.length_cons]
  congr 3
  cases is <;> simp
theorem AWp.regGZ {id:Nat} {ops:Array Oper} (ks own:List Nat)(m i T e:Nat)(is:List GInfo)(hm:P.follows .mixedOrders=true)(hc:gOK ops (infoF m is) (Region.before ops)=true)(hd:dstsOK n ops.toList=true)
  (o:Oper) (hi:ops.toList.take m=ops.toList.take i++o::(ops.toList.drop (i+1)).take (m - i - 1)) (ho:o.op=.buildSlice T 1 #[(0,.const zTy)]) (hg:o.guard=none) (hl:(ops.toList.take i).length=i) (hz:hdI (is.drop i)=⟨[],[],[],[]⟩)
  (hT:selem P T=some e) (hs:tsize P e=some 3) (hzz:tzero P e=some (zTyR.map SV.d))
  (h:runG P own ops (ops.toList.take i) is sl bx (fun sl1 bx1=>runG P own ops ((ops.toList.drop (i+1)).take (m - i - 1)) (is.drop (i+1)) (sput sl1 o.dst (.d (.slice [zTyW]))) bx1 (tailG P own ops (ops.toList.drop m) (keepK ks (Q .normal))))):AWp ro P n (.region id ops true) Q sl bx:=by
 have hd0:∀ l:List Oper,(∀ x,x∈l→x∈ops.toList)→dstsOK n l=true:=fun l hl=>by
  unfold dstsOK at *;rw [List.all_eq_true] at *;exact fun o ho=>hd o (hl o ho)
 have hmem:o∈ops.toList:=List.mem_of_mem_take (i:=m) (by rw [hi];simp)
 refine AWp.regionG _ _ ks hm hc hd ?_
 rw [infos_eq,hi,zipI_split,zipI,hl,hz,List.append_assoc]
 refine runG_sound (fun sl1 bx1 h1=>?_) _ _ _ _ (hd0 _ fun x hx=>List.mem_of_mem_take hx) h
 have htl:(is.drop i).tail=is.drop (i+1):=by simp
 rw [htl,List.cons_append]
 refine⟨true,.d (.slice [zTyW]),bx1,[],by unfold guardV;rw [hg],dstsOK_spec (hd0 [o] (by simpa using hmem)) o (by simp),⟨fun _=>?_,(fun h=>by cases h),fun z hz=>?_⟩,?_⟩
 ·show OpT P o _ (bwo [] bx1) _ bx1 []
  rw [bwo_none]
  exact opT_zTy ho hT hs hzz _
 ·cases hz
  exact⟨by simp,by simp,by simp,by simp,by simp,by simp,by simp,by simp⟩
 ·refine runG_sound (own:=own) (K:=tailG P own ops (ops.toList.drop m) (keepK ks (Q .normal))) (fun sl2 bx2 h2=>(runV_sound _ _ _ (hd0 _ fun x hx=>List.mem_of_mem_drop hx) h2).gen) _ _ _ _ (hd0 _ fun x hx=>List.mem_of_mem_drop (List.mem_of_mem_take hx)) ?_
  have e1:∀ l:SL,purgeSl [] l=l:=fun l=>by simp [purgeSl]
  have e2:∀ b:Boxes,b++bin [] b=b:=fun b=>by rw [bin_none,List.append_nil]
  rw [e1]
  show runG P own ops _ _ _ (bx1++bin [] bx1) _
  rw [e2]
  exact h1
theorem AWp.lastGZ {id:Nat} {ops:Array Oper} (ks own:List Nat)(m i T e:Nat)(is:List GInfo)(hm:P.follows .mixedOrders=true)(hc:gOK ops (infoF m is) (Region.before ops)=true)(hd:dstsOK n ops.toList=true)
  (o:Oper) (hi:ops.toList.take m=ops.toList.take i++o::(ops.toList.drop (i+1)).take (m - i - 1)) (ho:o.op=.buildSlice T 1 #[(0,.const zTy)]) (hg:o.guard=none) (hl:(ops.toList.take i).length=i) (hz:hdI (is.drop i)=⟨[],[],[],[]⟩)
  (hT:selem P T=some e) (hs:tsize P e=some 3) (hzz:tzero P e=some (zTyR.map SV.d))
  (h:∀ K:SL→Boxes→Prop,(∀ sl' bx',Q .normal sl' bx'→K sl' bx')→runG P own ops (ops.toList.take i) is sl bx (fun sl1 bx1=>runG P own ops ((ops.toList.drop (i+1)).take (m - i - 1)) (is.drop (i+1)) (sput sl1 o.dst (.d (.slice [zTyW]))) bx1 (tailG P own ops (ops.toList.drop m) (keepK ks K)))):AWp ro P n (.region id ops true) Q sl bx :=
 AWp.regGZ ks own m i T e is hm hc hd o hi ho hg hl hz hT hs hzz (h _ fun _ _ h=>h)
theorem run_part {C:Ctx} {ops:Array Oper} {QQ:Exit→Act→World→Prop} (hd:∀ o,o∈ops.toList→dstOK n o.dst)(hnd:∀ o,o∈ops.toList→notDefer o=true) {K:SL→Boxes→Prop} {rest:List Nat}
  (hK:∀ sl bx S w β a,K sl bx→St C n S w β a sl bx→wpOpsIn (FW ro) 0 P ops QQ rest a w):∀ (k i:Nat) (sl:SL) (bx:Boxes) (S:Nat→Prop) (w:World) (β:Names) (a:Act),i+k≤ops.size→Run P n ops ((ops.toList.drop i).take k) sl bx K →
  St C n S w β a sl bx→wpOpsIn (FW ro) 0 P ops QQ (List.range' i k++rest) a w
 | 0,i,sl,bx,S,w,β,a,hik,hr,hs=>hK sl bx S w β a hr hs
 | k+1,i,sl,bx,S,w,β,a,hik,hr,hs=>by
  have hi:i < ops.size:=by omega
  have dp:ops.toList.drop i=ops[i]::ops.toList.drop (i+1):=by
   rw [List.drop_eq_getElem_cons (by simpa using hi)];simp
  rw [dp,List.take_succ_cons] at hr
  obtain⟨g,hg,hdo,h1,h2⟩:=hr
  simp only [List.range'_succ,List.cons_append,wpOpsIn,Array.getElem?_eq_getElem hi]
  have hw:=guard_rep (a:=a) (S:=S) (w:=w) (β:=β) (fun t ht=>by
   obtain⟨j,want,_,hj⟩:=ht
   exact⟨hs.slot t,by rw [hs.size];exact dst_lt_of_gslot hd hj⟩) hg
  rw [hw]
  cases g with
  | true =>
   simp only [if_true]
   obtain⟨r,bx',pg,hop,hrun⟩:=h1 rfl
   refine Oper.wpIn_ofQ (hnd _ (by simp)) (hop C S w β a hs.inv fun x _=>hs.opnd x) ?_
   rintro a' w' ⟨v,S',β',rfl,hi',he,hv,hb⟩
   exact run_part hd hnd hK k (i+1) _ bx' S' w' β' _ (by omega) hrun (hs.put hdo hi' he hv hb)
  | false =>
   simp only [Bool.false_eq_true,if_false]
   refine⟨fun _ _=>trivial,?_⟩
   exact run_part hd hnd hK k (i+1) _ bx S w β _ (by omega) (h2 rfl) (hs.put (pg:=[]) hdo hs.inv (SExt.refl S w) (.tuple [] [] rfl (by simp)) (fun _ _=>rfl))
abbrev pub1 (rs:List (List D))(k:Nat):Rep1:=⟨fun off=>.box k off,.d (.slice rs),.mp k⟩
theorem St.pubCore {C:Ctx} {S:Nat→Prop} {w:World} {β:Names} {a:Act} (k:Nat) {bc:BoxC} {f:Rep1} (hk:(k,bc)∈bx)
  (hf:∀ (S:Nat→Prop) (w:World) (β:Names),BoxOK S w β (β k) bc→(∀ b,(β k).base=some b→S b)→Rep1OK S S w β k f)
  (hs:St C n S w β a sl bx):∃ S',St C n S' w β a (subSl k f sl) (subBx k f (berase k bx)):=by
 let S':Nat→Prop:=fun b=>S b∨(β k).base=some b
 have e:SExt S w S' w:=⟨fun _ h=>.inl h,fun _ _=>rfl⟩
 have hi:=hs.inv
 have hbox:BoxOK S' w β (β k) bc:=(hi.box k _ hk).ext e (fun _ _=>rfl) (fun _ _=>rfl)
 have hr1:=hf S' w β hbox (fun b hb=>.inr hb)
 have hr:Rep1OK S' S' w β k f:=hr1
 have hsub:∀ {x:SV} {v:Value},RepV S w β x v→RepV S' w β (x.sub k f) v:=fun hv=>(hv.ext e (fun _ _=>rfl)).sub hr (SExt.refl _ _)
 refine⟨S',?_,hs.size,hs.defers.ext e,fun t=>by rw [sget_subSl];exact hsub (hs.slot t)⟩
 exact {
  S0sub:=fun b hb=>.inl (hi.S0sub b hb)
  Snew:=fun b hb=>by
   rcases hb with hb | hb
   ·exact hi.Snew b hb
   ·exact .inr (hi.priv k _ hk b hb).2.2
  Slt:=fun b hb=>by
   rcases hb with hb | hb
   ·exact hi.Slt b hb
   ·exact (hi.priv k _ hk b hb).2.1
  kept:=hi.kept
  os:=hi.os
  tape:=hi.tape
  output:=hi.output
  size:=hi.size
  box:=fun j c hj=>by
   obtain⟨x,hx,rfl⟩:=mem_subBx hj
   obtain⟨hne,hx⟩:=mem_berase.1 hx
   have:=hi.box j x hx
   cases x with
   | cells cs =>
    obtain⟨b,ty,vs,h1,h2,h3⟩:=this
    refine⟨b,ty,vs,h1,h2,?_⟩
    rw [SV.subL_eq]
    refine h3.map (by simp) ?_
    intro i x y v hx' hy hv
    simp only [List.getElem?_map,hx',Option.map_some,Option.some.injEq] at hy
    subst hy;exact hsub hv
   | rows sz rs=>exact BoxOK.ext (c:=.rows sz rs) this e (fun _ _=>rfl) (fun _ _=>rfl)
   | map kvs=>exact BoxOK.ext (c:=.map kvs) this e (fun _ _=>rfl) (fun _ _=>rfl)
   | iter kvs seen=>exact BoxOK.ext (c:=.iter kvs seen) this e (fun _ _=>rfl) (fun _ _=>rfl)
   | ghost Y st=>exact this
  priv:=fun j c hj b hb=>by
   obtain⟨x,hx,rfl⟩:=mem_subBx hj
   obtain⟨hne,hx⟩:=mem_berase.1 hx
   obtain⟨h1,h2,h3⟩:=hi.priv j x hx b hb
   refine⟨fun hs=>?_,h2,h3⟩
   rcases hs with hs | hs
   ·exact h1 hs
   ·exact hne (hi.inj j x k _ hx hk b hb hs).1
  inj:=fun j c j' c' hj hj' b hb hb'=>by
   obtain⟨x,hx,rfl⟩:=mem_subBx hj
   obtain⟨x',hx',rfl⟩:=mem_subBx hj'
   obtain⟨h1,h2⟩:=hi.inj j x j' x' (mem_berase.1 hx).2 (mem_berase.1 hx').2 b hb hb'
   exact⟨h1,by rw [h2]⟩
  tab:=fun b cs hv=>⟨.inl (hi.tab b cs hv).1,(hi.tab b cs hv).2⟩
  one:=fun j Y st j' Y' st' hj hj'=>by
   obtain⟨x,hx,hxe⟩:=mem_subBx hj
   obtain⟨x',hx',hxe'⟩:=mem_subBx hj'
   have e1:x=.ghost Y st:=by cases x <;> simp only [BoxC.sub,reduceCtorEq] at hxe;exact hxe.symm
   have e2:x'=.ghost Y' st':=by cases x' <;> simp only [BoxC.sub,reduceCtorEq] at hxe';exact hxe'.symm
   subst e1;subst e2
   exact hi.one j Y st j' Y' st' (mem_berase.1 hx).2 (mem_berase.1 hx').2
  frn:=fun j Y st hj=>by
   obtain⟨x,hx,hxe⟩:=mem_subBx hj
   have hxg:x=.ghost Y st:=by cases x <;> simp only [BoxC.sub,reduceCtorEq] at hxe;exact hxe.symm
   subst hxg
   obtain⟨h1,h2,h3,h4,B,h5,h6⟩:=hi.frn j Y st (mem_berase.1 hx).2
   have hsz:=hi.size
   have hB:∀ b,B b→¬ S' b:=fun b hb hs=>hs.elim (h6 b hb).1 ((h6 b hb).2.2.2 k _ hk)
   have hold:∀ k' c',(k',c')∈subBx k f (berase k bx)→∃ y,(k',y)∈bx:=fun k' c' hk'=>by
    obtain⟨y,hy,_⟩:=mem_subBx hk';exact⟨y,(mem_berase.1 hy).2⟩
   refine⟨h1,h2,h3,fun k' c' hk'=>(hold k' c' hk').elim fun y hy=>h4 k' y hy,B,h2.keep st B S w _ w h5 ⟨fun _ h=>.inl h,fun b hb=>hb.imp id fun hb=>by rw [h1];exact h4 k _ hk b hb,fun b hb=>?_,hB,fun _ _=>rfl,rfl,rfl,rfl,Nat.le_refl _⟩,
    fun b hb=>⟨hB b hb,(h6 b hb).2.1,(h6 b hb).2.2.1,fun k' c' hk'=>(hold k' c' hk').elim fun y hy=>(h6 b hb).2.2.2 k' y hy⟩⟩
   rcases hb with hb | hb
   ·exact hi.Slt b hb
   ·exact (hi.priv k _ hk b hb).2.1
  fix:=hi.fix }
theorem St.publish {C:Ctx} {S:Nat→Prop} {w:World} {β:Names} {a:Act} (k:Nat) {sz:Nat} {rs:List (List D)} (hk:bget bx k=some (.rows sz rs))(hs:St C n S w β a sl bx) :
  ∃ S',St C n S' w β a (subSl k (pub1 rs k) sl) (subBx k (pub1 rs k) (berase k bx)) :=
 hs.pubCore k (mem_of_bget hk) fun S w β hb hS=>⟨fun off v hv=>hv,fun v hv=>by cases hv;exact .d _ _ (hb.rows_slice hS),fun v hv=>hv,fun _=>rfl,rfl,rfl⟩
end Go.Abs
/- contracts with more than one possible result -/
namespace Go.Abs
set_option linter.unusedSimpArgs false
set_option linter.unusedVariables false
open Go
set_option maxRecDepth 100000
variable {ro:Option Nat} {P:Program} {n:Nat} {Q:Exit→SL→Boxes→Prop} {sl:SL} {bx:Boxes} {o:Oper} {ρ:Rho}
def CallP (P:Program)(f:FuncId)(args:List SV)(R:SV→Prop):Prop :=
 Enters P f∧∀ (C:Ctx) (β:Names) (vs:List Value),Inv C C.S0 C.w0 β []→RepL C.S0 C.w0 β args vs →
  Calls P f ⟨vs⟩ C.w0 (fun e w'=>∃ r v S' β',R r∧e=.returned v∧Inv C S' w' β' []∧RepV S' w' β' r v)
theorem CallOK.toP {f:FuncId} {args:List SV} {r:SV} {R:SV→Prop} (h:CallOK P f args r)(hr:R r):CallP P f args R :=
 ⟨h.1,fun C β vs hi hv=>(h.2 C β vs hi hv).mono fun _ _ ⟨v,S',β',h1,h2,h3⟩=>⟨r,v,S',β',hr,h1,h2,h3⟩⟩
theorem CallP.imp {f:FuncId} {args:List SV} {R R':SV→Prop} (h:CallP P f args R)(hr:∀ r,R r→R' r):CallP P f args R' :=
 ⟨h.1,fun C β vs hi hv=>(h.2 C β vs hi hv).mono fun _ _ ⟨r,v,S',β',h0,h1,h2,h3⟩=>⟨r,v,S',β',hr r h0,h1,h2,h3⟩⟩
def OpP (P:Program)(o:Oper) (ρ:Rho)(bx:Boxes)(R:SV→Boxes→Prop):Prop :=
 ∀ (C:Ctx) (S:Nat→Prop) (w:World) (β:Names) (a:Act),Inv C S w β bx→(∀ x,x∈o.op.operands→RepV S w β (ρ x) (a.eval x)) →
  o.wpx P a w (fun a' w'=>∃ r bx' v S' β',R r bx'∧a'=a.put o.dst v∧Inv C S' w' β' bx'∧SExt S w S' w'∧RepV S' w' β' r v∧(∀ k,k ∉ ([]:List Nat)→β' k = β k))
theorem AWp.seqCP {id:Nat} {ops:Array Oper} {y:Code} (ks own:List Nat)(i:Nat)(o:Oper)(hi:ops[i]? = some o)(hg:o.guard=none)(hd:dstsOK n ops.toList=true)
  (h:∀ K:SL→Boxes→Prop,(∀ sl' bx',AWp ro P n y Q sl' bx'→K sl' bx')→runV P own ops (ops.toList.take i) sl bx fun sl1 bx1=>∃ R,OpP P o (opnd sl1) bx1 R∧∀ r bx2,R r bx2→runV P own ops (ops.toList.drop (i+1)) (sput sl1 o.dst r) bx2 (keepK ks K)) :
  AWp ro P n (.seq (.region id ops false) y) Q sl bx:=by
 have hd0:∀ l:List Oper,(∀ x,x∈l→x∈ops.toList)→dstsOK n l=true:=fun l hl=>by
  unfold dstsOK at *;rw [List.all_eq_true] at *;exact fun o ho=>hd o (hl o ho)
 obtain⟨his,hio⟩:=Array.getElem?_eq_some_iff.1 hi
 have hmem:o∈ops.toList:=by rw [← hio];simp
 have h1:=h _ fun _ _ h=>h
 refine AWp.seq fun C S w β a hs=>wpIn_region ?_
 have hr:List.range ops.size=List.range' 0 i++List.range' i (ops.size - i - 1+1):=by
  have:=@List.range'_append_1 0 i (ops.size - i - 1+1)
  rw [Nat.zero_add] at this
  rw [List.range_eq_range',this]
  congr 1
  omega
 rw [hr]
 refine run_part (dstsOK_spec hd) (dstsOK_nd hd) (fun sl1 bx1 S1 w1 β1 a1 hK hs1=>?_) i 0 sl bx S w β a (by omega) (runV_sound _ _ _ (hd0 _ fun x hx=>List.mem_of_mem_take (by simpa using hx)) (by simpa using h1)) hs
 obtain⟨R,hop,hrest⟩:=hK
 simp only [List.range'_succ,wpOpsIn,Array.getElem?_eq_getElem his,hio]
 have hgv:guardV ops sl1 o=some true:=by unfold guardV;rw [hg]
 have hw:=guard_rep (a:=a1) (S:=S1) (w:=w1) (β:=β1) (fun t ht=>by
  obtain⟨j,want,_,hj⟩:=ht
  exact⟨hs1.slot t,by rw [hs1.size];exact dst_lt_of_gslot (dstsOK_spec hd) hj⟩) hgv
 rw [hw]
 simp only [if_true]
 refine Oper.wpIn_ofQ (dstsOK_nd hd o hmem) (hop C S1 w1 β1 a1 hs1.inv fun x _=>hs1.opnd x) ?_
 rintro a' w' ⟨r,bx2,v,S',β',h0,rfl,hi',he,hv,hb⟩
 have hs2:=hs1.put (pg:=[]) (dstsOK_spec hd o hmem) hi' he hv hb
 have e1:purgeSl [] sl1=sl1:=by simp [purgeSl]
 rw [e1] at hs2
 exact run_ops (dstsOK_spec hd) (dstsOK_nd hd) (fun sl' bx' S' w' β' a' hK hs'=>⟨_,_,S',β',hK,hs'.keep ks ks⟩) (ops.size - i - 1) (i+1) _ _ _ _ _ _ (by omega) (runV_sound _ _ _ (hd0 _ fun x hx=>List.mem_of_mem_drop hx) (hrest r bx2 h0)) hs2
def retP (P:Program)(fn:Func)(R:SV→Prop)(e:Exit)(sl:SL)(bx:Boxes):Prop :=
 match e with
 | .normal | .ret=>∃ xs r,resL P bx sl fn.results.toList=some xs∧coerce bx (wrapRes xs)=some r∧R r
 | _=>False
theorem CallP.of_body {f:FuncId} {fn:Func} {c:Code} {args:List SV} {R:SV→Prop} (hf:P.funcs[f]? = some fn)(hb:fn.body=some c)(hn:(fn.name == "runtime.NumGoroutine")=false)(hm:args.length≤fn.ntmps)
  (h:AWp none P fn.ntmps c (retP P fn R) (argSl 0 args) []):CallP P f args R:=by
 refine⟨⟨fn,hf,hn,by rw [hb];rfl⟩,?_⟩
 intro C β vs hi hv
 refine calls_of_marks hf hb ?_
 refine wpIn_mono (h C C.S0 C.w0 β _ (St.start hi hv hm)) ?_
 rintro e a' w' ⟨sl',bx',S',β',q,hs⟩
 have key:(∃ xs r,resL P bx' sl' fn.results.toList=some xs∧coerce bx' (wrapRes xs)=some r∧R r)→LeavesInM Fence.wide 0 P fn a'.tmps (fun e w'=>∃ r v S' β',R r∧e=.returned v∧Inv C S' w' β' []∧RepV S' w' β' r v) a'.defers .returning w':=by
  rintro⟨xs,r,h1,h2,hR⟩
  refine hs.leave fun w' hs=>?_
  obtain⟨v,h3,h4⟩:=run_results (P:=P) hs h1
  refine⟨v,h3,r,v,fun b=>S' b∨∃ k c,(k,c)∈bx'∧(β' k).base=some b,β',hR,rfl,?_,?_⟩
  ·exact {
    S0sub:=fun b hb=>.inl (hs.inv.S0sub b hb)
    Snew:=fun b hb=>by
     rcases hb with hb | ⟨k,c,hk,hb⟩
     ·exact hs.inv.Snew b hb
     ·exact .inr (hs.inv.priv k c hk b hb).2.2
    Slt:=fun b hb=>by
     rcases hb with hb | ⟨k,c,hk,hb⟩
     ·exact hs.inv.Slt b hb
     ·exact (hs.inv.priv k c hk b hb).2.1
    kept:=hs.inv.kept
    os:=hs.inv.os
    tape:=hs.inv.tape
    output:=hs.inv.output
    size:=hs.inv.size
    box:=fun k c hk=>by simp at hk
    priv:=fun k c hk=>by simp at hk
    inj:=fun k c k' c' hk=>by simp at hk
    tab:=fun b cs hv=>⟨.inl (hs.inv.tab b cs hv).1,(hs.inv.tab b cs hv).2⟩
    one:=fun k Y st k' Y' st' hk=>by simp at hk
    frn:=fun k Y st hk=>by simp at hk
    fix:=hs.inv.fix }
  ·exact (coerce_rep hs.inv ⟨fun _ h=>.inl h,fun _ _=>rfl⟩ (fun k c hk b hb=>.inr ⟨k,c,hk,hb⟩) h2 h4).1
 cases e with
 | normal=>exact key q
 | ret=>exact key q
 | _=>exact q.elim
end Go.Abs
/- calls that are lent a variable and the own slice that it holds -/
namespace Go.Abs
set_option linter.unusedSimpArgs false
set_option linter.unusedVariables false
open Go
set_option maxRecDepth 100000
variable {ro:Option Nat} {P:Program} {n:Nat} {Q:Exit→SL→Boxes→Prop} {sl:SL} {bx:Boxes} {o:Oper} {ρ:Rho}
end Go.Abs
