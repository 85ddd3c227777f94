/- the greater of two numbers; the address of an element of a package variable that is laid. Own framework. -/
import Derived.Test.YtlpkdlopdccmmaaGreatDoorYAb14
set_option linter.unusedVariables false
set_option linter.unusedSimpArgs false
namespace Go.Abs
set_option linter.unusedSimpArgs false
set_option linter.unusedVariables false
open Go
variable {P:Program} {sl:SL} {bx:Boxes}
end Go.Abs
/- delete from a map of one's own. Own framework. -/
set_option linter.unusedVariables false
set_option linter.unusedSimpArgs false
namespace Go.Abs
set_option linter.unusedSimpArgs false
set_option linter.unusedVariables false
open Go
variable {P:Program} {sl:SL} {bx:Boxes}
def kdel (k:D)(kvs:List (D × D)):List (D × D):=match kfind k.lits kvs 0 with
 | some (j,_)=>kvs.eraseIdx j
 | none=>kvs
theorem BornOK.eraseIdx {es:Array MapEntry} {clock:Nat} (h:BornOK es clock)(j:Nat)(hj:j < es.size):BornOK (es.eraseIdxIfInBounds j) clock:=by
 have hsub:(es.eraseIdxIfInBounds j).toList=es.toList.eraseIdx j:=by
  unfold Array.eraseIdxIfInBounds
  rw [dif_pos hj]
  simp
 refine⟨fun x hx=>?_,?_⟩
 ·rw [hsub] at hx
  exact h.1 x ((List.eraseIdx_sublist _ _).subset hx)
 ·rw [hsub]
  exact ((List.eraseIdx_sublist _ _).map _).nodup h.2
theorem opT_delete {o:Oper} {ρ:Rho} {T kt et k:Nat} {m x:Operand} (ho:o.op=.call { callee:=.builtin .delete,args:=#[m,x],argTypes:=#[T,kt] }) {kvs:List (D × D)} {kd:D} (hm:ρ m=.mp k)(hb:(k,BoxC.map kvs)∈bx)
  (hT:P.underlying T=some (.map kt et)) (hkt:keyT P kt=true) (hx:asD (ρ x)=some kd) (hkd:KeyAt P kt kd) (hall:∀ kv,kv∈kvs→KeyAt P kt kv.1) :
  OpT P o ρ bx (.tuple []) ((k,.map (kdel kd kvs))::berase k bx) []:=by
 intro C S w β a hi ha
 have hm1:=ha m (mC ho);rw [hm] at hm1
 have hx1:=asD_rep (ha x (mC ho)) hx
 have hxv:=hx1.kv hkd.isKey
 obtain⟨r,es,clock,hbase,hh,hmz,hes⟩:=hi.box k _ hb
 have hsz:=hmz.1
 generalize hmv:a.eval m=mv at hm1
 cases hm1 with
 | mp _ b hbase' =>
  rw [hbase] at hbase';cases hbase'
  obtain⟨q,hq,hf⟩:=find_key hkt w hkd es.toList kvs (by simpa using hsz) (entries_key hsz (fun r kv e h1 h2=>(hes r kv e h1 h2).1) hall)
  have hchk:=keyT_check hkt es.isEmpty w hkd
  have hlt:r < w.heap.size:=(hi.priv k _ hb r hbase).2.1
  rw [← hxv] at hq hchk
  unfold kdel
  cases hfd:kfind kd.lits kvs 0 with
  | none =>
   rw [hfd] at hf
   simp only [Found] at hf
   subst hf
   obtain⟨h1,h2⟩:=mapSet (kvs:=kvs) hi hb hbase hlt es clock ⟨hsz,hmz.2⟩ hes
   refine Or.inl ?_
   unfold Oper.wp
   rw [show (execOp a.eval o).run P w=.ok (.value (.tuple #[])) { w with heap:=w.heap.setIfInBounds r (.map es clock) } by
    simp [execOp,ho,hmv,resolve,invoke,builtin,Builtin.delete_,run_underlying hT,MapKept.run_getObj_map hh,hchk,hq,MapKept.run_setObj_map _ hh]]
   exact⟨.tuple #[],S,β,rfl,h1,h2,.tuple [] [] rfl (by simp),fun _ _=>rfl⟩
  | some jd =>
   obtain⟨j,d⟩:=jd
   rw [hfd] at hf
   obtain⟨e,k',_,g1,g2,rfl⟩:=hf
   simp only [Nat.sub_zero,Array.getElem?_toList] at g1 g2
   have hj:j < es.size:=(Array.getElem?_eq_some_iff.1 g1).1
   have hsub:(es.eraseIdxIfInBounds j).toList=es.toList.eraseIdx j:=by
    unfold Array.eraseIdxIfInBounds
    rw [dif_pos hj]
    simp
   have hge:∀ i:Nat,(es.eraseIdxIfInBounds j)[i]? = (es.toList.eraseIdx j)[i]?:=fun i=>by rw [← hsub,Array.getElem?_toList]
   obtain⟨h1,h2⟩:=mapSet (kvs:=kvs.eraseIdx j) hi hb hbase hlt (es.eraseIdxIfInBounds j) clock ⟨by
     have:(es.eraseIdxIfInBounds j).size=(es.toList.eraseIdx j).length:=by rw [← Array.length_toList,hsub]
     rw [this,List.length_eraseIdx,List.length_eraseIdx]
     simp [hsz],hmz.2.eraseIdx j hj⟩ (by
    intro i kv e' hk he
    rw [hge] at he
    rw [List.getElem?_eraseIdx] at hk he
    split at hk
    ·rename_i hij
     rw [if_pos hij] at he
     exact hes i kv e' hk (by simpa using he)
    ·rename_i hij
     rw [if_neg hij] at he
     exact hes (i+1) kv e' hk (by simpa using he))
   refine Or.inl ?_
   unfold Oper.wp
   rw [show (execOp a.eval o).run P w=.ok (.value (.tuple #[])) { w with heap:=w.heap.setIfInBounds r (.map (es.eraseIdxIfInBounds j) clock) } by
    simp [execOp,ho,hmv,resolve,invoke,builtin,Builtin.delete_,run_underlying hT,MapKept.run_getObj_map hh,hchk,hq,MapKept.run_setObj_map _ hh]]
   exact⟨.tuple #[],S,β,rfl,h1,h2,.tuple [] [] rfl (by simp),fun _ _=>rfl⟩
theorem opB_delete {dst:Option Nat} {T kt et k:Nat} {m x:Operand} {kvs:List (D × D)} {kd:D} (hm:opnd sl m=.mp k)(hb:(k,BoxC.map kvs)∈bx)
  (hT:P.underlying T=some (.map kt et)) (hkt:keyT P kt=true) (hx:asD (opnd sl x)=some kd) (hkd:KeyAt P kt kd) (hall:∀ kv,kv∈kvs→KeyAt P kt kv.1) :
  OpB P sl bx dst (.call ⟨.builtin .delete,#[m,x],#[T,kt]⟩) (.tuple []) ((k,.map (kdel kd kvs))::berase k bx) []:=fun _ ho _=>opT_delete ho hm hb hT hkt hx hkd hall
end Go.Abs
/- a drawn region with a slice built of one zero type (a constant aggregate) -/
namespace Go.Abs
set_option linter.unusedSimpArgs false
set_option linter.unusedVariables false
open Go
set_option maxRecDepth 100000
variable {ro:Option Nat} {P:Program} {n:Nat} {Q:Exit→SL→Boxes→Prop} {sl:SL} {bx:Boxes}
abbrev zTy:Value:=.agg #[.string ⟨#[]⟩,.slice none 0 0,.int .i64 0]
abbrev zTyR:List D:=[.str [],.nil,.int .i64 0]
abbrev zTyW:List D:=[.str [],.slice [],.int .i64 0]
theorem OpT.rho {o:Oper} {ρ ρ':Rho} {bx bx':Boxes} {r:SV} {pg:List Nat} (h:OpT P o ρ' bx r bx' pg)(hs:∀ (S:Nat→Prop)(w:World) (β:Names)(a:Act)(x:Operand),RepV S w β (ρ x) (a.eval x)→RepV S w β (ρ' x) (a.eval x)):OpT P o ρ bx r bx' pg :=
 fun C S w β a hi ha=>h C S w β a hi fun x hx=>hs S w β a x (ha x hx)
def rhoZ (ρ:Rho)(x:Operand):SV:=match x with
 | .const (.agg ⟨[.string ⟨⟨[]⟩⟩,.slice none 0 0,.int .i64 0]⟩)=>.agg (zTyR.map SV.d)
 | x=>ρ x
theorem rhoZ_rep (ρ:Rho)(S:Nat→Prop)(w:World) (β:Names)(a:Act)(x:Operand)(h:RepV S w β (ρ x) (a.eval x)):RepV S w β (rhoZ ρ x) (a.eval x):=by
 unfold rhoZ
 split
 ·refine .agg _ _ rfl (by simp [SV.one,D.one]) fun j c v hc hv=>?_
  match j with
  | 0=>cases hc;cases hv;exact repV_const S w β (.string ⟨#[]⟩)
  | 1=>cases hc;cases hv;exact repV_const S w β (.slice none 0 0)
  | 2=>cases hc;cases hv;exact repV_const S w β (.int .i64 0)
 ·exact h
theorem opT_zTy {o:Oper} {ρ:Rho} {T e:Nat} (ho:o.op=.buildSlice T 1 #[(0,.const zTy)])(hT:selem P T=some e)(hs:tsize P e=some 3)(hz:tzero P e=some (zTyR.map SV.d))(bx:Boxes):OpT P o ρ bx (.d (.slice [zTyW])) bx [] :=
 (opT_buildSlicePub (ρ:=rhoZ ρ) (bx:=bx) ho hT hs hz rfl (by decide) rfl (by
  have h:rhoZ ρ (.const zTy)=.agg (zTyR.map SV.d):=rfl
  simp [rowsOf,h,content,toDs]) (by decide)).rho (rhoZ_rep ρ)
theorem zipI_split:∀ (os1 os2:List Oper)(is:List GInfo),zipI (os1++os2) is=zipI os1 is++zipI os2 (is.drop os1.length)
 | [],_,_=>rfl
 | o::os1,os2,is=>by
  rw [List.cons_append,zipI,zipI,zipI_split os1 os2 is.tail,List.cons_append,List.length_cons]
  congr 3
  cases is <;> simp
variable {id:Nat} {ops:Array Oper}
theorem AWp.regGZ (ks own:List Nat)(m i T e:Nat)(is:List GInfo)(hm:P.follows .mixedOrders=true)(hc:gOK ops (infoF m is) (Region.before ops)=true)(hd:dstsOK n ops.toList=true)
  (o:Oper) (hi:ops.toList.take m=ops.toList.take i++o::(ops.toList.drop (i+1)).take (m - i - 1)) (ho:o.op=.buildSlice T 1 #[(0,.const zTy)]) (hg:o.guard=none) (hl:(ops.toList.take i).length=i) (hz:hdI (is.drop i)=⟨[],[],[],[]⟩)
  (hT:selem P T=some e) (hs:tsize P e=some 3) (hzz:tzero P e=some (zTyR.map SV.d))
  (h:runG P own ops (ops.toList.take i) is sl bx (fun sl1 bx1=>runG P own ops ((ops.toList.drop (i+1)).take (m - i - 1)) (is.drop (i+1)) (sput sl1 o.dst (.d (.slice [zTyW]))) bx1 (tailG P own ops (ops.toList.drop m) (keepK ks (Q .normal))))):AWp ro P n (.region id ops true) Q sl bx:=by
 have hd0:∀ l:List Oper,(∀ x,x∈l→x∈ops.toList)→dstsOK n l=true:=fun l hl=>by
  unfold dstsOK at *;rw [List.all_eq_true] at *;exact fun o ho=>hd o (hl o ho)
 have hmem:o∈ops.toList:=List.mem_of_mem_take (i:=m) (by rw [hi];simp)
 refine AWp.regionG _ _ ks hm hc hd ?_
 rw [infos_eq,hi,zipI_split,zipI,hl,hz,List.append_assoc]
 refine runG_sound (fun sl1 bx1 h1=>?_) _ _ _ _ (hd0 _ fun x hx=>List.mem_of_mem_take hx) h
 have htl:(is.drop i).tail=is.drop (i+1):=by simp
 rw [htl,List.cons_append]
 refine⟨true,.d (.slice [zTyW]),bx1,[],by unfold guardV;rw [hg],dstsOK_spec (hd0 [o] (by simpa using hmem)) o (by simp),⟨fun _=>?_,(fun h=>by cases h),fun z hz=>?_⟩,?_⟩
 ·show OpT P o _ (bwo [] bx1) _ bx1 []
  rw [bwo_none]
  exact opT_zTy ho hT hs hzz _
 ·cases hz
  exact⟨by simp,by simp,by simp,by simp,by simp,by simp,by simp,by simp⟩
 ·refine runG_sound (own:=own) (K:=tailG P own ops (ops.toList.drop m) (keepK ks (Q .normal))) (fun sl2 bx2 h2=>(runV_sound _ _ _ (hd0 _ fun x hx=>List.mem_of_mem_drop hx) h2).gen) _ _ _ _ (hd0 _ fun x hx=>List.mem_of_mem_drop (List.mem_of_mem_take hx)) ?_
  have e1:∀ l:SL,purgeSl [] l=l:=fun l=>by simp [purgeSl]
  have e2:∀ b:Boxes,b++bin [] b=b:=fun b=>by rw [bin_none,List.append_nil]
  rw [e1]
  show runG P own ops _ _ _ (bx1++bin [] bx1) _
  rw [e2]
  exact h1
theorem AWp.lastGZ (ks own:List Nat)(m i T e:Nat)(is:List GInfo)(hm:P.follows .mixedOrders=true)(hc:gOK ops (infoF m is) (Region.before ops)=true)(hd:dstsOK n ops.toList=true)
  (o:Oper) (hi:ops.toList.take m=ops.toList.take i++o::(ops.toList.drop (i+1)).take (m - i - 1)) (ho:o.op=.buildSlice T 1 #[(0,.const zTy)]) (hg:o.guard=none) (hl:(ops.toList.take i).length=i) (hz:hdI (is.drop i)=⟨[],[],[],[]⟩)
  (hT:selem P T=some e) (hs:tsize P e=some 3) (hzz:tzero P e=some (zTyR.map SV.d))
  (h:∀ K:SL→Boxes→Prop,(∀ sl' bx',Q .normal sl' bx'→K sl' bx')→runG P own ops (ops.toList.take i) is sl bx (fun sl1 bx1=>runG P own ops ((ops.toList.drop (i+1)).take (m - i - 1)) (is.drop (i+1)) (sput sl1 o.dst (.d (.slice [zTyW]))) bx1 (tailG P own ops (ops.toList.drop m) (keepK ks K)))):AWp ro P n (.region id ops true) Q sl bx :=
 AWp.regGZ ks own m i T e is hm hc hd o hi ho hg hl hz hT hs hzz (h _ fun _ _ h=>h)
variable {C:Ctx}
theorem run_part {QQ:Exit→Act→World→Prop} (hd:∀ o,o∈ops.toList→dstOK n o.dst)(hnd:∀ o,o∈ops.toList→notDefer o=true) {K:SL→Boxes→Prop} {rest:List Nat}
  (hK:∀ sl bx S w β a,K sl bx→St C n S w β a sl bx→wpOpsIn (FW ro) 0 P ops QQ rest a w):∀ (k i:Nat) (sl:SL) (bx:Boxes) (S:Nat→Prop) (w:World) (β:Names) (a:Act),i+k≤ops.size→Run P n ops ((ops.toList.drop i).take k) sl bx K →
  St C n S w β a sl bx→wpOpsIn (FW ro) 0 P ops QQ (List.range' i k++rest) a w
 | 0,i,sl,bx,S,w,β,a,hik,hr,hs=>hK sl bx S w β a hr hs
 | k+1,i,sl,bx,S,w,β,a,hik,hr,hs=>by
  have hi:i < ops.size:=by omega
  have dp:ops.toList.drop i=ops[i]::ops.toList.drop (i+1):=by
   rw [List.drop_eq_getElem_cons (by simpa using hi)];simp
  rw [dp,List.take_succ_cons] at hr
  obtain⟨g,hg,hdo,h1,h2⟩:=hr
  simp only [List.range'_succ,List.cons_append,wpOpsIn,Array.getElem?_eq_getElem hi]
  have hw:=guard_rep (a:=a) (S:=S) (w:=w) (β:=β) (fun t ht=>by
   obtain⟨j,want,_,hj⟩:=ht
   exact⟨hs.slot t,by rw [hs.size];exact dst_lt_of_gslot hd hj⟩) hg
  rw [hw]
  cases g with
  | true =>
   simp only [if_true]
   obtain⟨r,bx',pg,hop,hrun⟩:=h1 rfl
   refine Oper.wpIn_ofQ (hnd _ (by simp)) (hop C S w β a hs.inv fun x _=>hs.opnd x) ?_
   rintro a' w' ⟨v,S',β',rfl,hi',he,hv,hb⟩
   exact run_part hd hnd hK k (i+1) _ bx' S' w' β' _ (by omega) hrun (hs.put hdo hi' he hv hb)
  | false =>
   simp only [Bool.false_eq_true,if_false]
   refine⟨fun _ _=>trivial,?_⟩
   exact run_part hd hnd hK k (i+1) _ bx S w β _ (by omega) (h2 rfl) (hs.put (pg:=[]) hdo hs.inv (SExt.refl S w) (.tuple [] [] rfl (by simp)) (fun _ _=>rfl))
abbrev pub1 (rs:List (List D))(k:Nat):Rep1:=⟨fun off=>.box k off,.d (.slice rs),.mp k⟩
theorem St.pubCore {S:Nat→Prop} {w:World} {β:Names} {a:Act} (k:Nat) {bc:BoxC} {f:Rep1} (hk:(k,bc)∈bx)
  (hf:∀ (S:Nat→Prop) (w:World) (β:Names),BoxOK S w β (β k) bc→(∀ b,(β k).base=some b→S b)→Rep1OK S S w β k f)
  (hs:St C n S w β a sl bx):∃ S',St C n S' w β a (subSl k f sl) (subBx k f (berase k bx)):=by
 let S':Nat→Prop:=fun b=>S b∨(β k).base=some b
 have e:SExt S w S' w:=⟨fun _ h=>.inl h,fun _ _=>rfl⟩
 have hi:=hs.inv
 have hbox:BoxOK S' w β (β k) bc:=(hi.box k _ hk).ext e (fun _ _=>rfl) (fun _ _=>rfl)
 have hr1:=hf S' w β hbox (fun b hb=>.inr hb)
 have hr:Rep1OK S' S' w β k f:=hr1
 have hsub:∀ {x:SV} {v:Value},RepV S w β x v→RepV S' w β (x.sub k f) v:=fun hv=>(hv.ext e (fun _ _=>rfl)).sub hr (SExt.refl _ _)
 refine⟨S',?_,hs.size,hs.defers.ext e,fun t=>by rw [sget_subSl];exact hsub (hs.slot t)⟩
 exact {
  S0sub:=fun b hb=>.inl (hi.S0sub b hb)
  Snew:=fun b hb=>by
   rcases hb with hb | hb
   ·exact hi.Snew b hb
   ·exact .inr (hi.priv k _ hk b hb).2.2
  Slt:=fun b hb=>by
   rcases hb with hb | hb
   ·exact hi.Slt b hb
   ·exact (hi.priv k _ hk b hb).2.1
  kept:=hi.kept
  os:=hi.os
  tape:=hi.tape
  output:=hi.output
  size:=hi.size
  box:=fun j c hj=>by
   obtain⟨x,hx,rfl⟩:=mem_subBx hj
   obtain⟨hne,hx⟩:=mem_berase.1 hx
   have:=hi.box j x hx
   cases x with
   | cells cs =>
    obtain⟨b,ty,vs,h1,h2,h3⟩:=this
    refine⟨b,ty,vs,h1,h2,?_⟩
    rw [SV.subL_eq]
    refine h3.map (by simp) ?_
    intro i x y v hx' hy hv
    simp only [List.getElem?_map,hx',Option.map_some,Option.some.injEq] at hy
    subst hy;exact hsub hv
   | rows sz rs=>exact BoxOK.ext (c:=.rows sz rs) this e (fun _ _=>rfl) (fun _ _=>rfl)
   | map kvs=>exact BoxOK.ext (c:=.map kvs) this e (fun _ _=>rfl) (fun _ _=>rfl)
   | ghost Y st=>exact this
  priv:=fun j c hj b hb=>by
   obtain⟨x,hx,rfl⟩:=mem_subBx hj
   obtain⟨hne,hx⟩:=mem_berase.1 hx
   obtain⟨h1,h2,h3⟩:=hi.priv j x hx b hb
   refine⟨fun hs=>?_,h2,h3⟩
   rcases hs with hs | hs
   ·exact h1 hs
   ·exact hne (hi.inj j x k _ hx hk b hb hs).1
  inj:=fun j c j' c' hj hj' b hb hb'=>by
   obtain⟨x,hx,rfl⟩:=mem_subBx hj
   obtain⟨x',hx',rfl⟩:=mem_subBx hj'
   obtain⟨h1,h2⟩:=hi.inj j x j' x' (mem_berase.1 hx).2 (mem_berase.1 hx').2 b hb hb'
   exact⟨h1,by rw [h2]⟩
  tab:=fun b cs hv=>⟨.inl (hi.tab b cs hv).1,(hi.tab b cs hv).2⟩
  one:=fun j Y st j' Y' st' hj hj'=>by
   obtain⟨x,hx,hxe⟩:=mem_subBx hj
   obtain⟨x',hx',hxe'⟩:=mem_subBx hj'
   have e1:x=.ghost Y st:=by cases x <;> simp only [BoxC.sub,reduceCtorEq] at hxe;exact hxe.symm
   have e2:x'=.ghost Y' st':=by cases x' <;> simp only [BoxC.sub,reduceCtorEq] at hxe';exact hxe'.symm
   subst e1;subst e2
   exact hi.one j Y st j' Y' st' (mem_berase.1 hx).2 (mem_berase.1 hx').2
  frn:=fun j Y st hj=>by
   obtain⟨x,hx,hxe⟩:=mem_subBx hj
   have hxg:x=.ghost Y st:=by cases x <;> simp only [BoxC.sub,reduceCtorEq] at hxe;exact hxe.symm
   subst hxg
   obtain⟨h1,h2,h3,h4,B,h5,h6⟩:=hi.frn j Y st (mem_berase.1 hx).2
   have hsz:=hi.size
   have hB:∀ b,B b→¬ S' b:=fun b hb hs=>hs.elim (h6 b hb).1 ((h6 b hb).2.2.2 k _ hk)
   have hold:∀ k' c',(k',c')∈subBx k f (berase k bx)→∃ y,(k',y)∈bx:=fun k' c' hk'=>by
    obtain⟨y,hy,_⟩:=mem_subBx hk';exact⟨y,(mem_berase.1 hy).2⟩
   refine⟨h1,h2,h3,fun k' c' hk'=>(hold k' c' hk').elim fun y hy=>h4 k' y hy,B,h2.keep st B S w _ w h5 ⟨fun _ h=>.inl h,fun b hb=>hb.imp id fun hb=>by rw [h1];exact h4 k _ hk b hb,fun b hb=>?_,hB,fun _ _=>rfl,rfl,rfl,rfl,Nat.le_refl _⟩,
    fun b hb=>⟨hB b hb,(h6 b hb).2.1,(h6 b hb).2.2.1,fun k' c' hk'=>(hold k' c' hk').elim fun y hy=>(h6 b hb).2.2.2 k' y hy⟩⟩
   rcases hb with hb | hb
   ·exact hi.Slt b hb
   ·exact (hi.priv k _ hk b hb).2.1
  fix:=hi.fix }
theorem St.publish {S:Nat→Prop} {w:World} {β:Names} {a:Act} (k:Nat) {sz:Nat} {rs:List (List D)} (hk:bget bx k=some (.rows sz rs))(hs:St C n S w β a sl bx) :
  ∃ S',St C n S' w β a (subSl k (pub1 rs k) sl) (subBx k (pub1 rs k) (berase k bx)) :=
 hs.pubCore k (mem_of_bget hk) fun S w β hb hS=>⟨fun off v hv=>hv,fun v hv=>by cases hv;exact .d _ _ (hb.rows_slice hS),fun v hv=>hv,fun _=>rfl,rfl,rfl⟩
def PubTo (k:Nat)(sl2:SL)(bx2:Boxes)(sl:SL)(bx:Boxes):Prop:=∃ sz rs,bget bx k=some (.rows sz rs)∧sle (subSl k (pub1 rs k) sl) sl2∧ble (subBx k (pub1 rs k) (berase k bx)) bx2
theorem AWp.seqRP {y:Code} (ks own:List Nat)(i k:Nat)(sl2:SL)(bx2:Boxes)(hi:i≤ops.size)(hd:dstsOK n ops.toList=true)
  (h1:runV P own ops (ops.toList.take i) sl bx (PubTo k sl2 bx2))
  (h2:∀ K:SL→Boxes→Prop,(∀ sl' bx',AWp ro P n y Q sl' bx'→K sl' bx')→runV P own ops (ops.toList.drop i) sl2 bx2 (keepK ks K)):AWp ro P n (.seq (.region id ops false) y) Q sl bx:=by
 have hd0:∀ l:List Oper,(∀ x,x∈l→x∈ops.toList)→dstsOK n l=true:=fun l hl=>by
  unfold dstsOK at *;rw [List.all_eq_true] at *;exact fun o ho=>hd o (hl o ho)
 refine AWp.seq fun C S w β a hs=>wpIn_region ?_
 have hr:List.range ops.size=List.range' 0 i++List.range' i (ops.size - i):=by
  have:=@List.range'_append_1 0 i (ops.size - i)
  rw [Nat.zero_add] at this
  rw [List.range_eq_range',this]
  congr 1
  omega
 rw [hr]
 refine run_part (dstsOK_spec hd) (dstsOK_nd hd) (K:=PubTo k sl2 bx2) (fun sl1 bx1 S1 w1 β1 a1 hK hs1=>?_) i 0 sl bx S w β a (by omega) (runV_sound _ _ _ (hd0 _ fun x hx=>List.mem_of_mem_take (by simpa using hx)) (by simpa using h1)) hs
 obtain⟨sz,rs,e1,e2,e3⟩:=hK
 obtain⟨S2,hs2⟩:=hs1.publish k e1
 have h3:=runV_sound _ _ _ (hd0 _ fun x hx=>List.mem_of_mem_drop hx) (h2 _ fun _ _ h=>h)
 exact run_ops (dstsOK_spec hd) (dstsOK_nd hd) (fun sl' bx' S' w' β' a' hK hs'=>⟨_,_,S',β',hK,hs'.keep ks ks⟩) (ops.size - i) i sl2 bx2 S2 w1 β1 a1 (by omega) h3 (hs2.weaken e2 e3)
end Go.Abs
