/- castingslaw23.closed -/
import Derived.Test.YtbhbfpjnenekpaaGreatDoorJU01
import Derived.Test.YtbhbfpjnenekpaaGreatDoorJS49
import Derived.Test.YtbhbfpjnenekpaaGreatDoorJW14
import Derived.Test.YtbhbfpjnenekpaaGreatDoorJW08
import Derived.Test.YtbhbfpjnenekpaaGreatDoorJS36
import Derived.Test.YtbhbfpjnenekpaaGreatDoorJAb21
import Derived.Test.YtbhbfpjnenekpaaGreatDoorJShelfS
import Derived.Test.YtbhbfpjnenekpaaGreatDoorJW15
import Derived.Test.YtbhbfpjnenekpaaGreatDoorJS95
import Derived.Test.YtbhbfpjnenekpaaGreatDoorJS58
import Derived.Test.YtbhbfpjnenekpaaGreatDoorJV07
namespace Go.Abs
set_option linter.unusedSimpArgs false
set_option linter.unusedVariables false
open Go Go.Proofs Tryz
set_option maxRecDepth 100000
set_option maxHeartbeats 1000000
def closedC (c:CallT):Bool:=c.targs.all Ty.right && c.on.right
abbrev q1Kx:List Nat:=[0,1,2,3,8,17]
theorem ok_closedC (c:CallT)(ho:c.on.Nn)(hl:c.targs.length≤sm)(ht:∀ t,t∈c.targs→t.Nn):CallOK prog 14 [caV c] (boolV (closedC c)):=by
 have hon:=ok_Right04 c.on ho
 obtain⟨o,n,l⟩:=c
 unfold closedC
 generalize hR:o.right=ro at *
 clear hR
 refine cB func14 ?_
 refine sR q1Kx ?_
 refine kR q1Kx fun K1 u1=>?_
 refine AWp.block (AWp.forIdx l (X:=Unit) (fun j _=>[(1,.box 1 0),(3,intV j)]) (fun _ _=>[(1,.cells (caS ⟨o,n,l⟩))])
  (fun j _=>l.all Ty.right=(l.drop j).all Ty.right) () rfl sS sB ?_ ?_)
 rotate_left
 ·intro j _ t hg hmem dp tk hlt hI
  have hr:=ok_Right04 t (ht t hmem)
  rw [dp,List.all_cons] at hI
  refine kR1 hlt q1Kx fun K2 u2=>?_
  refine gI u2 ?_
  clear u2 K2
  refine sK fun K2 u2=>?_
  refine AWp.block ?_
  cases hb:t.right with
  | true =>
   rw [hb] at hr hI
   (refine sV q1Kx fun K z=>?_;refine ci (tyR_get hg) ?_;refine cc hr ?_;apply z;clear z K)
   refine AWp.condF rfl (AWp.skip (u2 _ _ ?_))
   clear u2 K2
   (refine lV q1Kx fun K z=>?_;refine cl ?_;apply z;clear z K;try simp only [thenA,blockA,if_true])
   exact⟨(),by rw [hI,Bool.true_and],sS,by simp [ble,bget]⟩
  | false =>
   rw [hb] at hr hI
   rw [show (CallT.mk o n l).targs.all Ty.right=false by rw [show (CallT.mk o n l).targs=l from rfl,hI];rfl,Bool.false_and]
   (refine sV q1Kx fun K z=>?_;refine ci (tyR_get hg) ?_;refine cc hr ?_;apply z;clear z K)
   refine AWp.condT rfl ?_
   refine sR q1Kx ?_
   exact aR
 intro _ hI
 rw [List.drop_length] at hI
 have hI2:(CallT.mk o n l).targs.all Ty.right=true:=hI
 rw [hI2,Bool.true_and] at u1 ⊢
 refine kR1 Int.lt_irrefl q1Kx fun K2 u2=>?_
 refine AWp.stopK rfl ?_
 simp only [thenA,blockA,if_true]
 refine u1 _ _ ?_
 clear u2 K2 u1 K1
 refine sC hon q1Kx ?_
 exact aR
open Go Go.Proofs Go.Sort Tryz
set_option maxHeartbeats 4000000
abbrev insC (ts:List Ty)(cs:List CallT):List D:=[.slice (tyR ts),.slice (caR cs)]
abbrev insV (ts:List Ty)(cs:List CallT):SV:=.agg [.d (.slice (tyR ts)),.d (.slice (caR cs))]
def plF (l:List Param):List Param:=l.map fun f=>⟨f.name,plT f.type,0⟩
def headD (k:Int)(nm:Str)(fs:List Param)(ss:List Sig):Decl:=⟨k,nm,[],fs,ss,[],[],sig0,ex0,0⟩
def dumD (nm:Str)(s:Sig):Decl:=⟨3,nm,[],[],[],[114],[],dumG s,.mk 3 [] topT [] [] 0,0⟩
def strD (M:CallT→Option Decl)(p:Prog)(calls:List CallT)(x:Ty):List Decl:=if instB p x 1=true then headD 1 x.mg (plF (fieldsT p x)) []::(calls.filterMap M++(setT p [] x).map (dumD x.mg)) else []
def dcR:Option Decl→SV
 | none=>.tuple [deV default,boolV false]
 | some d=>.tuple [deV d,boolV true]
abbrev deH (nm:Str)(x:SV):List SV:=[.d (.int .i64 1),.d (.str nm),.d .nil,x,.d .nil,.d (.str []),.d .nil,.d (.str []),.d .nil,.d .nil,.d (.str []),.d .nil,.d (.int .i64 0),.d (.int .i64 0),.d (.int .i64 0),.d (.str []),.d (.str []),.d .nil,.d (.int .i64 0),.d .nil,.d .nil,.d (.int .i64 0),.d (.int .i64 0)]
theorem plF_take {l:List Param} {j:Nat} {d:Param} (h:l[j]? = some d):paR (plF (l.take (j+1)))=paR (plF (l.take j))++[paC ⟨d.name,plT d.type,0⟩]:=by
 have hj:=(List.getElem?_eq_some_iff.1 h).1
 rw [List.take_succ_eq_append_getElem hj,(List.getElem?_eq_some_iff.1 h).2]
 simp [plF,paR]
theorem fieldsT_Tl {p:Prog} (ht:∀ d,d∈p.decls→d.Tl)(hr:p.right=true)(hs:p.Sm) {x:Ty} (hx:∀ u,u∈x.args→u.Ni 12000):∀ f,f∈fieldsT p x→f.type.Ni 360000000:=by
 intro f hf
 unfold fieldsT at hf
 split at hf
 ·rename_i hi
  obtain⟨d,hd,_⟩:=inst_decl (by decide) hi
  rw [hd,Option.getD_some] at hf
  unfold fieldsD at hf
  obtain⟨y,hy,rfl⟩:=List.mem_map.1 hf
  have hdm:=declT_mem hd
  simp only [Prog.right,Bool.and_eq_true,List.all_eq_true] at hr
  have h:=hr.1 d hdm
  simp only [Decl.right,paRight,Bool.and_eq_true,List.all_eq_true] at h
  have hy2:=h.2.2.1 y hy
  have hyn:y.type.Ni 120000:=⟨Ty.right_Mg ((hs.decls.2 d hdm).fields.2 y hy).type hy2.2,(ht d hdm).fields y hy⟩
  exact Ty.Ni.subst (B:=120000) (M:=12000) (by decide) hx hyn
 ·simp at hf
abbrev q1Jx:List Nat:=[0,1,2,5,6,7,8,9,11,12,14,15,16,18,26,30,31,32,33,49,50,51,52,53,62,70,71,72,73,901]
theorem ok_structOf (p:Prog)(h:p.Sm)(ht:∀ d,d∈p.decls→d.Tl)(hr:p.right=true)(M:CallT→Option Decl)(calls:List CallT)(hcl:calls.length≤sm)
  (hM:∀ c,c∈calls→CallOK prog 115 [.dptr (tabC p) 0,caV c] (dcR (M c))) (x:Ty) (hx:x.Sm) (hxn:x.Ni 12000) :
  CallB prog 57 [.dptr (tabC p) 0,.d (.slice (caR calls)),tyV x] [] (.acc 49) [(49,.rows 23 (deR (strD M p calls x)))]:=by
 have hF:=ok_TFields p h x hx
 unfold strD
 cases hi:instB p x 1 with
 | false =>
  rw [hi] at hF
  rw [if_neg (by simp),show deR []=[] from rfl]
  refine bB func57 ?_
  refine sR q1Jx ?_
  refine sC hF q1Jx ?_
  refine kR q1Jx fun K1 u1=>?_
  refine tI ?_
  refine sR q1Jx ?_
  refine AWp.promote 49 23 6 rfl ?_
  exact AWp.ret ⟨_,by rw [results57];rfl,.inl rfl,by simp [ble,bget]⟩
 | true =>
 rw [hi] at hF
 rw [if_pos rfl]
 have hT:=ok_MType x hxn.mg (by have:=hxn.len;omega)
 have hfn:=fieldsT_Tl ht hr h hxn.args
 have hfl:(fieldsT p x).length≤sm:=fieldsT_len h x
 have hS:=ok_Set p h [] (by simp) (by simp) x hx
 have hsl:=setT_len h [] x
 have hsn:=setT_Ni h ht hr hx hxn.args
 generalize x.mg=nm at *
 generalize fieldsT p x=fs at *
 generalize setT p [] x=ss at *
 refine bB func57 ?_
 refine sR q1Jx ?_
 refine sC hF q1Jx ?_
 refine kR q1Jx fun K1 u1=>?_
 refine kI u1 ?_
 clear u1 K1
 refine sC hT q1Jx ?_
 refine AWp.promoteBox 901 5 9 3 rfl rfl (by decide) ?_
 refine kR q1Jx fun K1 u1=>?_
 refine AWp.block (AWp.forIdx fs (X:=Unit) (fun j _=>[(0,.dptr (tabC p) 0),(1,.d (.slice (caR calls))),(5,.box 5 0),(9,.box 9 0),(30,.d (.slice (paR fs))),(31,intV fs.length),(32,intV j)])
  (fun j _=>[(5,.cells (tyS x)),(9,.cells (deH nm (.acc 901))),(901,.rows 5 (paR (plF (fs.take j))))])
  (fun _ _=>True) () trivial sS (by simp [ble,bget,berase,paR,plF]) ?_ ?_)
 rotate_left
 ·intro j _ d hd hmem dp tk hlt _
  have hj:=(List.getElem?_eq_some_iff.1 hd).1
  have hdn:=hfn d hmem
  have hdp:=ok_SPlain d.type hdn.mg (by have:=hdn.len;omega)
  have e3:(paR (plF (fs.take j))).length=j:=by simp only [paR,plF,List.length_map,List.length_take];omega
  rw [plF_take hd]
  generalize paR (plF (fs.take j))=PR at *
  refine sR1 hlt q1Jx ?_
  refine AWp.goOn rfl ?_
  refine sK fun K2 u2=>?_
  refine AWp.block ?_
  (refine sV q1Jx fun K z=>?_;refine ci (paR_get hd) ?_;apply z;clear z K)
  (refine lG q1Jx [] 9 [] fun K z=>?_;refine ev1 e3 ?_;refine⟨_,.inl ⟨_,rfl,hdp,rfl⟩,?_⟩;(try refine ev1 e3 ?_);refine⟨by simp,by (try simp only [e3]);unfold lim sm at *;omega,?_⟩;(try refine ev1 e3 ?_);apply z;clear z K;try simp only [thenA,blockA,if_true])
  refine u2 _ _ ?_
  clear u2 K2
  (refine lV q1Jx fun K z=>?_;refine cl ?_;apply z;clear z K;try simp only [thenA,blockA,if_true])
  exact⟨(),trivial,sS,by simp [ble,bget,paC]⟩
 intro _ _
 rw [List.take_length]
 refine sR1 Int.lt_irrefl q1Jx ?_
 refine AWp.stop rfl ?_
 simp only [thenA,blockA,if_true]
 refine u1 _ _ ?_
 clear u1 K1
 (refine AWp.publish 901 rfl (wk [(0,.dptr (tabC p) 0),(1,.d (.slice (caR calls))),(5,.box 5 0),(9,.box 9 0)] [(5,.cells (tyS x)),(9,.cells (deH nm (.d (.slice (paR (plF fs))))))] ?_))
 (refine AWp.seqR q1Jx [49] (by decide +kernel) fun K z=>?_;refine ev ?_;apply z;clear z K)
 refine kR q1Jx fun K1 u1=>?_
 refine AWp.block (AWp.forIdx calls (X:=Unit) (fun j _=>[(0,.dptr (tabC p) 0),(5,.box 5 0),(9,.box 9 0),(12,.acc 49),(50,.d (.slice (caR calls))),(51,intV calls.length),(52,intV j)])
  (fun j _=>[(5,.cells (tyS x)),(9,.cells (deH nm (.d (.slice (paR (plF fs)))))),(49,.rows 23 (deR (headD 1 nm (plF fs) []::(calls.take j).filterMap M)))])
  (fun _ _=>True) () trivial (by simp [sle,vle,sget,caR_len]) ⟨rfl,rfl,rfl,trivial⟩ ?_ ?_)
 rotate_left
 ·intro j _ c hc hmem dp tk hlt _
  have hj:=(List.getElem?_eq_some_iff.1 hc).1
  have hm:=hM c hmem
  have e2:deR (headD 1 nm (plF fs) []::(calls.take (j+1)).filterMap M)=deR (headD 1 nm (plF fs) []::(calls.take j).filterMap M)++deR (M c).toList:=by
   rw [List.take_succ_eq_append_getElem hj,(List.getElem?_eq_some_iff.1 hc).2,List.filterMap_append]
   cases hmc:M c <;> simp [deR,hmc]
  have e3:(deR (headD 1 nm (plF fs) []::(calls.take j).filterMap M)).length≤j+1:=by
   simp only [deR,List.length_map,List.length_cons]
   have:=List.length_filterMap_le M (calls.take j)
   rw [List.length_take] at this
   omega
  rw [e2]
  generalize deR (headD 1 nm (plF fs) []::(calls.take j).filterMap M)=PR at *
  cases hmc:M c with
  | none =>
   rw [hmc] at hm
   unfold dcR at hm
   refine sR1 hlt q1Jx ?_
   refine AWp.goOn rfl ?_
   refine sK fun K2 u2=>?_
   refine AWp.block ?_
   (refine sQ q1Jx fun K z=>?_;simp -implicitDefEqProofs only [EV,forall_const,implies_true,Nat.reduceAdd,Nat.reduceEqDiff,Nat.reduceBEq,Nat.reduceLeDiff,Nat.reduceSub,Nat.reduceMul,Int.reduceEq,Int.reduceLT,Int.reduceLE,Int.reduceSub,Int.reduceAdd,Int.reduceToNat,reduceCtorEq,Int.reduceNeg,TF3,TF4,TF9,TF22,TF25,TF28,TF33,TF50,TF52,TF55,TF58,TF61,TF96,caC];refine⟨by omega,_,caR_get hc,rfl,?_⟩;(try simp -implicitDefEqProofs only [EV,forall_const,implies_true,Nat.reduceAdd,Nat.reduceEqDiff,Nat.reduceBEq,Nat.reduceLeDiff,Nat.reduceSub,Nat.reduceMul,Int.reduceEq,Int.reduceLT,Int.reduceLE,Int.reduceSub,Int.reduceAdd,Int.reduceToNat,reduceCtorEq,Int.reduceNeg,TF3,TF4,TF9,TF22,TF25,TF28,TF33,TF50,TF52,TF55,TF58,TF61,TF96,caC]);apply z;clear z K)
   refine sC hm q1Jx ?_
   refine sR q1Jx ?_
   refine AWp.condF rfl (AWp.skip (u2 _ _ ?_))
   clear u2 K2
   (refine lV q1Jx fun K z=>?_;refine cl ?_;apply z;clear z K;try simp only [thenA,blockA,if_true])
   exact⟨(),trivial,sS,by simp [ble,bget,deR,hmc]⟩
  | some d =>
   rw [hmc] at hm
   unfold dcR at hm
   refine sR1 hlt q1Jx ?_
   refine AWp.goOn rfl ?_
   refine sK fun K2 u2=>?_
   refine AWp.block ?_
   (refine sQ q1Jx fun K z=>?_;simp -implicitDefEqProofs only [EV,forall_const,implies_true,Nat.reduceAdd,Nat.reduceEqDiff,Nat.reduceBEq,Nat.reduceLeDiff,Nat.reduceSub,Nat.reduceMul,Int.reduceEq,Int.reduceLT,Int.reduceLE,Int.reduceSub,Int.reduceAdd,Int.reduceToNat,reduceCtorEq,Int.reduceNeg,TF3,TF4,TF9,TF22,TF25,TF28,TF33,TF50,TF52,TF55,TF58,TF61,TF96,caC];refine⟨by omega,_,caR_get hc,rfl,?_⟩;(try simp -implicitDefEqProofs only [EV,forall_const,implies_true,Nat.reduceAdd,Nat.reduceEqDiff,Nat.reduceBEq,Nat.reduceLeDiff,Nat.reduceSub,Nat.reduceMul,Int.reduceEq,Int.reduceLT,Int.reduceLE,Int.reduceSub,Int.reduceAdd,Int.reduceToNat,reduceCtorEq,Int.reduceNeg,TF3,TF4,TF9,TF22,TF25,TF28,TF33,TF50,TF52,TF55,TF58,TF61,TF96,caC]);apply z;clear z K)
   refine sC hm q1Jx ?_
   refine sR q1Jx ?_
   refine AWp.condT rfl ?_
   (refine lV q1Jx fun K z=>?_;refine⟨by simp,by unfold lim sm at *;omega,?_⟩;(try refine ev ?_);apply z;clear z K;try simp only [thenA,blockA,if_true])
   refine u2 _ _ ?_
   clear u2 K2
   (refine lV q1Jx fun K z=>?_;refine cl ?_;apply z;clear z K;try simp only [thenA,blockA,if_true])
   exact⟨(),trivial,sS,by simp [ble,bget,deR,hmc,deC]⟩
 intro _ _
 rw [List.take_length]
 have hcfl:=List.length_filterMap_le M calls
 refine sR1 Int.lt_irrefl q1Jx ?_
 refine AWp.stop rfl ?_
 simp only [thenA,blockA,if_true]
 refine u1 _ _ ?_
 clear u1 K1
 refine kC hS q1Jx fun K1 u1=>?_
 refine AWp.block (AWp.forIdx ss (X:=Unit) (fun j _=>[(9,.box 9 0),(12,.acc 49),(70,.d (.slice (siR ss))),(71,intV ss.length),(72,intV j)])
  (fun j _=>[(9,.cells (deH nm (.d (.slice (paR (plF fs)))))),(49,.rows 23 (deR (headD 1 nm (plF fs) []::(calls.filterMap M++(ss.take j).map (dumD nm)))))])
  (fun _ _=>True) () trivial sS (by simp [ble,bget,deR]) ?_ ?_)
 rotate_left
 ·intro j _ s hs hmem dp tk hlt _
  have hj:=(List.getElem?_eq_some_iff.1 hs).1
  have hsd:=hsn s hmem
  have hdu:=ok_SDummy s (Sig.Ni.dum ⟨hsd.sm,⟨hsd.formals.1,fun f hf=>⟨(hsd.formals.2 f hf).mg,by have:=(hsd.formals.2 f hf).len;omega⟩⟩,⟨hsd.params.1,fun f hf=>⟨(hsd.params.2 f hf).mg,by have:=(hsd.params.2 f hf).len;omega⟩⟩,⟨hsd.result.mg,by have:=hsd.result.len;omega⟩⟩)
  have htp:=ok_STop
  have e2:deR (headD 1 nm (plF fs) []::(calls.filterMap M++(ss.take (j+1)).map (dumD nm)))=deR (headD 1 nm (plF fs) []::(calls.filterMap M++(ss.take j).map (dumD nm)))++[deC (dumD nm s)]:=by
   rw [List.take_succ_eq_append_getElem hj,(List.getElem?_eq_some_iff.1 hs).2]
   simp [deR]
  have e3:(deR (headD 1 nm (plF fs) []::(calls.filterMap M++(ss.take j).map (dumD nm)))).length≤2*sm+1:=by
   simp only [deR,List.length_map,List.length_cons,List.length_append,List.length_take]
   omega
  rw [e2]
  generalize deR (headD 1 nm (plF fs) []::(calls.filterMap M++(ss.take j).map (dumD nm)))=PR at *
  unfold dumD
  generalize dumG s=g at *
  refine sR1 hlt q1Jx ?_
  refine AWp.goOn rfl ?_
  refine sK fun K2 u2=>?_
  refine AWp.block ?_
  (refine sV q1Jx fun K z=>?_;refine ci (siR_get hs) ?_;apply z;clear z K)
  (refine lG q1Jx [] 9 [] fun K z=>?_;refine ev ?_;refine cc hdu ?_;refine cc htp ?_;refine⟨by simp,by unfold lim sm at *;omega,?_⟩;(try refine ev ?_);apply z;clear z K;try simp only [thenA,blockA,if_true])
  refine u2 _ _ ?_
  clear u2 K2
  (refine lV q1Jx fun K z=>?_;refine cl ?_;apply z;clear z K;try simp only [thenA,blockA,if_true])
  exact⟨(),trivial,sS,⟨rfl,rfl,trivial⟩⟩
 intro _ _
 rw [List.take_length]
 refine sR1 Int.lt_irrefl q1Jx ?_
 refine AWp.stop rfl ?_
 simp only [thenA,blockA,if_true]
 refine u1 _ _ ?_
 clear u1 K1
 refine sR q1Jx ?_
 exact AWp.ret ⟨_,by rw [results57];rfl,.inl rfl,by simp [ble,bget]⟩
abbrev q2Jx:List Nat:=[0,1,2,5,6,7,8,9,11,12,13,15,19,23,27,28,29,30,39,50,51,52,53]
theorem ok_interface0 (p:Prog)(h:p.Sm)(calls:List CallT)(x:Ty)(hx:x.Sm)(hi:instB p x 2=false):CallOK prog 58 [.dptr (tabC p) 0,.d (.slice (caR calls)),tyV x] (.d (.slice [])):=by
 have hS:=ok_TSpecs p h x hx
 rw [hi] at hS
 refine cB func58 ?_
 refine sR q2Jx ?_
 (refine AWp.seqR q2Jx [19] (by decide +kernel) fun K z=>?_;refine ev ?_;refine⟨_,_,_,_,_,rfl,hS,?_⟩;(try refine ev ?_);apply z;clear z K)
 refine kR q2Jx fun K1 u1=>?_
 refine tI ?_
 refine sR q2Jx ?_
 exact aR
theorem opB_sortNil {sl:SL} {bx:Boxes} {dst:Option Nat} {x:Operand} {tys:List TypeId} (hx:opnd sl x=.d .nil) :
  OpB prog sl bx dst (.call ⟨.value (.func 110),[x,.func 111].toArray,tys.toArray⟩) (.tuple []) bx []:=by
 intro o ho _ C S w β a hi ha
 have hE:Enters prog 110:=(Enters.of func110 rfl (by decide))
 have hx1:=ha x (mC ho)
 rw [hx] at hx1
 have hv:a.eval x=.slice none 0 0:=by
  have h1:=hx1.inv_d
  generalize a.eval x=v at h1
  cases h1;rfl
 have hargsEq:([x,.func 111].toArray.map a.eval)++(#[]:Array Value) = #[.slice none 0 0,.func (.func 111) #[] #[]]:=by
  apply Array.ext'
  rw [Array.toList_append,Array.toList_map]
  show [a.eval x,Value.func (.func 111) #[] #[]]++[]=_
  rw [hv];rfl
 refine Or.inl ?_
 unfold Oper.wp
 rw [run_enter hE ho (show a.eval (.func 110)=.func (.func 110) #[] #[] from rfl),Oper.upon_enter,hargsEq]
 refine (AnyF.slices_SortFunc_none sortC _ _ _ w).mono ?_
 rintro e w' ⟨rfl,rfl⟩
 exact⟨_,S,β,rfl,hi,SExt.refl S _,.tuple [] [] rfl (by simp),fun _ _=>rfl⟩
abbrev q3Jx:List Nat:=[0,1,4,5,6,7,10,15,28,35,49]
theorem ok_Compact0:CallOK prog 112 [.d (.slice []),.clo 113 []] (.d (.slice [])):=by
 refine cB func112 ?_
 refine sR q3Jx ?_
 refine sK fun K1 u1=>?_
 (refine sQ q3Jx fun K z=>?_;simp -implicitDefEqProofs only [EV,forall_const,implies_true,Nat.reduceAdd,Nat.reduceEqDiff,Nat.reduceBEq,Nat.reduceLeDiff,Nat.reduceSub,Nat.reduceMul,Int.reduceEq,Int.reduceLT,Int.reduceLE,Int.reduceSub,Int.reduceAdd,Int.reduceToNat,reduceCtorEq,Int.reduceNeg,TF3,TF4,TF9,TF33,TF55,List.length_nil];apply z;clear z K)
 refine tI ?_
 refine sR q3Jx ?_
 exact aR
abbrev q4Jx:List Nat:=[0,1,2,3,4,5,6,7,8,10,14,15,16,17,24]
theorem ok_Methods0 (p:Prog)(h:p.Sm)(ts:List Ty)(x:Ty):CallOK prog 56 [prV p,insV ts [],tyV x] (.d (.slice [])):=by
 have hn:=ok_New p h
 have hc:=ok_Compact0
 refine cB func56 ?_
 refine sR q4Jx ?_
 refine sC hn q4Jx ?_
 refine sR q4Jx ?_
 refine kR q4Jx fun K1 u1=>?_
 refine AWp.block (AWp.loop (X:=Unit) (fun _=>[(8,.d .nil),(15,intV 0),(16,intV 0)]) (fun _=>[]) (fun _=>True) (fun _=>0) () trivial (by simp [sle,vle,sget,caR]) (by simp [ble]) ?_)
 intro _ _
 refine sR1 Int.lt_irrefl q4Jx ?_
 refine AWp.stop rfl ?_
 simp only [thenA,blockA,if_true]
 refine u1 _ _ ?_
 clear u1 K1
 (refine AWp.seqR q4Jx [800038] (by decide +kernel) fun K z=>?_;refine ev ?_;refine⟨_,_,_,opB_sortNil rfl,?_⟩;(try refine ev ?_);apply z;clear z K)
 refine sC hc q4Jx ?_
 exact aR
abbrev q5Jx:List Nat:=[0,1,2,3,4,5,6,7,8,18]
theorem ok_SType0 (p:Prog)(h:p.Sm)(ht:∀ d,d∈p.decls→d.Tl)(hr:p.right=true)(ts:List Ty)(x:Ty)(hx:x.Sm)(hxn:x.Ni 12000)(hi:instB p x 2=false) :
  CallOK prog 21 [prV p,insV ts [],tyV x] (.d (.slice (deR (strD (fun _=>none) p [] x)))):=by
 have hn:=ok_New p h
 have hm:=ok_Methods0 p h ts x
 have hs:=ok_structOf p h ht hr (fun _=>none) [] (by simp) (by simp) x hx hxn
 have hio:=ok_interface0 p h [] x hx hi
 have hl:(deR (strD (fun _=>none) p [] x)).length≤sm+1:=by
  have:=setT_len h [] x
  simp only [deR,List.length_map]
  unfold strD
  split
  ·simp only [List.filterMap_nil,List.nil_append,List.length_cons,List.length_map];omega
  ·simp
 generalize strD (fun _=>none) p [] x=ds at *
 have hl2:ds.length≤sm+1:=by rw [← deR_len];exact hl
 refine cB func21 ?_
 refine sR q5Jx ?_
 refine sC hn q5Jx ?_
 refine sC hm q5Jx ?_
 (refine sG q5Jx [18] 7 [⟨[],[],[],[]⟩,⟨[],[],[],[]⟩,⟨[],[],[],[]⟩,⟨[18],[18],[],[]⟩,⟨[],[],[18],[18]⟩,⟨[],[],[18],[18]⟩,⟨[],[],[18],[18]⟩] fun K z=>?_;refine ev ?_;refine⟨_,_,_,_,_,rfl,hs,?_⟩;(try refine ev ?_);refine cc hio ?_;refine⟨by simp,by unfold lim sm at *;omega,?_⟩;(try refine ev ?_);apply z;clear z K)
 exact aR
set_option maxHeartbeats 1000000
open Go Go.Proofs Tryz
set_option maxHeartbeats 4000000
abbrev mnS (e:Ex):List SV:=[.d (.int .i64 e.kind),.d (.str e.name),.d (.str e.type.name),.d (.slice (tyR e.type.args)),.d (.int .i64 e.type.pos),.d (.slice (tyR e.targs)),.d (.slice (exR e.kids)),.d (.int .i64 e.pos)]
theorem ok_SProg1 (p:Prog)(ts:List Ty)(cs:List CallT)(x:Ty)(ds:List Decl)(e:Ex)(rs:List (List D))(hT:CallOK prog 21 [prV p,insV ts cs,tyV x] (.d (.slice (deR ds))))(hl:rs.length+ds.length≤100000000000) :
  CallB prog 36 [tyV x,.box 1000000 0,.dptr (prC p) 0,.dptr (insC ts cs) 0] [(1000000,.cells (.acc 7::mnS e)),(7,.rows 23 rs)] (.tuple []) [(1000000,.cells (.acc 7::mnS e)),(7,.rows 23 (rs++deR ds))]:=by
 have hdl:(deR ds).length=ds.length:=deR_len ds
 have hdr:=deR_row ds
 generalize deR ds=DR at *
 refine bB func36 ?_
 refine sR [0,1,2,3,4,7,1000000] ?_
 (refine lG [0,1,2,3,4,7,1000000] [] 6 [] fun K z=>?_;refine ev ?_;refine cc hT ?_;refine⟨hdr,by unfold lim;omega,?_⟩;(try refine ev ?_);apply z;clear z K;try simp only [thenA,blockA,if_true])
 exact⟨_,by rw [results36];rfl,.inr rfl,by simp [ble,bget]⟩
theorem opT_lend2 {P:Program} {o:Oper} {ρ:Rho} {bx:Boxes} {f:FuncId} {fo:Operand} {args:Array Operand} {tys:Array TypeId} (ho:o.op=.call { callee:=.value fo,args:=args,argTypes:=tys }) {caps args':List SV} {r:SV} {k q sz:Nat} {cs cs':List SV} {rs rs':List (List D)}
  (hc:CallB P f args' [(1000000,.cells (.acc 7::cs)),(7,.rows sz rs)] r [(1000000,.cells (.acc 7::cs')),(7,.rows sz rs')]) (hf:ρ fo=.clo f caps) (hargs:lendL k 1000000 (args.toList.map ρ++caps)=some args') (h7:SV.hasAny 7 args'=false)
  (hb:bget bx k=some (.cells (.acc q::cs))) (hq:bget bx q=some (.rows sz rs)) (hkq:k≠q) (hq6:q < 1000000) (hcc:SV.closedAll cs=true) (hcc':SV.closedAll cs'=true)
  (hno:(bx.all fun kc=>kc.1 == k || !kc.2.has q)=true) (hreal:(bx.all fun kc=>kc.2.real)=true) (hr:r.closed=true) :
  OpT P o ρ bx r ((k,.cells (.acc q::cs'))::(q,.rows sz rs')::berase k (berase q bx)) [q] :=
 opT_callBox2 ho hf (mem_of_bget hb) (mem_of_bget hq) hkq hq6 hcc hcc' (fun k' c' h hk=>by
  have:=List.all_eq_true.1 hno (k',c') h
  simpa [hk] using this) (fun k' c' h=>List.all_eq_true.1 hreal (k',c') h) hargs h7 hc hr
def topD:Decl:=headD 1 topN [] []
abbrev q1Tx:List Nat:=[0,1,2,3,4,5,6,8,11,18,19,20,21]
theorem ok_SProgram (p:Prog)(hp:p.Sm)(ts:List Ty)(hts:ts.length≤sm)(cs:List CallT)(typ:Ty→List Decl)(mt:Ty→Ty)(mm:Str→List Ty→Str)(hM:MOK mt mm p.main)
  (hT:∀ x,x∈ts→CallOK prog 21 [prV p,insV ts cs,tyV x] (.d (.slice (deR (typ x))))) (hl:((topD::ts.flatMap typ).length)≤100000000000) :
  CallOK prog 11 [prV p,insV ts cs] (prV ⟨topD::ts.flatMap typ,mglE mt mm p.main⟩):=by
 have htop:=ok_Top
 have hme:=ok_MExpr mt mm p.main hp.main hM
 show CallOK prog 11 [prV p,insV ts cs] (.agg [.d (.slice (deR (topD::ts.flatMap typ))),.d (.int .i64 (mglE mt mm p.main).kind),.d (.str (mglE mt mm p.main).name),.d (.str (mglE mt mm p.main).type.name),.d (.slice (tyR (mglE mt mm p.main).type.args)),.d (.int .i64 (mglE mt mm p.main).type.pos),.d (.slice (tyR (mglE mt mm p.main).targs)),.d (.slice (exR (mglE mt mm p.main).kids)),.d (.int .i64 (mglE mt mm p.main).pos)])
 generalize mglE mt mm p.main=e at *
 refine cB func11 ?_
 refine sR q1Tx ?_
 (refine sG q1Tx [11] 8 [⟨[],[],[5],[5]⟩,⟨[],[],[5],[5]⟩,⟨[11],[11],[5],[5]⟩,⟨[],[],[5,11],[5,11]⟩,⟨[],[],[5,11],[5,11]⟩,⟨[],[],[5,11],[5,11]⟩,⟨[],[],[5],[5]⟩,⟨[5],[5],[11],[11]⟩] fun K z=>?_;refine ev ?_;refine cc htop ?_;refine cc hme ?_;apply z;clear z K)
 (refine AWp.freeze 2 rfl rfl ?_;refine AWp.freeze 3 rfl rfl (wk [(2,.dptr (prC p) 0),(3,.dptr (insC ts cs) 0),(4,.box 4 0),(5,.box 5 0)] [(4,.cells [.d .nil,.d (.int .i64 0),.d (.str []),.d (.str []),.d .nil,.d (.int .i64 0),.d .nil,.d .nil,.d (.int .i64 0)]),(5,.cells (.acc 11::mnS e)),(11,.rows 23 (deR [topD]))] ?_))
 refine sR q1Tx ?_
 refine kR q1Tx fun K1 u1=>?_
 refine AWp.block (AWp.forIdx ts (X:=Unit) (fun j _=>[(4,.box 4 0),(5,.box 5 0),(6,.clo 36 [.box 5 0,.dptr (prC p) 0,.dptr (insC ts cs) 0]),(18,tysV ts),(19,intV ts.length),(20,intV j)])
  (fun j _=>[(4,.cells [.d .nil,.d (.int .i64 0),.d (.str []),.d (.str []),.d .nil,.d (.int .i64 0),.d .nil,.d .nil,.d (.int .i64 0)]),(5,.cells (.acc 11::mnS e)),(11,.rows 23 (deR (topD::(ts.take j).flatMap typ)))])
  (fun _ _=>True) () trivial (by simp [sle,vle,sget,prC]) sB ?_ ?_)
 rotate_left
 ·intro j _ x hx hmem dp tk hlt _
  have hj:=(List.getElem?_eq_some_iff.1 hx).1
  have e2:deR (topD::(ts.take (j+1)).flatMap typ)=deR (topD::(ts.take j).flatMap typ)++deR (typ x):=by
   rw [List.take_succ_eq_append_getElem hj,(List.getElem?_eq_some_iff.1 hx).2,List.flatMap_append]
   simp [deR]
  have e3:(deR (topD::(ts.take j).flatMap typ)).length+(typ x).length≤100000000000:=by
   have h1:ts.flatMap typ=(ts.take (j+1)).flatMap typ++(ts.drop (j+1)).flatMap typ:=by rw [← List.flatMap_append,List.take_append_drop]
   have h2:(ts.take (j+1)).flatMap typ=(ts.take j).flatMap typ++typ x:=by
    rw [List.take_succ_eq_append_getElem hj,(List.getElem?_eq_some_iff.1 hx).2,List.flatMap_append];simp
   rw [h1,h2] at hl
   simp only [List.length_cons,List.length_append] at hl
   rw [deR_len,List.length_cons]
   omega
  have hc:=ok_SProg1 p ts cs x (typ x) e _ (hT x hmem) e3
  rw [e2]
  generalize deR (topD::(ts.take j).flatMap typ)=PR at *
  generalize deR (typ x)=DR at *
  refine sR1 hlt q1Tx ?_
  refine AWp.goOn rfl ?_
  refine sK fun K2 u2=>?_
  refine AWp.block ?_
  (refine sV q1Tx fun K z=>?_;refine ci (tyR_get hx) ?_;apply z;clear z K)
  (refine AWp.lastR q1Tx [800026] (by decide +kernel) fun K z=>?_;refine ev ?_;refine⟨_,_,_,fun o ho _=>opT_lend2 (k:=5) (q:=11) ho hc rfl rfl rfl rfl rfl (by decide) (by decide) rfl rfl rfl rfl rfl,?_⟩;(try refine ev ?_);apply z;clear z K;try simp only [thenA,blockA,if_true])
  refine u2 _ _ ?_
  clear u2 K2
  (refine lV q1Tx fun K z=>?_;refine cl ?_;apply z;clear z K;try simp only [thenA,blockA,if_true])
  exact⟨(),trivial,by simp [sle,vle,sget,prC],by simp [ble,bget]⟩
 intro _ _
 rw [List.take_length]
 refine sR1 Int.lt_irrefl q1Tx ?_
 refine AWp.stop rfl ?_
 simp only [thenA,blockA,if_true]
 refine u1 _ _ ?_
 clear u1 K1
 (refine AWp.publish 11 rfl (wk [(4,.box 4 0),(5,.box 5 0)] [(4,.cells [.d .nil,.d (.int .i64 0),.d (.str []),.d (.str []),.d .nil,.d (.int .i64 0),.d .nil,.d .nil,.d (.int .i64 0)]),(5,.cells (.d (.slice (deR (topD::ts.flatMap typ)))::mnS e))] ?_))
 refine sR q1Tx ?_
 exact aR
def goodB (p:Prog):Bool:=decide (p.count≤600) && (p.right && (!(progT p true).bad && isMono p))
abbrev q2Tx:List Nat:=[0,1,2,18]
theorem ok_Good (p:Prog):CallOK prog 8 [prV p] (intV (if goodB p=true then 1 else 0)):=by
 have hf:=ok_Few06 p
 unfold goodB
 by_cases g1:p.count≤600
 rotate_left
 ·rw [decide_eq_false g1] at hf ⊢
  rw [Bool.false_and,if_neg (by simp)]
  refine cB func8 ?_
  refine sR q2Tx ?_
  refine kC hf q2Tx fun K1 u1=>?_
  refine kI u1 ?_
  refine sR q2Tx ?_
  exact aR
 rw [decide_eq_true g1] at hf ⊢
 rw [Bool.true_and]
 have hfit:=Prog.count_Fit p g1
 have hle:=Prog.count_Le p g1
 have hr:=ok_Right06 p hfit.sm (Prog.count_Nn p g1)
 have hP:=ok_Program17 p hfit true
 have hI:=ok_Is19 p hfit.sm (fun d hd=>by have:=(hle.decls d hd).body.list;unfold sm;omega) (Prog.count_al p g1)
 generalize p.right=b1 at *
 generalize isMono p=b3 at *
 generalize progT p true=r at *
 obtain⟨q,b2,lg⟩:=r
 cases b1 with
 | false =>
  rw [Bool.false_and,if_neg (by simp)]
  refine cB func8 ?_
  refine sR q2Tx ?_
  refine sK fun K1 u1=>?_
  (refine sV q2Tx fun K z=>?_;refine cc hf ?_;refine cc hr ?_;apply z;clear z K)
  refine kI u1 ?_
  refine sR q2Tx ?_
  exact aR
 | true =>
 cases b2 with
 | true =>
  rw [show (true && (!(Res.mk q true lg).bad && b3))=false from rfl,if_neg (by simp)]
  refine cB func8 ?_
  refine sR q2Tx ?_
  refine sK fun K1 u1=>?_
  (refine sV q2Tx fun K z=>?_;refine cc hf ?_;refine cc hr ?_;refine cc hP ?_;apply z;clear z K)
  refine kI u1 ?_
  refine sR q2Tx ?_
  exact aR
 | false =>
 rw [show (true && (!(Res.mk q false lg).bad && b3))=b3 from rfl]
 cases b3 with
 | false =>
  rw [if_neg (by simp)]
  refine cB func8 ?_
  refine sR q2Tx ?_
  refine sK fun K1 u1=>?_
  (refine sV q2Tx fun K z=>?_;refine cc hf ?_;refine cc hr ?_;refine cc hP ?_;refine cc hI ?_;apply z;clear z K)
  refine kI u1 ?_
  refine sR q2Tx ?_
  exact aR
 | true =>
  rw [if_pos rfl]
  refine cB func8 ?_
  refine sR q2Tx ?_
  refine sK fun K1 u1=>?_
  (refine sV q2Tx fun K z=>?_;refine cc hf ?_;refine cc hr ?_;refine cc hP ?_;refine cc hI ?_;apply z;clear z K)
  refine tI ?_
  refine sR q2Tx ?_
  exact aR
def t23:Ty:=.mk [84] [] 0
def l23:Ex:=.mk 3 [] t23 [] [] 0
def p23:Prog:=⟨[{ (default:Decl) with kind:=1,name:=[84] }],l23⟩
def s23:Sig:=⟨[109],[],[],t23,0⟩
def c23:CallT:=⟨t23,[109],[]⟩
theorem p23_few:p23.count≤600:=by decide +kernel
theorem p23_right:p23.right=true:=by decide +kernel
theorem t23_Sm:t23.Sm:=.mk _ _ _ (by decide) (by simp) (by simp)
theorem t23_Ni:t23.Ni 12000:=⟨.nam _ _ _ (by decide +kernel) (by decide) (by simp) (by simp),by decide +kernel⟩
theorem set23:setT p23 [] t23=[]:=by
 have:setU p23 [] t23=[]:=rfl
 unfold setT
 rw [this]
 simp [sortSi]
theorem typ23:strD (fun _=>none) p23 [] t23=[headD 1 [84] [] []]:=by
 unfold strD
 rw [set23]
 rfl
theorem mok23:MOK (fun t=>.mk t.mg [] t.pos) mgM p23.main:=.mk _ _ _ _ _ _ (fun _=>ok_MPlain t23 t23_Ni.mg (by have:=t23_Ni.len;omega)) (fun h=>absurd h (by decide)) (by simp)
theorem main23:mglE (fun t=>.mk t.mg [] t.pos) mgM p23.main=l23:=by rfl
theorem dum23:dumG s23=⟨[109,95,83,84,95,69],[],[],topT,0⟩:=by
 unfold dumG
 rw [show dumS s23=[109,95,83,84,95,69] by decide +kernel]
abbrev q3Tx:List Nat:=[0,1,2,3,4,5,7,33]
theorem ok_awake23:CallOK prog 7 [] (boolV true):=by
 have hfit:=Prog.count_Fit p23 p23_few
 have htl:=Prog.count_Tl p23 p23_few
 have hty:=ok_SType0 p23 hfit.sm htl p23_right [t23] t23 t23_Sm t23_Ni (by rfl)
 rw [typ23] at hty
 have hpr:=ok_SProgram p23 hfit.sm [t23] (by simp [sm]) [] (fun _=>[headD 1 [84] [] []]) _ _ mok23 (fun x hx=>by
  simp only [List.mem_cons,List.not_mem_nil,or_false] at hx;subst hx;exact hty) (by simp)
 rw [main23] at hpr
 obtain⟨DL,hDL⟩:∃ DL,DL=topD::[t23].flatMap (fun _=>[headD 1 [84] [] []]):=⟨_,rfl⟩
 have hl:((DL.length:Nat):Int)=2:=by rw [hDL];rfl
 have h0:DL[0]? = some topD:=by rw [hDL];rfl
 have h1:DL[1]? = some (headD 1 [84] [] []):=by rw [hDL];rfl
 rw [← hDL] at hpr
 have hdu:=ok_SDummy s23 (Sig.Ni.dum ⟨⟨by decide,by simp [s23],by simp [s23],t23_Sm⟩,by simp [s23],by simp [s23],⟨t23_Ni.mg,by have:=t23_Ni.len;show t23.tlen≤_;omega⟩⟩)
 rw [dum23] at hdu
 have hsg:=ok_SSig p23 hfit.sm htl p23_right c23 ⟨⟨t23_Sm,by decide,by simp [c23]⟩,t23_Ni,by simp [c23],by simp [c23,Ty.tlenL]⟩
 rw [show appO p23 c23=none by unfold appO;rw [show c23.on=t23 from rfl,set23];rfl] at hsg
 clear hDL
 unfold sgR at hsg
 have n0:topD.name=[84,111,112,95,84]:=rfl
 have n1:(headD 1 [84] [] []).name=[84]:=rfl
 have n2:l23.type.name=[84]:=rfl
 have n3:topT.name=[84,111,112,95,84]:=rfl
 have n4:((1:Nat):Int)=1:=rfl
 refine cB func7 ?_
 refine sR q3Tx ?_
 refine sR q3Tx ?_
 refine sR q3Tx ?_
 refine sR q3Tx ?_
 refine sC hpr q3Tx ?_
 refine sC hdu q3Tx ?_
 refine sC hsg q3Tx ?_
 refine sK fun K1 u1=>?_
 (refine sQ q3Tx fun K z=>?_;simp -implicitDefEqProofs only [EV,forall_const,implies_true,Nat.reduceAdd,Nat.reduceEqDiff,Nat.reduceBEq,Nat.reduceLeDiff,Nat.reduceSub,Nat.reduceMul,Int.reduceEq,Int.reduceLT,Int.reduceLE,Int.reduceSub,Int.reduceAdd,Int.reduceToNat,reduceCtorEq,Int.reduceNeg,TF3,TF4,TF9,TF22,TF23,TF25,TF28,TF30,TF35,TF52,TF55,TF61,hl,deR_len];apply z;clear z K)
 refine kI u1 ?_
 clear u1 K1
 (refine sQ q3Tx fun K z=>?_;simp -implicitDefEqProofs only [EV,forall_const,implies_true,Nat.reduceAdd,Nat.reduceEqDiff,Nat.reduceBEq,Nat.reduceLeDiff,Nat.reduceSub,Nat.reduceMul,Int.reduceEq,Int.reduceLT,Int.reduceLE,Int.reduceSub,Int.reduceAdd,Int.reduceToNat,reduceCtorEq,Int.reduceNeg,TF3,TF4,TF9,TF22,TF23,TF25,TF28,TF30,TF35,TF52,TF55,TF61,n0,n1,n2,n3,n4,deR_len];refine⟨_,deR_get h0,rfl,?_⟩;(try simp -implicitDefEqProofs only [EV,forall_const,implies_true,Nat.reduceAdd,Nat.reduceEqDiff,Nat.reduceBEq,Nat.reduceLeDiff,Nat.reduceSub,Nat.reduceMul,Int.reduceEq,Int.reduceLT,Int.reduceLE,Int.reduceSub,Int.reduceAdd,Int.reduceToNat,reduceCtorEq,Int.reduceNeg,TF3,TF4,TF9,TF22,TF23,TF25,TF28,TF30,TF35,TF52,TF55,TF61,n0,n1,n2,n3,n4,deR_len]);refine⟨_,deR_get h1,rfl,?_⟩;(try simp -implicitDefEqProofs only [EV,forall_const,implies_true,Nat.reduceAdd,Nat.reduceEqDiff,Nat.reduceBEq,Nat.reduceLeDiff,Nat.reduceSub,Nat.reduceMul,Int.reduceEq,Int.reduceLT,Int.reduceLE,Int.reduceSub,Int.reduceAdd,Int.reduceToNat,reduceCtorEq,Int.reduceNeg,TF3,TF4,TF9,TF22,TF23,TF25,TF28,TF30,TF35,TF52,TF55,TF61,n0,n1,n2,n3,n4,deR_len]);refine⟨_,.inl ⟨_,rfl,hty,rfl⟩,?_⟩;(try simp -implicitDefEqProofs only [EV,forall_const,implies_true,Nat.reduceAdd,Nat.reduceEqDiff,Nat.reduceBEq,Nat.reduceLeDiff,Nat.reduceSub,Nat.reduceMul,Int.reduceEq,Int.reduceLT,Int.reduceLE,Int.reduceSub,Int.reduceAdd,Int.reduceToNat,reduceCtorEq,Int.reduceNeg,TF3,TF4,TF9,TF22,TF23,TF25,TF28,TF30,TF35,TF52,TF55,TF61,n0,n1,n2,n3,n4,deR_len]);apply z;clear z K)
 exact aR
set_option maxHeartbeats 1000000
set_option maxHeartbeats 4000000
theorem countL_each:∀ {l:List Ty} {k:Int},0≤k→Ty.countL l k≤200→∀ t,t∈l→t.tlen≤12000
 | [],_,_,_=>by simp
 | t::l,k,h0,h=>by
  simp only [Ty.countL] at h
  split at h
  ·have h1:=Ty.count_ge t k
   have h2:=Ty.countL_ge l (t.count k)
   have h3:=Ty.count_tlen t k (by omega)
   intro u hu
   rcases List.mem_cons.1 hu with rfl | hu
   ·omega
   ·exact countL_each (k:=t.count k) (by omega) h u hu
  ·omega
theorem call_Ni {c:CallT} (hf:Ty.countL (c.on::c.targs) 0≤200)(hn:c.name.length≤300)(hc:closedC c=true):c.Ni:=by
 have hall:∀ t,t∈c.on::c.targs→t.Sm:=(Ty.countL_sm (c.on::c.targs) 0 (by omega) (by omega)).2
 have hlen:=Ty.countL_lenL (c.on::c.targs) 0 (by omega)
 have htl:=Ty.countL_tlen (c.on::c.targs) 0 (by omega)
 have he:=countL_each (k:=0) (by omega) hf
 rw [List.length_cons] at hlen
 unfold closedC at hc
 simp only [Bool.and_eq_true,List.all_eq_true] at hc
 refine⟨⟨hall _ (by simp),by unfold sm;omega,by unfold sm;omega,fun t ht=>hall t (by simp [ht])⟩,⟨Ty.right_Mg (hall _ (by simp)) hc.2,he _ (by simp)⟩,fun t ht=>⟨Ty.right_Mg (hall t (by simp [ht])) (hc.1 t ht),he t (by simp [ht])⟩,?_⟩
 rw [Ty.tlenL] at htl
 omega
theorem plT_lm (t:Ty):(plT t).Lm:=.mk _ _ _ (by simp) (by simp)
theorem appL_lm {l:List Sig} {c:CallT} {s:Sig} (hl:∀ x,x∈l→x.params.length≤2000)(h:appL l c=some s):s.Lm:=by
 unfold appL at h
 split at h
 ·cases h
 ·rename_i hn
  obtain⟨y,hy,hyl⟩:=nameI_mem hn
  rw [hy,Option.getD_some] at h
  split at h
  ·cases h
   refine⟨⟨by simp [appG],by simp [appG]⟩,⟨by have:=hl y hyl;simp only [appG,parH_len,List.length_map];unfold sm;omega,fun f hf=>?_⟩,plT_lm _⟩
   unfold appG parH at hf
   obtain⟨i,x,_,_,rfl⟩:=mem_mapIdx hf
   exact plT_lm _
  ·cases h
theorem eqL_rfl {α:Type} {p:α→α→Bool} (h:∀ x,p x x=true):∀ l:List α,eqL p l l=true
 | []=>rfl
 | x::l=>by rw [eqL,h x,eqL_rfl h l];rfl
theorem sameSi_rfl (s:Sig):sameSi s s=true:=by
 unfold sameSi
 rw [eqL_rfl (fun x=>by simp [sameFo,sameT_refl]),eqL_rfl (fun x=>by simp [samePa,sameT_refl]),sameT_refl]
 simp
def sigProg (s:Sig):Prog:=⟨[{ (default:Decl) with sig:=s }],default⟩
theorem ok_Few10 (s:Sig):CallOK prog 18 [siV s] (boolV (decide ((sigProg s).count≤600))):=by
 have hf:=ok_Few06 (sigProg s)
 refine cB func18 ?_
 refine sR [0,1,2] ?_
 refine sC hf [0,1,2] ?_
 exact aR
abbrev q1Ux:List Nat:=[0,1,2,3,4,5,6,7,8,9,10,21,38,60,65,92]
theorem law23_sigs (p:Prog)(c:CallT)(g:c.targs.length*48≤140737488351232):CallOK prog 4 [prV p,caV c] (boolV true):=by
 have haw:=ok_awake23
 have hg:=ok_Good p
 have hfa:=ok_FewAll (c.on::c.targs)
 rw [show tysV (c.on::c.targs)=.d (.slice (tyC c.on::tyR c.targs)) by rw [← tyR_cons]] at hfa
 cases gb:goodB p with
 | false =>
  rw [gb,if_neg (by simp)] at hg
  refine cB func4 ?_
  refine sR q1Ux ?_
  refine sK fun K1 u1=>?_
  (refine sV q1Ux fun K z=>?_;refine cc haw ?_;refine cc hg ?_;apply z;clear z K)
  refine tI ?_
  refine sC haw q1Ux ?_
  exact aR
 | true =>
 rw [gb,if_pos rfl] at hg
 by_cases gf:Ty.countL (c.on::c.targs) 0≤200
 rotate_left
 ·rw [decide_eq_false gf] at hfa
  refine cB func4 ?_
  refine sR q1Ux ?_
  refine sK fun K1 u1=>?_
  (refine AWp.seqR q1Ux [21] (by decide +kernel) fun K z=>?_;refine ev ?_;refine cc haw ?_;refine cc hg ?_;refine⟨tyR_row _,by (try simp only [tyR_len,List.length_cons,List.length_nil]);unfold lim;omega,?_⟩;(try refine ev ?_);refine⟨_,.inr ⟨_,rfl,hfa,rfl⟩,?_⟩;(try refine ev ?_);apply z;clear z K)
  refine tI ?_
  refine sC haw q1Ux ?_
  exact aR
 rw [decide_eq_true gf] at hfa
 by_cases gn:(c.name.length:Int) > 300
 ·refine cB func4 ?_
  refine sR q1Ux ?_
  refine sK fun K1 u1=>?_
  (refine AWp.seqR q1Ux [21] (by decide +kernel) fun K z=>?_;refine ev1 gn ?_;refine⟨_,.inl ⟨_,rfl,haw,rfl⟩,?_⟩;(try refine ev1 gn ?_);refine⟨_,.inl ⟨_,rfl,hg,rfl⟩,?_⟩;(try refine ev1 gn ?_);refine⟨tyR_row _,by (try simp only [tyR_len,List.length_cons,List.length_nil]);unfold lim;omega,?_⟩;(try refine ev1 gn ?_);refine⟨_,.inr ⟨_,rfl,hfa,rfl⟩,?_⟩;(try refine ev1 gn ?_);apply z;clear z K)
  refine tI ?_
  refine sC haw q1Ux ?_
  exact aR
 have hsmL:c.targs.length≤2000∧(∀ t,t∈c.on::c.targs→t.Nn):=by
  have h1:=Ty.countL_lenL (c.on::c.targs) 0 (by omega)
  rw [List.length_cons] at h1
  exact⟨by omega,Ty.countL_Nn (k:=0) (by omega) (by omega)⟩
 have hcl:=ok_closedC c (hsmL.2 _ (by simp)) (by unfold sm;omega) (fun t ht=>hsmL.2 t (by simp [ht]))
 cases gc:closedC c with
 | false =>
  rw [gc] at hcl
  refine cB func4 ?_
  refine sR q1Ux ?_
  refine sK fun K1 u1=>?_
  (refine AWp.seqR q1Ux [21] (by decide +kernel) fun K z=>?_;refine ev1 gn ?_;refine⟨_,.inl ⟨_,rfl,haw,rfl⟩,?_⟩;(try refine ev1 gn ?_);refine⟨_,.inl ⟨_,rfl,hg,rfl⟩,?_⟩;(try refine ev1 gn ?_);refine⟨tyR_row _,by (try simp only [tyR_len,List.length_cons,List.length_nil]);unfold lim;omega,?_⟩;(try refine ev1 gn ?_);refine⟨_,.inr ⟨_,rfl,hfa,rfl⟩,?_⟩;(try refine ev1 gn ?_);refine⟨_,.inl ⟨_,rfl,hcl,rfl⟩,?_⟩;(try refine ev1 gn ?_);apply z;clear z K)
  refine tI ?_
  refine sC haw q1Ux ?_
  exact aR
 | true =>
 rw [gc] at hcl
 have hni:=call_Ni gf (by omega) gc
 unfold goodB at gb
 simp only [Bool.and_eq_true,decide_eq_true_eq] at gb
 have hfit:=Prog.count_Fit p gb.1
 have htl:=Prog.count_Tl p gb.1
 have hS:=ok_SSig p hfit.sm htl gb.2.1 c hni
 have hR:=ok_RSig23 p hfit.sm htl gb.2.1 c hni
 have hset:=setT_Ni hfit.sm htl gb.2.1 hni.sm.on hni.on.args
 have hsub:∀ d,d∈p.decls→d.kind=3→d.sig.Ni 120000:=fun d hd=>(Prog.right_sig hfit.sm htl gb.2.1 hd).2
 cases ho:appO p c with
 | none =>
  rw [ho] at hS hR
  unfold sgR at hS hR
  have h6:=ok_RSigL sig0 sig0 ⟨by simp [sig0],by simp [sig0],.mk _ _ _ (by simp) (by simp)⟩
  rw [sameSi_rfl] at h6
  have hb0:(false == false)=true:=rfl
  refine cB func4 ?_
  refine sR q1Ux ?_
  refine sK fun K1 u1=>?_
  (refine AWp.seqR q1Ux [21] (by decide +kernel) fun K z=>?_;refine ev1 gn ?_;refine⟨_,.inl ⟨_,rfl,haw,rfl⟩,?_⟩;(try refine ev1 gn ?_);refine⟨_,.inl ⟨_,rfl,hg,rfl⟩,?_⟩;(try refine ev1 gn ?_);refine⟨tyR_row _,by (try simp only [tyR_len,List.length_cons,List.length_nil]);unfold lim;omega,?_⟩;(try refine ev1 gn ?_);refine⟨_,.inr ⟨_,rfl,hfa,rfl⟩,?_⟩;(try refine ev1 gn ?_);refine⟨_,.inl ⟨_,rfl,hcl,rfl⟩,?_⟩;(try refine ev1 gn ?_);apply z;clear z K)
  refine kI u1 ?_
  clear u1 K1
  refine sC hS q1Ux ?_
  refine sC hR q1Ux ?_
  refine sK fun K1 u1=>?_
  (refine sQ q1Ux fun K z=>?_;simp -implicitDefEqProofs only [EV,forall_const,implies_true,Nat.reduceAdd,Nat.reduceEqDiff,Nat.reduceBEq,Nat.reduceLeDiff,Nat.reduceSub,Nat.reduceMul,Int.reduceEq,Int.reduceLT,Int.reduceLE,Int.reduceSub,Int.reduceAdd,Int.reduceToNat,reduceCtorEq,Int.reduceNeg,TF3,TF4,TF9,TF22,TF23,TF25,TF30,TF46,TF52,TF61,hb0,Bool.not_true];refine⟨_,.inl ⟨_,rfl,h6,rfl⟩,?_⟩;(try simp -implicitDefEqProofs only [EV,forall_const,implies_true,Nat.reduceAdd,Nat.reduceEqDiff,Nat.reduceBEq,Nat.reduceLeDiff,Nat.reduceSub,Nat.reduceMul,Int.reduceEq,Int.reduceLT,Int.reduceLE,Int.reduceSub,Int.reduceAdd,Int.reduceToNat,reduceCtorEq,Int.reduceNeg,TF3,TF4,TF9,TF22,TF23,TF25,TF30,TF46,TF52,TF61,hb0,Bool.not_true]);apply z;clear z K)
  refine kI u1 ?_
  clear u1 K1
  refine kR q1Ux fun K1 u1=>?_
  refine AWp.block (AWp.forIdx p.decls (X:=Unit) (fun j _=>[(2,.box 2 0),(9,intV j)]) (fun _ _=>[(2,.cells ((prC p).map .d))])
   (fun _ _=>True) () trivial sS (by simp [ble,bget,prC]) ?_ ?_)
  rotate_left
  ·intro j _ d hd hmem dp tk hlt _
   have hj:=(List.getElem?_eq_some_iff.1 hd).1
   have hpl:=hfit.sm.decls.1
   have hf0:=ok_Few10 d.sig
   refine kR1 hlt q1Ux fun K2 u2=>?_
   refine gI u2 ?_
   clear u2 K2
   refine sK fun K2 u2=>?_
   refine AWp.block ?_
   (refine sV q1Ux fun K z=>?_;refine ci (deR_get hd) ?_;apply z;clear z K)
   by_cases k3:d.kind=3
   rotate_left
   ·(refine sG q1Ux [] 15 [] fun K z=>?_;refine ev1 k3 ?_;refine⟨by omega,_,deR_get hd,rfl,?_⟩;(try refine ev1 k3 ?_);apply z;clear z K)
    refine AWp.condF rfl (AWp.skip (u2 _ _ ?_))
    clear u2 K2
    (refine lV q1Ux fun K z=>?_;refine cl ?_;apply z;clear z K;try simp only [thenA,blockA,if_true])
    exact⟨(),trivial,sS,by simp [ble,bget,prC]⟩
   have d3:decide (d.kind=3)=true:=decide_eq_true k3
   have hdn:=hsub d hmem k3
   have hdm:DumOK d.sig:=Sig.Ni.dum ⟨hdn.sm,⟨hdn.formals.1,fun f hf=>⟨(hdn.formals.2 f hf).mg,by have:=(hdn.formals.2 f hf).len;omega⟩⟩,⟨hdn.params.1,fun f hf=>⟨(hdn.params.2 f hf).mg,by have:=(hdn.params.2 f hf).len;omega⟩⟩,⟨hdn.result.mg,by have:=hdn.result.len;omega⟩⟩
   have hs1:=ok_SDummy d.sig hdm
   have hs2:=ok_RDummy23 d.sig hdm
   have hs3:=ok_RSigL (dumG d.sig) (dumG d.sig) ⟨by simp [dumG],by simp [dumG],.mk _ _ _ (by simp) (by simp)⟩
   rw [sameSi_rfl] at hs3
   generalize dumG d.sig=gs at *
   by_cases g0:(sigProg d.sig).count≤600
   rotate_left
   ·rw [decide_eq_false g0] at hf0
    (refine sG q1Ux [] 15 [] fun K z=>?_;refine ev1 d3 ?_;refine⟨by omega,_,deR_get hd,rfl,?_⟩;(try refine ev1 d3 ?_);refine⟨_,.inl ⟨_,rfl,hf0,rfl⟩,?_⟩;(try refine ev1 d3 ?_);apply z;clear z K)
    refine AWp.condF rfl (AWp.skip (u2 _ _ ?_))
    clear u2 K2
    (refine lV q1Ux fun K z=>?_;refine cl ?_;apply z;clear z K;try simp only [thenA,blockA,if_true])
    exact⟨(),trivial,sS,by simp [ble,bget,prC]⟩
   ·rw [decide_eq_true g0] at hf0
    (refine sG q1Ux [] 15 [] fun K z=>?_;refine ev1 d3 ?_;refine⟨by omega,_,deR_get hd,rfl,?_⟩;(try refine ev1 d3 ?_);refine⟨_,.inl ⟨_,rfl,hf0,rfl⟩,?_⟩;(try refine ev1 d3 ?_);refine⟨_,.inl ⟨_,rfl,hs1,rfl⟩,?_⟩;(try refine ev1 d3 ?_);refine⟨_,.inl ⟨_,rfl,hs2,rfl⟩,?_⟩;(try refine ev1 d3 ?_);refine⟨_,.inl ⟨_,rfl,hs3,rfl⟩,?_⟩;(try refine ev1 d3 ?_);apply z;clear z K)
    refine AWp.condF rfl (AWp.skip (u2 _ _ ?_))
    clear u2 K2
    (refine lV q1Ux fun K z=>?_;refine cl ?_;apply z;clear z K;try simp only [thenA,blockA,if_true])
    exact⟨(),trivial,sS,by simp [ble,bget,prC]⟩
  intro _ _
  refine kR1 Int.lt_irrefl q1Ux fun K2 u2=>?_
  refine AWp.stopK rfl ?_
  simp only [thenA,blockA,if_true]
  refine u1 _ _ ?_
  clear u2 K2 u1 K1
  refine sR q1Ux ?_
  exact aR
 | some s =>
  rw [ho] at hS hR
  unfold sgR at hS hR
  have h6:=ok_RSigL s s (appL_lm (fun x hx=>(hset x hx).params.1) ho)
  rw [sameSi_rfl] at h6
  have hb0:(true == true)=true:=rfl
  refine cB func4 ?_
  refine sR q1Ux ?_
  refine sK fun K1 u1=>?_
  (refine AWp.seqR q1Ux [21] (by decide +kernel) fun K z=>?_;refine ev1 gn ?_;refine⟨_,.inl ⟨_,rfl,haw,rfl⟩,?_⟩;(try refine ev1 gn ?_);refine⟨_,.inl ⟨_,rfl,hg,rfl⟩,?_⟩;(try refine ev1 gn ?_);refine⟨tyR_row _,by (try simp only [tyR_len,List.length_cons,List.length_nil]);unfold lim;omega,?_⟩;(try refine ev1 gn ?_);refine⟨_,.inr ⟨_,rfl,hfa,rfl⟩,?_⟩;(try refine ev1 gn ?_);refine⟨_,.inl ⟨_,rfl,hcl,rfl⟩,?_⟩;(try refine ev1 gn ?_);apply z;clear z K)
  refine kI u1 ?_
  clear u1 K1
  refine sC hS q1Ux ?_
  refine sC hR q1Ux ?_
  refine sK fun K1 u1=>?_
  (refine sQ q1Ux fun K z=>?_;simp -implicitDefEqProofs only [EV,forall_const,implies_true,Nat.reduceAdd,Nat.reduceEqDiff,Nat.reduceBEq,Nat.reduceLeDiff,Nat.reduceSub,Nat.reduceMul,Int.reduceEq,Int.reduceLT,Int.reduceLE,Int.reduceSub,Int.reduceAdd,Int.reduceToNat,reduceCtorEq,Int.reduceNeg,TF3,TF4,TF9,TF22,TF23,TF25,TF30,TF46,TF52,TF61,hb0,Bool.not_true];refine⟨_,.inl ⟨_,rfl,h6,rfl⟩,?_⟩;(try simp -implicitDefEqProofs only [EV,forall_const,implies_true,Nat.reduceAdd,Nat.reduceEqDiff,Nat.reduceBEq,Nat.reduceLeDiff,Nat.reduceSub,Nat.reduceMul,Int.reduceEq,Int.reduceLT,Int.reduceLE,Int.reduceSub,Int.reduceAdd,Int.reduceToNat,reduceCtorEq,Int.reduceNeg,TF3,TF4,TF9,TF22,TF23,TF25,TF30,TF46,TF52,TF61,hb0,Bool.not_true]);apply z;clear z K)
  refine kI u1 ?_
  clear u1 K1
  refine kR q1Ux fun K1 u1=>?_
  refine AWp.block (AWp.forIdx p.decls (X:=Unit) (fun j _=>[(2,.box 2 0),(9,intV j)]) (fun _ _=>[(2,.cells ((prC p).map .d))])
   (fun _ _=>True) () trivial sS (by simp [ble,bget,prC]) ?_ ?_)
  rotate_left
  ·intro j _ d hd hmem dp tk hlt _
   have hj:=(List.getElem?_eq_some_iff.1 hd).1
   have hpl:=hfit.sm.decls.1
   have hf0:=ok_Few10 d.sig
   refine kR1 hlt q1Ux fun K2 u2=>?_
   refine gI u2 ?_
   clear u2 K2
   refine sK fun K2 u2=>?_
   refine AWp.block ?_
   (refine sV q1Ux fun K z=>?_;refine ci (deR_get hd) ?_;apply z;clear z K)
   by_cases k3:d.kind=3
   rotate_left
   ·(refine sG q1Ux [] 15 [] fun K z=>?_;refine ev1 k3 ?_;refine⟨by omega,_,deR_get hd,rfl,?_⟩;(try refine ev1 k3 ?_);apply z;clear z K)
    refine AWp.condF rfl (AWp.skip (u2 _ _ ?_))
    clear u2 K2
    (refine lV q1Ux fun K z=>?_;refine cl ?_;apply z;clear z K;try simp only [thenA,blockA,if_true])
    exact⟨(),trivial,sS,by simp [ble,bget,prC]⟩
   have d3:decide (d.kind=3)=true:=decide_eq_true k3
   have hdn:=hsub d hmem k3
   have hdm:DumOK d.sig:=Sig.Ni.dum ⟨hdn.sm,⟨hdn.formals.1,fun f hf=>⟨(hdn.formals.2 f hf).mg,by have:=(hdn.formals.2 f hf).len;omega⟩⟩,⟨hdn.params.1,fun f hf=>⟨(hdn.params.2 f hf).mg,by have:=(hdn.params.2 f hf).len;omega⟩⟩,⟨hdn.result.mg,by have:=hdn.result.len;omega⟩⟩
   have hs1:=ok_SDummy d.sig hdm
   have hs2:=ok_RDummy23 d.sig hdm
   have hs3:=ok_RSigL (dumG d.sig) (dumG d.sig) ⟨by simp [dumG],by simp [dumG],.mk _ _ _ (by simp) (by simp)⟩
   rw [sameSi_rfl] at hs3
   generalize dumG d.sig=gs at *
   by_cases g0:(sigProg d.sig).count≤600
   rotate_left
   ·rw [decide_eq_false g0] at hf0
    (refine sG q1Ux [] 15 [] fun K z=>?_;refine ev1 d3 ?_;refine⟨by omega,_,deR_get hd,rfl,?_⟩;(try refine ev1 d3 ?_);refine⟨_,.inl ⟨_,rfl,hf0,rfl⟩,?_⟩;(try refine ev1 d3 ?_);apply z;clear z K)
    refine AWp.condF rfl (AWp.skip (u2 _ _ ?_))
    clear u2 K2
    (refine lV q1Ux fun K z=>?_;refine cl ?_;apply z;clear z K;try simp only [thenA,blockA,if_true])
    exact⟨(),trivial,sS,by simp [ble,bget,prC]⟩
   ·rw [decide_eq_true g0] at hf0
    (refine sG q1Ux [] 15 [] fun K z=>?_;refine ev1 d3 ?_;refine⟨by omega,_,deR_get hd,rfl,?_⟩;(try refine ev1 d3 ?_);refine⟨_,.inl ⟨_,rfl,hf0,rfl⟩,?_⟩;(try refine ev1 d3 ?_);refine⟨_,.inl ⟨_,rfl,hs1,rfl⟩,?_⟩;(try refine ev1 d3 ?_);refine⟨_,.inl ⟨_,rfl,hs2,rfl⟩,?_⟩;(try refine ev1 d3 ?_);refine⟨_,.inl ⟨_,rfl,hs3,rfl⟩,?_⟩;(try refine ev1 d3 ?_);apply z;clear z K)
    refine AWp.condF rfl (AWp.skip (u2 _ _ ?_))
    clear u2 K2
    (refine lV q1Ux fun K z=>?_;refine cl ?_;apply z;clear z K;try simp only [thenA,blockA,if_true])
    exact⟨(),trivial,sS,by simp [ble,bget,prC]⟩
  intro _ _
  refine kR1 Int.lt_irrefl q1Ux fun K2 u2=>?_
  refine AWp.stopK rfl ?_
  simp only [thenA,blockA,if_true]
  refine u1 _ _ ?_
  clear u2 K2 u1 K1
  refine sR q1Ux ?_
  exact aR
end Go.Abs
