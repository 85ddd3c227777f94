/- castingsref01.Class, Reserved, Is; castingsref04.List, Right -/
import Derived.Test.YtbhbfpjnenekpaaGreatDoorJS47
import Derived.Test.YtbhbfpjnenekpaaGreatDoorJSB
namespace Go.Abs
set_option linter.unusedSimpArgs false
set_option linter.unusedVariables false
open Go Go.Proofs Tryz
set_option maxRecDepth 100000
set_option maxHeartbeats 1000000
def letter (n:Int):Prop:=(97≤n∧n≤122)∨(65≤n∧n≤90)
instance (n:Int):Decidable (letter n):=by unfold letter;infer_instance
def blank (n:Int):Prop:=n=9∨n=10∨n=13∨n=32
instance (n:Int):Decidable (blank n):=by unfold blank;infer_instance
def cls (n:Int):Int:=if letter n then 1 else if 48≤n∧n≤57 then 2 else if n=95 then 3 else if blank n then 4 else 0
abbrev q1A:List Nat:=[0,2,16,22,24,38]
theorem ok_Class (n:Int):CallOK prog 158 [.d (.int .u8 n)] (intV (cls n)):=by
 refine cB func158 ?_
 refine sR q1A ?_
 refine sK fun K1 u1=>?_
 have r1:∀ sl bx,sle sl [(0,.d (.int .u8 n))]→¬ letter n→K1 sl bx:=by
  intro sl bx hsl n1
  refine u1 _ _ (AWp.weaken (bx':=[]) hsl trivial ?_)
  clear u1 K1
  refine sK fun K1 u1=>?_
  have r2:∀ sl bx,sle sl [(0,.d (.int .u8 n))]→¬ (48≤n∧n≤57)→K1 sl bx:=by
   intro sl bx hsl n2
   refine u1 _ _ (AWp.weaken (bx':=[]) hsl trivial ?_)
   clear u1 K1
   refine sK fun K1 u1=>?_
   by_cases h1:n=95
   ·have hc:cls n=3:=by unfold cls;rw [if_neg n1,if_neg n2,if_pos h1]
    rw [hc]
    refine sR1 h1 q1A ?_
    refine tI ?_
    refine sR q1A ?_
    exact aR
   refine sR1 h1 q1A ?_
   refine AWp.condF rfl (AWp.skip (u1 _ _ ?_))
   clear u1 K1
   have hb:cls n=if blank n then 4 else 0:=by unfold cls;rw [if_neg n1,if_neg n2,if_neg h1]
   rw [hb]
   refine sK fun K1 u1=>?_
   by_cases a1:n=9
   ·rw [if_pos (show blank n from .inl a1)]
    refine sR1 a1 q1A ?_
    refine tI ?_
    refine sR q1A ?_
    exact aR
   by_cases a2:n=10
   ·rw [if_pos (show blank n from .inr (.inl a2))]
    refine sR1 a2 q1A ?_
    refine tI ?_
    refine sR q1A ?_
    exact aR
   by_cases a3:n=13
   ·rw [if_pos (show blank n from .inr (.inr (.inl a3)))]
    refine sR1 a3 q1A ?_
    refine tI ?_
    refine sR q1A ?_
    exact aR
   by_cases a4:n=32
   ·rw [if_pos (show blank n from .inr (.inr (.inr a4)))]
    refine sR1 a4 q1A ?_
    refine tI ?_
    refine sR q1A ?_
    exact aR
   rw [if_neg (show ¬ blank n from fun h=>by unfold blank at h;omega)] at u1 ⊢
   refine sR4 a1 a2 a3 a4 q1A ?_
   refine kI u1 ?_
   refine sR q1A ?_
   exact aR
  by_cases a1:48≤n
  ·by_cases a2:n≤57
   ·have hc:cls n=2:=by unfold cls;rw [if_neg n1,if_pos ⟨a1,a2⟩]
    rw [hc]
    refine sR3 (fun a b=>@ge_iff_le Int _ a b) a1 a2 q1A ?_
    refine tI ?_
    refine sR q1A ?_
    exact aR
   ·refine sR3 (fun a b=>@ge_iff_le Int _ a b) a1 a2 q1A ?_
    exact AWp.condF rfl (AWp.skip (r2 _ _ (by simp [sle,vle,sget,exC,tyC,foC,paC,siC,deC,prC]) (fun h=>a2 h.2)))
  ·refine sR2 (fun a b=>@ge_iff_le Int _ a b) a1 q1A ?_
   exact AWp.condF rfl (AWp.skip (r2 _ _ (by simp [sle,vle,sget,exC,tyC,foC,paC,siC,deC,prC]) (fun h=>a1 h.1)))
 by_cases a1:97≤n
 ·by_cases a2:n≤122
  ·have hc:cls n=1:=by unfold cls;rw [if_pos (show letter n from .inl ⟨a1,a2⟩)]
   rw [hc]
   refine sR3 (fun a b=>@ge_iff_le Int _ a b) a1 a2 q1A ?_
   refine tI ?_
   refine sR q1A ?_
   exact aR
  ·have a3:65≤n:=by omega
   have a4:¬ n≤90:=by omega
   (refine sQ q1A fun K z=>?_;simp -implicitDefEqProofs only [EV,forall_const,implies_true,Nat.reduceAdd,Nat.reduceEqDiff,Nat.reduceBEq,Nat.reduceLeDiff,Nat.reduceSub,Nat.reduceMul,Int.reduceEq,Int.reduceLT,Int.reduceLE,Int.reduceSub,Int.reduceAdd,Int.reduceToNat,reduceCtorEq,Int.reduceNeg,TF3,TF4,TF9,ge_iff_le,a1,a2,a3,a4];apply z;clear z K)
   exact AWp.condF rfl (AWp.skip (r1 _ _ (by simp [sle,vle,sget,exC,tyC,foC,paC,siC,deC,prC]) (fun h=>by unfold letter at h;omega)))
 ·by_cases a3:65≤n
  ·by_cases a4:n≤90
   ·have hc:cls n=1:=by unfold cls;rw [if_pos (show letter n from .inr ⟨a3,a4⟩)]
    rw [hc]
    refine sR4 (fun a b=>@ge_iff_le Int _ a b) a1 a3 a4 q1A ?_
    refine tI ?_
    refine sR q1A ?_
    exact aR
   ·refine sR4 (fun a b=>@ge_iff_le Int _ a b) a1 a3 a4 q1A ?_
    exact AWp.condF rfl (AWp.skip (r1 _ _ (by simp [sle,vle,sget,exC,tyC,foC,paC,siC,deC,prC]) (fun h=>by unfold letter at h;omega)))
  ·refine sR3 (fun a b=>@ge_iff_le Int _ a b) a1 a3 q1A ?_
   exact AWp.condF rfl (AWp.skip (r1 _ _ (by simp [sle,vle,sget,exC,tyC,foC,paC,siC,deC,prC]) (fun h=>by unfold letter at h;omega)))
def reserved (s:Str):Bool:=decide (s=[112,97,99,107,97,103,101]∨s=[109,97,105,110]∨s=[116,121,112,101]∨s=[115,116,114,117,99,116]∨s=[105,110,116,101,114,102,97,99,101]∨s=[102,117,110,99]∨s=[114,101,116,117,114,110])
abbrev q2A:List Nat:=[0,2,16]
theorem ok_Reserved (s:Str):CallOK prog 159 [strV s] (boolV (reserved s)):=by
 unfold reserved
 refine cB func159 ?_
 refine sR q2A ?_
 refine sK fun K1 u1=>?_
 by_cases a1:s=[112,97,99,107,97,103,101]
 ·have b1:decide (s=[112,97,99,107,97,103,101])=true:=decide_eq_true a1
  rw [decide_eq_true (.inl a1)]
  refine sR1 b1 q2A ?_
  refine tI ?_
  refine sR q2A ?_
  exact aR
 have b1:decide (s=[112,97,99,107,97,103,101])=false:=decide_eq_false a1
 by_cases a2:s=[109,97,105,110]
 ·have b2:decide (s=[109,97,105,110])=true:=decide_eq_true a2
  rw [decide_eq_true (.inr (.inl a2))]
  refine sR2 b1 b2 q2A ?_
  refine tI ?_
  refine sR q2A ?_
  exact aR
 have b2:decide (s=[109,97,105,110])=false:=decide_eq_false a2
 by_cases a3:s=[116,121,112,101]
 ·have b3:decide (s=[116,121,112,101])=true:=decide_eq_true a3
  rw [decide_eq_true (.inr (.inr (.inl a3)))]
  refine sR3 b1 b2 b3 q2A ?_
  refine tI ?_
  refine sR q2A ?_
  exact aR
 have b3:decide (s=[116,121,112,101])=false:=decide_eq_false a3
 by_cases a4:s=[115,116,114,117,99,116]
 ·have b4:decide (s=[115,116,114,117,99,116])=true:=decide_eq_true a4
  rw [decide_eq_true (.inr (.inr (.inr (.inl a4))))]
  refine sR4 b1 b2 b3 b4 q2A ?_
  refine tI ?_
  refine sR q2A ?_
  exact aR
 have b4:decide (s=[115,116,114,117,99,116])=false:=decide_eq_false a4
 refine sR4 b1 b2 b3 b4 q2A ?_
 refine kI u1 ?_
 clear u1 K1
 by_cases a5:s=[105,110,116,101,114,102,97,99,101]
 ·have b5:decide (s=[105,110,116,101,114,102,97,99,101])=true:=decide_eq_true a5
  rw [decide_eq_true (.inr (.inr (.inr (.inr (.inl a5)))))]
  refine sR1 b5 q2A ?_
  exact aR
 have b5:decide (s=[105,110,116,101,114,102,97,99,101])=false:=decide_eq_false a5
 by_cases a6:s=[102,117,110,99]
 ·have b6:decide (s=[102,117,110,99])=true:=decide_eq_true a6
  rw [decide_eq_true (.inr (.inr (.inr (.inr (.inr (.inl a6))))))]
  refine sR2 b5 b6 q2A ?_
  exact aR
 have b6:decide (s=[102,117,110,99])=false:=decide_eq_false a6
 have e:decide (s=[112,97,99,107,97,103,101]∨s=[109,97,105,110]∨s=[116,121,112,101]∨s=[115,116,114,117,99,116]∨s=[105,110,116,101,114,102,97,99,101]∨s=[102,117,110,99]∨s=[114,101,116,117,114,110])=decide (s=[114,101,116,117,114,110]):=by simp [a1,a2,a3,a4,a5,a6]
 rw [e]
 refine sR2 b5 b6 q2A ?_
 exact aR
def okByte (c:UInt8):Bool:=!(decide (cls c.toNat=0) || decide (cls c.toNat=4))
def isName (s:Str):Bool:=match s with
 | []=>false
 | c::_=>decide (cls c.toNat=1) && s.all okByte && !reserved s
abbrev q3A:List Nat:=[0,2,3,4,13,17,29]
theorem ok_Is (s:Str):CallOK prog 90 [strV s] (boolV (isName s)):=by
 have hrs:=ok_Reserved s
 refine CallB.bd (Enters.of func90 rfl (by decide)) fun hbd=>?_
 have hsl:s.length≤lim:=by have:=hbd.1;simp only [SV.bd] at this;cases this;assumption
 clear hbd
 refine cB func90 ?_
 refine sR q3A ?_
 cases s with
 | nil =>
  refine sK fun K1 u1=>?_
  have h00:((0:Nat):Int)=0:=rfl
  refine sR1 h00 q3A ?_
  refine tI ?_
  refine sR q3A ?_
  exact aR
 | cons c cs =>
  have hne:¬ (((c::cs).length:Int)=0):=by simp only [List.length_cons];omega
  have h0:(c::cs)[0]? = some c:=rfl
  have hn:isName (c::cs)=(decide (cls c.toNat=1) && (c::cs).all okByte && !reserved (c::cs)):=rfl
  rw [hn]
  clear hn
  have hcl:=ok_Class c.toNat
  generalize c::cs=s at *
  refine sK fun K1 u1=>?_
  by_cases h1:cls c.toNat=1
  ·(refine sQ q3A fun K z=>?_;refine ev2 hne h1 ?_;refine⟨c,h0,?_⟩;(try refine ev2 hne h1 ?_);refine⟨_,.inl ⟨_,rfl,hcl,rfl⟩,?_⟩;(try refine ev2 hne h1 ?_);apply z;clear z K)
   refine kI u1 ?_
   clear u1 K1
   rw [decide_eq_true h1,Bool.true_and]
   refine kR q3A fun K1 u1=>?_
   refine AWp.block (AWp.forIdx s (X:=Unit) (fun j _=>[(0,strV s),(3,intV j)]) (fun _ _=>[])
    (fun j _=>(s.drop j).all okByte=s.all okByte) () rfl (by simp [sle,vle,sget,exC,tyC,foC,paC,siC,deC,prC]) (by simp [ble,bget,exC,tyC,foC,paC,siC,deC,prC]) ?_ ?_)
   ·intro _ hI
    rw [List.drop_length,List.all_nil] at hI
    rw [← hI,Bool.true_and] at u1 ⊢
    refine kR1 Int.lt_irrefl q3A fun K2 u2=>?_
    refine AWp.stopK rfl ?_
    simp only [thenA,blockA,if_true]
    refine u1 _ _ ?_
    refine sC hrs q3A ?_
    exact aR
   ·intro j _ d hd hmem dp tk hlt hI
    rw [dp,List.all_cons] at hI
    refine kR1 hlt q3A fun K2 u2=>?_
    refine gI u2 ?_
    clear u2 K2
    refine sK fun K2 u2=>?_
    refine AWp.block ?_
    (refine sV q3A fun K z=>?_;refine⟨by omega,d,hd,?_⟩;(try refine ev ?_);refine cc (ok_Class d.toNat) ?_;apply z;clear z K)
    by_cases a0:cls d.toNat=0
    ·rw [← hI]
     rw [show okByte d=false by simp [okByte,a0],Bool.false_and,Bool.false_and]
     refine sR1 a0 q3A ?_
     refine AWp.condT rfl ?_
     refine sR q3A ?_
     exact aR
    by_cases a4:cls d.toNat=4
    ·rw [← hI]
     rw [show okByte d=false by simp [okByte,a4],Bool.false_and,Bool.false_and]
     refine sR2 a0 a4 q3A ?_
     refine AWp.condT rfl ?_
     refine sR q3A ?_
     exact aR
    rw [show okByte d=true by simp [okByte,a0,a4],Bool.true_and] at hI
    refine sR2 a0 a4 q3A ?_
    refine AWp.condF rfl (AWp.skip (u2 _ _ ?_))
    clear u2 K2
    (refine lV q3A fun K z=>?_;refine cl ?_;apply z;clear z K;try simp only [thenA,blockA,if_true])
    exact⟨(),hI,(by simp [sle,vle,sget,exC,tyC,foC,paC,siC,deC,prC]),(by simp [ble,bget,exC,tyC,foC,paC,siC,deC,prC])⟩
  ·(refine sQ q3A fun K z=>?_;refine ev2 hne h1 ?_;refine⟨c,h0,?_⟩;(try refine ev2 hne h1 ?_);refine⟨_,.inl ⟨_,rfl,hcl,rfl⟩,?_⟩;(try refine ev2 hne h1 ?_);apply z;clear z K)
   refine tI ?_
   refine sR q3A ?_
   rw [decide_eq_false h1,Bool.false_and,Bool.false_and]
   exact aR
theorem namesL_len:∀ {l:List Ty} {t:Ty},t∈l→t.names.length≤(Ty.namesL l).length
 | [],_,h=>by simp at h
 | x::l,t,h=>by
  simp only [Ty.namesL,List.length_append]
  simp only [List.mem_cons] at h
  rcases h with rfl | h
  ·omega
  ·have:=namesL_len h;omega
theorem namesL_ge:∀ l:List Ty,l.length≤(Ty.namesL l).length
 | []=>by simp [Ty.namesL]
 | x::l=>by
  have:=namesL_ge l
  simp only [Ty.namesL,List.length_append,List.length_cons,Ty.names_eq];omega
abbrev q4A:List Nat:=[0,1,2,3,4,7,12]
theorem ok_List04:∀ t:Ty,t.names.length≤sm→CallOK prog 89 [tyV t] (strsV t.names):=by
 intro t
 induction t using Ty.induct with | _ t ih=>?_
 intro hs
 rw [Ty.names_eq,List.length_cons] at hs
 rw [Ty.names_eq]
 refine cB func89 ?_
 refine sR q4A ?_
 (refine AWp.freeze 1 rfl rfl (wk [(1,.dptr (tyC t) 0)] [] ?_))
 (refine AWp.seqR q4A [7] (by decide +kernel) fun K z=>?_;refine ev ?_;apply z;clear z K)
 refine kR q4A fun K1 u1=>?_
 refine AWp.block (AWp.forIdx t.args (X:=Unit) (fun j _=>[(1,.dptr (tyC t) 0),(3,.acc 7),(4,intV j)]) (fun j _=>[(7,.rows 1 (strR (t.name::Ty.namesL (t.args.take j))))])
  (fun j _=>True) () trivial (by simp [sle,vle,sget,tyC]) (by simp [ble,bget,strR,Ty.namesL]) ?_ ?_)
 ·intro _ _
  rw [List.take_length]
  refine kR1 Int.lt_irrefl q4A fun K2 u2=>?_
  refine AWp.stopK rfl ?_
  simp only [thenA,blockA,if_true]
  refine u1 _ _ ?_
  refine sR q4A ?_
  exact aR
 ·intro j _ d hd hmem dp tk hlt hI
  have hdl:=namesL_len hmem
  have hge:=namesL_ge t.args
  rw [tk,Ty.namesL_append]
  have hjl:(Ty.namesL (t.args.take j)).length≤(Ty.namesL t.args).length:=by
   conv=>rhs;rw [← List.take_append_drop j t.args,Ty.namesL_append,List.length_append]
   omega
  refine kR1 hlt q4A fun K2 u2=>?_
  refine gI u2 ?_
  clear u2 K2
  refine sK fun K2 u2=>?_
  refine AWp.block ?_
  (refine lV q4A fun K z=>?_;refine ci (tyR_get hd) ?_;refine cc (ih d hmem (by omega)) ?_;refine⟨strR_row _,by unfold lim sm at *;omega,?_⟩;(try refine ev ?_);apply z;clear z K;try simp only [thenA,blockA,if_true])
  refine u2 _ _ ?_
  clear u2 K2
  (refine lV q4A fun K z=>?_;refine cl ?_;apply z;clear z K;try simp only [thenA,blockA,if_true])
  exact⟨(),trivial,(by simp [sle,vle,sget,exC,tyC,foC,paC,siC,deC,prC]),by simp [ble,bget,strR,Ty.namesL]⟩
def Ty.right (t:Ty):Bool:=t.names.all isName
abbrev q5A:List Nat:=[0,1,2,3,4,10,18]
theorem ok_Right04 (t:Ty)(h:t.Nn):CallOK prog 39 [tyV t] (boolV t.right):=by
 have hli:=ok_List04 t (by unfold Ty.Nn at h;unfold sm;omega)
 have hll:t.names.length≤2000:=h
 unfold Ty.right
 generalize t.names=l at *
 refine cB func39 ?_
 refine sR q5A ?_
 refine sC hli q5A ?_
 refine kR q5A fun K1 u1=>?_
 refine AWp.block (AWp.forIdx l (X:=Unit) (fun j _=>[(3,strsV l),(4,intV j)]) (fun _ _=>[])
  (fun j _=>(l.drop j).all isName=l.all isName) () rfl (by simp [sle,vle,sget,exC,tyC,foC,paC,siC,deC,prC]) (by simp [ble,bget,exC,tyC,foC,paC,siC,deC,prC]) ?_ ?_)
 ·intro _ hI
  rw [List.drop_length,List.all_nil] at hI
  rw [← hI] at u1 ⊢
  refine kR1 Int.lt_irrefl q5A fun K2 u2=>?_
  refine AWp.stopK rfl ?_
  simp only [thenA,blockA,if_true]
  refine u1 _ _ ?_
  refine sR q5A ?_
  exact aR
 ·intro j _ d hd hmem dp tk hlt hI
  rw [dp,List.all_cons] at hI
  refine kR1 hlt q5A fun K2 u2=>?_
  refine gI u2 ?_
  clear u2 K2
  refine sK fun K2 u2=>?_
  refine AWp.block ?_
  (refine sV q5A fun K z=>?_;refine ci (strR_get hd) ?_;refine cc (ok_Is d) ?_;apply z;clear z K)
  refine AWp.cond rfl (fun hc=>?_) (fun hc=>?_)
  ·refine sR q5A ?_
   simp only [Bool.not_eq_true'] at hc
   rw [hc,Bool.false_and] at hI
   rw [← hI]
   exact aR
  simp only [Bool.not_eq_false'] at hc
  rw [hc,Bool.true_and] at hI
  refine AWp.skip (u2 _ _ ?_)
  clear u2 K2
  (refine lV q5A fun K z=>?_;refine cl ?_;apply z;clear z K;try simp only [thenA,blockA,if_true])
  exact⟨(),hI,(by simp [sle,vle,sget,exC,tyC,foC,paC,siC,deC,prC]),(by simp [ble,bget,exC,tyC,foC,paC,siC,deC,prC])⟩
def kidsOK (e:Ex):Prop:=(e.kind=1→e.kids=[])∧(e.kind=4∨e.kind=5→e.kids.length=1)
mutual
def Ex.One:Ex→Prop
 | .mk k n t a ks q=>kidsOK (.mk k n t a ks q)∧Ex.OneL ks
def Ex.OneL:List Ex→Prop
 | []=>True
 | e::es=>e.One∧Ex.OneL es
end
theorem OneL_mem:∀ {l:List Ex},Ex.OneL l→∀ e,e∈l→e.One
 | [],_=>by simp
 | x::l,h=>by
  rw [Ex.OneL] at h
  intro e he
  simp only [List.mem_cons] at he
  rcases he with rfl | he
  ·exact h.1
  ·exact OneL_mem h.2 e he
theorem Ex.One.out {e:Ex} (h:e.One):kidsOK e∧∀ x,x∈e.kids→x.One:=by
 cases e with | mk k n t a ks q=>rw [Ex.One] at h;exact⟨h.1,OneL_mem h.2⟩
def Ex.typed (e:Ex):Bool:=decide (e.kind=3) || decide (e.kind=5)
def Ex.kindB (e:Ex):Bool:=if e.kind=1 then decide ((e.kids.length:Int)=0) else if e.kind=2 then decide ((e.kids.length:Int) ≥ 1) else if e.kind=3 then true else if e.kind=4∨e.kind=5 then decide ((e.kids.length:Int)=1) else false
def Ex.right1 (e:Ex):Bool:=if e.typed=true then e.type.right && decide (e.name=[]) && e.kindB else !e.type.right && decide (e.type.name=[]) && decide (e.type.args.length=0) && isName e.name && e.kindB
def Ex.right2 (e:Ex):Bool:=e.targs.all fun t=>decide (e.kind=2) && t.right
mutual
def Ex.right:Ex→Bool
 | .mk k n t a ks q=>Ex.rightL ks && (Ex.right2 (.mk k n t a ks q) && Ex.right1 (.mk k n t a ks q))
def Ex.rightL:List Ex→Bool
 | []=>true
 | e::es=>e.right && Ex.rightL es
end
theorem Ex.right_eq (e:Ex):e.right=(Ex.rightL e.kids && (e.right2 && e.right1)):=by cases e with | mk k n t a ks q=>rw [Ex.right];rfl
abbrev q1B:List Nat:=[0,1,2,3,4,5,10,19,24,38,68,84,86,87,93,99,101]
set_option maxHeartbeats 4000000 in
theorem ok_Right05:∀ e:Ex,e.Nn→CallOK prog 76 [exV e] (boolV e.right):=by
 intro e
 induction e using Ex.induct with | _ e ih=>?_
 intro hn
 rw [Ex.right_eq]
 have hr4:=ok_Right04 e.type hn.type
 have his:=ok_Is e.name
 refine CallB.bd (Enters.of func76 rfl (by decide)) fun hbd=>?_
 have hok:=ex_ok hbd.1
 have hkl:=hok.kids.1
 have htl:=hok.targs.1
 clear hbd hok
 refine cB func76 ?_
 refine sR q1B ?_
 (refine AWp.freeze 1 rfl rfl (wk [(1,.dptr (exC e) 0)] [] ?_))
 refine kR q1B fun K1 u1=>?_
 refine AWp.block (AWp.forIdx e.kids (X:=Unit) (fun j _=>[(1,.dptr (exC e) 0),(3,intV j)]) (fun _ _=>[])
  (fun j _=>Ex.rightL (e.kids.drop j)=Ex.rightL e.kids) () rfl (by simp [sle,vle,sget,exC,tyC,foC,paC,siC,deC,prC]) (by simp [ble,bget,exC,tyC,foC,paC,siC,deC,prC]) ?_ ?_)
 ·intro _ hI
  rw [List.drop_length,Ex.rightL] at hI
  rw [← hI,Bool.true_and] at u1 ⊢
  clear hI
  refine kR1 Int.lt_irrefl q1B fun K2 u2=>?_
  refine AWp.stopK rfl ?_
  simp only [thenA,blockA,if_true]
  refine u1 _ _ ?_
  clear u2 K2 u1 K1
  refine kR q1B fun K1 u1=>?_
  refine AWp.block (AWp.forIdx e.targs (X:=Unit) (fun j _=>[(1,.dptr (exC e) 0),(4,intV j)]) (fun _ _=>[])
   (fun j _=>((e.targs.drop j).all fun t=>decide (e.kind=2) && t.right)=e.right2) () rfl (by simp [sle,vle,sget,exC,tyC,foC,paC,siC,deC,prC]) (by simp [ble,bget,exC,tyC,foC,paC,siC,deC,prC]) ?_ ?_)
  ·intro _ hI
   rw [List.drop_length,List.all_nil] at hI
   rw [← hI,Bool.true_and] at u1 ⊢
   clear hI
   refine kR1 Int.lt_irrefl q1B fun K2 u2=>?_
   refine AWp.stopK rfl ?_
   simp only [thenA,blockA,if_true]
   refine u1 _ _ ?_
   clear u2 K2 u1 K1
   refine sK fun K1 u1=>?_
   have rest:∀ sl bx,sle sl [(1,.dptr (exC e) 0),(5,boolV e.typed)]→K1 sl bx:=by
    intro sl bx hsl
    refine u1 _ _ (AWp.weaken (bx':=[]) hsl trivial ?_)
    clear u1 K1
    refine sK fun K1 u1=>?_
    have rest:∀ sl bx,sle sl [(1,.dptr (exC e) 0),(5,boolV e.typed)]→e.typed=e.type.right→(e.typed=false→e.type.name=[]∧e.type.args.length=0)→K1 sl bx:=by
     intro sl bx hsl h1 h2
     refine u1 _ _ (AWp.weaken (bx':=[]) hsl trivial ?_)
     clear u1 K1
     have hr:e.right1=(if e.typed=true then decide (e.name=[]) && e.kindB else isName e.name && e.kindB):=by
      unfold Ex.right1
      rcases Bool.eq_false_or_eq_true e.typed with ht | ht
      ·rw [if_pos ht,if_pos ht,← h1,ht,Bool.true_and]
      ·rw [if_neg (by simp [ht]),if_neg (by simp [ht]),← h1,ht,(h2 ht).1,(h2 ht).2]
       simp
     rw [hr]
     clear hr h1 h2
     refine sK fun K1 u1=>?_
     have rest:∀ sl bx,sle sl [(1,.dptr (exC e) 0)]→(∀ b,(if e.typed=true then decide (e.name=[]) && b else isName e.name && b)=b)→K1 sl bx:=by
      intro sl bx hsl h1
      rw [h1] at *
      refine u1 _ _ (AWp.weaken (bx':=[]) hsl trivial ?_)
      clear u1 K1
      refine kR q1B fun K1 u1=>?_
      unfold Ex.kindB
      refine AWp.block ?_
      by_cases k1:e.kind=1
      ·rw [if_pos k1]
       refine sR1 k1 q1B ?_
       refine AWp.condT rfl ?_
       refine sR q1B ?_
       exact aR
      rw [if_neg k1]
      refine sR1 k1 q1B ?_
      refine AWp.condF rfl ?_
      by_cases k2:e.kind=2
      ·rw [if_pos k2]
       refine sR1 k2 q1B ?_
       refine AWp.condT rfl ?_
       refine sR q1B ?_
       exact aR
      rw [if_neg k2]
      refine sR1 k2 q1B ?_
      refine AWp.condF rfl ?_
      by_cases k3:e.kind=3
      ·rw [if_pos k3]
       refine sR1 k3 q1B ?_
       refine AWp.condT rfl ?_
       refine sR q1B ?_
       exact aR
      rw [if_neg k3]
      refine sR1 k3 q1B ?_
      refine AWp.condF rfl ?_
      refine sK fun K2 u2=>?_
      by_cases k4:e.kind=4
      ·rw [if_pos (.inl k4)] at u2 ⊢
       refine sR1 k4 q1B ?_
       refine AWp.condT rfl (AWp.skip (u2 _ _ ?_))
       refine AWp.condT rfl ?_
       refine sR q1B ?_
       exact aR
      by_cases k5:e.kind=5
      ·rw [if_pos (.inr k5)] at u2 ⊢
       refine sR1 k4 q1B ?_
       refine AWp.condF rfl ?_
       (refine lQ q1B fun K z=>?_;refine ev1 k5 ?_;apply z;clear z K;try simp only [thenA,blockA,if_true])
       refine u2 _ _ ?_
       refine AWp.condT rfl ?_
       refine sR q1B ?_
       exact aR
      have hkb:e.kindB=false:=by unfold Ex.kindB;rw [if_neg k1,if_neg k2,if_neg k3,if_neg (by omega)]
      refine sR1 k4 q1B ?_
      refine AWp.condF rfl ?_
      (refine lQ q1B fun K z=>?_;refine ev1 k5 ?_;apply z;clear z K;try simp only [thenA,blockA,if_true])
      refine u2 _ _ ?_
      refine AWp.condF rfl (AWp.skip ?_)
      simp only [thenA,blockA,if_true]
      refine u1 _ _ ?_
      refine sR q1B ?_
      rw [hkb]
      exact aR
     rcases Bool.eq_false_or_eq_true e.typed with ht | ht
     ·rw [ht] at hsl ⊢
      rw [if_pos rfl] at *
      by_cases hnm:e.name=[]
      ·have bn:decide (e.name=[])=true:=decide_eq_true hnm
       (refine sQ q1B fun K z=>?_;simp -implicitDefEqProofs only [EV,forall_const,implies_true,Nat.reduceAdd,Nat.reduceEqDiff,Nat.reduceBEq,Nat.reduceLeDiff,Nat.reduceSub,Nat.reduceMul,Int.reduceEq,Int.reduceLT,Int.reduceLE,Int.reduceSub,Int.reduceAdd,Int.reduceToNat,reduceCtorEq,Int.reduceNeg,TF3,TF4,TF9,TF23,TF25,TF26,TF28,decide_not,bn];apply z;clear z K)
       exact AWp.condF rfl (AWp.skip (rest _ _ (by simp [sle,vle,sget,exC,tyC,foC,paC,siC,deC,prC]) (fun b=>by rw [if_pos ht,decide_eq_true hnm,Bool.true_and])))
      ·have bn:decide (e.name=[])=false:=decide_eq_false hnm
       (refine sQ q1B fun K z=>?_;simp -implicitDefEqProofs only [EV,forall_const,implies_true,Nat.reduceAdd,Nat.reduceEqDiff,Nat.reduceBEq,Nat.reduceLeDiff,Nat.reduceSub,Nat.reduceMul,Int.reduceEq,Int.reduceLT,Int.reduceLE,Int.reduceSub,Int.reduceAdd,Int.reduceToNat,reduceCtorEq,Int.reduceNeg,TF3,TF4,TF9,TF23,TF25,TF26,TF28,decide_not,bn];apply z;clear z K)
       refine tI ?_
       refine sR q1B ?_
       rw [decide_eq_false hnm,Bool.false_and]
       exact aR
     ·rw [ht] at hsl ⊢
      rcases Bool.eq_false_or_eq_true (isName e.name) with hin | hin
      ·rw [hin] at his
       refine sC his q1B ?_
       exact AWp.condF rfl (AWp.skip (rest _ _ (by simp [sle,vle,sget,exC,tyC,foC,paC,siC,deC,prC]) (fun b=>by rw [if_neg (by simp [ht]),hin,Bool.true_and])))
      ·rw [hin] at his
       refine sC his q1B ?_
       refine tI ?_
       refine sR q1B ?_
       rw [if_neg (by simp),hin,Bool.false_and]
       exact aR
    have hf:(e.typed≠e.type.right∨(e.typed=false∧¬ (e.type.name=[]∧e.type.args.length=0)))→e.right1=false:=by
     intro h
     unfold Ex.right1
     rcases Bool.eq_false_or_eq_true e.typed with ht | ht
     ·rcases Bool.eq_false_or_eq_true e.type.right with hr | hr
      ·rw [ht,hr] at h;simp at h
      ·rw [ht,hr];rfl
     ·rcases Bool.eq_false_or_eq_true e.type.right with hr | hr
      ·rw [ht,hr];rfl
      ·rw [ht,hr] at h;simp at h
       rw [ht,hr];simp
       intro h1 h2;exact absurd h2 (h h1)
    have q1:(true == true)=true:=rfl
    have q2:(true == false)=false:=rfl
    have q3:(false == true)=false:=rfl
    have q4:(false == false)=true:=rfl
    rcases Bool.eq_false_or_eq_true e.typed with ht | ht
    ·rcases Bool.eq_false_or_eq_true e.type.right with hr | hr
     ·rw [hr] at hr4
      rw [ht]
      (refine sQ q1B fun K z=>?_;refine ev4 q1 q2 q3 q4 ?_;refine⟨_,.inl ⟨_,rfl,hr4,rfl⟩,?_⟩;(try refine ev4 q1 q2 q3 q4 ?_);apply z;clear z K)
      exact AWp.condF rfl (AWp.skip (rest _ _ (by rw [ht];exact (by simp [sle,vle,sget,exC,tyC,foC,paC,siC,deC,prC])) (by rw [ht,hr]) (by rw [ht];simp)))
     ·rw [hr] at hr4
      rw [hf (.inl (by rw [ht,hr];simp)),ht]
      (refine sQ q1B fun K z=>?_;refine ev4 q1 q2 q3 q4 ?_;refine⟨_,.inl ⟨_,rfl,hr4,rfl⟩,?_⟩;(try refine ev4 q1 q2 q3 q4 ?_);apply z;clear z K)
      refine tI ?_
      refine sR q1B ?_
      exact aR
    ·rcases Bool.eq_false_or_eq_true e.type.right with hr | hr
     ·rw [hr] at hr4
      rw [hf (.inl (by rw [ht,hr];simp)),ht]
      (refine sQ q1B fun K z=>?_;refine ev4 q1 q2 q3 q4 ?_;refine⟨_,.inl ⟨_,rfl,hr4,rfl⟩,?_⟩;(try refine ev4 q1 q2 q3 q4 ?_);apply z;clear z K)
      refine tI ?_
      refine sR q1B ?_
      exact aR
     ·rw [hr] at hr4
      by_cases hnm:e.type.name=[]
      ·have bn:decide (e.type.name=[])=true:=decide_eq_true hnm
       by_cases hal:e.type.args.length=0
       ·have hg:¬ (0 < (e.type.args.length:Int)):=by omega
        rw [ht]
        (refine sQ q1B fun K z=>?_;simp -implicitDefEqProofs only [EV,forall_const,implies_true,Nat.reduceAdd,Nat.reduceEqDiff,Nat.reduceBEq,Nat.reduceLeDiff,Nat.reduceSub,Nat.reduceMul,Int.reduceEq,Int.reduceLT,Int.reduceLE,Int.reduceSub,Int.reduceAdd,Int.reduceToNat,reduceCtorEq,Int.reduceNeg,TF3,TF4,TF9,TF23,TF25,TF26,TF28,q1,q2,q3,q4,decide_not,bn,gt_iff_lt,hg];refine⟨_,.inl ⟨_,rfl,hr4,rfl⟩,?_⟩;(try simp -implicitDefEqProofs only [EV,forall_const,implies_true,Nat.reduceAdd,Nat.reduceEqDiff,Nat.reduceBEq,Nat.reduceLeDiff,Nat.reduceSub,Nat.reduceMul,Int.reduceEq,Int.reduceLT,Int.reduceLE,Int.reduceSub,Int.reduceAdd,Int.reduceToNat,reduceCtorEq,Int.reduceNeg,TF3,TF4,TF9,TF23,TF25,TF26,TF28,q1,q2,q3,q4,decide_not,bn,gt_iff_lt,hg]);apply z;clear z K)
        exact AWp.condF rfl (AWp.skip (rest _ _ (by rw [ht];exact (by simp [sle,vle,sget,exC,tyC,foC,paC,siC,deC,prC])) (by rw [ht,hr]) (fun _=>⟨hnm,hal⟩)))
       ·have hg:0 < (e.type.args.length:Int):=by omega
        rw [hf (.inr ⟨ht,fun h=>hal h.2⟩),ht]
        (refine sQ q1B fun K z=>?_;simp -implicitDefEqProofs only [EV,forall_const,implies_true,Nat.reduceAdd,Nat.reduceEqDiff,Nat.reduceBEq,Nat.reduceLeDiff,Nat.reduceSub,Nat.reduceMul,Int.reduceEq,Int.reduceLT,Int.reduceLE,Int.reduceSub,Int.reduceAdd,Int.reduceToNat,reduceCtorEq,Int.reduceNeg,TF3,TF4,TF9,TF23,TF25,TF26,TF28,q1,q2,q3,q4,decide_not,bn,gt_iff_lt,hg];refine⟨_,.inl ⟨_,rfl,hr4,rfl⟩,?_⟩;(try simp -implicitDefEqProofs only [EV,forall_const,implies_true,Nat.reduceAdd,Nat.reduceEqDiff,Nat.reduceBEq,Nat.reduceLeDiff,Nat.reduceSub,Nat.reduceMul,Int.reduceEq,Int.reduceLT,Int.reduceLE,Int.reduceSub,Int.reduceAdd,Int.reduceToNat,reduceCtorEq,Int.reduceNeg,TF3,TF4,TF9,TF23,TF25,TF26,TF28,q1,q2,q3,q4,decide_not,bn,gt_iff_lt,hg]);apply z;clear z K)
        refine tI ?_
        refine sR q1B ?_
        exact aR
      ·have bn:decide (e.type.name=[])=false:=decide_eq_false hnm
       rw [hf (.inr ⟨ht,fun h=>hnm h.1⟩),ht]
       (refine sQ q1B fun K z=>?_;simp -implicitDefEqProofs only [EV,forall_const,implies_true,Nat.reduceAdd,Nat.reduceEqDiff,Nat.reduceBEq,Nat.reduceLeDiff,Nat.reduceSub,Nat.reduceMul,Int.reduceEq,Int.reduceLT,Int.reduceLE,Int.reduceSub,Int.reduceAdd,Int.reduceToNat,reduceCtorEq,Int.reduceNeg,TF3,TF4,TF9,TF23,TF25,TF26,TF28,q1,q2,q3,q4,decide_not,bn];refine⟨_,.inl ⟨_,rfl,hr4,rfl⟩,?_⟩;(try simp -implicitDefEqProofs only [EV,forall_const,implies_true,Nat.reduceAdd,Nat.reduceEqDiff,Nat.reduceBEq,Nat.reduceLeDiff,Nat.reduceSub,Nat.reduceMul,Int.reduceEq,Int.reduceLT,Int.reduceLE,Int.reduceSub,Int.reduceAdd,Int.reduceToNat,reduceCtorEq,Int.reduceNeg,TF3,TF4,TF9,TF23,TF25,TF26,TF28,q1,q2,q3,q4,decide_not,bn]);apply z;clear z K)
       refine tI ?_
       refine sR q1B ?_
       exact aR
   by_cases k3:e.kind=3
   ·have ht:e.typed=true:=by unfold Ex.typed;rw [decide_eq_true k3];rfl
    have d3:=decide_eq_true k3
    (refine lQ q1B fun K z=>?_;refine ev1 d3 ?_;apply z;clear z K;try simp only [thenA,blockA,if_true])
    exact rest _ _ (by rw [ht];exact (by simp [sle,vle,sget,exC,tyC,foC,paC,siC,deC,prC]))
   by_cases k5:e.kind=5
   ·have ht:e.typed=true:=by unfold Ex.typed;rw [decide_eq_true k5,Bool.or_true]
    have d5:=decide_eq_true k5
    (refine lQ q1B fun K z=>?_;refine ev2 k3 d5 ?_;apply z;clear z K;try simp only [thenA,blockA,if_true])
    exact rest _ _ (by rw [ht];exact (by simp [sle,vle,sget,exC,tyC,foC,paC,siC,deC,prC]))
   have ht:e.typed=false:=by unfold Ex.typed;rw [decide_eq_false k3,decide_eq_false k5];rfl
   (refine lQ q1B fun K z=>?_;refine ev2 k3 k5 ?_;apply z;clear z K;try simp only [thenA,blockA,if_true])
   exact rest _ _ (by rw [ht];exact (by simp [sle,vle,sget,exC,tyC,foC,paC,siC,deC,prC]))
  ·intro j _ d hd hmem dp tk hlt hI
   rw [dp,List.all_cons] at hI
   refine kR1 hlt q1B fun K2 u2=>?_
   refine gI u2 ?_
   clear u2 K2
   refine sK fun K2 u2=>?_
   refine AWp.block ?_
   by_cases k2:e.kind=2
   ·rw [decide_eq_true k2,Bool.true_and] at hI
    have d2:=decide_eq_true k2
    (refine sQ q1B fun K z=>?_;simp -implicitDefEqProofs only [EV,forall_const,implies_true,Nat.reduceAdd,Nat.reduceEqDiff,Nat.reduceBEq,Nat.reduceLeDiff,Nat.reduceSub,Nat.reduceMul,Int.reduceEq,Int.reduceLT,Int.reduceLE,Int.reduceSub,Int.reduceAdd,Int.reduceToNat,reduceCtorEq,Int.reduceNeg,TF3,TF4,TF9,TF23,TF25,TF26,TF28,decide_not,d2];refine⟨by omega,_,tyR_get hd,rfl,?_⟩;(try simp -implicitDefEqProofs only [EV,forall_const,implies_true,Nat.reduceAdd,Nat.reduceEqDiff,Nat.reduceBEq,Nat.reduceLeDiff,Nat.reduceSub,Nat.reduceMul,Int.reduceEq,Int.reduceLT,Int.reduceLE,Int.reduceSub,Int.reduceAdd,Int.reduceToNat,reduceCtorEq,Int.reduceNeg,TF3,TF4,TF9,TF23,TF25,TF26,TF28,decide_not,d2]);refine⟨_,.inl ⟨_,rfl,ok_Right04 d (hn.targs d hmem),rfl⟩,?_⟩;(try simp -implicitDefEqProofs only [EV,forall_const,implies_true,Nat.reduceAdd,Nat.reduceEqDiff,Nat.reduceBEq,Nat.reduceLeDiff,Nat.reduceSub,Nat.reduceMul,Int.reduceEq,Int.reduceLT,Int.reduceLE,Int.reduceSub,Int.reduceAdd,Int.reduceToNat,reduceCtorEq,Int.reduceNeg,TF3,TF4,TF9,TF23,TF25,TF26,TF28,decide_not,d2]);apply z;clear z K)
    refine AWp.cond rfl (fun hc=>?_) (fun hc=>?_)
    ·refine sR q1B ?_
     simp only [Bool.not_eq_true'] at hc
     rw [hc,Bool.false_and] at hI
     rw [← hI,Bool.false_and]
     exact aR
    simp only [Bool.not_eq_false'] at hc
    rw [hc,Bool.true_and] at hI
    refine AWp.skip (u2 _ _ ?_)
    clear u2 K2
    (refine lV q1B fun K z=>?_;refine cl ?_;apply z;clear z K;try simp only [thenA,blockA,if_true])
    exact⟨(),by rw [decide_eq_true k2];exact hI,(by simp [sle,vle,sget,exC,tyC,foC,paC,siC,deC,prC]),(by simp [ble,bget,exC,tyC,foC,paC,siC,deC,prC])⟩
   ·rw [decide_eq_false k2,Bool.false_and,Bool.false_and] at hI
    rw [← hI,Bool.false_and]
    refine sR1 k2 q1B ?_
    refine AWp.condT rfl ?_
    refine sR q1B ?_
    exact aR
 ·intro j _ d hd hmem dp tk hlt hI
  rw [dp,Ex.rightL] at hI
  refine kR1 hlt q1B fun K2 u2=>?_
  refine gI u2 ?_
  clear u2 K2
  refine sK fun K2 u2=>?_
  refine AWp.block ?_
  (refine sV q1B fun K z=>?_;refine ci (exR_get hd) ?_;refine cc (ih d hmem (hn.kids d hmem)) ?_;apply z;clear z K)
  refine AWp.cond rfl (fun hc=>?_) (fun hc=>?_)
  ·refine sR q1B ?_
   simp only [Bool.not_eq_true'] at hc
   rw [hc,Bool.false_and] at hI
   rw [← hI,Bool.false_and]
   exact aR
  simp only [Bool.not_eq_false'] at hc
  rw [hc,Bool.true_and] at hI
  refine AWp.skip (u2 _ _ ?_)
  clear u2 K2
  (refine lV q1B fun K z=>?_;refine cl ?_;apply z;clear z K;try simp only [thenA,blockA,if_true])
  exact⟨(),hI,(by simp [sle,vle,sget,exC,tyC,foC,paC,siC,deC,prC]),(by simp [ble,bget,exC,tyC,foC,paC,siC,deC,prC])⟩
def foRight (l:List Formal):Bool:=l.all fun f=>isName f.name && f.bound.right
abbrev q2B:List Nat:=[0,2,3,7,25]
theorem ok_rightFormals (l:List Formal)(hn:∀ f,f∈l→f.bound.Nn):CallOK prog 148 [.d (.slice (foR l))] (boolV (foRight l)):=by
 refine CallB.bd (Enters.of func148 rfl (by decide)) fun hbd=>?_
 have hll:l.length≤lim:=by have:=hbd.1;simp only [SV.bd] at this;cases this with | slice _ h1 _=>simpa [foR] using h1
 clear hbd
 refine cB func148 ?_
 refine sR q2B ?_
 refine kR q2B fun K1 u1=>?_
 refine AWp.block (AWp.forIdx l (X:=Unit) (fun j _=>[(0,.d (.slice (foR l))),(3,intV j)]) (fun _ _=>[])
  (fun j _=>foRight (l.drop j)=foRight l) () rfl (by simp [sle,vle,sget,exC,tyC,foC,paC,siC,deC,prC]) (by simp [ble,bget,exC,tyC,foC,paC,siC,deC,prC]) ?_ ?_)
 ·intro _ hI
  rw [List.drop_length] at hI
  rw [← hI] at u1 ⊢
  refine kR1 Int.lt_irrefl q2B fun K2 u2=>?_
  refine AWp.stopK rfl ?_
  simp only [thenA,blockA,if_true]
  refine u1 _ _ ?_
  refine sR q2B ?_
  exact aR
 ·intro j _ d hd hmem dp tk hlt hI
  rw [dp] at hI
  unfold foRight at hI
  rw [List.all_cons] at hI
  have hI':(isName d.name && d.bound.right && foRight (l.drop (j+1)))=foRight l:=hI
  clear hI
  refine kR1 hlt q2B fun K2 u2=>?_
  refine gI u2 ?_
  clear u2 K2
  refine sK fun K2 u2=>?_
  refine AWp.block ?_
  rcases Bool.eq_false_or_eq_true (isName d.name) with h1 | h1
  ·have his:=ok_Is d.name
   rw [h1] at his
   rw [h1,Bool.true_and] at hI'
   (refine sV q2B fun K z=>?_;refine ci (foR_get hd) ?_;refine cc his ?_;refine ci (foR_get hd) ?_;refine cc (ok_Right04 d.bound (hn d hmem)) ?_;apply z;clear z K)
   refine AWp.cond rfl (fun hc=>?_) (fun hc=>?_)
   ·refine sR q2B ?_
    simp only [Bool.not_eq_true'] at hc
    rw [hc,Bool.false_and] at hI'
    rw [← hI']
    exact aR
   simp only [Bool.not_eq_false'] at hc
   rw [hc,Bool.true_and] at hI'
   refine AWp.skip (u2 _ _ ?_)
   clear u2 K2
   (refine lV q2B fun K z=>?_;refine cl ?_;apply z;clear z K;try simp only [thenA,blockA,if_true])
   exact⟨(),hI',(by simp [sle,vle,sget,exC,tyC,foC,paC,siC,deC,prC]),(by simp [ble,bget,exC,tyC,foC,paC,siC,deC,prC])⟩
  ·have his:=ok_Is d.name
   rw [h1] at his
   rw [h1,Bool.false_and,Bool.false_and] at hI'
   rw [← hI']
   (refine sV q2B fun K z=>?_;refine ci (foR_get hd) ?_;refine cc his ?_;apply z;clear z K)
   refine AWp.condT rfl ?_
   refine sR q2B ?_
   exact aR
def paRight (l:List Param):Bool:=l.all fun f=>isName f.name && f.type.right
abbrev q3B:List Nat:=[0,2,3,7,25]
theorem ok_rightParams (l:List Param)(hn:∀ f,f∈l→f.type.Nn):CallOK prog 149 [.d (.slice (paR l))] (boolV (paRight l)):=by
 refine CallB.bd (Enters.of func149 rfl (by decide)) fun hbd=>?_
 have hll:l.length≤lim:=by have:=hbd.1;simp only [SV.bd] at this;cases this with | slice _ h1 _=>simpa [paR] using h1
 clear hbd
 refine cB func149 ?_
 refine sR q3B ?_
 refine kR q3B fun K1 u1=>?_
 refine AWp.block (AWp.forIdx l (X:=Unit) (fun j _=>[(0,.d (.slice (paR l))),(3,intV j)]) (fun _ _=>[])
  (fun j _=>paRight (l.drop j)=paRight l) () rfl (by simp [sle,vle,sget,exC,tyC,foC,paC,siC,deC,prC]) (by simp [ble,bget,exC,tyC,foC,paC,siC,deC,prC]) ?_ ?_)
 ·intro _ hI
  rw [List.drop_length] at hI
  rw [← hI] at u1 ⊢
  refine kR1 Int.lt_irrefl q3B fun K2 u2=>?_
  refine AWp.stopK rfl ?_
  simp only [thenA,blockA,if_true]
  refine u1 _ _ ?_
  refine sR q3B ?_
  exact aR
 ·intro j _ d hd hmem dp tk hlt hI
  rw [dp] at hI
  unfold paRight at hI
  rw [List.all_cons] at hI
  have hI':(isName d.name && d.type.right && paRight (l.drop (j+1)))=paRight l:=hI
  clear hI
  refine kR1 hlt q3B fun K2 u2=>?_
  refine gI u2 ?_
  clear u2 K2
  refine sK fun K2 u2=>?_
  refine AWp.block ?_
  rcases Bool.eq_false_or_eq_true (isName d.name) with h1 | h1
  ·have his:=ok_Is d.name
   rw [h1] at his
   rw [h1,Bool.true_and] at hI'
   (refine sV q3B fun K z=>?_;refine ci (paR_get hd) ?_;refine cc his ?_;refine ci (paR_get hd) ?_;refine cc (ok_Right04 d.type (hn d hmem)) ?_;apply z;clear z K)
   refine AWp.cond rfl (fun hc=>?_) (fun hc=>?_)
   ·refine sR q3B ?_
    simp only [Bool.not_eq_true'] at hc
    rw [hc,Bool.false_and] at hI'
    rw [← hI']
    exact aR
   simp only [Bool.not_eq_false'] at hc
   rw [hc,Bool.true_and] at hI'
   refine AWp.skip (u2 _ _ ?_)
   clear u2 K2
   (refine lV q3B fun K z=>?_;refine cl ?_;apply z;clear z K;try simp only [thenA,blockA,if_true])
   exact⟨(),hI',(by simp [sle,vle,sget,exC,tyC,foC,paC,siC,deC,prC]),(by simp [ble,bget,exC,tyC,foC,paC,siC,deC,prC])⟩
  ·have his:=ok_Is d.name
   rw [h1] at his
   rw [h1,Bool.false_and,Bool.false_and] at hI'
   rw [← hI']
   (refine sV q3B fun K z=>?_;refine ci (paR_get hd) ?_;refine cc his ?_;apply z;clear z K)
   refine AWp.condT rfl ?_
   refine sR q3B ?_
   exact aR
def Sig.right (s:Sig):Bool:=isName s.name && foRight s.formals && paRight s.params && s.result.right
theorem ok_rightSig (s:Sig)(hn:s.Nn):CallOK prog 150 [siV s] (boolV s.right):=by
 have h1:=ok_Is s.name
 have h2:=ok_rightFormals s.formals hn.formals
 have h3:=ok_rightParams s.params hn.params
 have h4:=ok_Right04 s.result hn.result
 unfold Sig.right
 generalize isName s.name=b1 at *
 generalize foRight s.formals=b2 at *
 generalize paRight s.params=b3 at *
 generalize s.result.right=b4 at *
 refine cB func150 ?_
 refine sR [0,1,2] ?_
 cases b1 with
 | false =>
  refine sC h1 [0,1,2] ?_
  exact aR
 | true =>
  cases b2 with
  | false =>
   (refine sV [0,1,2] fun K z=>?_;refine cc h1 ?_;refine cc h2 ?_;apply z;clear z K)
   exact aR
  | true =>
   cases b3 with
   | false =>
    (refine sV [0,1,2] fun K z=>?_;refine cc h1 ?_;refine cc h2 ?_;refine cc h3 ?_;apply z;clear z K)
    exact aR
   | true =>
    (refine sV [0,1,2] fun K z=>?_;refine cc h1 ?_;refine cc h2 ?_;refine cc h3 ?_;refine cc h4 ?_;apply z;clear z K)
    exact aR
end Go.Abs
