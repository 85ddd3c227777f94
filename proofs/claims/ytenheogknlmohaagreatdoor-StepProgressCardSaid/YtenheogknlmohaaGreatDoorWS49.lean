/- castingsref01.Class, Reserved, Is; castingsref04.List, Right -/
import Derived.Test.YtenheogknlmohaaGreatDoorWS47
import Derived.Test.YtenheogknlmohaaGreatDoorWSB
namespace Go.Abs
set_option linter.unusedSimpArgs false
set_option linter.unusedVariables false
open Go Go.Proofs
set_option maxRecDepth 100000
set_option maxHeartbeats 1000000
def letter (n:Int):Prop:=(97≤n∧n≤122)∨(65≤n∧n≤90)
instance (n:Int):Decidable (letter n):=by unfold letter;infer_instance
def blank (n:Int):Prop:=n=9∨n=10∨n=13∨n=32
instance (n:Int):Decidable (blank n):=by unfold blank;infer_instance
def cls (n:Int):Int:=if letter n then 1 else if 48≤n∧n≤57 then 2 else if n=95 then 3 else if blank n then 4 else 0
abbrev q1t:List Nat:=[0,2,16,22,24,38]
theorem ok_Class (n:Int):CallOK Tryz.prog 109 [.d (.int .u8 n)] (intV (cls n)):=by
 (refine CallOK.of_body Tryz.func109 rfl (by decide) (by rw [Tryz.ntmps109];simp) ?_;rw [Tryz.ntmps109])
 refine sR q1t ?_
 refine AWp.seqK fun K1 hK1=>?_
 have r1:∀ sl bx,sle sl [(0,.d (.int .u8 n))]→¬ letter n→K1 sl bx:=by
  intro sl bx hsl n1
  refine hK1 _ _ (AWp.weaken (bx':=[]) hsl trivial ?_)
  clear hK1 K1
  refine AWp.seqK fun K1 hK1=>?_
  have r2:∀ sl bx,sle sl [(0,.d (.int .u8 n))]→¬ (48≤n∧n≤57)→K1 sl bx:=by
   intro sl bx hsl n2
   refine hK1 _ _ (AWp.weaken (bx':=[]) hsl trivial ?_)
   clear hK1 K1
   refine AWp.seqK fun K1 hK1=>?_
   by_cases h1:n=95
   ·have hc:cls n=3:=by unfold cls;rw [if_neg n1,if_neg n2,if_pos h1]
    rw [hc]
    (refine sQ q1t fun K hK=>?_;refine ev1 h1 ?_;apply hK;clear hK K)
    refine AWp.takeIfK rfl ?_
    refine sR q1t ?_
    exact AWp.ret ⟨_,by rw [Tryz.results109];rfl,rfl⟩
   (refine sQ q1t fun K hK=>?_;refine ev1 h1 ?_;apply hK;clear hK K)
   refine AWp.condF rfl (AWp.skip (hK1 _ _ ?_))
   clear hK1 K1
   have hb:cls n=if blank n then 4 else 0:=by unfold cls;rw [if_neg n1,if_neg n2,if_neg h1]
   rw [hb]
   refine AWp.seqK fun K1 hK1=>?_
   by_cases a1:n=9
   ·rw [if_pos (show blank n from .inl a1)]
    (refine sQ q1t fun K hK=>?_;refine ev1 a1 ?_;apply hK;clear hK K)
    refine AWp.takeIfK rfl ?_
    refine sR q1t ?_
    exact AWp.ret ⟨_,by rw [Tryz.results109];rfl,rfl⟩
   by_cases a2:n=10
   ·rw [if_pos (show blank n from .inr (.inl a2))]
    (refine sQ q1t fun K hK=>?_;refine ev1 a2 ?_;apply hK;clear hK K)
    refine AWp.takeIfK rfl ?_
    refine sR q1t ?_
    exact AWp.ret ⟨_,by rw [Tryz.results109];rfl,rfl⟩
   by_cases a3:n=13
   ·rw [if_pos (show blank n from .inr (.inr (.inl a3)))]
    (refine sQ q1t fun K hK=>?_;refine ev1 a3 ?_;apply hK;clear hK K)
    refine AWp.takeIfK rfl ?_
    refine sR q1t ?_
    exact AWp.ret ⟨_,by rw [Tryz.results109];rfl,rfl⟩
   by_cases a4:n=32
   ·rw [if_pos (show blank n from .inr (.inr (.inr a4)))]
    (refine sQ q1t fun K hK=>?_;refine ev1 a4 ?_;apply hK;clear hK K)
    refine AWp.takeIfK rfl ?_
    refine sR q1t ?_
    exact AWp.ret ⟨_,by rw [Tryz.results109];rfl,rfl⟩
   rw [if_neg (show ¬ blank n from fun h=>by unfold blank at h;omega)] at hK1 ⊢
   (refine sQ q1t fun K hK=>?_;refine ev4 a1 a2 a3 a4 ?_;apply hK;clear hK K)
   refine AWp.skipIfK rfl hK1 ?_
   refine sR q1t ?_
   exact AWp.ret ⟨_,by rw [Tryz.results109];rfl,rfl⟩
  by_cases a1:48≤n
  ·by_cases a2:n≤57
   ·have hc:cls n=2:=by unfold cls;rw [if_neg n1,if_pos ⟨a1,a2⟩]
    rw [hc]
    (refine sQ q1t fun K hK=>?_;refine ev2 a1 a2 ?_;apply hK;clear hK K)
    refine AWp.takeIfK rfl ?_
    refine sR q1t ?_
    exact AWp.ret ⟨_,by rw [Tryz.results109];rfl,rfl⟩
   ·(refine sQ q1t fun K hK=>?_;refine ev2 a1 a2 ?_;apply hK;clear hK K)
    exact AWp.condF rfl (AWp.skip (r2 _ _ (by simp [sle,vle,sget,]) (fun h=>a2 h.2)))
  ·(refine sQ q1t fun K hK=>?_;refine ev1 a1 ?_;apply hK;clear hK K)
   exact AWp.condF rfl (AWp.skip (r2 _ _ (by simp [sle,vle,sget,]) (fun h=>a1 h.1)))
 by_cases a1:97≤n
 ·by_cases a2:n≤122
  ·have hc:cls n=1:=by unfold cls;rw [if_pos (show letter n from .inl ⟨a1,a2⟩)]
   rw [hc]
   (refine sQ q1t fun K hK=>?_;refine ev2 a1 a2 ?_;apply hK;clear hK K)
   refine AWp.takeIfK rfl ?_
   refine sR q1t ?_
   exact AWp.ret ⟨_,by rw [Tryz.results109];rfl,rfl⟩
  ·have a3:65≤n:=by omega
   have a4:¬ n≤90:=by omega
   (refine sQ q1t fun K hK=>?_;refine ev4 a1 a2 a3 a4 ?_;apply hK;clear hK K)
   exact AWp.condF rfl (AWp.skip (r1 _ _ (by simp [sle,vle,sget,]) (fun h=>by unfold letter at h;omega)))
 ·by_cases a3:65≤n
  ·by_cases a4:n≤90
   ·have hc:cls n=1:=by unfold cls;rw [if_pos (show letter n from .inr ⟨a3,a4⟩)]
    rw [hc]
    (refine sQ q1t fun K hK=>?_;refine ev3 a1 a3 a4 ?_;apply hK;clear hK K)
    refine AWp.takeIfK rfl ?_
    refine sR q1t ?_
    exact AWp.ret ⟨_,by rw [Tryz.results109];rfl,rfl⟩
   ·(refine sQ q1t fun K hK=>?_;refine ev3 a1 a3 a4 ?_;apply hK;clear hK K)
    exact AWp.condF rfl (AWp.skip (r1 _ _ (by simp [sle,vle,sget,]) (fun h=>by unfold letter at h;omega)))
  ·(refine sQ q1t fun K hK=>?_;refine ev2 a1 a3 ?_;apply hK;clear hK K)
   exact AWp.condF rfl (AWp.skip (r1 _ _ (by simp [sle,vle,sget,]) (fun h=>by unfold letter at h;omega)))
def reserved (s:Str):Bool:=decide (s=[112,97,99,107,97,103,101]∨s=[109,97,105,110]∨s=[116,121,112,101]∨s=[115,116,114,117,99,116]∨s=[105,110,116,101,114,102,97,99,101]∨s=[102,117,110,99]∨s=[114,101,116,117,114,110])
abbrev q2t:List Nat:=[0,2,16]
theorem ok_Reserved (s:Str):CallOK Tryz.prog 110 [strV s] (boolV (reserved s)):=by
 unfold reserved
 (refine CallOK.of_body Tryz.func110 rfl (by decide) (by rw [Tryz.ntmps110];simp) ?_;rw [Tryz.ntmps110])
 refine sR q2t ?_
 refine AWp.seqK fun K1 hK1=>?_
 by_cases a1:s=[112,97,99,107,97,103,101]
 ·have b1:decide (s=[112,97,99,107,97,103,101])=true:=decide_eq_true a1
  rw [decide_eq_true (.inl a1)]
  (refine sQ q2t fun K hK=>?_;refine ev1 b1 ?_;apply hK;clear hK K)
  refine AWp.takeIfK rfl ?_
  refine sR q2t ?_
  exact AWp.ret ⟨_,by rw [Tryz.results110];rfl,rfl⟩
 have b1:decide (s=[112,97,99,107,97,103,101])=false:=decide_eq_false a1
 by_cases a2:s=[109,97,105,110]
 ·have b2:decide (s=[109,97,105,110])=true:=decide_eq_true a2
  rw [decide_eq_true (.inr (.inl a2))]
  (refine sQ q2t fun K hK=>?_;refine ev2 b1 b2 ?_;apply hK;clear hK K)
  refine AWp.takeIfK rfl ?_
  refine sR q2t ?_
  exact AWp.ret ⟨_,by rw [Tryz.results110];rfl,rfl⟩
 have b2:decide (s=[109,97,105,110])=false:=decide_eq_false a2
 by_cases a3:s=[116,121,112,101]
 ·have b3:decide (s=[116,121,112,101])=true:=decide_eq_true a3
  rw [decide_eq_true (.inr (.inr (.inl a3)))]
  (refine sQ q2t fun K hK=>?_;refine ev3 b1 b2 b3 ?_;apply hK;clear hK K)
  refine AWp.takeIfK rfl ?_
  refine sR q2t ?_
  exact AWp.ret ⟨_,by rw [Tryz.results110];rfl,rfl⟩
 have b3:decide (s=[116,121,112,101])=false:=decide_eq_false a3
 by_cases a4:s=[115,116,114,117,99,116]
 ·have b4:decide (s=[115,116,114,117,99,116])=true:=decide_eq_true a4
  rw [decide_eq_true (.inr (.inr (.inr (.inl a4))))]
  (refine sQ q2t fun K hK=>?_;refine ev4 b1 b2 b3 b4 ?_;apply hK;clear hK K)
  refine AWp.takeIfK rfl ?_
  refine sR q2t ?_
  exact AWp.ret ⟨_,by rw [Tryz.results110];rfl,rfl⟩
 have b4:decide (s=[115,116,114,117,99,116])=false:=decide_eq_false a4
 (refine sQ q2t fun K hK=>?_;refine ev4 b1 b2 b3 b4 ?_;apply hK;clear hK K)
 refine AWp.skipIfK rfl hK1 ?_
 clear hK1 K1
 by_cases a5:s=[105,110,116,101,114,102,97,99,101]
 ·have b5:decide (s=[105,110,116,101,114,102,97,99,101])=true:=decide_eq_true a5
  rw [decide_eq_true (.inr (.inr (.inr (.inr (.inl a5)))))]
  (refine sQ q2t fun K hK=>?_;refine ev1 b5 ?_;apply hK;clear hK K)
  exact AWp.ret ⟨_,by rw [Tryz.results110];rfl,rfl⟩
 have b5:decide (s=[105,110,116,101,114,102,97,99,101])=false:=decide_eq_false a5
 by_cases a6:s=[102,117,110,99]
 ·have b6:decide (s=[102,117,110,99])=true:=decide_eq_true a6
  rw [decide_eq_true (.inr (.inr (.inr (.inr (.inr (.inl a6))))))]
  (refine sQ q2t fun K hK=>?_;refine ev2 b5 b6 ?_;apply hK;clear hK K)
  exact AWp.ret ⟨_,by rw [Tryz.results110];rfl,rfl⟩
 have b6:decide (s=[102,117,110,99])=false:=decide_eq_false a6
 have e:decide (s=[112,97,99,107,97,103,101]∨s=[109,97,105,110]∨s=[116,121,112,101]∨s=[115,116,114,117,99,116]∨s=[105,110,116,101,114,102,97,99,101]∨s=[102,117,110,99]∨s=[114,101,116,117,114,110])=decide (s=[114,101,116,117,114,110]):=by simp [a1,a2,a3,a4,a5,a6]
 rw [e]
 (refine sQ q2t fun K hK=>?_;refine ev2 b5 b6 ?_;apply hK;clear hK K)
 exact AWp.ret ⟨_,by rw [Tryz.results110];rfl,rfl⟩
def okByte (c:UInt8):Bool:=!(decide (cls c.toNat=0) || decide (cls c.toNat=4))
def isName (s:Str):Bool:=match s with
 | []=>false
 | c::_=>decide (cls c.toNat=1) && s.all okByte && !reserved s
abbrev q3t:List Nat:=[0,2,3,4,13,17,29]
theorem ok_Is (s:Str):CallOK Tryz.prog 60 [strV s] (boolV (isName s)):=by
 have hrs:=ok_Reserved s
 refine CallB.bd (Enters.of Tryz.func60 rfl (by decide)) fun hbd=>?_
 have hsl:s.length≤lim:=by have:=hbd.1;simp only [SV.bd] at this;cases this;assumption
 clear hbd
 (refine CallOK.of_body Tryz.func60 rfl (by decide) (by rw [Tryz.ntmps60];simp) ?_;rw [Tryz.ntmps60])
 refine sR q3t ?_
 cases s with
 | nil =>
  refine AWp.seqK fun K1 hK1=>?_
  have h00:((0:Nat):Int)=0:=rfl
  (refine sQ q3t fun K hK=>?_;refine ev1 h00 ?_;apply hK;clear hK K)
  refine AWp.takeIfK rfl ?_
  refine sR q3t ?_
  exact AWp.ret ⟨_,by rw [Tryz.results60];rfl,rfl⟩
 | cons c cs =>
  have hne:¬ (((c::cs).length:Int)=0):=by simp only [List.length_cons];omega
  have h0:(c::cs)[0]? = some c:=rfl
  have hn:isName (c::cs)=(decide (cls c.toNat=1) && (c::cs).all okByte && !reserved (c::cs)):=rfl
  rw [hn]
  clear hn
  have hcl:=ok_Class c.toNat
  generalize c::cs=s at *
  refine AWp.seqK fun K1 hK1=>?_
  by_cases h1:cls c.toNat=1
  ·(refine sQ q3t fun K hK=>?_;refine ev1 hne ?_;refine⟨c,h0,?_⟩;(try refine ev2 hne h1 ?_);refine⟨_,.inl ⟨_,rfl,hcl,rfl⟩,?_⟩;(try refine ev1 h1 ?_);apply hK;clear hK K)
   refine AWp.skipIfK rfl hK1 ?_
   clear hK1 K1
   rw [decide_eq_true h1,Bool.true_and]
   refine AWp.seqK fun K1 hK1=>?_
   refine sR q3t ?_
   refine AWp.block (AWp.forIdx s (X:=Unit) (fun j _=>[(0,strV s),(3,intV j)]) (fun _ _=>[])
    (fun j _=>(s.drop j).all okByte=s.all okByte) () rfl (by simp [sle,vle,sget,]) (by simp [ble,]) ?_ ?_)
   ·intro _ hI
    rw [List.drop_length,List.all_nil] at hI
    rw [← hI,Bool.true_and] at hK1 ⊢
    refine AWp.seqK fun K2 hK2=>?_
    (refine sQ q3t fun K hK=>?_;simp -implicitDefEqProofs only [EV,Nat.reduceEqDiff,reduceCtorEq,TF9,Int.lt_irrefl];apply hK;clear hK K)
    refine AWp.stopK rfl ?_
    simp only [thenA,blockA,if_true]
    refine hK1 _ _ ?_
    (refine sQ q3t fun K hK=>?_;refine ev ?_;refine⟨_,.inl ⟨_,rfl,hrs,rfl⟩,?_⟩;(try refine ev ?_);apply hK;clear hK K)
    exact AWp.ret ⟨_,by rw [Tryz.results60];rfl,rfl⟩
   ·intro j _ d hd hmem hdrop htake hlt hI
    rw [hdrop,List.all_cons] at hI
    refine AWp.seqK fun K2 hK2=>?_
    (refine sQ q3t fun K hK=>?_;refine ev1 hlt ?_;apply hK;clear hK K)
    refine AWp.goOnK rfl hK2 ?_
    clear hK2 K2
    refine AWp.seqK fun K2 hK2=>?_
    refine AWp.block ?_
    (refine sQ q3t fun K hK=>?_;refine ev ?_;refine⟨by omega,d,hd,?_⟩;(try refine ev ?_);refine⟨_,.inl ⟨_,rfl,ok_Class d.toNat,rfl⟩,?_⟩;(try refine ev ?_);apply hK;clear hK K)
    by_cases a0:cls d.toNat=0
    ·rw [← hI]
     rw [show okByte d=false by simp [okByte,a0],Bool.false_and,Bool.false_and]
     (refine sQ q3t fun K hK=>?_;refine ev1 a0 ?_;apply hK;clear hK K)
     refine AWp.condT rfl ?_
     refine sR q3t ?_
     exact AWp.ret ⟨_,by rw [Tryz.results60];rfl,rfl⟩
    by_cases a4:cls d.toNat=4
    ·rw [← hI]
     rw [show okByte d=false by simp [okByte,a4],Bool.false_and,Bool.false_and]
     (refine sQ q3t fun K hK=>?_;refine ev1 a4 ?_;apply hK;clear hK K)
     refine AWp.condT rfl ?_
     refine sR q3t ?_
     exact AWp.ret ⟨_,by rw [Tryz.results60];rfl,rfl⟩
    rw [show okByte d=true by simp [okByte,a0,a4],Bool.true_and] at hI
    (refine sQ q3t fun K hK=>?_;refine ev2 a0 a4 ?_;apply hK;clear hK K)
    refine AWp.condF rfl (AWp.skip (hK2 _ _ ?_))
    clear hK2 K2
    (refine lQ q3t fun K hK=>?_;refine ev ?_;refine⟨by first | (unfold InR;omega) | (simp only [InR,lim] at *;omega),?_⟩;(try refine ev ?_);apply hK;clear hK K;try simp only [thenA,])
    exact⟨(),hI,(by simp [sle,vle,sget,]),(by simp [ble,])⟩
  ·(refine sQ q3t fun K hK=>?_;refine ev1 hne ?_;refine⟨c,h0,?_⟩;(try refine ev2 hne h1 ?_);refine⟨_,.inl ⟨_,rfl,hcl,rfl⟩,?_⟩;(try refine ev1 h1 ?_);apply hK;clear hK K)
   refine AWp.takeIfK rfl ?_
   refine sR q3t ?_
   rw [decide_eq_false h1,Bool.false_and,Bool.false_and]
   exact AWp.ret ⟨_,by rw [Tryz.results60];rfl,rfl⟩
theorem namesL_len:∀ {l:List Ty} {t:Ty},t∈l→t.names.length≤(Ty.namesL l).length
 | [],_,h=>by simp at h
 | x::l,t,h=>by
  simp only [Ty.namesL,List.length_append]
  simp only [List.mem_cons] at h
  rcases h with rfl | h
  ·omega
  ·have:=namesL_len h;omega
theorem namesL_ge:∀ l:List Ty,l.length≤(Ty.namesL l).length
 | []=>by simp [Ty.namesL]
 | x::l=>by
  have:=namesL_ge l
  simp only [Ty.namesL,List.length_append,List.length_cons,Ty.names_eq];omega
abbrev q4t:List Nat:=[0,1,2,3,4,7,12]
theorem ok_List04:∀ t:Ty,t.names.length≤sm→CallOK Tryz.prog 108 [tyV t] (strsV t.names):=by
 intro t
 induction t using Ty.induct with | _ t ih=>?_
 intro hs
 rw [Ty.names_eq,List.length_cons] at hs
 rw [Ty.names_eq]
 (refine CallOK.of_body Tryz.func108 rfl (by decide) (by rw [Tryz.ntmps108];simp) ?_;rw [Tryz.ntmps108])
 refine sR q4t ?_
 (refine AWp.freeze 1 rfl rfl (AWp.weaken (sl':=[(1,.dptr (tyC t) 0)]) (bx':=[]) ⟨.inr (.inl rfl),trivial⟩ trivial ?_))
 (refine AWp.seqR q4t [7] (by decide +kernel) fun K hK=>?_;refine ev ?_;apply hK;clear hK K)
 refine AWp.seqK fun K1 hK1=>?_
 refine sR q4t ?_
 refine AWp.block (AWp.forIdx t.args (X:=Unit) (fun j _=>[(1,.dptr (tyC t) 0),(3,.acc 7),(4,intV j)]) (fun j _=>[(7,.rows 1 (strR (t.name::Ty.namesL (t.args.take j))))])
  (fun j _=>True) () trivial (by simp [sle,vle,sget,tyC]) (by simp [ble,bget,strR,Ty.namesL]) ?_ ?_)
 ·intro _ _
  rw [List.take_length]
  refine AWp.seqK fun K2 hK2=>?_
  (refine sQ q4t fun K hK=>?_;simp -implicitDefEqProofs only [EV,Nat.reduceEqDiff,reduceCtorEq,TF23,TF25,Int.lt_irrefl];apply hK;clear hK K)
  refine AWp.stopK rfl ?_
  simp only [thenA,blockA,if_true]
  refine hK1 _ _ ?_
  refine sR q4t ?_
  exact AWp.ret ⟨_,by rw [Tryz.results108];rfl,rfl⟩
 ·intro j _ d hd hmem hdrop htake hlt hI
  have hdl:=namesL_len hmem
  have hge:=namesL_ge t.args
  rw [htake,Ty.namesL_append]
  have hjl:(Ty.namesL (t.args.take j)).length≤(Ty.namesL t.args).length:=by
   conv=>rhs;rw [← List.take_append_drop j t.args,Ty.namesL_append,List.length_append]
   omega
  refine AWp.seqK fun K2 hK2=>?_
  (refine sQ q4t fun K hK=>?_;refine ev1 hlt ?_;apply hK;clear hK K)
  refine AWp.goOnK rfl hK2 ?_
  clear hK2 K2
  refine AWp.seqK fun K2 hK2=>?_
  refine AWp.block ?_
  (refine lQ q4t fun K hK=>?_;refine ev ?_;refine⟨by omega,_,tyR_get hd,rfl,?_⟩;(try refine ev ?_);refine⟨_,.inl ⟨_,rfl,ih d hmem (by omega),rfl⟩,?_⟩;(try refine ev ?_);refine⟨strR_row _,by unfold lim sm at *;omega,?_⟩;(try refine ev ?_);apply hK;clear hK K;try simp only [thenA,blockA])
  refine hK2 _ _ ?_
  clear hK2 K2
  (refine lQ q4t fun K hK=>?_;refine ev ?_;refine⟨by first | (unfold InR;omega) | (simp only [InR,sm] at *;omega),?_⟩;(try refine ev ?_);apply hK;clear hK K;try simp only [thenA,])
  exact⟨(),trivial,(by simp [sle,vle,sget,tyC,]),by simp [ble,bget,strR,Ty.namesL]⟩
def Ty.right (t:Ty):Bool:=t.names.all isName
abbrev q5t:List Nat:=[0,1,2,3,4,10,18]
theorem ok_Right04 (t:Ty)(h:t.Nn):CallOK Tryz.prog 59 [tyV t] (boolV t.right):=by
 have hli:=ok_List04 t (by unfold Ty.Nn at h;unfold sm;omega)
 have hll:t.names.length≤2000:=h
 unfold Ty.right
 generalize t.names=l at *
 (refine CallOK.of_body Tryz.func59 rfl (by decide) (by rw [Tryz.ntmps59];simp) ?_;rw [Tryz.ntmps59])
 refine sR q5t ?_
 (refine sQ q5t fun K hK=>?_;refine ev ?_;refine⟨_,.inl ⟨_,rfl,hli,rfl⟩,?_⟩;(try refine ev ?_);apply hK;clear hK K)
 refine AWp.seqK fun K1 hK1=>?_
 refine sR q5t ?_
 refine AWp.block (AWp.forIdx l (X:=Unit) (fun j _=>[(3,strsV l),(4,intV j)]) (fun _ _=>[])
  (fun j _=>(l.drop j).all isName=l.all isName) () rfl (by simp [sle,vle,sget,]) (by simp [ble,]) ?_ ?_)
 ·intro _ hI
  rw [List.drop_length,List.all_nil] at hI
  rw [← hI] at hK1 ⊢
  refine AWp.seqK fun K2 hK2=>?_
  (refine sQ q5t fun K hK=>?_;simp -implicitDefEqProofs only [EV,Nat.reduceEqDiff,reduceCtorEq,TF76,Int.lt_irrefl];apply hK;clear hK K)
  refine AWp.stopK rfl ?_
  simp only [thenA,blockA,if_true]
  refine hK1 _ _ ?_
  refine sR q5t ?_
  exact AWp.ret ⟨_,by rw [Tryz.results59];rfl,rfl⟩
 ·intro j _ d hd hmem hdrop htake hlt hI
  rw [hdrop,List.all_cons] at hI
  refine AWp.seqK fun K2 hK2=>?_
  (refine sQ q5t fun K hK=>?_;refine ev1 hlt ?_;apply hK;clear hK K)
  refine AWp.goOnK rfl hK2 ?_
  clear hK2 K2
  refine AWp.seqK fun K2 hK2=>?_
  refine AWp.block ?_
  (refine sQ q5t fun K hK=>?_;refine ev ?_;refine⟨by omega,_,strR_get hd,rfl,?_⟩;(try refine ev ?_);refine⟨_,.inl ⟨_,rfl,ok_Is d,rfl⟩,?_⟩;(try refine ev ?_);apply hK;clear hK K)
  refine AWp.cond rfl (fun hc=>?_) (fun hc=>?_)
  ·refine sR q5t ?_
   simp only [Bool.not_eq_true'] at hc
   rw [hc,Bool.false_and] at hI
   rw [← hI]
   exact AWp.ret ⟨_,by rw [Tryz.results59];rfl,rfl⟩
  simp only [Bool.not_eq_false'] at hc
  rw [hc,Bool.true_and] at hI
  refine AWp.skip (hK2 _ _ ?_)
  clear hK2 K2
  (refine lQ q5t fun K hK=>?_;refine ev ?_;refine⟨by first | (unfold InR;omega) | (simp only [InR,sm,lim] at *;omega),?_⟩;(try refine ev ?_);apply hK;clear hK K;try simp only [thenA,])
  exact⟨(),hI,(by simp [sle,vle,sget,]),(by simp [ble,])⟩
end Go.Abs
/- castingsref05.Right; castingsref06.rightFormals, rightParams, rightSig -/
namespace Go.Abs
set_option linter.unusedSimpArgs false
set_option linter.unusedVariables false
open Go Go.Proofs
set_option maxRecDepth 100000
set_option maxHeartbeats 1000000
def kidsOK (e:Ex):Prop:=(e.kind=1→e.kids=[])∧(e.kind=4∨e.kind=5→e.kids.length=1)
mutual
def Ex.One:Ex→Prop
 | .mk k n t a ks q=>kidsOK (.mk k n t a ks q)∧Ex.OneL ks
def Ex.OneL:List Ex→Prop
 | []=>True
 | e::es=>e.One∧Ex.OneL es
end
theorem OneL_mem:∀ {l:List Ex},Ex.OneL l→∀ e,e∈l→e.One
 | [],_=>by simp
 | x::l,h=>by
  rw [Ex.OneL] at h
  intro e he
  simp only [List.mem_cons] at he
  rcases he with rfl | he
  ·exact h.1
  ·exact OneL_mem h.2 e he
theorem Ex.One.out {e:Ex} (h:e.One):kidsOK e∧∀ x,x∈e.kids→x.One:=by
 cases e with | mk k n t a ks q=>rw [Ex.One] at h;exact⟨h.1,OneL_mem h.2⟩
def Ex.typed (e:Ex):Bool:=decide (e.kind=3) || decide (e.kind=5)
def Ex.kindB (e:Ex):Bool:=if e.kind=1 then decide ((e.kids.length:Int)=0) else if e.kind=2 then decide ((e.kids.length:Int) ≥ 1) else if e.kind=3 then true else if e.kind=4∨e.kind=5 then decide ((e.kids.length:Int)=1) else false
def Ex.right1 (e:Ex):Bool:=if e.typed=true then e.type.right && decide (e.name=[]) && e.kindB else !e.type.right && decide (e.type.name=[]) && decide (e.type.args.length=0) && isName e.name && e.kindB
def Ex.right2 (e:Ex):Bool:=e.targs.all fun t=>decide (e.kind=2) && t.right
mutual
def Ex.right:Ex→Bool
 | .mk k n t a ks q=>Ex.rightL ks && (Ex.right2 (.mk k n t a ks q) && Ex.right1 (.mk k n t a ks q))
def Ex.rightL:List Ex→Bool
 | []=>true
 | e::es=>e.right && Ex.rightL es
end
theorem Ex.right_eq (e:Ex):e.right=(Ex.rightL e.kids && (e.right2 && e.right1)):=by cases e with | mk k n t a ks q=>rw [Ex.right];rfl
theorem rightL_mem:∀ {l:List Ex},Ex.rightL l=true→∀ e,e∈l→e.right=true
 | [],_=>by simp
 | x::l,h=>by
  rw [Ex.rightL,Bool.and_eq_true] at h
  intro e he
  simp only [List.mem_cons] at he
  rcases he with rfl | he
  ·exact h.1
  ·exact rightL_mem h.2 e he
theorem Ex.right_One:∀ e:Ex,e.right=true→e.One:=by
 intro e
 induction e using Ex.induct with | _ e ih=>?_
 intro h
 rw [Ex.right_eq,Bool.and_eq_true,Bool.and_eq_true] at h
 have hk:e.kindB=true:=by
  have:=h.2.2
  unfold Ex.right1 at this
  split at this <;> (simp only [Bool.and_eq_true] at this;exact this.2)
 have hL:∀ l:List Ex,(∀ x,x∈l→x.One)→Ex.OneL l:=by
  intro l
  induction l with
  | nil=>intro _;trivial
  | cons x l ihl=>intro hx;rw [Ex.OneL];exact⟨hx x (by simp),ihl fun y hy=>hx y (by simp [hy])⟩
 have hall:=hL e.kids fun x hx=>ih x hx (rightL_mem h.1 x hx)
 cases e with | mk k n t a ks q =>
 rw [Ex.One]
 refine⟨⟨fun h1=>?_,fun h4=>?_⟩,hall⟩
 ·unfold Ex.kindB at hk
  rw [if_pos h1,decide_eq_true_eq] at hk
  exact List.eq_nil_of_length_eq_zero (by omega)
 ·unfold Ex.kindB at hk
  rw [if_neg (by omega),if_neg (by omega)] at hk
  by_cases h3:(Ex.mk k n t a ks q).kind=3
  ·omega
  ·rw [if_neg h3,if_pos h4,decide_eq_true_eq] at hk;omega
abbrev q1u:List Nat:=[0,1,2,3,4,5,10,19,24,38,68,84,86,87,93,99,101]
set_option maxHeartbeats 4000000 in
theorem ok_Right05:∀ e:Ex,e.Nn→CallOK Tryz.prog 22 [exV e] (boolV e.right):=by
 intro e
 induction e using Ex.induct with | _ e ih=>?_
 intro hn
 rw [Ex.right_eq]
 have hr4:=ok_Right04 e.type hn.type
 have his:=ok_Is e.name
 refine CallB.bd (Enters.of Tryz.func22 rfl (by decide)) fun hbd=>?_
 have hok:=ex_ok hbd.1
 have hkl:=hok.kids.1
 have htl:=hok.targs.1
 clear hbd hok
 (refine CallOK.of_body Tryz.func22 rfl (by decide) (by rw [Tryz.ntmps22];simp) ?_;rw [Tryz.ntmps22])
 refine sR q1u ?_
 (refine AWp.freeze 1 rfl rfl (AWp.weaken (sl':=[(1,.dptr (exC e) 0)]) (bx':=[]) ⟨.inr (.inl rfl),trivial⟩ trivial ?_))
 refine AWp.seqK fun K1 hK1=>?_
 refine sR q1u ?_
 refine AWp.block (AWp.forIdx e.kids (X:=Unit) (fun j _=>[(1,.dptr (exC e) 0),(3,intV j)]) (fun _ _=>[])
  (fun j _=>Ex.rightL (e.kids.drop j)=Ex.rightL e.kids) () rfl (by simp [sle,vle,sget,exC,]) (by simp [ble,]) ?_ ?_)
 ·intro _ hI
  rw [List.drop_length,Ex.rightL] at hI
  rw [← hI,Bool.true_and] at hK1 ⊢
  clear hI
  refine AWp.seqK fun K2 hK2=>?_
  (refine sQ q1u fun K hK=>?_;simp -implicitDefEqProofs only [EV,Nat.reduceEqDiff,reduceCtorEq,TF26,TF28,Int.lt_irrefl];apply hK;clear hK K)
  refine AWp.stopK rfl ?_
  simp only [thenA,blockA,if_true]
  refine hK1 _ _ ?_
  clear hK2 K2 hK1 K1
  refine AWp.seqK fun K1 hK1=>?_
  refine sR q1u ?_
  refine AWp.block (AWp.forIdx e.targs (X:=Unit) (fun j _=>[(1,.dptr (exC e) 0),(4,intV j)]) (fun _ _=>[])
   (fun j _=>((e.targs.drop j).all fun t=>decide (e.kind=2) && t.right)=e.right2) () rfl (by simp [sle,vle,sget,exC,]) (by simp [ble,]) ?_ ?_)
  ·intro _ hI
   rw [List.drop_length,List.all_nil] at hI
   rw [← hI,Bool.true_and] at hK1 ⊢
   clear hI
   refine AWp.seqK fun K2 hK2=>?_
   (refine sQ q1u fun K hK=>?_;simp -implicitDefEqProofs only [EV,Nat.reduceEqDiff,reduceCtorEq,TF23,TF28,Int.lt_irrefl];apply hK;clear hK K)
   refine AWp.stopK rfl ?_
   simp only [thenA,blockA,if_true]
   refine hK1 _ _ ?_
   clear hK2 K2 hK1 K1
   refine AWp.seqK fun K1 hK1=>?_
   have rest:∀ sl bx,sle sl [(1,.dptr (exC e) 0),(5,boolV e.typed)]→K1 sl bx:=by
    intro sl bx hsl
    refine hK1 _ _ (AWp.weaken (bx':=[]) hsl trivial ?_)
    clear hK1 K1
    refine AWp.seqK fun K1 hK1=>?_
    have rest:∀ sl bx,sle sl [(1,.dptr (exC e) 0),(5,boolV e.typed)]→e.typed=e.type.right→(e.typed=false→e.type.name=[]∧e.type.args.length=0)→K1 sl bx:=by
     intro sl bx hsl h1 h2
     refine hK1 _ _ (AWp.weaken (bx':=[]) hsl trivial ?_)
     clear hK1 K1
     have hr:e.right1=(if e.typed=true then decide (e.name=[]) && e.kindB else isName e.name && e.kindB):=by
      unfold Ex.right1
      rcases Bool.eq_false_or_eq_true e.typed with ht | ht
      ·rw [if_pos ht,if_pos ht,← h1,ht,Bool.true_and]
      ·rw [if_neg (by simp [ht]),if_neg (by simp [ht]),← h1,ht,(h2 ht).1,(h2 ht).2]
       simp
     rw [hr]
     clear hr h1 h2
     refine AWp.seqK fun K1 hK1=>?_
     have rest:∀ sl bx,sle sl [(1,.dptr (exC e) 0)]→(∀ b,(if e.typed=true then decide (e.name=[]) && b else isName e.name && b)=b)→K1 sl bx:=by
      intro sl bx hsl h1
      rw [h1] at *
      refine hK1 _ _ (AWp.weaken (bx':=[]) hsl trivial ?_)
      clear hK1 K1
      refine AWp.seqK fun K1 hK1=>?_
      refine sR q1u ?_
      unfold Ex.kindB
      refine AWp.block ?_
      by_cases k1:e.kind=1
      ·rw [if_pos k1]
       (refine sQ q1u fun K hK=>?_;refine ev1 k1 ?_;apply hK;clear hK K)
       refine AWp.condT rfl ?_
       refine sR q1u ?_
       exact AWp.ret ⟨_,by rw [Tryz.results22];rfl,rfl⟩
      rw [if_neg k1]
      (refine sQ q1u fun K hK=>?_;refine ev1 k1 ?_;apply hK;clear hK K)
      refine AWp.condF rfl ?_
      by_cases k2:e.kind=2
      ·rw [if_pos k2]
       (refine sQ q1u fun K hK=>?_;refine ev1 k2 ?_;apply hK;clear hK K)
       refine AWp.condT rfl ?_
       refine sR q1u ?_
       exact AWp.ret ⟨_,by rw [Tryz.results22];rfl,rfl⟩
      rw [if_neg k2]
      (refine sQ q1u fun K hK=>?_;refine ev1 k2 ?_;apply hK;clear hK K)
      refine AWp.condF rfl ?_
      by_cases k3:e.kind=3
      ·rw [if_pos k3]
       (refine sQ q1u fun K hK=>?_;refine ev1 k3 ?_;apply hK;clear hK K)
       refine AWp.condT rfl ?_
       refine sR q1u ?_
       exact AWp.ret ⟨_,by rw [Tryz.results22];rfl,rfl⟩
      rw [if_neg k3]
      (refine sQ q1u fun K hK=>?_;refine ev1 k3 ?_;apply hK;clear hK K)
      refine AWp.condF rfl ?_
      refine AWp.seqK fun K2 hK2=>?_
      by_cases k4:e.kind=4
      ·rw [if_pos (.inl k4)] at hK2 ⊢
       (refine sQ q1u fun K hK=>?_;refine ev1 k4 ?_;apply hK;clear hK K)
       refine AWp.condT rfl (AWp.skip (hK2 _ _ ?_))
       refine AWp.condT rfl ?_
       refine sR q1u ?_
       exact AWp.ret ⟨_,by rw [Tryz.results22];rfl,rfl⟩
      by_cases k5:e.kind=5
      ·rw [if_pos (.inr k5)] at hK2 ⊢
       (refine sQ q1u fun K hK=>?_;refine ev1 k4 ?_;apply hK;clear hK K)
       refine AWp.condF rfl ?_
       (refine lQ q1u fun K hK=>?_;refine ev1 k5 ?_;apply hK;clear hK K;try simp only [thenA,])
       refine hK2 _ _ ?_
       refine AWp.condT rfl ?_
       refine sR q1u ?_
       exact AWp.ret ⟨_,by rw [Tryz.results22];rfl,rfl⟩
      have hkb:e.kindB=false:=by unfold Ex.kindB;rw [if_neg k1,if_neg k2,if_neg k3,if_neg (by omega)]
      (refine sQ q1u fun K hK=>?_;refine ev1 k4 ?_;apply hK;clear hK K)
      refine AWp.condF rfl ?_
      (refine lQ q1u fun K hK=>?_;refine ev1 k5 ?_;apply hK;clear hK K;try simp only [thenA,])
      refine hK2 _ _ ?_
      refine AWp.condF rfl (AWp.skip ?_)
      simp only [thenA,blockA]
      refine hK1 _ _ ?_
      refine sR q1u ?_
      rw [hkb]
      exact AWp.ret ⟨_,by rw [Tryz.results22];rfl,rfl⟩
     rcases Bool.eq_false_or_eq_true e.typed with ht | ht
     ·rw [ht] at hsl ⊢
      rw [if_pos rfl] at *
      by_cases hnm:e.name=[]
      ·have bn:decide (e.name=[])=true:=decide_eq_true hnm
       (refine sQ q1u fun K hK=>?_;simp -implicitDefEqProofs only [EV,Nat.reduceEqDiff,Nat.reduceLeDiff,reduceCtorEq,TF9,TF28,decide_not,bn];apply hK;clear hK K)
       exact AWp.condF rfl (AWp.skip (rest _ _ (by simp [sle,vle,sget,exC,]) (fun b=>by rw [if_pos ht,decide_eq_true hnm,Bool.true_and])))
      ·have bn:decide (e.name=[])=false:=decide_eq_false hnm
       (refine sQ q1u fun K hK=>?_;simp -implicitDefEqProofs only [EV,Nat.reduceEqDiff,Nat.reduceLeDiff,reduceCtorEq,TF9,TF28,decide_not,bn];apply hK;clear hK K)
       refine AWp.takeIfK rfl ?_
       refine sR q1u ?_
       rw [decide_eq_false hnm,Bool.false_and]
       exact AWp.ret ⟨_,by rw [Tryz.results22];rfl,rfl⟩
     ·rw [ht] at hsl ⊢
      rcases Bool.eq_false_or_eq_true (isName e.name) with hin | hin
      ·rw [hin] at his
       (refine sQ q1u fun K hK=>?_;refine ev ?_;refine⟨_,.inl ⟨_,rfl,his,rfl⟩,?_⟩;(try refine ev ?_);apply hK;clear hK K)
       exact AWp.condF rfl (AWp.skip (rest _ _ (by simp [sle,vle,sget,exC,]) (fun b=>by rw [if_neg (by simp [ht]),hin,Bool.true_and])))
      ·rw [hin] at his
       (refine sQ q1u fun K hK=>?_;refine ev ?_;refine⟨_,.inl ⟨_,rfl,his,rfl⟩,?_⟩;(try refine ev ?_);apply hK;clear hK K)
       refine AWp.takeIfK rfl ?_
       refine sR q1u ?_
       rw [if_neg (by simp),hin,Bool.false_and]
       exact AWp.ret ⟨_,by rw [Tryz.results22];rfl,rfl⟩
    have hf:(e.typed≠e.type.right∨(e.typed=false∧¬ (e.type.name=[]∧e.type.args.length=0)))→e.right1=false:=by
     intro h
     unfold Ex.right1
     rcases Bool.eq_false_or_eq_true e.typed with ht | ht
     ·rcases Bool.eq_false_or_eq_true e.type.right with hr | hr
      ·rw [ht,hr] at h;simp at h
      ·rw [ht,hr];rfl
     ·rcases Bool.eq_false_or_eq_true e.type.right with hr | hr
      ·rw [ht,hr];rfl
      ·rw [ht,hr] at h;simp at h
       rw [ht,hr];simp
       intro h1 h2;exact absurd h2 (h h1)
    have q1:(true == true)=true:=rfl
    have q2:(true == false)=false:=rfl
    have q3:(false == true)=false:=rfl
    have q4:(false == false)=true:=rfl
    rcases Bool.eq_false_or_eq_true e.typed with ht | ht
    ·rcases Bool.eq_false_or_eq_true e.type.right with hr | hr
     ·rw [hr] at hr4
      rw [ht]
      (refine sQ q1u fun K hK=>?_;refine ev ?_;refine⟨_,.inl ⟨_,rfl,hr4,rfl⟩,?_⟩;(try refine ev1 q1 ?_);apply hK;clear hK K)
      exact AWp.condF rfl (AWp.skip (rest _ _ (by rw [ht];exact (by simp [sle,vle,sget,exC,])) (by rw [ht,hr]) (by rw [ht];simp)))
     ·rw [hr] at hr4
      rw [hf (.inl (by rw [ht,hr];simp)),ht]
      (refine sQ q1u fun K hK=>?_;refine ev ?_;refine⟨_,.inl ⟨_,rfl,hr4,rfl⟩,?_⟩;(try refine ev1 q2 ?_);apply hK;clear hK K)
      refine AWp.takeIfK rfl ?_
      refine sR q1u ?_
      exact AWp.ret ⟨_,by rw [Tryz.results22];rfl,rfl⟩
    ·rcases Bool.eq_false_or_eq_true e.type.right with hr | hr
     ·rw [hr] at hr4
      rw [hf (.inl (by rw [ht,hr];simp)),ht]
      (refine sQ q1u fun K hK=>?_;refine ev ?_;refine⟨_,.inl ⟨_,rfl,hr4,rfl⟩,?_⟩;(try refine ev1 q3 ?_);apply hK;clear hK K)
      refine AWp.takeIfK rfl ?_
      refine sR q1u ?_
      exact AWp.ret ⟨_,by rw [Tryz.results22];rfl,rfl⟩
     ·rw [hr] at hr4
      by_cases hnm:e.type.name=[]
      ·have bn:decide (e.type.name=[])=true:=decide_eq_true hnm
       by_cases hal:e.type.args.length=0
       ·have hg:¬ (0 < (e.type.args.length:Int)):=by omega
        rw [ht]
        (refine sQ q1u fun K hK=>?_;refine ev ?_;refine⟨_,.inl ⟨_,rfl,hr4,rfl⟩,?_⟩;(try simp -implicitDefEqProofs only [EV,Nat.reduceAdd,Nat.reduceEqDiff,Nat.reduceLeDiff,reduceCtorEq,TF4,TF9,TF23,TF25,TF28,q4,decide_not,bn,hg]);apply hK;clear hK K)
        exact AWp.condF rfl (AWp.skip (rest _ _ (by rw [ht];exact (by simp [sle,vle,sget,exC,])) (by rw [ht,hr]) (fun _=>⟨hnm,hal⟩)))
       ·have hg:0 < (e.type.args.length:Int):=by omega
        rw [hf (.inr ⟨ht,fun h=>hal h.2⟩),ht]
        (refine sQ q1u fun K hK=>?_;refine ev ?_;refine⟨_,.inl ⟨_,rfl,hr4,rfl⟩,?_⟩;(try simp -implicitDefEqProofs only [EV,Nat.reduceAdd,Nat.reduceEqDiff,Nat.reduceLeDiff,reduceCtorEq,TF4,TF9,TF23,TF25,TF28,q4,decide_not,bn,hg]);apply hK;clear hK K)
        refine AWp.takeIfK rfl ?_
        refine sR q1u ?_
        exact AWp.ret ⟨_,by rw [Tryz.results22];rfl,rfl⟩
      ·have bn:decide (e.type.name=[])=false:=decide_eq_false hnm
       rw [hf (.inr ⟨ht,fun h=>hnm h.1⟩),ht]
       (refine sQ q1u fun K hK=>?_;refine ev ?_;refine⟨_,.inl ⟨_,rfl,hr4,rfl⟩,?_⟩;(try simp -implicitDefEqProofs only [EV,Nat.reduceEqDiff,Nat.reduceLeDiff,reduceCtorEq,TF4,TF9,TF25,TF28,q4,decide_not,bn]);apply hK;clear hK K)
       refine AWp.takeIfK rfl ?_
       refine sR q1u ?_
       exact AWp.ret ⟨_,by rw [Tryz.results22];rfl,rfl⟩
   by_cases k3:e.kind=3
   ·have ht:e.typed=true:=by unfold Ex.typed;rw [decide_eq_true k3];rfl
    have d3:=decide_eq_true k3
    (refine lQ q1u fun K hK=>?_;refine ev1 d3 ?_;apply hK;clear hK K;try simp only [thenA,])
    exact rest _ _ (by rw [ht];exact (by simp [sle,vle,sget,exC,]))
   by_cases k5:e.kind=5
   ·have ht:e.typed=true:=by unfold Ex.typed;rw [decide_eq_true k5,Bool.or_true]
    have d5:=decide_eq_true k5
    (refine lQ q1u fun K hK=>?_;refine ev2 k3 d5 ?_;apply hK;clear hK K;try simp only [thenA,])
    exact rest _ _ (by rw [ht];exact (by simp [sle,vle,sget,exC,]))
   have ht:e.typed=false:=by unfold Ex.typed;rw [decide_eq_false k3,decide_eq_false k5];rfl
   (refine lQ q1u fun K hK=>?_;refine ev2 k3 k5 ?_;apply hK;clear hK K;try simp only [thenA,])
   exact rest _ _ (by rw [ht];exact (by simp [sle,vle,sget,exC,]))
  ·intro j _ d hd hmem hdrop htake hlt hI
   rw [hdrop,List.all_cons] at hI
   refine AWp.seqK fun K2 hK2=>?_
   (refine sQ q1u fun K hK=>?_;refine ev1 hlt ?_;apply hK;clear hK K)
   refine AWp.goOnK rfl hK2 ?_
   clear hK2 K2
   refine AWp.seqK fun K2 hK2=>?_
   refine AWp.block ?_
   by_cases k2:e.kind=2
   ·rw [decide_eq_true k2,Bool.true_and] at hI
    have d2:=decide_eq_true k2
    (refine sQ q1u fun K hK=>?_;simp -implicitDefEqProofs only [EV,Nat.reduceEqDiff,reduceCtorEq,TF3,TF23,TF25,TF28,decide_not,d2];refine⟨by omega,_,tyR_get hd,rfl,?_⟩;(try refine ev ?_);refine⟨_,.inl ⟨_,rfl,ok_Right04 d (hn.targs d hmem),rfl⟩,?_⟩;(try refine ev ?_);apply hK;clear hK K)
    refine AWp.cond rfl (fun hc=>?_) (fun hc=>?_)
    ·refine sR q1u ?_
     simp only [Bool.not_eq_true'] at hc
     rw [hc,Bool.false_and] at hI
     rw [← hI,Bool.false_and]
     exact AWp.ret ⟨_,by rw [Tryz.results22];rfl,rfl⟩
    simp only [Bool.not_eq_false'] at hc
    rw [hc,Bool.true_and] at hI
    refine AWp.skip (hK2 _ _ ?_)
    clear hK2 K2
    (refine lQ q1u fun K hK=>?_;refine ev ?_;refine⟨by first | (unfold InR;omega) | (simp only [InR,lim] at *;omega),?_⟩;(try refine ev ?_);apply hK;clear hK K;try simp only [thenA,])
    exact⟨(),by rw [decide_eq_true k2];exact hI,(by simp [sle,vle,sget,exC,]),(by simp [ble,])⟩
   ·rw [decide_eq_false k2,Bool.false_and,Bool.false_and] at hI
    rw [← hI,Bool.false_and]
    (refine sQ q1u fun K hK=>?_;refine ev1 k2 ?_;apply hK;clear hK K)
    refine AWp.condT rfl ?_
    refine sR q1u ?_
    exact AWp.ret ⟨_,by rw [Tryz.results22];rfl,rfl⟩
 ·intro j _ d hd hmem hdrop htake hlt hI
  rw [hdrop,Ex.rightL] at hI
  refine AWp.seqK fun K2 hK2=>?_
  (refine sQ q1u fun K hK=>?_;refine ev1 hlt ?_;apply hK;clear hK K)
  refine AWp.goOnK rfl hK2 ?_
  clear hK2 K2
  refine AWp.seqK fun K2 hK2=>?_
  refine AWp.block ?_
  (refine sQ q1u fun K hK=>?_;refine ev ?_;refine⟨by omega,_,exR_get hd,rfl,?_⟩;(try refine ev ?_);refine⟨_,.inl ⟨_,rfl,ih d hmem (hn.kids d hmem),rfl⟩,?_⟩;(try refine ev ?_);apply hK;clear hK K)
  refine AWp.cond rfl (fun hc=>?_) (fun hc=>?_)
  ·refine sR q1u ?_
   simp only [Bool.not_eq_true'] at hc
   rw [hc,Bool.false_and] at hI
   rw [← hI,Bool.false_and]
   exact AWp.ret ⟨_,by rw [Tryz.results22];rfl,rfl⟩
  simp only [Bool.not_eq_false'] at hc
  rw [hc,Bool.true_and] at hI
  refine AWp.skip (hK2 _ _ ?_)
  clear hK2 K2
  (refine lQ q1u fun K hK=>?_;refine ev ?_;refine⟨by first | (unfold InR;omega) | (simp only [InR,lim] at *;omega),?_⟩;(try refine ev ?_);apply hK;clear hK K;try simp only [thenA,])
  exact⟨(),hI,(by simp [sle,vle,sget,exC,]),(by simp [ble,])⟩
def foRight (l:List Formal):Bool:=l.all fun f=>isName f.name && f.bound.right
abbrev q2u:List Nat:=[0,2,3,7,25]
theorem ok_rightFormals (l:List Formal)(hn:∀ f,f∈l→f.bound.Nn):CallOK Tryz.prog 104 [.d (.slice (foR l))] (boolV (foRight l)):=by
 refine CallB.bd (Enters.of Tryz.func104 rfl (by decide)) fun hbd=>?_
 have hll:l.length≤lim:=by have:=hbd.1;simp only [SV.bd] at this;cases this with | slice _ h1 _=>simpa [foR] using h1
 clear hbd
 (refine CallOK.of_body Tryz.func104 rfl (by decide) (by rw [Tryz.ntmps104];simp) ?_;rw [Tryz.ntmps104])
 refine sR q2u ?_
 refine AWp.seqK fun K1 hK1=>?_
 refine sR q2u ?_
 refine AWp.block (AWp.forIdx l (X:=Unit) (fun j _=>[(0,.d (.slice (foR l))),(3,intV j)]) (fun _ _=>[])
  (fun j _=>foRight (l.drop j)=foRight l) () rfl (by simp [sle,vle,sget,]) (by simp [ble,]) ?_ ?_)
 ·intro _ hI
  rw [List.drop_length] at hI
  rw [← hI] at hK1 ⊢
  refine AWp.seqK fun K2 hK2=>?_
  (refine sQ q2u fun K hK=>?_;simp -implicitDefEqProofs only [EV,Nat.reduceEqDiff,reduceCtorEq,TF46,Int.lt_irrefl];apply hK;clear hK K)
  refine AWp.stopK rfl ?_
  simp only [thenA,blockA,if_true]
  refine hK1 _ _ ?_
  refine sR q2u ?_
  exact AWp.ret ⟨_,by rw [Tryz.results104];rfl,rfl⟩
 ·intro j _ d hd hmem hdrop htake hlt hI
  rw [hdrop] at hI
  unfold foRight at hI
  rw [List.all_cons] at hI
  have hI':(isName d.name && d.bound.right && foRight (l.drop (j+1)))=foRight l:=hI
  clear hI
  refine AWp.seqK fun K2 hK2=>?_
  (refine sQ q2u fun K hK=>?_;refine ev1 hlt ?_;apply hK;clear hK K)
  refine AWp.goOnK rfl hK2 ?_
  clear hK2 K2
  refine AWp.seqK fun K2 hK2=>?_
  refine AWp.block ?_
  rcases Bool.eq_false_or_eq_true (isName d.name) with h1 | h1
  ·have his:=ok_Is d.name
   rw [h1] at his
   rw [h1,Bool.true_and] at hI'
   (refine sQ q2u fun K hK=>?_;refine ev ?_;refine⟨by omega,_,foR_get hd,rfl,?_⟩;(try refine ev ?_);refine⟨_,.inl ⟨_,rfl,his,rfl⟩,?_⟩;(try refine ev ?_);refine⟨by omega,_,foR_get hd,rfl,?_⟩;(try refine ev ?_);refine⟨_,.inl ⟨_,rfl,ok_Right04 d.bound (hn d hmem),rfl⟩,?_⟩;(try refine ev ?_);apply hK;clear hK K)
   refine AWp.cond rfl (fun hc=>?_) (fun hc=>?_)
   ·refine sR q2u ?_
    simp only [Bool.not_eq_true'] at hc
    rw [hc,Bool.false_and] at hI'
    rw [← hI']
    exact AWp.ret ⟨_,by rw [Tryz.results104];rfl,rfl⟩
   simp only [Bool.not_eq_false'] at hc
   rw [hc,Bool.true_and] at hI'
   refine AWp.skip (hK2 _ _ ?_)
   clear hK2 K2
   (refine lQ q2u fun K hK=>?_;refine ev ?_;refine⟨by first | (unfold InR;omega) | (simp only [InR,lim] at *;omega),?_⟩;(try refine ev ?_);apply hK;clear hK K;try simp only [thenA,])
   exact⟨(),hI',(by simp [sle,vle,sget,]),(by simp [ble,])⟩
  ·have his:=ok_Is d.name
   rw [h1] at his
   rw [h1,Bool.false_and,Bool.false_and] at hI'
   rw [← hI']
   (refine sQ q2u fun K hK=>?_;refine ev ?_;refine⟨by omega,_,foR_get hd,rfl,?_⟩;(try refine ev ?_);refine⟨_,.inl ⟨_,rfl,his,rfl⟩,?_⟩;(try refine ev ?_);apply hK;clear hK K)
   refine AWp.condT rfl ?_
   refine sR q2u ?_
   exact AWp.ret ⟨_,by rw [Tryz.results104];rfl,rfl⟩
def paRight (l:List Param):Bool:=l.all fun f=>isName f.name && f.type.right
abbrev q3u:List Nat:=[0,2,3,7,25]
theorem ok_rightParams (l:List Param)(hn:∀ f,f∈l→f.type.Nn):CallOK Tryz.prog 105 [.d (.slice (paR l))] (boolV (paRight l)):=by
 refine CallB.bd (Enters.of Tryz.func105 rfl (by decide)) fun hbd=>?_
 have hll:l.length≤lim:=by have:=hbd.1;simp only [SV.bd] at this;cases this with | slice _ h1 _=>simpa [paR] using h1
 clear hbd
 (refine CallOK.of_body Tryz.func105 rfl (by decide) (by rw [Tryz.ntmps105];simp) ?_;rw [Tryz.ntmps105])
 refine sR q3u ?_
 refine AWp.seqK fun K1 hK1=>?_
 refine sR q3u ?_
 refine AWp.block (AWp.forIdx l (X:=Unit) (fun j _=>[(0,.d (.slice (paR l))),(3,intV j)]) (fun _ _=>[])
  (fun j _=>paRight (l.drop j)=paRight l) () rfl (by simp [sle,vle,sget,]) (by simp [ble,]) ?_ ?_)
 ·intro _ hI
  rw [List.drop_length] at hI
  rw [← hI] at hK1 ⊢
  refine AWp.seqK fun K2 hK2=>?_
  (refine sQ q3u fun K hK=>?_;simp -implicitDefEqProofs only [EV,Nat.reduceEqDiff,reduceCtorEq,TF47,Int.lt_irrefl];apply hK;clear hK K)
  refine AWp.stopK rfl ?_
  simp only [thenA,blockA,if_true]
  refine hK1 _ _ ?_
  refine sR q3u ?_
  exact AWp.ret ⟨_,by rw [Tryz.results105];rfl,rfl⟩
 ·intro j _ d hd hmem hdrop htake hlt hI
  rw [hdrop] at hI
  unfold paRight at hI
  rw [List.all_cons] at hI
  have hI':(isName d.name && d.type.right && paRight (l.drop (j+1)))=paRight l:=hI
  clear hI
  refine AWp.seqK fun K2 hK2=>?_
  (refine sQ q3u fun K hK=>?_;refine ev1 hlt ?_;apply hK;clear hK K)
  refine AWp.goOnK rfl hK2 ?_
  clear hK2 K2
  refine AWp.seqK fun K2 hK2=>?_
  refine AWp.block ?_
  rcases Bool.eq_false_or_eq_true (isName d.name) with h1 | h1
  ·have his:=ok_Is d.name
   rw [h1] at his
   rw [h1,Bool.true_and] at hI'
   (refine sQ q3u fun K hK=>?_;refine ev ?_;refine⟨by omega,_,paR_get hd,rfl,?_⟩;(try refine ev ?_);refine⟨_,.inl ⟨_,rfl,his,rfl⟩,?_⟩;(try refine ev ?_);refine⟨by omega,_,paR_get hd,rfl,?_⟩;(try refine ev ?_);refine⟨_,.inl ⟨_,rfl,ok_Right04 d.type (hn d hmem),rfl⟩,?_⟩;(try refine ev ?_);apply hK;clear hK K)
   refine AWp.cond rfl (fun hc=>?_) (fun hc=>?_)
   ·refine sR q3u ?_
    simp only [Bool.not_eq_true'] at hc
    rw [hc,Bool.false_and] at hI'
    rw [← hI']
    exact AWp.ret ⟨_,by rw [Tryz.results105];rfl,rfl⟩
   simp only [Bool.not_eq_false'] at hc
   rw [hc,Bool.true_and] at hI'
   refine AWp.skip (hK2 _ _ ?_)
   clear hK2 K2
   (refine lQ q3u fun K hK=>?_;refine ev ?_;refine⟨by first | (unfold InR;omega) | (simp only [InR,lim] at *;omega),?_⟩;(try refine ev ?_);apply hK;clear hK K;try simp only [thenA,])
   exact⟨(),hI',(by simp [sle,vle,sget,]),(by simp [ble,])⟩
  ·have his:=ok_Is d.name
   rw [h1] at his
   rw [h1,Bool.false_and,Bool.false_and] at hI'
   rw [← hI']
   (refine sQ q3u fun K hK=>?_;refine ev ?_;refine⟨by omega,_,paR_get hd,rfl,?_⟩;(try refine ev ?_);refine⟨_,.inl ⟨_,rfl,his,rfl⟩,?_⟩;(try refine ev ?_);apply hK;clear hK K)
   refine AWp.condT rfl ?_
   refine sR q3u ?_
   exact AWp.ret ⟨_,by rw [Tryz.results105];rfl,rfl⟩
def Sig.right (s:Sig):Bool:=isName s.name && foRight s.formals && paRight s.params && s.result.right
theorem ok_rightSig (s:Sig)(hn:s.Nn):CallOK Tryz.prog 106 [siV s] (boolV s.right):=by
 have h1:=ok_Is s.name
 have h2:=ok_rightFormals s.formals hn.formals
 have h3:=ok_rightParams s.params hn.params
 have h4:=ok_Right04 s.result hn.result
 unfold Sig.right
 generalize isName s.name=b1 at *
 generalize foRight s.formals=b2 at *
 generalize paRight s.params=b3 at *
 generalize s.result.right=b4 at *
 (refine CallOK.of_body Tryz.func106 rfl (by decide) (by rw [Tryz.ntmps106];simp) ?_;rw [Tryz.ntmps106])
 refine sR [0,1,2] ?_
 cases b1 with
 | false =>
  (refine sQ [0,1,2] fun K hK=>?_;refine ev ?_;refine⟨_,.inl ⟨_,rfl,h1,rfl⟩,?_⟩;(try refine ev ?_);apply hK;clear hK K)
  exact AWp.ret ⟨_,by rw [Tryz.results106];rfl,rfl⟩
 | true =>
  cases b2 with
  | false =>
   (refine sQ [0,1,2] fun K hK=>?_;refine ev ?_;refine⟨_,.inl ⟨_,rfl,h1,rfl⟩,?_⟩;(try refine ev ?_);refine⟨_,.inl ⟨_,rfl,h2,rfl⟩,?_⟩;(try refine ev ?_);apply hK;clear hK K)
   exact AWp.ret ⟨_,by rw [Tryz.results106];rfl,rfl⟩
  | true =>
   cases b3 with
   | false =>
    (refine sQ [0,1,2] fun K hK=>?_;refine ev ?_;refine⟨_,.inl ⟨_,rfl,h1,rfl⟩,?_⟩;(try refine ev ?_);refine⟨_,.inl ⟨_,rfl,h2,rfl⟩,?_⟩;(try refine ev ?_);refine⟨_,.inl ⟨_,rfl,h3,rfl⟩,?_⟩;(try refine ev ?_);apply hK;clear hK K)
    exact AWp.ret ⟨_,by rw [Tryz.results106];rfl,rfl⟩
   | true =>
    (refine sQ [0,1,2] fun K hK=>?_;refine ev ?_;refine⟨_,.inl ⟨_,rfl,h1,rfl⟩,?_⟩;(try refine ev ?_);refine⟨_,.inl ⟨_,rfl,h2,rfl⟩,?_⟩;(try refine ev ?_);refine⟨_,.inl ⟨_,rfl,h3,rfl⟩,?_⟩;(try refine ev ?_);refine⟨_,.inl ⟨_,rfl,h4,rfl⟩,?_⟩;(try refine ev ?_);apply hK;clear hK K)
    exact AWp.ret ⟨_,by rw [Tryz.results106];rfl,rfl⟩
end Go.Abs
