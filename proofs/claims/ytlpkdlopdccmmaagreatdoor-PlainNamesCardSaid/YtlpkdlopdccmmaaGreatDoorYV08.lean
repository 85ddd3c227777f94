/- castingsref05.List -/
import Derived.Test.YtlpkdlopdccmmaaGreatDoorYS54
import Derived.Test.YtlpkdlopdccmmaaGreatDoorYSB
import Derived.Test.YtlpkdlopdccmmaaGreatDoorYAb7
import Derived.Test.YtlpkdlopdccmmaaGreatDoorYS58
import Derived.Test.YtlpkdlopdccmmaaGreatDoorYS74
import Derived.Test.YtlpkdlopdccmmaaGreatDoorYS36
import Derived.Test.YtlpkdlopdccmmaaGreatDoorYAb19
namespace Go.Abs
set_option linter.unusedSimpArgs false
set_option linter.unusedVariables false
open Go Go.Proofs Tryz
set_option maxRecDepth 100000
set_option maxHeartbeats 1000000
abbrev tyS (t:Ty):List SV:=[.d (.str t.name),.d (.slice (tyR t.args)),.d (.int .i64 t.pos)]
abbrev deS (d:Decl):List SV:=[.d (.int .i64 d.kind),.d (.str d.name),.d (.slice (foR d.formals)),.d (.slice (paR d.fields)),.d (.slice (siR d.sigs)),.d (.str d.recv),.d (.slice (strR d.vars)),.d (.str d.sig.name),.d (.slice (foR d.sig.formals)),.d (.slice (paR d.sig.params)),.d (.str d.sig.result.name),.d (.slice (tyR d.sig.result.args)),.d (.int .i64 d.sig.result.pos),.d (.int .i64 d.sig.pos),.d (.int .i64 d.body.kind),.d (.str d.body.name),.d (.str d.body.type.name),.d (.slice (tyR d.body.type.args)),.d (.int .i64 d.body.type.pos),.d (.slice (tyR d.body.targs)),.d (.slice (exR d.body.kids)),.d (.int .i64 d.body.pos),.d (.int .i64 d.pos)]
mutual
def listE:Ex→List Ex
 | .mk k n t a ks q=>.mk k n t a ks q::listEL ks
def listEL:List Ex→List Ex
 | []=>[]
 | e::es=>listE e++listEL es
end
theorem listE_eq (e:Ex):listE e=e::listEL e.kids:=by cases e;rw [listE];rfl
theorem listEL_append:∀ a b:List Ex,listEL (a++b)=listEL a++listEL b
 | [],_=>rfl
 | x::a,b=>by simp only [List.cons_append,listEL,listEL_append a b,List.append_assoc]
theorem listEL_mem:∀ {l:List Ex} {x:Ex},x∈l→(listE x).length≤(listEL l).length
 | [],_,h=>by simp at h
 | y::l,x,h=>by
  rw [listEL,List.length_append]
  rcases List.mem_cons.1 h with rfl | h
  ·omega
  ·have:=listEL_mem h;omega
theorem listEL_len:∀ l:List Ex,l.length≤(listEL l).length
 | []=>Nat.le_refl _
 | y::l=>by
  have:=listEL_len l
  rw [listEL,List.length_append,listE_eq]
  simp only [List.length_cons];omega
theorem listEL_take (l:List Ex)(j:Nat):(listEL (l.take j)).length≤(listEL l).length:=by
 conv=>rhs;rw [← List.take_append_drop j l,listEL_append,List.length_append]
 omega
theorem listE_all {Q:Ex→Prop} (hq:∀ e:Ex,Q e→∀ x,x∈e.kids→Q x):∀ e:Ex,Q e→∀ x,x∈listE e→Q x:=by
 intro e
 induction e using Ex.induct with | _ e ih=>?_
 intro he x hx
 rw [listE_eq,List.mem_cons] at hx
 rcases hx with rfl | hx
 ·exact he
 have:∀ l:List Ex,(∀ y,y∈l→y∈e.kids)→x∈listEL l→Q x:=fun l=>by
  induction l with
  | nil=>intro _ h;simp [listEL] at h
  | cons y l ihl =>
   intro hl h
   rw [listEL,List.mem_append] at h
   rcases h with h | h
   ·exact ih y (hl y (by simp)) (hq e he y (hl y (by simp))) x h
   ·exact ihl (fun z hz=>hl z (by simp [hz])) h
 exact this e.kids (fun _ h=>h) hx
abbrev q1Y:List Nat:=[0,1,2,3,4,6,11]
theorem ok_RList:∀ e:Ex,(listE e).length≤sm→CallOK prog 68 [exV e] (.d (.slice (exR (listE e)))):=by
 intro e
 induction e using Ex.induct with
 | h e ih =>
 intro hl
 rw [listE_eq] at hl ⊢
 simp only [List.length_cons] at hl
 have hkl:=listEL_len e.kids
 refine cB func68 ?_
 refine sR q1Y ?_
 (refine AWp.seqR q1Y [6] (by decide +kernel) fun K z=>?_;refine ev ?_;apply z;clear z K)
 refine kR q1Y fun K1 u1=>?_
 refine AWp.block (AWp.forIdx e.kids (X:=Unit) (fun j _=>[(1,.box 1 0),(3,.acc 6),(4,intV j)]) (fun j _=>[(1,.cells (exS e)),(6,.rows 8 (exR (e::listEL (e.kids.take j))))])
  (fun j _=>True) () trivial sS (by simp [ble,bget,listEL,exR_map,exC]) ?_ ?_)
 rotate_left
 ·intro j _ u hu hmem dp tk hlt _
  have hul:=listEL_mem hmem
  have hi:=ih u hmem (by omega)
  have htl:=listEL_take e.kids j
  have htl2:=listEL_take e.kids (j+1)
  rw [tk,listEL_append] at htl2
  simp only [listEL,List.append_nil,List.length_append] at htl2
  rw [tk,listEL_append]
  simp only [listEL,List.append_nil]
  generalize listEL (e.kids.take j)=A at *
  generalize listE u=B at *
  refine kR1 hlt q1Y fun K2 u2=>?_
  refine gI u2 ?_
  clear u2 K2
  refine sK fun K2 u2=>?_
  refine AWp.block ?_
  (refine lV q1Y fun K z=>?_;refine ci (exR_get hu) ?_;refine cc hi ?_;refine⟨exR_row _,by unfold lim sm at *;omega,?_⟩;(try refine ev ?_);apply z;clear z K;try simp only [thenA,blockA])
  refine u2 _ _ ?_
  clear u2 K2
  refine lT q1Y ?_
  exact⟨(),trivial,sS,by simp [ble,bget,exR_map,exC]⟩
 intro _ _
 rw [List.take_length]
 refine kR1 Int.lt_irrefl q1Y fun K2 u2=>?_
 refine AWp.stopK rfl ?_
 simp only [thenA,blockA,if_true]
 refine u1 _ _ ?_
 refine sR q1Y ?_
 exact aR
def allG (g:Ex→Bool)(l:List Ex):Bool:=l.all g
theorem allG_append (g:Ex→Bool)(l m:List Ex):allG g (l++m)=(allG g l && allG g m):=by simp [allG]
theorem listEL_one (e:Ex):listEL [e]=listE e:=by rw [listEL,listEL,List.append_nil]
def afterG (g:Ex→Bool)(j:Nat)(l:List Ex):Option Nat:=if allG g l=true then some (j+l.length) else none
structure FitG (g:Ex→Bool)(Y:Yld)(j:Nat)(l:List Ex):Prop where
 P:Y.P=prog
 N:j+l.length≤Y.N
 at_:∀ i e,l[i]? = some e→Y.xs (j+i)=exV e∧Y.go (j+i)=g e
theorem FitG.left {g:Ex→Bool} {Y:Yld} {j:Nat} {l m:List Ex} (h:FitG g Y j (l++m)):FitG g Y j l where
 P:=h.P
 N:=by have:=h.N;rw [List.length_append] at this;omega
 at_:=fun i e he=>h.at_ i e (by rw [List.getElem?_append_left (List.getElem?_eq_some_iff.1 he).1];exact he)
theorem FitG.right {g:Ex→Bool} {Y:Yld} {j:Nat} {l m:List Ex} (h:FitG g Y j (l++m)):FitG g Y (j+l.length) m where
 P:=h.P
 N:=by have:=h.N;rw [List.length_append] at this;omega
 at_:=fun i e he=>by
  have:=h.at_ (l.length+i) e (by rw [List.getElem?_append_right (by omega)];simpa using he)
  rw [Nat.add_assoc];exact this
abbrev q1Z:List Nat:=[0,1,4,5,7,8,9,16,1000000]
theorem ok_IndexH (g:Ex→Bool)(f:FuncId)(caps:List SV)(hco:∀ x:Ex,coerceL [] (exV x::caps)=some (exV x::caps))(Y:Yld)(l:List Ex)(hl:l.length≤lim)(j0:Nat)(hfit:FitG g Y j0 (listEL l))
  (hc:∀ e,e∈l→∀ j,FitG g Y j (listE e)→CallB prog f (exV e::caps) [(1000000,.ghost Y (some j))] (boolV (!allG g (listE e))) [(1000000,.ghost Y (afterG g j (listE e)))]) :
  CallB prog 238 [.d (.slice (exR l)),.clo f caps] [(1000000,.ghost Y (some j0))] (intV (idxF (fun e=>!allG g (listE e)) l)) [(1000000,.ghost Y (afterG g j0 (listEL l)))]:=by
 refine bB func238 ?_
 refine sR q1Z ?_
 refine kR q1Z fun K1 u1=>?_
 refine AWp.block (AWp.forIdx l (X:=Unit) (fun j _=>[(0,.d (.slice (exR l))),(1,.clo f caps),(7,intV l.length),(8,intV j)]) (fun j _=>[(1000000,.ghost Y (some (j0+(listEL (l.take j)).length)))])
  (fun j _=>allG g (listEL (l.take j))=true∧∀ y,y∈l.take j→(!allG g (listE y))=false) () (by simp [listEL,allG]) sS (by simp [ble,bget,listEL]) ?_ ?_)
 ·intro _ hI
  rw [List.take_length] at hI ⊢
  refine sR1 Int.lt_irrefl q1Z ?_
  refine AWp.stop rfl ?_
  simp only [thenA,blockA,if_true]
  refine u1 _ _ ?_
  refine sR q1Z ?_
  rw [idxF_none hI.2]
  unfold afterG
  rw [if_pos hI.1]
  exact AWp.ret ⟨_,by rw [results238];rfl,.inr rfl,by simp [ble,bget]⟩
 ·intro j _ d hd hmem dp tk hlt hI
  have hfd:FitG g Y (j0+(listEL (l.take j)).length) (listE d):=by
   have hl2:l=l.take j++(d::l.drop (j+1)):=by rw [← dp,List.take_append_drop]
   rw [hl2,listEL_append,listEL] at hfit
   exact hfit.right.left
  have hcd:=hc d hmem _ hfd
  refine sR1 hlt q1Z ?_
  refine AWp.goOn rfl ?_
  refine sK fun K2 u2=>?_
  refine AWp.block ?_
  refine sR q1Z ?_
  cases hn:allG g (listE d) with
  | true =>
   unfold afterG at hcd
   rw [hn,if_pos rfl] at hcd
   (refine AWp.seqR q1Z [700016] (by decide +kernel) fun K z=>?_;refine ev ?_;refine ci (exR_get hd) ?_;refine⟨_,_,_,hco d,hcd,rfl,?_⟩;(try refine ev ?_);apply z;clear z K)
   refine AWp.condF rfl (AWp.skip (u2 _ _ ?_))
   clear u2 K2
   (refine lV q1Z fun K z=>?_;refine⟨by first | (unfold InR;omega) | (simp only [InR,lim] at *;omega),?_⟩;(try refine ev ?_);apply z;clear z K;try simp only [thenA,])
   refine⟨(),?_,sS,?_⟩
   ·rw [tk,listEL_append,allG_append,hI.1,listEL_one,hn]
    refine⟨rfl,fun y hy=>?_⟩
    rcases List.mem_append.1 hy with hy | hy
    ·exact hI.2 y hy
    ·rw [List.mem_singleton.1 hy,hn];rfl
   ·rw [tk,listEL_append,listEL_one,List.length_append,← Nat.add_assoc]
    simp [ble,bget]
  | false =>
   unfold afterG at hcd
   rw [hn,if_neg (by decide)] at hcd
   (refine AWp.seqR q1Z [700016] (by decide +kernel) fun K z=>?_;refine ev ?_;refine ci (exR_get hd) ?_;refine⟨_,_,_,hco d,hcd,rfl,?_⟩;(try refine ev ?_);apply z;clear z K)
   refine AWp.condT rfl ?_
   refine sR q1Z ?_
   rw [idxF_some hd (by rw [hn];rfl) hI.2]
   have hl2:l=l.take j++(d::l.drop (j+1)):=by rw [← dp,List.take_append_drop]
   have hno:afterG g j0 (listEL l)=none:=by
    unfold afterG
    rw [if_neg]
    rw [hl2,listEL_append,listEL,allG_append,allG_append,hn]
    simp
   rw [hno]
   exact AWp.ret ⟨_,by rw [results238];rfl,.inr rfl,by simp [ble,bget]⟩
theorem idx_allG (g:Ex→Bool)(l:List Ex):decide (idxF (fun e=>!allG g (listE e)) l ≥ 0) = !allG g (listEL l):=by
 have hm:∀ l:List Ex,(∀ x,x∈l→allG g (listE x)=true)→allG g (listEL l)=true:=by
  intro l
  induction l with
  | nil=>intro _;simp [listEL,allG]
  | cons e l ih =>
   intro h
   rw [listEL,allG_append,h e (by simp),ih fun x hx=>h x (by simp [hx])];rfl
 unfold idxF
 cases h:l.findIdx? (fun e=>!allG g (listE e)) with
 | none =>
  have h':∀ x,x∈l→allG g (listE x)=true:=by simpa [List.findIdx?_eq_none_iff] using h
  rw [hm l h'];rfl
 | some j =>
  obtain⟨h1,h2,_⟩:=List.findIdx?_eq_some_iff_getElem.1 h
  have hd:l=l.take j++(l[j]::l.drop (j+1)):=by rw [List.getElem_cons_drop,List.take_append_drop]
  have hf:allG g (listE l[j])=false:=by simpa using h2
  rw [hd,listEL_append,listEL,allG_append,allG_append,hf]
  simp
theorem ok_ContainsH (g:Ex→Bool)(f:FuncId)(caps:List SV)(hcc:coerceL [] caps=some caps)(hco:∀ x:Ex,coerceL [] (exV x::caps)=some (exV x::caps))(Y:Yld)(l:List Ex)(hl:l.length≤lim)(j0:Nat)(hfit:FitG g Y j0 (listEL l))
  (hc:∀ e,e∈l→∀ j,FitG g Y j (listE e)→CallB prog f (exV e::caps) [(1000000,.ghost Y (some j))] (boolV (!allG g (listE e))) [(1000000,.ghost Y (afterG g j (listE e)))]) :
  CallB prog 167 [.d (.slice (exR l)),.clo f caps] [(1000000,.ghost Y (some j0))] (boolV (!allG g (listEL l))) [(1000000,.ghost Y (afterG g j0 (listEL l)))]:=by
 have h:=ok_IndexH g f caps hco Y l hl j0 hfit hc
 rw [← idx_allG g]
 generalize idxF (fun e=>!allG g (listE e)) l=k at *
 generalize afterG g j0 (listEL l)=st at *
 refine bB func167 ?_
 refine sR [0,1,4,1000000] ?_
 (refine AWp.seqR [0,1,4,1000000] [700007] (by decide +kernel) fun K z=>?_;refine ev ?_;refine⟨_,_,_,(by rw [hcc]),h,rfl,?_⟩;(try refine ev ?_);apply z;clear z K)
 exact AWp.ret ⟨_,by rw [results167];rfl,.inr rfl,by simp [ble,bget]⟩
abbrev q2Z:List Nat:=[0,1,2,3,4,5,9,1000000]
theorem ok_visitG (g:Ex→Bool)(Y:Yld):∀ (e:Ex)(j:Nat),FitG g Y j (listE e)→CallB prog 116 [exV e,.yld Y.l] [(1000000,.ghost Y (some j))] (boolV (allG g (listE e))) [(1000000,.ghost Y (afterG g j (listE e)))]:=by
 intro e
 induction e using Ex.induct with
 | h e ih =>
 intro j hfit
 refine CallB.bd (Enters.of func116 rfl (by decide)) fun hbd=>?_
 have hkl:=(ex_ok hbd.1).kids.1
 have hP:=hfit.P
 have h0:=hfit.at_ 0 e (by rw [listE_eq];rfl)
 have hN:j < Y.N:=by have:=hfit.N;rw [listE_eq,List.length_cons] at this;omega
 rw [Nat.add_zero] at h0
 have hv1:∀ k,k∈e.kids→∀ i,FitG g Y i (listE k)→CallB prog 166 [exV k,.vptr [.yld Y.l] 0] [(1000000,.ghost Y (some i))] (boolV (!allG g (listE k))) [(1000000,.ghost Y (afterG g i (listE k)))]:=by
  intro k hk i hi
  have:=ih k hk i hi
  generalize allG g (listE k)=bb at *
  generalize afterG g i (listE k)=st at *
  refine bB func166 ?_
  refine sR [0,1,2,3,1000000] ?_
  (refine AWp.seqR [0,1,2,3,1000000] [700006] (by decide +kernel) fun K z=>?_;refine ev ?_;refine⟨_,_,_,rfl,this,rfl,?_⟩;(try refine ev ?_);apply z;clear z K)
  exact AWp.ret ⟨_,by rw [results166];rfl,.inr rfl,by simp [ble,bget]⟩
 by_cases hk:g e=true
 ·have hfk:FitG g Y (j+1) (listEL e.kids):=by
   have:=hfit
   rw [listE_eq,show e::listEL e.kids=[e]++listEL e.kids from rfl] at this
   exact this.right
  have hcf:=ok_ContainsH g 166 [.vptr [.yld Y.l] 0] rfl (fun _=>rfl) Y e.kids hkl (j+1) hfk hv1
  have hlit:allG g (listE e)=allG g (listEL e.kids):=by rw [listE_eq];simp [allG,hk]
  have haft:afterG g j (listE e)=afterG g (j+1) (listEL e.kids):=by
   unfold afterG
   rw [hlit,listE_eq,List.length_cons]
   split
   ·congr 1;omega
   ·rfl
  rw [hlit,haft]
  have hgo:Y.go j=true:=by rw [h0.2,hk]
  have hnx:Y.next j=some (j+1):=by unfold Yld.next;rw [if_pos hgo]
  generalize allG g (listEL e.kids)=bb at *
  generalize afterG g (j+1) (listEL e.kids)=st at *
  refine bB func116 ?_
  refine sR q2Z ?_
  refine sK fun K1 u1=>?_
  (refine AWp.seqR q2Z [700008] (by decide +kernel) fun K z=>?_;refine ev2 hgo hnx ?_;refine⟨_,rfl,hP,hN,h0.1,?_⟩;(try refine ev2 hgo hnx ?_);apply z;clear z K)
  refine kI u1 ?_
  clear u1 K1
  refine AWp.freezeV 3 rfl rfl (wk [(0,exV e),(1,.yld Y.l),(2,.box 2 0),(3,.vptr [.yld Y.l] 0),(4,.d (.bool false))] [(2,.cells (exS e)),(1000000,.ghost Y (some (j+1)))] ?_)
  refine sR q2Z ?_
  (refine AWp.seqR q2Z [700014] (by decide +kernel) fun K z=>?_;refine ev ?_;refine⟨_,_,_,rfl,hcf,rfl,?_⟩;(try simp -implicitDefEqProofs only [EV,Nat.reduceEqDiff,reduceCtorEq,Bool.not_not]);apply z;clear z K)
  exact AWp.ret ⟨_,by rw [results116];rfl,.inr rfl,by simp [ble,bget]⟩
 ·have hgo:Y.go j=false:=by rw [h0.2];simpa using hk
  have hnx:Y.next j=none:=by unfold Yld.next;rw [if_neg (by rw [hgo];decide)]
  have hlit:allG g (listE e)=false:=by rw [listE_eq];simp [allG,hk]
  have haft:afterG g j (listE e)=none:=by unfold afterG;rw [hlit];rfl
  rw [hlit,haft]
  refine bB func116 ?_
  refine sR q2Z ?_
  refine sK fun K1 u1=>?_
  (refine AWp.seqR q2Z [700008] (by decide +kernel) fun K z=>?_;refine ev2 hgo hnx ?_;refine⟨_,rfl,hP,hN,h0.1,?_⟩;(try refine ev2 hgo hnx ?_);apply z;clear z K)
  refine tI ?_
  refine sR q2Z ?_
  exact AWp.ret ⟨_,by rw [results116];rfl,.inr rfl,by simp [ble,bget]⟩
theorem ok_ExAll (e:Ex):CallB prog 58 [exV e] [] (.clo 115 [.dptr (exC e) 0]) []:=by
 refine bB func58 ?_
 refine sR [0,1,2] ?_
 refine AWp.freeze 1 rfl rfl ?_
 refine sR [0,1,2] ?_
 exact AWp.ret ⟨_,by rw [results58];rfl,.inr rfl,by simp [ble]⟩
theorem ok_ExAll1 (g:Ex→Bool)(e:Ex)(Y:Yld)(hY:FitG g Y 0 (listE e)):CallB prog 115 [.yld Y.l,.dptr (exC e) 0] [(1000000,.ghost Y (some 0))] (.tuple []) [(1000000,.ghost Y (afterG g 0 (listE e)))]:=by
 have hv:=ok_visitG g Y e 0 hY
 refine bB func115 ?_
 (refine AWp.lastR [0,1,1000000] [700005] (by decide +kernel) fun K z=>?_;refine ev ?_;refine⟨_,_,_,rfl,hv,rfl,?_⟩;(try refine ev ?_);apply z;clear z K;try simp only [thenA,blockA,if_true])
 exact⟨_,by rw [results115];rfl,.inr rfl,by simp [ble,bget]⟩
set_option maxHeartbeats 4000000
def exTs (x:Ex):List Ty:=x.targs++if x.kind=3∨x.kind=5 then [x.type] else []
def exsTs (l:List Ex):List Ty:=l.flatMap exTs
def bodyTs (e:Ex):List Ty:=exsTs (listE e)
def boundTs (l:List Formal):List Ty:=l.map (·.bound)
def paramTs (l:List Param):List Ty:=l.map (·.type)
def sigTs (s:Sig):List Ty:=boundTs s.formals++paramTs s.params++[s.result]
def sigsTs (l:List Sig):List Ty:=l.flatMap sigTs
def methTs (d:Decl):List Ty:=if d.kind=3 then sigTs d.sig++bodyTs d.body else []
def declTs (d:Decl):List Ty:=boundTs d.formals++paramTs d.fields++sigsTs d.sigs++methTs d
def declsTs (l:List Decl):List Ty:=l.flatMap declTs
def typesP (p:Prog):List Ty:=declsTs p.decls++bodyTs p.main
def bareE (e:Ex):Bool:=(listE e).all fun x=>decide (x.targs.length=0)
def bareS (l:List Sig):Bool:=l.all fun s=>decide (s.formals.length=0)
def bareD (d:Decl):Bool:=decide (d.formals.length+d.vars.length+d.sig.formals.length=0) && (bareE d.body && bareS d.sigs)
def flatT (l:List Ty):Bool:=l.all fun t=>decide (t.args.length=0)
def plainP (p:Prog):Bool:=flatT (typesP p) && (p.decls.all bareD && bareE p.main)
theorem Ty.countL_lenL:∀ (l:List Ty)(k:Int),Ty.countL l k≤2000→k+(l.length:Int)≤Ty.countL l k
 | [],k,_=>by simp [Ty.countL]
 | t::ts,k,h=>by
  simp only [Ty.countL] at h ⊢
  split at h
  ·rename_i hk
   rw [if_pos hk]
   have h1:=Ty.countL_lenL ts _ h
   have h2:=Ty.count_ge t k
   simp only [List.length_cons]
   omega
  ·omega
theorem exsTs_cons (e:Ex)(l:List Ex):exsTs (e::l)=exTs e++exsTs l:=rfl
theorem exsTs_append (a b:List Ex):exsTs (a++b)=exsTs a++exsTs b:=by simp [exsTs]
theorem exTs_len (x:Ex):(exTs x).length≤x.targs.length+1:=by
 unfold exTs
 rw [List.length_append]
 split <;> simp
mutual
theorem Ex.count_lens:∀ (e:Ex)(k:Int),e.count k≤2000→k+((listE e).length:Int)≤e.count k∧k+((bodyTs e).length:Int)≤e.count k
 | .mk kd n t a ks p,k,h=>by
  simp only [Ex.count] at h ⊢
  have h1:=Ty.count_ge t (k+((n.length / 50:Nat):Int))
  have h2:=Ty.countL_ge a (t.count (k+((n.length / 50:Nat):Int)))
  have h3:=Ex.countL_ge ks (Ty.countL a (t.count (k+((n.length / 50:Nat):Int))))
  have g2:=Ty.countL_lenL a (t.count (k+((n.length / 50:Nat):Int))) (by omega)
  obtain⟨g3,g4⟩:=Ex.countL_lens ks (Ty.countL a (t.count (k+((n.length / 50:Nat):Int)))) h
  have g5:=exTs_len (.mk kd n t a ks p)
  rw [show (Ex.mk kd n t a ks p).targs=a from rfl] at g5
  unfold bodyTs
  rw [listE,exsTs_cons]
  simp only [List.length_cons,List.length_append]
  omega
theorem Ex.countL_lens:∀ (l:List Ex)(k:Int),Ex.countL l k≤2000→k+((listEL l).length:Int)≤Ex.countL l k∧k+((exsTs (listEL l)).length:Int)≤Ex.countL l k
 | [],k,_=>by simp [Ex.countL,listEL,exsTs]
 | t::ts,k,h=>by
  simp only [Ex.countL] at h ⊢
  split at h
  ·rename_i hk
   rw [if_pos hk]
   have h1:=Ex.countL_ge ts (t.count k)
   obtain⟨h2,h3⟩:=Ex.countL_lens ts (t.count k) h
   obtain⟨h4,h5⟩:=Ex.count_lens t k (by omega)
   unfold bodyTs at h5
   rw [listEL,exsTs_append]
   simp only [List.length_append]
   omega
  ·omega
end
structure Ex.Le (e:Ex):Prop where
 list:(listE e).length≤2000
 tys:(bodyTs e).length≤2000
theorem Ex.count_Le (e:Ex)(k:Int)(h0:0≤k)(h:e.count k≤2000):e.Le:=by
 have:=Ex.count_lens e k h
 exact⟨by omega,by omega⟩
structure Sig.Le (s:Sig):Prop where
 formals:s.formals.length≤2000
 params:s.params.length≤2000
structure Decl.Le (d:Decl):Prop where
 formals:d.formals.length≤2000
 fields:d.fields.length≤2000
 sigsL:d.sigs.length≤2000
 sigs:∀ s,s∈d.sigs→s.Le
 sig:d.sig.Le
 body:d.body.Le
structure Prog.Le (p:Prog):Prop where
 declsL:p.decls.length≤2000
 decls:∀ d,d∈p.decls→d.Le
 main:p.main.Le
theorem Sig.count_Le (s:Sig)(n:Int)(h0:0≤n)(h:s.count n≤2000):s.Le:=by
 unfold Sig.count at h
 obtain⟨a1,a2⟩:=fo_Nn s.formals (n+((s.name.length / 50:Nat):Int))
 obtain⟨b1,b2⟩:=pa_Nn s.params (foCount s.formals (n+((s.name.length / 50:Nat):Int)))
 have c1:=Ty.count_ge s.result (paCount s.params (foCount s.formals (n+((s.name.length / 50:Nat):Int))))
 have a3:=(a2 (by omega) (by omega)).1
 have b3:=(b2 (by omega) (by omega)).1
 exact⟨by omega,by omega⟩
theorem si_Le:LSm siCount Sig.Le:=list_sm siCount Sig.count Sig.Le (fun _=>rfl) (fun _ _ _=>rfl) (fun x k=>(Sig.count_sm x k).1) (fun x k h0 h=>Sig.count_Le x k h0 h)
theorem Decl.count_Le (d:Decl)(n:Int)(h0:0≤n)(h:d.count n≤2000):d.Le:=by
 unfold Decl.count at h
 generalize hm:n+1+((d.name.length / 50:Nat):Int)+((d.recv.length / 50:Nat):Int)=m at h
 obtain⟨a1,a2⟩:=fo_Nn d.formals m
 obtain⟨b1,b2⟩:=pa_Nn d.fields (foCount d.formals m)
 obtain⟨c1,c2⟩:=si_Le d.sigs (paCount d.fields (foCount d.formals m))
 obtain⟨e1,e2⟩:=va_sm d.vars (siCount d.sigs (paCount d.fields (foCount d.formals m)))
 generalize hz:vaCount d.vars (siCount d.sigs (paCount d.fields (foCount d.formals m)))=z at *
 unfold Decl.count2 at h
 obtain⟨f1,_⟩:=Sig.count_sm d.sig z
 have g1:=Ex.count_ge d.body (d.sig.count z)
 split at h
 ·have a3:=(a2 (by omega) (by omega)).1
  have b3:=(b2 (by omega) (by omega)).1
  have c3:=(c2 (by omega) (by omega)).1
  exact⟨by omega,by omega,by omega,(c2 (by omega) (by omega)).2,Sig.count_Le d.sig z (by omega) (by omega),Ex.count_Le d.body (d.sig.count z) (by omega) h⟩
 ·omega
theorem de_Le:LSm deCount Decl.Le:=list_sm deCount Decl.count Decl.Le (fun _=>rfl) (fun _ _ _=>rfl) (fun x k=>(Decl.count_sm x k).1) (fun x k h0 h=>Decl.count_Le x k h0 h)
theorem Prog.count_Le (p:Prog)(h:p.count≤600):p.Le:=by
 unfold Prog.count at h
 have h1:=Ex.count_ge p.main 0
 obtain⟨a1,a2⟩:=de_Le p.decls (p.main.count 0)
 have:=(a2 (by omega) (by omega)).1
 exact⟨by omega,(a2 (by omega) (by omega)).2,Ex.count_Le p.main 0 (by omega) (by omega)⟩
theorem flat_len {α β:Type} (f:α→List β)(c:Nat):∀ l:List α,(∀ x,x∈l→(f x).length≤c)→(l.flatMap f).length≤l.length*c
 | [],_=>by simp
 | a::l,h=>by
  rw [List.flatMap_cons,List.length_append,List.length_cons,Nat.succ_mul]
  have:=flat_len f c l fun x hx=>h x (by simp [hx])
  have:=h a (by simp)
  omega
theorem sigTs_len {s:Sig} (h:s.Le):(sigTs s).length≤4001:=by
 have:=h.formals;have:=h.params
 simp only [sigTs,boundTs,paramTs,List.length_append,List.length_map,List.length_cons,List.length_nil];omega
theorem sigsTs_len {l:List Sig} (hl:l.length≤2000)(h:∀ s,s∈l→s.Le):(sigsTs l).length≤8002000:=by
 have h1:=flat_len sigTs 4001 l fun s hs=>sigTs_len (h s hs)
 have h2:l.length*4001≤2000*4001:=Nat.mul_le_mul_right _ hl
 unfold sigsTs;omega
theorem sigsTs_take {l:List Sig} (hl:l.length≤2000)(h:∀ s,s∈l→s.Le)(j:Nat):(sigsTs (l.take j)).length≤8002000 :=
 sigsTs_len (by rw [List.length_take];omega) fun s hs=>h s (List.mem_of_mem_take hs)
theorem methTs_len {d:Decl} (h:d.Le):(methTs d).length≤6001:=by
 unfold methTs
 split
 ·rw [List.length_append];have:=sigTs_len h.sig;have:=h.body.tys;omega
 ·simp
theorem declTs_len {d:Decl} (h:d.Le):(declTs d).length≤9000000:=by
 have:=sigsTs_len h.sigsL h.sigs;have:=methTs_len h;have:=h.formals;have:=h.fields
 simp only [declTs,boundTs,paramTs,List.length_append,List.length_map];omega
theorem declsTs_len {l:List Decl} (hl:l.length≤2000)(h:∀ s,s∈l→s.Le):(declsTs l).length≤18000000000:=by
 have h1:=flat_len declTs 9000000 l fun s hs=>declTs_len (h s hs)
 have h2:l.length*9000000≤2000*9000000:=Nat.mul_le_mul_right _ hl
 unfold declsTs;omega
theorem declsTs_take {l:List Decl} (hl:l.length≤2000)(h:∀ s,s∈l→s.Le)(j:Nat):(declsTs (l.take j)).length≤18000000000 :=
 declsTs_len (by rw [List.length_take];omega) fun s hs=>h s (List.mem_of_mem_take hs)
theorem typesP_len {p:Prog} (h:p.Le):(typesP p).length≤18000002000:=by
 have:=declsTs_len h.declsL h.decls;have:=h.main.tys
 unfold typesP;rw [List.length_append];omega
abbrev q1jx:List Nat:=[0,1,2,3,4,5,10,26]
theorem ok_RSigTypes (s:Sig)(hs:s.Le):CallOK prog 66 [siV s] (.d (.slice (tyR (sigTs s)))):=by
 have h1:=hs.formals
 have h2:=hs.params
 unfold sigTs
 refine cB func66 ?_
 refine sR q1jx ?_
 refine sR q1jx ?_
 refine AWp.promote 3 3 3 rfl ?_
 refine kR q1jx fun K1 u1=>?_
 refine AWp.block (AWp.forIdx s.formals (X:=Unit) (fun j _=>[(1,.box 1 0),(3,.acc 3),(4,intV j)]) (fun j _=>[(1,.cells (siL s)),(3,.rows 3 (tyR (boundTs (s.formals.take j))))])
  (fun _ _=>True) () trivial sS (by simp [ble,bget,boundTs,tyR_map]) ?_ ?_)
 rotate_left
 ·intro j _ u hu hmem dp tk hlt _
  have hjl:=(List.getElem?_eq_some_iff.1 hu).1
  rw [tk]
  refine kR1 hlt q1jx fun K2 u2=>?_
  refine gI u2 ?_
  clear u2 K2
  refine sK fun K2 u2=>?_
  refine AWp.block ?_
  (refine lV q1jx fun K z=>?_;refine ci (foR_get hu) ?_;refine⟨by simp,by (try simp only [boundTs,List.length_map,List.length_take]);unfold lim;omega,?_⟩;(try refine ev ?_);apply z;clear z K;try simp only [thenA,blockA])
  refine u2 _ _ ?_
  clear u2 K2
  (refine lV q1jx fun K z=>?_;refine cl ?_;apply z;clear z K;try simp only [thenA,])
  exact⟨(),trivial,sS,by simp [ble,bget,tyR_map,boundTs,tyC]⟩
 intro _ _
 rw [List.take_length]
 refine kR1 Int.lt_irrefl q1jx fun K2 u2=>?_
 refine AWp.stopK rfl ?_
 simp only [thenA,blockA,if_true]
 refine u1 _ _ ?_
 clear u2 K2 u1 K1
 refine kR q1jx fun K1 u1=>?_
 refine AWp.block (AWp.forIdx s.params (X:=Unit) (fun j _=>[(1,.box 1 0),(3,.acc 3),(5,intV j)]) (fun j _=>[(1,.cells (siL s)),(3,.rows 3 (tyR (boundTs s.formals++paramTs (s.params.take j))))])
  (fun _ _=>True) () trivial sS (by simp [ble,bget,paramTs,tyR_map]) ?_ ?_)
 rotate_left
 ·intro j _ u hu hmem dp tk hlt _
  have hjl:=(List.getElem?_eq_some_iff.1 hu).1
  rw [tk]
  refine kR1 hlt q1jx fun K2 u2=>?_
  refine gI u2 ?_
  clear u2 K2
  refine sK fun K2 u2=>?_
  refine AWp.block ?_
  (refine lV q1jx fun K z=>?_;refine ci (paR_get hu) ?_;refine⟨by simp,by (try simp only [boundTs,paramTs,List.length_append,List.length_map,List.length_take]);unfold lim;omega,?_⟩;(try refine ev ?_);apply z;clear z K;try simp only [thenA,blockA])
  refine u2 _ _ ?_
  clear u2 K2
  (refine lV q1jx fun K z=>?_;refine cl ?_;apply z;clear z K;try simp only [thenA,])
  exact⟨(),trivial,sS,by simp [ble,bget,tyR_map,paramTs,tyC]⟩
 intro _ _
 rw [List.take_length]
 refine kR1 Int.lt_irrefl q1jx fun K2 u2=>?_
 refine AWp.stopK rfl ?_
 simp only [thenA,blockA,if_true]
 refine u1 _ _ ?_
 clear u2 K2 u1 K1
 rw [tyR_append (boundTs s.formals++paramTs s.params),show tyR [s.result]=[tyC s.result] by simp [tyR_map]]
 (refine sV q1jx fun K z=>?_;refine⟨by simp,by (try simp only [boundTs,paramTs,List.length_append,List.length_map]);unfold lim;omega,?_⟩;(try refine ev ?_);apply z;clear z K)
 exact aR
abbrev q2jx:List Nat:=[0,1,2,3,4,5,11,34]
theorem ok_RBody (e:Ex)(he:e.Le):CallOK prog 67 [exV e] (.d (.slice (tyR (bodyTs e)))):=by
 have h1:=ok_RList e (by have:=he.list;unfold sm;omega)
 have hlen:=he.tys
 have hll:=he.list
 unfold bodyTs at *
 generalize listE e=l at *
 have htk:∀ j,(exsTs (l.take j)).length≤(exsTs l).length:=fun j=>by
  conv=>rhs;rw [← List.take_append_drop j l,exsTs_append,List.length_append]
  omega
 refine cB func67 ?_
 refine sR q2jx ?_
 refine sR q2jx ?_
 refine AWp.promote 3 3 3 rfl ?_
 refine sC h1 q2jx ?_
 refine kR q2jx fun K1 u1=>?_
 refine AWp.block (AWp.forIdx l (X:=Unit) (fun j _=>[(3,.acc 3),(4,.d (.slice (exR l))),(5,intV j)]) (fun j _=>[(3,.rows 3 (tyR (exsTs (l.take j))))])
  (fun _ _=>True) () trivial sS (by simp [ble,bget,exsTs,tyR_map]) ?_ ?_)
 rotate_left
 ·intro j _ u hu hmem dp tk hlt _
  have ht1:=htk j
  have ht2:=htk (j+1)
  rw [tk,exsTs_append,show exsTs [u]=exTs u by simp [exsTs]] at ht2
  rw [tk,exsTs_append,show exsTs [u]=exTs u by simp [exsTs]]
  rw [List.length_append] at ht2
  generalize exsTs (l.take j)=A at *
  refine kR1 hlt q2jx fun K2 u2=>?_
  refine gI u2 ?_
  clear u2 K2
  refine sK fun K2 u2=>?_
  refine AWp.block ?_
  unfold exTs at *
  rw [List.length_append] at ht2
  (refine sV q2jx fun K z=>?_;refine ci (exR_get hu) ?_;refine⟨tyR_row _,by (try simp only [tyR_map,List.length_append,List.length_map]);unfold lim;omega,?_⟩;(try refine ev ?_);apply z;clear z K)
  by_cases k3:u.kind=3
  ·have d3:decide (u.kind=3)=true:=decide_eq_true k3
   rw [if_pos (.inl k3)] at ht2 ⊢
   (refine sV q2jx fun K z=>?_;refine⟨by omega,_,exR_get hu,rfl,?_⟩;(try refine ev1 d3 ?_);apply z;clear z K)
   refine AWp.condT rfl ?_
   (refine lV q2jx fun K z=>?_;refine ci (exR_get hu) ?_;refine⟨by simp,by (try simp only [tyR_map,List.length_append,List.length_map,List.length_cons,List.length_nil] at *);unfold lim;omega,?_⟩;(try refine ev ?_);apply z;clear z K;try simp only [thenA,blockA])
   refine u2 _ _ ?_
   clear u2 K2
   (refine lV q2jx fun K z=>?_;refine cl ?_;apply z;clear z K;try simp only [thenA,])
   exact⟨(),trivial,sS,by simp [ble,bget,tyR_map,tyC,k3]⟩
  by_cases k5:u.kind=5
  ·have d5:decide (u.kind=5)=true:=decide_eq_true k5
   rw [if_pos (.inr k5)] at ht2 ⊢
   (refine sV q2jx fun K z=>?_;refine⟨by omega,_,exR_get hu,rfl,?_⟩;(try refine ev1 k3 ?_);refine⟨by omega,_,exR_get hu,rfl,?_⟩;(try refine ev1 d5 ?_);apply z;clear z K)
   refine AWp.condT rfl ?_
   (refine lV q2jx fun K z=>?_;refine ci (exR_get hu) ?_;refine⟨by simp,by (try simp only [tyR_map,List.length_append,List.length_map,List.length_cons,List.length_nil] at *);unfold lim;omega,?_⟩;(try refine ev ?_);apply z;clear z K;try simp only [thenA,blockA])
   refine u2 _ _ ?_
   clear u2 K2
   (refine lV q2jx fun K z=>?_;refine cl ?_;apply z;clear z K;try simp only [thenA,])
   exact⟨(),trivial,sS,by simp [ble,bget,tyR_map,tyC,k5]⟩
  ·rw [if_neg (by rintro (h | h) <;> contradiction),List.append_nil]
   (refine sV q2jx fun K z=>?_;refine⟨by omega,_,exR_get hu,rfl,?_⟩;(try refine ev1 k3 ?_);refine⟨by omega,_,exR_get hu,rfl,?_⟩;(try refine ev1 k5 ?_);apply z;clear z K)
   refine AWp.condF rfl (AWp.skip (u2 _ _ ?_))
   clear u2 K2
   (refine lV q2jx fun K z=>?_;refine cl ?_;apply z;clear z K;try simp only [thenA,])
   exact⟨(),trivial,sS,by simp [ble,bget,tyR_map,k3,k5]⟩
 intro _ _
 rw [List.take_length]
 refine kR1 Int.lt_irrefl q2jx fun K2 u2=>?_
 refine AWp.stopK rfl ?_
 simp only [thenA,blockA,if_true]
 refine u1 _ _ ?_
 refine sR q2jx ?_
 exact aR
abbrev q3jx:List Nat:=[0,1,2,3,4,10,19]
theorem ok_RBare (e:Ex)(he:e.Le):CallOK prog 29 [exV e] (boolV (bareE e)):=by
 have h1:=ok_RList e (by have:=he.list;unfold sm;omega)
 have hll:=he.list
 unfold bareE
 generalize listE e=l at *
 refine cB func29 ?_
 refine sR q3jx ?_
 refine sC h1 q3jx ?_
 refine kR q3jx fun K1 u1=>?_
 refine AWp.block (AWp.forIdx l (X:=Unit) (fun j _=>[(3,.d (.slice (exR l))),(4,intV j)]) (fun _ _=>[])
  (fun j _=>l.all (fun x=>decide (x.targs.length=0))=(l.drop j).all (fun x=>decide (x.targs.length=0))) () rfl sS sB ?_ ?_)
 rotate_left
 ·intro j _ u hu hmem dp tk hlt hI
  rw [dp,List.all_cons] at hI
  refine kR1 hlt q3jx fun K2 u2=>?_
  refine gI u2 ?_
  clear u2 K2
  refine sK fun K2 u2=>?_
  refine AWp.block ?_
  by_cases hz:u.targs.length=0
  ·have hg:¬ (u.targs.length:Int) > 0:=by omega
   rw [decide_eq_true hz,Bool.true_and] at hI
   (refine sV q3jx fun K z=>?_;refine⟨by omega,_,exR_get hu,rfl,?_⟩;(try refine ev1 hg ?_);apply z;clear z K)
   refine AWp.condF rfl (AWp.skip (u2 _ _ ?_))
   clear u2 K2
   (refine lV q3jx fun K z=>?_;refine cl ?_;apply z;clear z K;try simp only [thenA,])
   exact⟨(),hI,sS,sB⟩
  ·have hg:(u.targs.length:Int) > 0:=by omega
   rw [hI,decide_eq_false hz,Bool.false_and]
   (refine sV q3jx fun K z=>?_;refine⟨by omega,_,exR_get hu,rfl,?_⟩;(try refine ev1 hg ?_);apply z;clear z K)
   refine AWp.condT rfl ?_
   refine sR q3jx ?_
   exact aR
 intro _ hI
 rw [List.drop_length,List.all_nil] at hI
 rw [hI] at u1 ⊢
 refine kR1 Int.lt_irrefl q3jx fun K2 u2=>?_
 refine AWp.stopK rfl ?_
 simp only [thenA,blockA,if_true]
 refine u1 _ _ ?_
 refine sR q3jx ?_
 exact aR
abbrev q4jx:List Nat:=[0,1,2,3,4,5,6,7,8,13,25,41,57,70]
theorem ok_RTypes (p:Prog)(hp:p.Le):CallOK prog 28 [prV p] (.d (.slice (tyR (typesP p)))):=by
 have hpl:=hp.declsL
 have hmb:=ok_RBody p.main hp.main
 have hml:=hp.main.tys
 have hdl:=declsTs_take hp.declsL hp.decls
 unfold typesP
 refine cB func28 ?_
 refine sR q4jx ?_
 refine sR q4jx ?_
 refine AWp.promote 3 3 3 rfl ?_
 refine kR q4jx fun K1 u1=>?_
 refine AWp.block (AWp.forIdx p.decls (X:=Unit) (fun j _=>[(1,.box 1 0),(3,.acc 3),(4,intV j)]) (fun j _=>[(1,.cells ((prC p).map .d)),(3,.rows 3 (tyR (declsTs (p.decls.take j))))])
  (fun _ _=>True) () trivial sS (by simp [ble,bget,declsTs,tyR_map,prC]) ?_ ?_)
 rotate_left
 ·intro j _ d hd hmem dp tk hlt _
  have hdj:=hdl j
  have hde:=hp.decls d hmem
  have hdf:=hde.formals
  have hdp:=hde.fields
  have hds:=hde.sigsL
  have hst:=sigsTs_take hde.sigsL hde.sigs
  have hss:=ok_RSigTypes d.sig hde.sig
  have hsb:=ok_RBody d.body hde.body
  have hsl:=sigTs_len hde.sig
  have hbl:=hde.body.tys
  rw [tk]
  have hres:declsTs (p.decls.take j++[d])=declsTs (p.decls.take j)++boundTs d.formals++paramTs d.fields++sigsTs d.sigs++methTs d:=by simp [declsTs,declTs]
  rw [hres]
  generalize declsTs (p.decls.take j)=A at *
  refine kR1 hlt q4jx fun K2 u2=>?_
  refine gI u2 ?_
  clear u2 K2
  refine sK fun K2 u2=>?_
  refine AWp.block ?_
  (refine sV q4jx fun K z=>?_;refine ci (deR_get hd) ?_;apply z;clear z K)
  refine kR q4jx fun K3 u3=>?_
  refine AWp.block (AWp.forIdx d.formals (X:=Unit) (fun i _=>[(1,.box 1 0),(3,.acc 3),(4,intV j),(5,.box 5 0),(6,intV i)]) (fun i _=>[(1,.cells ((prC p).map .d)),(3,.rows 3 (tyR (A++boundTs (d.formals.take i)))),(5,.cells (deS d))])
   (fun _ _=>True) () trivial sS (by simp [ble,bget,boundTs,tyR_map,prC]) ?_ ?_)
  rotate_left
  ·intro i _ u hu hmem2 hdrop2 htake2 hlt2 _
   have hil:=(List.getElem?_eq_some_iff.1 hu).1
   rw [htake2]
   refine kR1 hlt2 q4jx fun K4 u4=>?_
   refine gI u4 ?_
   clear u4 K4
   refine sK fun K4 u4=>?_
   refine AWp.block ?_
   (refine lV q4jx fun K z=>?_;refine ci (foR_get hu) ?_;refine⟨by simp,by (try simp only [boundTs,List.length_append,List.length_map,List.length_take]);unfold lim;omega,?_⟩;(try refine ev ?_);apply z;clear z K;try simp only [thenA,blockA])
   refine u4 _ _ ?_
   clear u4 K4
   (refine lV q4jx fun K z=>?_;refine cl ?_;apply z;clear z K;try simp only [thenA,])
   exact⟨(),trivial,sS,by simp [ble,bget,tyR_map,boundTs,prC,tyC]⟩
  intro _ _
  rw [List.take_length]
  refine kR1 Int.lt_irrefl q4jx fun K4 u4=>?_
  refine AWp.stopK rfl ?_
  simp only [thenA,blockA,if_true]
  refine u3 _ _ ?_
  clear u4 K4 u3 K3
  refine kR q4jx fun K3 u3=>?_
  refine AWp.block (AWp.forIdx d.fields (X:=Unit) (fun i _=>[(1,.box 1 0),(3,.acc 3),(4,intV j),(5,.box 5 0),(7,intV i)]) (fun i _=>[(1,.cells ((prC p).map .d)),(3,.rows 3 (tyR (A++boundTs d.formals++paramTs (d.fields.take i)))),(5,.cells (deS d))])
   (fun _ _=>True) () trivial sS (by simp [ble,bget,paramTs,tyR_map,prC]) ?_ ?_)
  rotate_left
  ·intro i _ u hu hmem2 hdrop2 htake2 hlt2 _
   have hil:=(List.getElem?_eq_some_iff.1 hu).1
   rw [htake2]
   refine kR1 hlt2 q4jx fun K4 u4=>?_
   refine gI u4 ?_
   clear u4 K4
   refine sK fun K4 u4=>?_
   refine AWp.block ?_
   (refine lV q4jx fun K z=>?_;refine ci (paR_get hu) ?_;refine⟨by simp,by (try simp only [boundTs,paramTs,List.length_append,List.length_map,List.length_take]);unfold lim;omega,?_⟩;(try refine ev ?_);apply z;clear z K;try simp only [thenA,blockA])
   refine u4 _ _ ?_
   clear u4 K4
   (refine lV q4jx fun K z=>?_;refine cl ?_;apply z;clear z K;try simp only [thenA,])
   exact⟨(),trivial,sS,by simp [ble,bget,tyR_map,paramTs,prC,tyC]⟩
  intro _ _
  rw [List.take_length]
  refine kR1 Int.lt_irrefl q4jx fun K4 u4=>?_
  refine AWp.stopK rfl ?_
  simp only [thenA,blockA,if_true]
  refine u3 _ _ ?_
  clear u4 K4 u3 K3
  have hA2:(A++boundTs d.formals++paramTs d.fields).length≤18000004000:=by
   simp only [boundTs,paramTs,List.length_append,List.length_map];omega
  generalize A++boundTs d.formals++paramTs d.fields=A2 at *
  refine kR q4jx fun K3 u3=>?_
  refine AWp.block (AWp.forIdx d.sigs (X:=Unit) (fun i _=>[(1,.box 1 0),(3,.acc 3),(4,intV j),(5,.box 5 0),(8,intV i)]) (fun i _=>[(1,.cells ((prC p).map .d)),(3,.rows 3 (tyR (A2++sigsTs (d.sigs.take i)))),(5,.cells (deS d))])
   (fun _ _=>True) () trivial sS (by simp [ble,bget,sigsTs,tyR_map,prC]) ?_ ?_)
  rotate_left
  ·intro i _ u hu hmem2 hdrop2 htake2 hlt2 _
   have hil:=(List.getElem?_eq_some_iff.1 hu).1
   have hul:=sigTs_len (hde.sigs u hmem2)
   have hus:=ok_RSigTypes u (hde.sigs u hmem2)
   have hti:=hst i
   rw [htake2,show sigsTs (d.sigs.take i++[u])=sigsTs (d.sigs.take i)++sigTs u by simp [sigsTs],← List.append_assoc]
   generalize sigsTs (d.sigs.take i)=B at *
   generalize sigTs u=U at *
   refine kR1 hlt2 q4jx fun K4 u4=>?_
   refine gI u4 ?_
   clear u4 K4
   refine sK fun K4 u4=>?_
   refine AWp.block ?_
   (refine lV q4jx fun K z=>?_;refine ci (siR_get hu) ?_;refine cc hus ?_;refine⟨tyR_row _,by (try simp only [List.length_append]);unfold lim;omega,?_⟩;(try refine ev ?_);apply z;clear z K;try simp only [thenA,blockA])
   refine u4 _ _ ?_
   clear u4 K4
   (refine lV q4jx fun K z=>?_;refine cl ?_;apply z;clear z K;try simp only [thenA,])
   exact⟨(),trivial,sS,by simp [ble,bget,tyR_map,prC]⟩
  intro _ _
  rw [List.take_length]
  refine kR1 Int.lt_irrefl q4jx fun K4 u4=>?_
  refine AWp.stopK rfl ?_
  simp only [thenA,blockA,if_true]
  refine u3 _ _ ?_
  clear u4 K4 u3 K3
  have hst2:=sigsTs_len hde.sigsL hde.sigs
  generalize sigsTs d.sigs=B at *
  unfold methTs
  by_cases k3:d.kind=3
  ·have d3:=decide_eq_true k3
   rw [if_pos k3]
   refine sR1 d3 q4jx ?_
   refine AWp.condT rfl ?_
   (refine sV q4jx fun K z=>?_;refine cc hss ?_;refine⟨tyR_row _,by (try simp only [List.length_append]);unfold lim;omega,?_⟩;(try refine ev ?_);apply z;clear z K)
   (refine lV q4jx fun K z=>?_;refine cc hsb ?_;refine⟨tyR_row _,by (try simp only [tyR_map,List.length_append,List.length_map]);unfold lim;omega,?_⟩;(try refine ev ?_);apply z;clear z K;try simp only [thenA,blockA])
   refine u2 _ _ ?_
   clear u2 K2
   (refine lV q4jx fun K z=>?_;refine cl ?_;apply z;clear z K;try simp only [thenA,])
   exact⟨(),trivial,sS,by simp [ble,bget,tyR_map,prC,methTs,k3]⟩
  ·rw [if_neg k3,List.append_nil]
   refine sR1 k3 q4jx ?_
   refine AWp.condF rfl (AWp.skip (u2 _ _ ?_))
   clear u2 K2
   (refine lV q4jx fun K z=>?_;refine cl ?_;apply z;clear z K;try simp only [thenA,])
   exact⟨(),trivial,sS,by simp [ble,bget,tyR_map,prC,methTs,k3]⟩
 intro _ _
 rw [List.take_length]
 have hdj:=declsTs_len hp.declsL hp.decls
 refine kR1 Int.lt_irrefl q4jx fun K2 u2=>?_
 refine AWp.stopK rfl ?_
 simp only [thenA,blockA,if_true]
 refine u1 _ _ ?_
 clear u2 K2 u1 K1
 rw [tyR_append]
 (refine sV q4jx fun K z=>?_;refine cc hmb ?_;refine⟨tyR_row _,by (try simp only [tyR_map,List.length_append,List.length_map]);unfold lim;omega,?_⟩;(try refine ev ?_);apply z;clear z K)
 exact aR
abbrev q5jx:List Nat:=[0,1,2,3,4,5,6,7,13,22,27,53,58,68]
theorem ok_RPlain (p:Prog)(hp:p.Le)(hsm:p.Sm):CallOK prog 11 [prV p] (boolV (plainP p)):=by
 have h1:=ok_RTypes p hp
 have hml:=ok_RBare p.main hp.main
 have htl:=typesP_len hp
 have hpl:=hp.declsL
 unfold plainP
 generalize typesP p=l at *
 refine cB func11 ?_
 refine sR q5jx ?_
 refine sC h1 q5jx ?_
 refine kR q5jx fun K1 u1=>?_
 refine AWp.block (AWp.forIdx l (X:=Unit) (fun j _=>[(1,.box 1 0),(3,.d (.slice (tyR l))),(4,intV j)]) (fun _ _=>[(1,.cells ((prC p).map .d))])
  (fun j _=>flatT l=flatT (l.drop j)) () rfl sS (by simp [ble,bget,prC]) ?_ ?_)
 rotate_left
 ·intro j _ u hu hmem dp tk hlt hI
  rw [dp,show flatT (u::l.drop (j+1))=(decide (u.args.length=0) && flatT (l.drop (j+1))) from rfl] at hI
  refine kR1 hlt q5jx fun K2 u2=>?_
  refine gI u2 ?_
  clear u2 K2
  refine sK fun K2 u2=>?_
  refine AWp.block ?_
  by_cases hz:u.args.length=0
  ·have hg:¬ (u.args.length:Int) > 0:=by omega
   rw [decide_eq_true hz,Bool.true_and] at hI
   (refine sV q5jx fun K z=>?_;refine⟨by omega,_,tyR_get hu,rfl,?_⟩;(try refine ev1 hg ?_);apply z;clear z K)
   refine AWp.condF rfl (AWp.skip (u2 _ _ ?_))
   clear u2 K2
   (refine lV q5jx fun K z=>?_;refine cl ?_;apply z;clear z K;try simp only [thenA,])
   exact⟨(),hI,sS,by simp [ble,bget,prC]⟩
  ·have hg:(u.args.length:Int) > 0:=by omega
   rw [decide_eq_false hz,Bool.false_and] at hI
   rw [show flatT l=false from hI,Bool.false_and]
   (refine sV q5jx fun K z=>?_;refine⟨by omega,_,tyR_get hu,rfl,?_⟩;(try refine ev1 hg ?_);apply z;clear z K)
   refine AWp.condT rfl ?_
   refine sR q5jx ?_
   exact aR
 intro _ hI
 rw [List.drop_length] at hI
 rw [show flatT l=true from hI,Bool.true_and] at u1 ⊢
 clear hI
 refine kR1 Int.lt_irrefl q5jx fun K2 u2=>?_
 refine AWp.stopK rfl ?_
 simp only [thenA,blockA,if_true]
 refine u1 _ _ ?_
 clear u2 K2 u1 K1
 refine kR q5jx fun K1 u1=>?_
 refine AWp.block (AWp.forIdx p.decls (X:=Unit) (fun j _=>[(1,.box 1 0),(5,intV j)]) (fun _ _=>[(1,.cells ((prC p).map .d))])
  (fun j _=>p.decls.all bareD=(p.decls.drop j).all bareD) () rfl sS (by simp [ble,bget,prC]) ?_ ?_)
 rotate_left
 ·intro j _ d hd hmem dp tk hlt hI
  have hde:=hp.decls d hmem
  have hdsm:=hsm.decls.2 d hmem
  have hb:=ok_RBare d.body hde.body
  have hf:=hde.formals
  have hv:=hdsm.vars.1
  have hsf:=hde.sig.formals
  have hsl:=hde.sigsL
  rw [dp,List.all_cons] at hI
  have hno:(decide (d.formals.length+d.vars.length+d.sig.formals.length=0) && (bareE d.body && bareS d.sigs))=false→(p.decls.all bareD && bareE p.main)=false:=fun h=>by rw [hI,show bareD d=false from h];rfl
  have hyes:(decide (d.formals.length+d.vars.length+d.sig.formals.length=0) && (bareE d.body && bareS d.sigs))=true→p.decls.all bareD=(p.decls.drop (j+1)).all bareD:=fun h=>by rw [hI,show bareD d=true from h,Bool.true_and]
  clear hI
  generalize bareE d.body=be at *
  refine kR1 hlt q5jx fun K2 u2=>?_
  refine gI u2 ?_
  clear u2 K2
  refine sK fun K2 u2=>?_
  refine AWp.block ?_
  (refine sV q5jx fun K z=>?_;refine ci (deR_get hd) ?_;apply z;clear z K)
  refine sK fun K3 u3=>?_
  by_cases hz:d.formals.length+d.vars.length+d.sig.formals.length=0
  rotate_left
  ·have hg:(d.formals.length:Int)+(d.vars.length:Int)+(d.sig.formals.length:Int) > 0:=by omega
   rw [hno (by rw [decide_eq_false hz];rfl)]
   (refine sQ q5jx fun K z=>?_;refine ev1 hg ?_;refine⟨by first | (unfold InR;omega) | (simp only [InR,sm] at *;omega),?_⟩;(try refine ev1 hg ?_);refine⟨by first | (unfold InR;omega) | (simp only [InR,sm] at *;omega),?_⟩;(try refine ev1 hg ?_);apply z;clear z K)
   refine tI ?_
   refine sR q5jx ?_
   exact aR
  have hg:¬ (d.formals.length:Int)+(d.vars.length:Int)+(d.sig.formals.length:Int) > 0:=by omega
  rw [decide_eq_true hz,Bool.true_and] at hno hyes
  cases be with
  | false =>
   rw [hno rfl]
   (refine sQ q5jx fun K z=>?_;refine ev1 hg ?_;refine⟨by first | (unfold InR;omega) | (simp only [InR,sm,lim] at *;omega),?_⟩;(try refine ev1 hg ?_);refine⟨by first | (unfold InR;omega) | (simp only [InR,sm,lim] at *;omega),?_⟩;(try refine ev1 hg ?_);refine cc hb ?_;apply z;clear z K)
   refine tI ?_
   refine sR q5jx ?_
   exact aR
  | true =>
   rw [Bool.true_and] at hno hyes
   (refine sQ q5jx fun K z=>?_;refine ev1 hg ?_;refine⟨by first | (unfold InR;omega) | (simp only [InR,sm,lim] at *;omega),?_⟩;(try refine ev1 hg ?_);refine⟨by first | (unfold InR;omega) | (simp only [InR,sm,lim] at *;omega),?_⟩;(try refine ev1 hg ?_);refine cc hb ?_;apply z;clear z K)
   refine kI u3 ?_
   clear u3 K3
   refine sR q5jx ?_
   refine AWp.block (AWp.forIdx d.sigs (X:=Unit) (fun i _=>[(1,.box 1 0),(5,intV j),(6,.box 6 0),(7,intV i)]) (fun _ _=>[(1,.cells ((prC p).map .d)),(6,.cells (deS d))])
    (fun i _=>bareS d.sigs=bareS (d.sigs.drop i)) () rfl sS (by simp [ble,bget,prC]) ?_ ?_)
   rotate_left
   ·intro i _ u hu hmem2 hdrop2 htake2 hlt2 hI
    rw [hdrop2,show bareS (u::d.sigs.drop (i+1))=(decide (u.formals.length=0) && bareS (d.sigs.drop (i+1))) from rfl] at hI
    refine kR1 hlt2 q5jx fun K4 u4=>?_
    refine gI u4 ?_
    clear u4 K4
    refine sK fun K4 u4=>?_
    refine AWp.block ?_
    by_cases hz:u.formals.length=0
    ·have hg:¬ (u.formals.length:Int) > 0:=by omega
     rw [decide_eq_true hz,Bool.true_and] at hI
     (refine sV q5jx fun K z=>?_;refine⟨by omega,_,siR_get hu,rfl,?_⟩;(try refine ev1 hg ?_);apply z;clear z K)
     refine AWp.condF rfl (AWp.skip (u4 _ _ ?_))
     clear u4 K4
     (refine lV q5jx fun K z=>?_;refine cl ?_;apply z;clear z K;try simp only [thenA,])
     exact⟨(),hI,sS,by simp [ble,bget,prC]⟩
    ·have hg:(u.formals.length:Int) > 0:=by omega
     rw [decide_eq_false hz,Bool.false_and] at hI
     rw [hno hI]
     (refine sV q5jx fun K z=>?_;refine⟨by omega,_,siR_get hu,rfl,?_⟩;(try refine ev1 hg ?_);apply z;clear z K)
     refine AWp.condT rfl ?_
     refine sR q5jx ?_
     exact aR
   intro _ hI
   rw [List.drop_length] at hI
   refine kR1 Int.lt_irrefl q5jx fun K4 u4=>?_
   refine AWp.stopK rfl ?_
   simp only [thenA,blockA,if_true]
   refine u2 _ _ ?_
   clear u4 K4 u2 K2
   (refine lV q5jx fun K z=>?_;refine cl ?_;apply z;clear z K;try simp only [thenA,])
   exact⟨(),hyes hI,sS,by simp [ble,bget,prC]⟩
 intro _ hI
 rw [List.drop_length,List.all_nil] at hI
 rw [hI,Bool.true_and] at u1 ⊢
 clear hI
 refine kR1 Int.lt_irrefl q5jx fun K2 u2=>?_
 refine AWp.stopK rfl ?_
 simp only [thenA,blockA,if_true]
 refine u1 _ _ ?_
 clear u2 K2 u1 K1
 refine sC hml q5jx ?_
 exact aR
set_option maxHeartbeats 1000000
set_option maxHeartbeats 4000000
abbrev q1rx:List Nat:=[0,2,3,5,6,8,9,10,11,12,20,24,25,26,27,28]
theorem ok_ConcatTO (ls:List (List Ty))(hl:ls.length≤sm)(hn:(ls.map List.length).sum≤2*sm):CallB prog 99 [.d (.slice (tysL ls))] [] (.acc 24) [(24,.rows 3 (tyR ls.flatten))]:=by
 refine bB func99 ?_
 refine sR q1rx ?_
 refine sR q1rx ?_
 refine kR q1rx fun K1 u1=>?_
 refine AWp.block (AWp.forIdx ls (X:=Unit) (fun j _=>[(0,.d (.slice (tysL ls))),(3,intV (((ls.take j).map List.length).sum:Nat)),(9,.d (.slice (tysL ls))),(10,intV ls.length),(11,intV j)]) (fun _ _=>[])
  (fun j _=>True) () trivial (by simp [sle,vle,sget,tysL]) sB ?_ ?_)
 ·intro _ _
  rw [List.take_length]
  refine sR1 Int.lt_irrefl q1rx ?_
  refine AWp.stop rfl ?_
  simp only [thenA,blockA,if_true]
  refine u1 _ _ ?_
  clear u1 K1
  (refine AWp.seqR q1rx [800024] (by decide +kernel) fun K z=>?_;refine ev ?_;refine⟨_,_,_,opB_call1 24 rfl rfl rfl (ok_GrowT _ (by unfold sm at hn;omega)) rfl (by decide) rfl,?_⟩;simp only [SV.ren,one1,if_true];(try refine ev ?_);apply z;clear z K)
  refine kR q1rx fun K1 u1=>?_
  refine AWp.block (AWp.forIdx ls (X:=Unit) (fun j _=>[(6,.acc 24),(25,.d (.slice (tysL ls))),(26,intV ls.length),(27,intV j)]) (fun j _=>[(24,.rows 3 (tyR (ls.take j).flatten))])
   (fun j _=>True) () trivial (by simp [sle,vle,sget,tysL]) (by simp [ble,bget,tyR_map]) ?_ ?_)
  ·intro _ _
   rw [List.take_length]
   refine sR1 Int.lt_irrefl q1rx ?_
   refine AWp.stop rfl ?_
   simp only [thenA,blockA,if_true]
   refine u1 _ _ ?_
   clear u1 K1
   refine sR q1rx ?_
   exact AWp.ret ⟨_,by rw [results99];rfl,.inl rfl,by simp [ble,bget]⟩
  ·intro j _ d hd hmem dp tk hlt hI
   have htk:=sum_take ls (j+1)
   rw [tk,List.map_append,List.sum_append] at htk
   simp only [List.map_cons,List.map_nil,List.sum_cons,List.sum_nil,Nat.add_zero] at htk
   rw [tk,List.flatten_append,List.flatten_cons,List.flatten_nil,List.append_nil]
   refine sR1 hlt q1rx ?_
   refine AWp.goOn rfl ?_
   refine sK fun K2 u2=>?_
   refine AWp.block ?_
   (refine sV q1rx fun K z=>?_;refine ci (tysL_get hd) ?_;apply z;clear z K)
   (refine lV q1rx fun K z=>?_;refine⟨tyR_row _,by rw [List.length_flatten];unfold lim sm at *;omega,?_⟩;(try refine ev ?_);apply z;clear z K;try simp only [thenA,blockA])
   refine u2 _ _ ?_
   clear u2 K2
   refine lT q1rx ?_
   exact⟨(),trivial,sS,by simp [ble,bget,tyR_map]⟩
 ·intro j _ d hd hmem dp tk hlt hI
  have htk:=sum_take ls (j+1)
  rw [tk,List.map_append,List.sum_append] at htk
  simp only [List.map_cons,List.map_nil,List.sum_cons,List.sum_nil,Nat.add_zero] at htk
  have hnn:¬ (((((ls.take j).map List.length).sum:Nat):Int)+(d.length:Int) < 0):=by omega
  rw [tk,List.map_append,List.sum_append]
  simp only [List.map_cons,List.map_nil,List.sum_cons,List.sum_nil,Nat.add_zero]
  refine sR1 hlt q1rx ?_
  refine AWp.goOn rfl ?_
  refine sK fun K2 u2=>?_
  refine AWp.block ?_
  (refine sV q1rx fun K z=>?_;refine ci (tysL_get hd) ?_;apply z;clear z K)
  (refine sV q1rx fun K z=>?_;refine ca ?_;apply z;clear z K)
  refine sR1 hnn q1rx ?_
  refine AWp.condF rfl (AWp.skip (u2 _ _ ?_))
  clear u2 K2
  refine lT q1rx ?_
  exact⟨(),trivial,sS,sB⟩
abbrev q2rx:List Nat:=[0,2,3,5,6,7,8,9]
theorem ok_dclFormals (l:List Formal)(hl:l.length≤2000):CallOK prog 100 [.d (.slice (foR l))] (.d (.slice (tyR (boundTs l)))):=by
 refine cB func100 ?_
 refine sR q2rx ?_
 refine sR q2rx ?_
 refine AWp.promote 3 3 3 rfl ?_
 refine kR q2rx fun K1 u1=>?_
 refine AWp.block (AWp.forIdx l (X:=Unit) (fun j _=>[(3,.acc 3),(6,.d (.slice (foR l))),(7,intV l.length),(8,intV j)]) (fun j _=>[(3,.rows 3 (tyR (boundTs (l.take j))))])
  (fun _ _=>True) () trivial sS (by simp [ble,bget,boundTs,tyR_map]) ?_ ?_)
 rotate_left
 ·intro j _ u hu hmem dp tk hlt _
  have hjl:=(List.getElem?_eq_some_iff.1 hu).1
  rw [tk]
  refine sR1 hlt q2rx ?_
  refine AWp.goOn rfl ?_
  refine sK fun K2 u2=>?_
  refine AWp.block ?_
  (refine sV q2rx fun K z=>?_;refine ci (foR_get hu) ?_;apply z;clear z K)
  (refine lV q2rx fun K z=>?_;refine⟨by simp,by (try simp only [boundTs,List.length_map,List.length_take]);unfold lim;omega,?_⟩;(try refine ev ?_);apply z;clear z K;try simp only [thenA,blockA])
  refine u2 _ _ ?_
  clear u2 K2
  (refine lV q2rx fun K z=>?_;refine cl ?_;apply z;clear z K;try simp only [thenA,])
  exact⟨(),trivial,sS,by simp [ble,bget,tyR_map,boundTs,tyC]⟩
 intro _ _
 rw [List.take_length]
 refine sR1 Int.lt_irrefl q2rx ?_
 refine AWp.stop rfl ?_
 simp only [thenA,blockA,if_true]
 refine u1 _ _ ?_
 clear u1 K1
 refine sR q2rx ?_
 exact aR
abbrev q3rx:List Nat:=[0,2,3,5,6,7,8,9]
theorem ok_dclParams (l:List Param)(hl:l.length≤2000):CallOK prog 101 [.d (.slice (paR l))] (.d (.slice (tyR (paramTs l)))):=by
 refine cB func101 ?_
 refine sR q3rx ?_
 refine sR q3rx ?_
 refine AWp.promote 3 3 3 rfl ?_
 refine kR q3rx fun K1 u1=>?_
 refine AWp.block (AWp.forIdx l (X:=Unit) (fun j _=>[(3,.acc 3),(6,.d (.slice (paR l))),(7,intV l.length),(8,intV j)]) (fun j _=>[(3,.rows 3 (tyR (paramTs (l.take j))))])
  (fun _ _=>True) () trivial sS (by simp [ble,bget,paramTs,tyR_map]) ?_ ?_)
 rotate_left
 ·intro j _ u hu hmem dp tk hlt _
  have hjl:=(List.getElem?_eq_some_iff.1 hu).1
  rw [tk]
  refine sR1 hlt q3rx ?_
  refine AWp.goOn rfl ?_
  refine sK fun K2 u2=>?_
  refine AWp.block ?_
  (refine sV q3rx fun K z=>?_;refine ci (paR_get hu) ?_;apply z;clear z K)
  (refine lV q3rx fun K z=>?_;refine⟨by simp,by (try simp only [paramTs,List.length_map,List.length_take]);unfold lim;omega,?_⟩;(try refine ev ?_);apply z;clear z K;try simp only [thenA,blockA])
  refine u2 _ _ ?_
  clear u2 K2
  (refine lV q3rx fun K z=>?_;refine cl ?_;apply z;clear z K;try simp only [thenA,])
  exact⟨(),trivial,sS,by simp [ble,bget,tyR_map,paramTs,tyC]⟩
 intro _ _
 rw [List.take_length]
 refine sR1 Int.lt_irrefl q3rx ?_
 refine AWp.stop rfl ?_
 simp only [thenA,blockA,if_true]
 refine u1 _ _ ?_
 clear u1 K1
 refine sR q3rx ?_
 exact aR
theorem ok_dclSig (s:Sig)(hs:s.Le):CallOK prog 102 [siV s] (.d (.slice (tyR (sigTs s)))):=by
 have h1:=ok_dclFormals s.formals hs.formals
 have h2:=ok_dclParams s.params hs.params
 have hl1:=hs.formals
 have hl2:=hs.params
 have h3:=ok_ConcatTO [boundTs s.formals,paramTs s.params] (show 2≤sm by decide) (by simp only [List.map_cons,List.map_nil,List.sum_cons,List.sum_nil,boundTs,paramTs,List.length_map];unfold sm;omega)
 simp only [tysL,List.map_cons,List.map_nil,List.flatten_cons,List.flatten_nil,List.append_nil] at h3
 unfold sigTs
 rw [tyR_append (boundTs s.formals++paramTs s.params),show tyR [s.result]=[tyC s.result] by simp [tyR_map]]
 refine cB func102 ?_
 refine sR [0,1,2] ?_
 (refine sG [0,1,2,10] [10] 11 [⟨[],[],[],[]⟩,⟨[],[],[],[]⟩,⟨[],[],[],[]⟩,⟨[],[],[],[]⟩,⟨[],[],[],[]⟩,⟨[],[],[],[]⟩,⟨[],[],[],[]⟩,⟨[10],[10],[],[]⟩,⟨[],[],[10],[10]⟩,⟨[],[],[10],[10]⟩,⟨[],[],[10],[10]⟩] fun K z=>?_;refine ev ?_;refine cc h1 ?_;refine cc h2 ?_;refine⟨_,_,_,_,_,rfl,h3,?_⟩;(try refine ev ?_);refine⟨by simp,by (try simp only [boundTs,paramTs,List.length_append,List.length_map]);unfold lim;omega,?_⟩;(try refine ev ?_);apply z;clear z K)
 exact aR
abbrev q4rx:List Nat:=[0,1,2,3,4,6,7,19,900,2000003]
theorem ok_dclBody (e:Ex)(he:e.Le):CallOK prog 103 [exV e] (.d (.slice (tyR (bodyTs e)))):=by
 have hA:=ok_ExAll e
 have hall:afterG (fun _=>true) 0 (listE e)=some (listE e).length:=by simp [afterG,allG]
 have hlen:=he.tys
 unfold bodyTs at *
 have htk:∀ j,(exsTs ((listE e).take j)).length≤(exsTs (listE e)).length:=fun j=>by
  conv=>rhs;rw [← List.take_append_drop j (listE e),exsTs_append,List.length_append]
  omega
 refine cB func103 ?_
 refine sR q4rx ?_
 refine sR q4rx ?_
 refine AWp.promoteBox 900 3 3 0 rfl rfl (by decide) ?_
 refine kC hA q4rx fun K1 u1=>?_
 refine AWp.block (AWp.rangeFunc (caps:=[.dptr (exC e) 0]) (caps':=[.dptr (exC e) 0]) (f:=115) (r:=.tuple []) (N:=(listE e).length) (xs:=fun i=>exV (((listE e)[i]?).getD e)) (go:=fun _=>true) (jump:=.ret) (ks:=[2000003,900]) (slR:=[(3,.box 2000003 0)])
  (mb:=fun st=>match st with | some j=>[(2000003,.cells [.acc 900]),(900,.rows 3 (tyR (exsTs ((listE e).take j))))] | none=>[]) (st:=afterG (fun _=>true) 0 (listE e)) ⟨⟨_,rfl⟩,by decide,by decide,rfl,fun st=>by cases st <;> rfl,by decide,fun _=>rfl,?_⟩ (fun st=>by cases st <;> simp) rfl rfl ?_ ⟨.inr (.inl rfl),trivial⟩ ⟨rfl,rfl,trivial⟩ ?_ ?_)
 ·intro j hj hgo l
  have hx:=List.getElem?_eq_getElem hj
  have ht1:=htk j
  have ht2:=htk (j+1)
  have hfin:exsTs ((listE e).take (j+1))=exsTs ((listE e).take j)++exTs (listE e)[j]:=by rw [List.take_succ_eq_append_getElem hj,exsTs_append];simp [exsTs]
  rw [hfin,List.length_append] at ht2
  obtain⟨A,hAe⟩:∃ A,exsTs ((listE e).take j)=A:=⟨_,rfl⟩
  rw [hAe] at ht1 ht2 hfin
  generalize (listE e)[j]=x at *
  simp only [hx,Option.getD_some]
  (refine lV q4rx fun K z=>?_;apply z;clear z K;try simp only [thenA,])
  refine⟨rfl,?_⟩
  refine AWp.block ?_
  unfold exTs at *
  rw [List.length_append] at ht2
  (refine sQ q4rx fun K z=>?_;refine ev1 hAe ?_;refine⟨tyR_row _,by (try simp only [tyR_map,List.length_append,List.length_map]);unfold lim;omega,?_⟩;(try refine ev1 hAe ?_);apply z;clear z K)
  by_cases k3:x.kind=3
  ·have d3:decide (x.kind=3)=true:=decide_eq_true k3
   rw [if_pos (.inl k3)] at ht2 hfin
   refine sR1 d3 q4rx ?_
   refine AWp.condT rfl ?_
   (refine AWp.lastGZ [0,1,2,3,4,6,7,19,900,2000003] [] 9 4 23 25 [⟨[],[],[],[]⟩,⟨[],[],[],[]⟩,⟨[],[],[],[]⟩,⟨[],[],[],[]⟩,⟨[],[],[],[]⟩,⟨[900,2000003],[900,2000003],[],[]⟩,⟨[],[],[2000003],[]⟩,⟨[900],[],[2000003],[]⟩,⟨[2000003],[],[900],[]⟩] mixed (by decide +kernel) (by decide +kernel) _ rfl rfl rfl rfl rfl (by simp only [TF23]) (by simp only [TF25]) (by simp only [TF25];rfl) fun K z=>?_;refine ev ?_;refine⟨by simp,by (try simp only [tyR_map,List.length_append,List.length_map,List.length_cons,List.length_nil] at *);unfold lim;omega,?_⟩;(try refine ev ?_);refine⟨by omega,by simp,zTyW,tyC x.type,by simp,rfl,by decide,?_⟩;(try refine ev ?_);apply z;clear z K;try simp only [blockA])
   refine⟨rfl,?_⟩
   simp [ble,bget,hfin,tyR_map,tyC]
  by_cases k5:x.kind=5
  ·have d5:decide (x.kind=5)=true:=decide_eq_true k5
   rw [if_pos (.inr k5)] at ht2 hfin
   refine sR2 d5 k3 q4rx ?_
   refine AWp.condT rfl ?_
   (refine AWp.lastGZ [0,1,2,3,4,6,7,19,900,2000003] [] 9 4 23 25 [⟨[],[],[],[]⟩,⟨[],[],[],[]⟩,⟨[],[],[],[]⟩,⟨[],[],[],[]⟩,⟨[],[],[],[]⟩,⟨[900,2000003],[900,2000003],[],[]⟩,⟨[],[],[2000003],[]⟩,⟨[900],[],[2000003],[]⟩,⟨[2000003],[],[900],[]⟩] mixed (by decide +kernel) (by decide +kernel) _ rfl rfl rfl rfl rfl (by simp only [TF23]) (by simp only [TF25]) (by simp only [TF25];rfl) fun K z=>?_;refine ev ?_;refine⟨by simp,by (try simp only [tyR_map,List.length_append,List.length_map,List.length_cons,List.length_nil] at *);unfold lim;omega,?_⟩;(try refine ev ?_);refine⟨by omega,by simp,zTyW,tyC x.type,by simp,rfl,by decide,?_⟩;(try refine ev ?_);apply z;clear z K;try simp only [blockA])
   refine⟨rfl,?_⟩
   simp [ble,bget,hfin,tyR_map,tyC]
  ·rw [if_neg (by rintro (h | h) <;> contradiction),List.append_nil] at hfin
   refine sR2 k3 k5 q4rx ?_
   refine AWp.condF rfl (AWp.skip ⟨rfl,?_⟩)
   simp [ble,bget,hfin,tyR_map]
 ·intro Y hP hN hxs hg
  refine ok_ExAll1 (fun _=>true) e Y ⟨hP,by rw [hN];omega,fun i x hx=>?_⟩
  rw [hxs,hg]
  simp [hx]
 ·intro j hj _
  rw [hall] at hj
  obtain rfl:=Option.some.inj hj
  simp only [thenA,blockA]
  refine u1 _ _ (AWp.weaken (sl':=[(3,.box 3 0)]) (bx':=[(3,.cells [.acc 900]),(900,.rows 3 (tyR (exsTs (listE e))))]) ⟨.inr (.inl rfl),trivial⟩ ⟨rfl,by rw [List.take_length];rfl,trivial⟩ ?_)
  refine sR q4rx ?_
  exact aR
 ·intro hj
  rw [hall] at hj
  cases hj
abbrev q5rx:List Nat:=[0,1,4,5,7,8,9,10,11]
theorem ok_copiesT (l:List Ty)(hl:l.length≤20000000000)(hs:∀ t,t∈l→t.Sm):CallOK prog 104 [.d (.slice (tyR l)),.clo 105 []] (.d (.slice (tyR l))):=by
 refine cB func104 ?_
 refine sR q5rx ?_
 refine sR q5rx ?_
 refine AWp.promote 5 3 5 rfl ?_
 refine kR q5rx fun K1 u1=>?_
 refine AWp.block (AWp.forIdx l (X:=Unit) (fun j _=>[(1,.clo 105 []),(5,.acc 5),(8,.d (.slice (tyR l))),(9,intV l.length),(10,intV j)]) (fun j _=>[(5,.rows 3 (tyR (l.take j)))])
  (fun _ _=>True) () trivial sS (by simp [ble,bget,tyR_map]) ?_ ?_)
 rotate_left
 ·intro j _ u hu hmem dp tk hlt _
  have hjl:=(List.getElem?_eq_some_iff.1 hu).1
  have hcl:=ok_Clone u (hs u hmem)
  rw [tk]
  refine sR1 hlt q5rx ?_
  refine AWp.goOn rfl ?_
  refine sK fun K2 u2=>?_
  refine AWp.block ?_
  (refine sV q5rx fun K z=>?_;refine ci (tyR_get hu) ?_;apply z;clear z K)
  (refine lV q5rx fun K z=>?_;refine cc hcl ?_;refine⟨by simp,by (try simp only [List.length_take]);unfold lim;omega,?_⟩;(try refine ev ?_);apply z;clear z K;try simp only [thenA,blockA])
  refine u2 _ _ ?_
  clear u2 K2
  (refine lV q5rx fun K z=>?_;refine cl ?_;apply z;clear z K;try simp only [thenA,])
  exact⟨(),trivial,sS,by simp [ble,bget,tyR_map,tyC,Ty.name,Ty.args,Ty.pos]⟩
 intro _ _
 rw [List.take_length]
 refine sR1 Int.lt_irrefl q5rx ?_
 refine AWp.stop rfl ?_
 simp only [thenA,blockA,if_true]
 refine u1 _ _ ?_
 clear u1 K1
 refine sR q5rx ?_
 exact aR
def ExQ (Q:Ty→Prop)(e:Ex):Prop:=Q e.type∧∀ t,t∈e.targs→Q t
structure SigQ (Q:Ty→Prop)(s:Sig):Prop where
 formals:∀ f,f∈s.formals→Q f.bound
 params:∀ f,f∈s.params→Q f.type
 result:Q s.result
structure DeclQ (Q:Ty→Prop)(d:Decl):Prop where
 formals:∀ f,f∈d.formals→Q f.bound
 fields:∀ f,f∈d.fields→Q f.type
 sigs:∀ s,s∈d.sigs→SigQ Q s
 sig:SigQ Q d.sig
 body:∀ x,x∈listE d.body→ExQ Q x
theorem typesP_all {Q:Ty→Prop} {p:Prog} (hd:∀ d,d∈p.decls→DeclQ Q d)(hm:∀ x,x∈listE p.main→ExQ Q x):∀ t,t∈typesP p→Q t:=by
 have hbo:∀ e:Ex,(∀ x,x∈listE e→ExQ Q x)→∀ t,t∈bodyTs e→Q t:=by
  intro e he t ht
  unfold bodyTs exsTs at ht
  obtain⟨x,hx,ht⟩:=List.mem_flatMap.1 ht
  obtain⟨h1,h2⟩:=he x hx
  unfold exTs at ht
  rcases List.mem_append.1 ht with ht | ht
  ·exact h2 t ht
  ·split at ht
   ·simp only [List.mem_cons,List.not_mem_nil,or_false] at ht
    rw [ht];exact h1
   ·simp at ht
 have hsg:∀ s:Sig,SigQ Q s→∀ t,t∈sigTs s→Q t:=by
  intro s hs t ht
  simp only [sigTs,boundTs,paramTs,List.mem_append,List.mem_map,List.mem_cons,List.not_mem_nil,or_false] at ht
  rcases ht with (⟨f,hf,rfl⟩ | ⟨f,hf,rfl⟩) | rfl
  ·exact hs.formals f hf
  ·exact hs.params f hf
  ·exact hs.result
 intro t ht
 unfold typesP declsTs at ht
 rcases List.mem_append.1 ht with ht | ht
 ·obtain⟨d,hdm,ht⟩:=List.mem_flatMap.1 ht
  have hds:=hd d hdm
  unfold declTs at ht
  simp only [List.mem_append] at ht
  rcases ht with ((ht | ht) | ht) | ht
  ·obtain⟨f,hf,rfl⟩:=List.mem_map.1 ht
   exact hds.formals f hf
  ·obtain⟨f,hf,rfl⟩:=List.mem_map.1 ht
   exact hds.fields f hf
  ·unfold sigsTs at ht
   obtain⟨s,hs,ht⟩:=List.mem_flatMap.1 ht
   exact hsg s (hds.sigs s hs) t ht
  ·unfold methTs at ht
   split at ht
   ·rcases List.mem_append.1 ht with ht | ht
    ·exact hsg d.sig hds.sig t ht
    ·exact hbo d.body hds.body t ht
   ·simp at ht
 ·exact hbo p.main hm t ht
theorem typesP_Sm {p:Prog} (h:p.Sm):∀ t,t∈typesP p→t.Sm:=by
 have hx:∀ e:Ex,e.Sm→∀ x,x∈listE e→ExQ Ty.Sm x:=fun e he x hx=>by
  have:=listE_all (Q:=Ex.Sm) (fun e h x hx=>h.kids.2 x hx) e he x hx
  exact⟨this.type,this.targs.2⟩
 have hs:∀ s:Sig,s.Sm→SigQ Ty.Sm s:=fun s hs=>⟨fun f hf=>(hs.formals.2 f hf).bound,fun f hf=>(hs.params.2 f hf).type,hs.result⟩
 refine typesP_all (fun d hd=>?_) (hx p.main h.main)
 have hd:=h.decls.2 d hd
 exact⟨fun f hf=>(hd.formals.2 f hf).bound,fun f hf=>(hd.fields.2 f hf).type,fun s hm=>hs s (hd.sigs.2 s hm),hs _ hd.sig,hx _ hd.body⟩
abbrev q6rx:List Nat:=[0,1,2,3,5,7,9,10,11,12,26,27,28,29,39]
theorem ok_dclTypes (p:Prog)(hp:p.Le)(hsm:p.Sm):CallOK prog 41 [prV p] (.d (.slice (tyR (typesP p)))):=by
 have hpl:=hp.declsL
 have hmb:=ok_dclBody p.main hp.main
 have hml:=hp.main.tys
 have hdl:=declsTs_take hp.declsL hp.decls
 have hcp:=ok_copiesT (typesP p) (by have:=typesP_len hp;omega) (typesP_Sm hsm)
 unfold typesP at hcp ⊢
 rw [tyR_append] at hcp ⊢
 refine cB func41 ?_
 refine sR q6rx ?_
 refine sR q6rx ?_
 refine AWp.promote 3 3 3 rfl ?_
 refine kR q6rx fun K1 u1=>?_
 refine AWp.block (AWp.forIdx p.decls (X:=Unit) (fun j _=>[(1,.box 1 0),(3,.acc 3),(9,.d (.slice (deR p.decls))),(10,intV p.decls.length),(11,intV j)]) (fun j _=>[(1,.cells ((prC p).map .d)),(3,.rows 3 (tyR (declsTs (p.decls.take j))))])
  (fun _ _=>True) () trivial sS (by simp [ble,bget,declsTs,tyR_map,prC]) ?_ ?_)
 rotate_left
 ·intro j _ d hd hmem dp tk hlt _
  have hdj:=hdl j
  have hde:=hp.decls d hmem
  have hdf:=hde.formals
  have hdp:=hde.fields
  have hds:=hde.sigsL
  have hst:=sigsTs_take hde.sigsL hde.sigs
  have hff:=ok_dclFormals d.formals hdf
  have hfp:=ok_dclParams d.fields hdp
  have hss:=ok_dclSig d.sig hde.sig
  have hsb:=ok_dclBody d.body hde.body
  have hsl:=sigTs_len hde.sig
  have hbl:=hde.body.tys
  have hc1:=ok_ConcatT [boundTs d.formals,paramTs d.fields] (show 2≤sm by decide) (by simp only [List.map_cons,List.map_nil,List.sum_cons,List.sum_nil,boundTs,paramTs,List.length_map];unfold sm;omega)
  have hc2:=ok_ConcatT [sigTs d.sig,bodyTs d.body] (show 2≤sm by decide) (by simp only [List.map_cons,List.map_nil,List.sum_cons,List.sum_nil];unfold sm;omega)
  simp only [tysL,List.map_cons,List.map_nil,List.flatten_cons,List.flatten_nil,List.append_nil] at hc1 hc2
  rw [tk]
  have hres:declsTs (p.decls.take j++[d])=declsTs (p.decls.take j)++(boundTs d.formals++paramTs d.fields)++sigsTs d.sigs++methTs d:=by simp [declsTs,declTs]
  rw [hres]
  have hc1l:(boundTs d.formals++paramTs d.fields).length≤4000:=by simp only [boundTs,paramTs,List.length_append,List.length_map];omega
  generalize declsTs (p.decls.take j)=A at *
  generalize boundTs d.formals++paramTs d.fields=FP at *
  refine sR1 hlt q6rx ?_
  refine AWp.goOn rfl ?_
  refine sK fun K2 u2=>?_
  refine AWp.block ?_
  (refine sV q6rx fun K z=>?_;refine ci (deR_get hd) ?_;apply z;clear z K)
  (refine sG q6rx [] 9 [] fun K z=>?_;refine ev ?_;refine cc hff ?_;refine cc hfp ?_;refine cc hc1 ?_;refine⟨tyR_row _,by (try simp only [tyR_map,List.length_map]);unfold lim;omega,?_⟩;(try refine ev ?_);apply z;clear z K)
  refine kR q6rx fun K3 u3=>?_
  refine AWp.block (AWp.forIdx d.sigs (X:=Unit) (fun i _=>[(1,.box 1 0),(3,.acc 3),(5,.box 5 0),(9,.d (.slice (deR p.decls))),(10,intV p.decls.length),(11,intV j),(26,.d (.slice (siR d.sigs))),(27,intV d.sigs.length),(28,intV i)]) (fun i _=>[(1,.cells ((prC p).map .d)),(3,.rows 3 (tyR (A++FP++sigsTs (d.sigs.take i)))),(5,.cells (deS d))])
   (fun _ _=>True) () trivial sS (by simp [ble,bget,sigsTs,tyR_map,prC]) ?_ ?_)
  rotate_left
  ·intro i _ u hu hmem2 hdrop2 htake2 hlt2 _
   have hil:=(List.getElem?_eq_some_iff.1 hu).1
   have hul:=sigTs_len (hde.sigs u hmem2)
   have hus:=ok_dclSig u (hde.sigs u hmem2)
   have hti:=hst i
   rw [htake2,show sigsTs (d.sigs.take i++[u])=sigsTs (d.sigs.take i)++sigTs u by simp [sigsTs],← List.append_assoc]
   generalize sigsTs (d.sigs.take i)=B at *
   generalize sigTs u=U at *
   refine sR1 hlt2 q6rx ?_
   refine AWp.goOn rfl ?_
   refine sK fun K4 u4=>?_
   refine AWp.block ?_
   (refine sV q6rx fun K z=>?_;refine ci (siR_get hu) ?_;apply z;clear z K)
   (refine lV q6rx fun K z=>?_;refine cc hus ?_;refine⟨tyR_row _,by (try simp only [List.length_append]);unfold lim;omega,?_⟩;(try refine ev ?_);apply z;clear z K;try simp only [thenA,blockA])
   refine u4 _ _ ?_
   clear u4 K4
   (refine lV q6rx fun K z=>?_;refine cl ?_;apply z;clear z K;try simp only [thenA,])
   exact⟨(),trivial,sS,by simp [ble,bget,tyR_map,prC]⟩
  intro _ _
  rw [List.take_length]
  refine sR1 Int.lt_irrefl q6rx ?_
  refine AWp.stop rfl ?_
  simp only [thenA,blockA,if_true]
  refine u3 _ _ ?_
  clear u3 K3
  have hst2:=sigsTs_len hde.sigsL hde.sigs
  generalize sigsTs d.sigs=B at *
  by_cases k3:d.kind=3
  ·have d3:=decide_eq_true k3
   have hml:(sigTs d.sig++bodyTs d.body).length≤6001:=by rw [List.length_append];omega
   have hme:methTs d=sigTs d.sig++bodyTs d.body:=by unfold methTs;rw [if_pos k3]
   generalize sigTs d.sig++bodyTs d.body=M at *
   refine sR1 d3 q6rx ?_
   refine AWp.condT rfl ?_
   (refine lG q6rx [] 9 [] fun K z=>?_;refine ev ?_;refine cc hss ?_;refine cc hsb ?_;refine cc hc2 ?_;refine⟨tyR_row _,by (try simp only [List.length_append]);unfold lim;omega,?_⟩;(try refine ev ?_);apply z;clear z K;try simp only [thenA,blockA])
   refine u2 _ _ ?_
   clear u2 K2
   (refine lV q6rx fun K z=>?_;refine cl ?_;apply z;clear z K;try simp only [thenA,])
   exact⟨(),trivial,sS,by simp [ble,bget,tyR_map,prC,hme]⟩
  ·have hme:methTs d=[]:=by unfold methTs;rw [if_neg k3]
   refine sR1 k3 q6rx ?_
   refine AWp.condF rfl (AWp.skip (u2 _ _ ?_))
   clear u2 K2
   (refine lV q6rx fun K z=>?_;refine cl ?_;apply z;clear z K;try simp only [thenA,])
   exact⟨(),trivial,sS,by simp [ble,bget,tyR_map,prC,hme]⟩
 intro _ _
 rw [List.take_length]
 have hdj:=declsTs_len hp.declsL hp.decls
 refine sR1 Int.lt_irrefl q6rx ?_
 refine AWp.stop rfl ?_
 simp only [thenA,blockA,if_true]
 refine u1 _ _ ?_
 clear u1 K1
 refine AWp.seqRP [1,2] [] 5 3 [(1,.box 1 0),(55,.d (.slice (tyR (declsTs p.decls)++tyR (bodyTs p.main))))] [(1,.cells ((prC p).map .d))] (by decide +kernel) (by decide +kernel) ?_ fun K hK=>?_
 ·refine ev ?_
  refine⟨_,.inl ⟨_,rfl,hmb,rfl⟩,?_⟩
  (try refine ev ?_)
  refine⟨tyR_row _,by (try simp only [tyR_map,List.length_append,List.length_map]);unfold lim;omega,?_⟩
  (try simp -implicitDefEqProofs only [EV,forall_const,implies_true,Nat.reduceAdd,Nat.reduceEqDiff,Nat.reduceBEq,Nat.reduceLeDiff,Nat.reduceSub,Nat.reduceMul,Int.reduceEq,Int.reduceLT,Int.reduceLE,Int.reduceSub,Int.reduceAdd,Int.reduceToNat,reduceCtorEq,Int.reduceNeg,TF3,TF4,TF9,TF22,TF23,TF28,TF30,TF47,TF48,TF49,TF51,TF53,TF55,TF114,TF205,TF25])
  exact⟨_,_,rfl,⟨.inr (.inl rfl),.inr (.inl rfl),trivial⟩,⟨rfl,trivial⟩⟩
 refine ev ?_
 refine⟨_,.inl ⟨_,rfl,hcp,rfl⟩,?_⟩
 (try refine ev ?_)
 refine hK _ _ ?_
 clear hK K
 exact aR
theorem ok_every1D (f:FuncId)(ys:List D)(x:Decl)(b:Bool)(h:FnOK prog (.cl f ys) [deV x] (boolV b)):CallOK prog 118 [deV x,.dptr [.cl f ys] 0] (boolV (!b)):=by
 refine cB func118 ?_
 refine sR [0,1,2,3] ?_
 (refine sV [0,1,2,3] fun K z=>?_;refine⟨_,opQ_callFn rfl h rfl,?_⟩;(try refine ev ?_);apply z;clear z K)
 exact aR
theorem ok_every1S (f:FuncId)(ys:List D)(x:Sig)(b:Bool)(h:FnOK prog (.cl f ys) [siV x] (boolV b)):CallOK prog 120 [siV x,.dptr [.cl f ys] 0] (boolV (!b)):=by
 refine cB func120 ?_
 refine sR [0,1,2,3] ?_
 (refine sV [0,1,2,3] fun K z=>?_;refine⟨_,opQ_callFn rfl h rfl,?_⟩;(try refine ev ?_);apply z;clear z K)
 exact aR
theorem ok_everyD (f:FuncId)(ys:List D)(p:Decl→Bool)(l:List Decl)(hl:l.length≤sm)(h:∀ x,x∈l→FnOK prog (.cl f ys) [deV x] (boolV (p x))):CallOK prog 59 [.d (.slice (deR l)),.d (.cl f ys)] (boolV (l.all p)):=by
 have hc:=ok_AnyD 118 [.ptr [.cl f ys]] (fun x=>!p x) l hl fun x hx=>⟨_,[.dptr [.cl f ys] 0],_,_,rfl,⟨⟨rfl,rfl⟩,trivial⟩,rfl,ok_every1D f ys x _ (h x hx)⟩
 have e:l.all p = !(l.any fun x=>!p x):=by rw [List.not_any_eq_all_not];simp
 rw [e]
 generalize l.any (fun x=>!p x)=b at *
 refine cB func59 ?_
 refine sR [0,1,3,4] ?_
 (refine AWp.freeze 3 rfl rfl (wk [(0,.d (.slice (deR l))),(3,.dptr [.cl f ys] 0)] [] ?_))
 (refine AWp.seqR [0,1,3,4] [800006] (by decide +kernel) fun K z=>?_;refine ev ?_;refine⟨_,opQ_cl (xs:=[.dptr [.cl f ys] 0]) (ys:=[.ptr [.cl f ys]]) ⟨⟨rfl,rfl⟩,trivial⟩ rfl,?_⟩;(try refine ev ?_);refine cc hc ?_;apply z;clear z K)
 exact aR
theorem ok_everyS (f:FuncId)(ys:List D)(p:Sig→Bool)(l:List Sig)(hl:l.length≤sm)(h:∀ x,x∈l→FnOK prog (.cl f ys) [siV x] (boolV (p x))):CallOK prog 61 [.d (.slice (siR l)),.d (.cl f ys)] (boolV (l.all p)):=by
 have hc:=ok_AnyS 120 [.ptr [.cl f ys]] (fun x=>!p x) l hl fun x hx=>⟨_,[.dptr [.cl f ys] 0],_,_,rfl,⟨⟨rfl,rfl⟩,trivial⟩,rfl,ok_every1S f ys x _ (h x hx)⟩
 have e:l.all p = !(l.any fun x=>!p x):=by rw [List.not_any_eq_all_not];simp
 rw [e]
 generalize l.any (fun x=>!p x)=b at *
 refine cB func61 ?_
 refine sR [0,1,3,4] ?_
 (refine AWp.freeze 3 rfl rfl (wk [(0,.d (.slice (siR l))),(3,.dptr [.cl f ys] 0)] [] ?_))
 (refine AWp.seqR [0,1,3,4] [800006] (by decide +kernel) fun K z=>?_;refine ev ?_;refine⟨_,opQ_cl (xs:=[.dptr [.cl f ys] 0]) (ys:=[.ptr [.cl f ys]]) ⟨⟨rfl,rfl⟩,trivial⟩ rfl,?_⟩;(try refine ev ?_);refine cc hc ?_;apply z;clear z K)
 exact aR
theorem ok_plain1 (s:Sig):CallOK prog 56 [siV s] (boolV (decide (s.formals.length=0))):=by
 have e:decide (s.formals.length=0)=decide ((s.formals.length:Int)=0):=by simp
 rw [e]
 refine cB func56 ?_
 refine sR [0,1,2] ?_
 refine sR [0,1,2] ?_
 exact aR
abbrev q7rx:List Nat:=[0,1,2,3,5,6,10,2000002]
theorem ok_plain2 (e:Ex):CallOK prog 57 [exV e] (boolV (bareE e)):=by
 have hA:=ok_ExAll e
 have hbe:bareE e=allG (fun x=>decide (x.targs.length=0)) (listE e):=rfl
 rw [hbe]
 refine cB func57 ?_
 refine sR q7rx ?_
 refine kC hA q7rx fun K1 u1=>?_
 refine AWp.block (AWp.rangeFunc (caps:=[.dptr (exC e) 0]) (caps':=[.dptr (exC e) 0]) (f:=115) (r:=.tuple []) (N:=(listE e).length) (xs:=fun i=>exV (((listE e)[i]?).getD e)) (go:=fun i=>decide ((((listE e)[i]?).getD e).targs.length=0)) (jump:=.ret) (ks:=[2000002]) (slR:=[(2,.box 2000002 0)])
  (mb:=fun _=>[(2000002,.cells [.d (.bool false)])]) (st:=afterG (fun x=>decide (x.targs.length=0)) 0 (listE e)) ⟨⟨_,rfl⟩,by decide,by decide,rfl,fun _=>rfl,by decide,fun _=>rfl,?_⟩ (fun _=>by simp) rfl rfl ?_ ⟨.inr (.inl rfl),trivial⟩ ⟨rfl,trivial⟩ ?_ ?_)
 ·intro j hj hgo l
  have hx:=List.getElem?_eq_getElem hj
  generalize (listE e)[j]=x at hx
  simp only [hx,Option.getD_some]
  (refine lV q7rx fun K z=>?_;apply z;clear z K;try simp only [thenA,])
  refine⟨rfl,?_⟩
  refine AWp.block ?_
  by_cases hz:x.targs.length=0
  ·have hg:¬ (x.targs.length:Int) > 0:=by omega
   refine sR1 hg q7rx ?_
   refine AWp.condF rfl (AWp.skip ⟨?_,⟨rfl,trivial⟩⟩)
   simp only [hx,Option.getD_some]
   exact decide_eq_true hz
  ·have hg:(x.targs.length:Int) > 0:=by omega
   refine sR1 hg q7rx ?_
   refine AWp.condT rfl ?_
   refine sR q7rx ?_
   refine AWp.ret ⟨?_,rfl,⟨rfl,trivial⟩⟩
   simp only [hx,Option.getD_some]
   exact decide_eq_false hz
 ·intro Y hP hN hxs hg
  refine ok_ExAll1 _ e Y ⟨hP,by rw [hN];omega,fun i x hx=>?_⟩
  rw [hxs,hg]
  simp [hx]
 ·intro j hj _
  have hlit:allG (fun x=>decide (x.targs.length=0)) (listE e)=true:=by
   unfold afterG at hj
   cases h:allG (fun x=>decide (x.targs.length=0)) (listE e) with
   | true=>rfl
   | false=>rw [h] at hj;simp at hj
  simp only [thenA,blockA]
  refine u1 _ _ (wk [(2,.box 2 0)] [(2,.cells [.d (.bool false)])] ?_)
  refine sR q7rx ?_
  rw [hlit]
  exact aR
 ·intro hj
  have hlit:allG (fun x=>decide (x.targs.length=0)) (listE e)=false:=by
   unfold afterG at hj
   cases h:allG (fun x=>decide (x.targs.length=0)) (listE e) with
   | true=>rw [h] at hj;simp at hj
   | false=>rfl
  rw [hlit]
  exact⟨_,by rw [results57];rfl,rfl⟩
abbrev pl1:D:=.cl 56 []
abbrev pl2:D:=.cl 57 []
theorem fn_plain1 (s:Sig):FnOK prog pl1 [siV s] (boolV (decide (s.formals.length=0))):=⟨_,[],_,_,rfl,trivial,rfl,ok_plain1 s⟩
theorem fn_plain2 (e:Ex):FnOK prog pl2 [exV e] (boolV (bareE e)):=⟨_,[],_,_,rfl,trivial,rfl,ok_plain2 e⟩
abbrev q8rx:List Nat:=[0,1,2,3,4]
theorem ok_plain3 (d:Decl)(hd:d.Sm):CallOK prog 60 [deV d,.dptr [pl1] 0,.dptr [pl2] 0] (boolV (bareD d)):=by
 have h1:=ok_everyS 56 [] (fun s=>decide (s.formals.length=0)) d.sigs hd.sigs.1 fun s _=>fn_plain1 s
 have h2:=fn_plain1 d.sig
 have h3:=fn_plain2 d.body
 rw [show (d.sigs.all fun s=>decide (s.formals.length=0))=bareS d.sigs from rfl] at h1
 have e:bareD d=(decide (d.formals.length=0) && (decide (d.vars.length=0) && (bareS d.sigs && (decide (d.sig.formals.length=0) && bareE d.body)))):=by
  unfold bareD
  rw [Bool.eq_iff_iff]
  simp only [Bool.and_eq_true,decide_eq_true_eq]
  constructor
  ·rintro⟨a,b,c⟩;exact⟨by omega,by omega,c,by omega,b⟩
  ·rintro⟨a,b,c,f,g⟩;exact⟨by omega,g,c⟩
 rw [e]
 generalize bareS d.sigs=bs at *
 generalize bareE d.body=be at *
 by_cases g1:d.formals.length=0
 rotate_left
 ·have g1':¬ (d.formals.length:Int)=0:=by omega
  rw [decide_eq_false g1,Bool.false_and]
  refine cB func60 ?_
  refine sR q8rx ?_
  refine sR1 g1' q8rx ?_
  exact aR
 have g1':(d.formals.length:Int)=0:=by omega
 have d1:decide ((d.formals.length:Int)=0)=true:=decide_eq_true g1'
 rw [decide_eq_true g1,Bool.true_and]
 by_cases g2:d.vars.length=0
 rotate_left
 ·have g2':¬ (d.vars.length:Int)=0:=by omega
  rw [decide_eq_false g2,Bool.false_and]
  refine cB func60 ?_
  refine sR q8rx ?_
  refine sR2 d1 g2' q8rx ?_
  exact aR
 have g2':(d.vars.length:Int)=0:=by omega
 have d2:decide ((d.vars.length:Int)=0)=true:=decide_eq_true g2'
 rw [decide_eq_true g2,Bool.true_and]
 cases bs with
 | false =>
  refine cB func60 ?_
  refine sR q8rx ?_
  (refine sQ q8rx fun K z=>?_;refine ev2 d1 d2 ?_;refine cc h1 ?_;apply z;clear z K)
  exact aR
 | true =>
  rw [Bool.true_and]
  by_cases g3:d.sig.formals.length=0
  ·rw [decide_eq_true g3] at h2 ⊢
   rw [Bool.true_and]
   refine cB func60 ?_
   refine sR q8rx ?_
   (refine sQ q8rx fun K z=>?_;refine ev2 d1 d2 ?_;refine cc h1 ?_;refine⟨_,opQ_callFn rfl h2 rfl,?_⟩;(try refine ev ?_);refine⟨_,opQ_callFn rfl h3 rfl,?_⟩;(try refine ev ?_);apply z;clear z K)
   exact aR
  ·rw [decide_eq_false g3] at h2 ⊢
   rw [Bool.false_and]
   refine cB func60 ?_
   refine sR q8rx ?_
   (refine sQ q8rx fun K z=>?_;refine ev2 d1 d2 ?_;refine cc h1 ?_;refine⟨_,opQ_callFn rfl h2 rfl,?_⟩;(try refine ev ?_);apply z;clear z K)
   exact aR
abbrev q9rx:List Nat:=[0,1,2,4,5,6,8,9,10,11,17]
theorem ok_dclPlain (p:Prog)(hp:p.Le)(hsm:p.Sm):CallOK prog 23 [prV p] (boolV (plainP p)):=by
 have h1:=ok_dclTypes p hp hsm
 have h2:=fn_plain2 p.main
 have h3:=ok_everyD 60 [.ptr [pl1],.ptr [pl2]] bareD p.decls hsm.decls.1 fun d hd=>⟨_,[.dptr [pl1] 0,.dptr [pl2] 0],_,_,rfl,⟨⟨rfl,rfl⟩,⟨rfl,rfl⟩,trivial⟩,rfl,ok_plain3 d (hsm.decls.2 d hd)⟩
 have htl:=typesP_len hp
 have e:plainP p=(flatT (typesP p) && (bareE p.main && p.decls.all bareD)):=by unfold plainP;rw [Bool.and_comm (p.decls.all bareD)]
 rw [e]
 generalize typesP p=l at *
 generalize p.decls.all bareD=b2 at *
 generalize bareE p.main=b1 at *
 have TZ1:tzero prog 95=some [.d .nilfn]:=by kernel_rfl
 have TZ2:tzero prog 58=some [.d .nilfn]:=by kernel_rfl
 have TS1:tsize prog 95=some 1:=by kernel_rfl
 have TS2:tsize prog 58=some 1:=by kernel_rfl
 have TA2:tagg prog 58=some false:=by kernel_rfl
 refine cB func23 ?_
 refine sR q9rx ?_
 refine kC h1 q9rx fun K1 u1=>?_
 refine AWp.block (AWp.forIdx l (X:=Unit) (fun j _=>[(1,.box 1 0),(8,.d (.slice (tyR l))),(9,intV l.length),(10,intV j)]) (fun _ _=>[(1,.cells ((prC p).map .d))])
  (fun j _=>flatT l=flatT (l.drop j)) () rfl sS (by simp [ble,bget,prC]) ?_ ?_)
 rotate_left
 ·intro j _ u hu hmem dp tk hlt hI
  rw [dp,show flatT (u::l.drop (j+1))=(decide (u.args.length=0) && flatT (l.drop (j+1))) from rfl] at hI
  refine sR1 hlt q9rx ?_
  refine AWp.goOn rfl ?_
  refine sK fun K2 u2=>?_
  refine AWp.block ?_
  (refine sV q9rx fun K z=>?_;refine ci (tyR_get hu) ?_;apply z;clear z K)
  by_cases hz:u.args.length=0
  ·have hg:¬ (u.args.length:Int) > 0:=by omega
   rw [decide_eq_true hz,Bool.true_and] at hI
   refine sR1 hg q9rx ?_
   refine AWp.condF rfl (AWp.skip (u2 _ _ ?_))
   clear u2 K2
   (refine lV q9rx fun K z=>?_;refine cl ?_;apply z;clear z K;try simp only [thenA,])
   exact⟨(),hI,sS,by simp [ble,bget,prC]⟩
  ·have hg:(u.args.length:Int) > 0:=by omega
   rw [decide_eq_false hz,Bool.false_and] at hI
   rw [show flatT l=false from hI,Bool.false_and]
   refine sR1 hg q9rx ?_
   refine AWp.condT rfl ?_
   refine sR q9rx ?_
   exact aR
 intro _ hI
 rw [List.drop_length] at hI
 rw [show flatT l=true from hI,Bool.true_and] at u1 ⊢
 clear hI
 refine sR1 Int.lt_irrefl q9rx ?_
 refine AWp.stop rfl ?_
 simp only [thenA,blockA,if_true]
 refine u1 _ _ ?_
 clear u1 K1
 refine sR2 TZ1 TS1 q9rx ?_
 refine sR2 TZ2 TS2 q9rx ?_
 refine AWp.freezeP 5 rfl rfl ?_
 refine AWp.freezeP 6 rfl rfl ?_
 refine wk [(1,.box 1 0),(5,.dptr [pl1] 0),(6,.dptr [pl2] 0)] [(1,.cells ((prC p).map .d))] ?_
 cases b1 with
 | false =>
  (refine sQ q9rx fun K z=>?_;refine ev1 TA2 ?_;refine⟨_,opQ_callFn rfl h2 rfl,?_⟩;(try refine ev ?_);apply z;clear z K)
  exact aR
 | true =>
  rw [Bool.true_and]
  (refine AWp.seqR q9rx [800026] (by decide +kernel) fun K z=>?_;refine ev1 TA2 ?_;refine⟨_,opQ_callFn rfl h2 rfl,?_⟩;(try refine ev ?_);refine⟨_,opQ_cl (xs:=[.dptr [pl1] 0,.dptr [pl2] 0]) (ys:=[.ptr [pl1],.ptr [pl2]]) ⟨⟨rfl,rfl⟩,⟨rfl,rfl⟩,trivial⟩ rfl,?_⟩;(try refine ev ?_);refine cc h3 ?_;apply z;clear z K)
  exact aR
end Go.Abs
