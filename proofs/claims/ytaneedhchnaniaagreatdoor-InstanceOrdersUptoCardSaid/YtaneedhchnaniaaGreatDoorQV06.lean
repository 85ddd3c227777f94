/- expr.All, visit, for any rounds -/
import Derived.Test.YtaneedhchnaniaaGreatDoorQV05
import Derived.Test.YtaneedhchnaniaaGreatDoorQSB
import Derived.Test.YtaneedhchnaniaaGreatDoorQAb7
namespace Go.Abs
set_option linter.unusedSimpArgs false
set_option linter.unusedVariables false
open Go Go.Proofs Tryz
set_option maxRecDepth 100000
set_option maxHeartbeats 1000000
def allG (g:Ex→Bool)(l:List Ex):Bool:=l.all g
theorem allG_append (g:Ex→Bool)(l m:List Ex):allG g (l++m)=(allG g l && allG g m):=by simp [allG]
theorem listEL_one (e:Ex):listEL [e]=listE e:=by rw [listEL,listEL,List.append_nil]
def afterG (g:Ex→Bool)(j:Nat)(l:List Ex):Option Nat:=if allG g l=true then some (j+l.length) else none
structure FitG (g:Ex→Bool)(Y:Yld)(j:Nat)(l:List Ex):Prop where
 P:Y.P=prog
 N:j+l.length≤Y.N
 at_:∀ i e,l[i]? = some e→Y.xs (j+i)=exV e∧Y.go (j+i)=g e
theorem FitG.left {g:Ex→Bool} {Y:Yld} {j:Nat} {l m:List Ex} (h:FitG g Y j (l++m)):FitG g Y j l where
 P:=h.P
 N:=by have:=h.N;rw [List.length_append] at this;omega
 at_:=fun i e he=>h.at_ i e (by rw [List.getElem?_append_left (List.getElem?_eq_some_iff.1 he).1];exact he)
theorem FitG.right {g:Ex→Bool} {Y:Yld} {j:Nat} {l m:List Ex} (h:FitG g Y j (l++m)):FitG g Y (j+l.length) m where
 P:=h.P
 N:=by have:=h.N;rw [List.length_append] at this;omega
 at_:=fun i e he=>by
  have:=h.at_ (l.length+i) e (by rw [List.getElem?_append_right (by omega)];simpa using he)
  rw [Nat.add_assoc];exact this
abbrev q1lx:List Nat:=[0,1,4,5,7,8,9,16,1000000]
theorem ok_IndexH (g:Ex→Bool)(f:FuncId)(caps:List SV)(hco:∀ x:Ex,coerceL [] (exV x::caps)=some (exV x::caps))(Y:Yld)(l:List Ex)(hl:l.length≤lim)(j0:Nat)(hfit:FitG g Y j0 (listEL l))
  (hc:∀ e,e∈l→∀ j,FitG g Y j (listE e)→CallB prog f (exV e::caps) [(1000000,.ghost Y (some j))] (boolV (!allG g (listE e))) [(1000000,.ghost Y (afterG g j (listE e)))]) :
  CallB prog 241 [.d (.slice (exR l)),.clo f caps] [(1000000,.ghost Y (some j0))] (intV (idxF (fun e=>!allG g (listE e)) l)) [(1000000,.ghost Y (afterG g j0 (listEL l)))]:=by
 refine bB func241 ?_
 refine sR q1lx ?_
 refine kR q1lx fun K1 u1=>?_
 refine AWp.block (AWp.forIdx l (X:=Unit) (fun j _=>[(0,.d (.slice (exR l))),(1,.clo f caps),(7,intV l.length),(8,intV j)]) (fun j _=>[(1000000,.ghost Y (some (j0+(listEL (l.take j)).length)))])
  (fun j _=>allG g (listEL (l.take j))=true∧∀ y,y∈l.take j→(!allG g (listE y))=false) () (by simp [listEL,allG]) sS (by simp [ble,bget,listEL]) ?_ ?_)
 ·intro _ hI
  rw [List.take_length] at hI ⊢
  refine sR1 Int.lt_irrefl q1lx ?_
  refine AWp.stop rfl ?_
  simp only [thenA,blockA,if_true]
  refine u1 _ _ ?_
  refine sR q1lx ?_
  rw [idxF_none hI.2]
  unfold afterG
  rw [if_pos hI.1]
  exact AWp.ret ⟨_,by rw [results241];rfl,.inr rfl,by simp [ble,bget]⟩
 ·intro j _ d hd hmem dp tk hlt hI
  have hfd:FitG g Y (j0+(listEL (l.take j)).length) (listE d):=by
   have hl2:l=l.take j++(d::l.drop (j+1)):=by rw [← dp,List.take_append_drop]
   rw [hl2,listEL_append,listEL] at hfit
   exact hfit.right.left
  have hcd:=hc d hmem _ hfd
  refine sR1 hlt q1lx ?_
  refine AWp.goOn rfl ?_
  refine sK fun K2 u2=>?_
  refine AWp.block ?_
  refine sR q1lx ?_
  cases hn:allG g (listE d) with
  | true =>
   unfold afterG at hcd
   rw [hn,if_pos rfl] at hcd
   (refine AWp.seqR q1lx [700016] (by decide +kernel) fun K z=>?_;refine ev ?_;refine ci (exR_get hd) ?_;refine⟨_,_,_,hco d,hcd,rfl,?_⟩;(try refine ev ?_);apply z;clear z K)
   refine AWp.condF rfl (AWp.skip (u2 _ _ ?_))
   clear u2 K2
   (refine lV q1lx fun K z=>?_;refine⟨by first | (unfold InR;omega) | (simp only [InR,lim] at *;omega),?_⟩;(try refine ev ?_);apply z;clear z K;try simp only [thenA,])
   refine⟨(),?_,sS,?_⟩
   ·rw [tk,listEL_append,allG_append,hI.1,listEL_one,hn]
    refine⟨rfl,fun y hy=>?_⟩
    rcases List.mem_append.1 hy with hy | hy
    ·exact hI.2 y hy
    ·rw [List.mem_singleton.1 hy,hn];rfl
   ·rw [tk,listEL_append,listEL_one,List.length_append,← Nat.add_assoc]
    simp [ble,bget]
  | false =>
   unfold afterG at hcd
   rw [hn,if_neg (by decide)] at hcd
   (refine AWp.seqR q1lx [700016] (by decide +kernel) fun K z=>?_;refine ev ?_;refine ci (exR_get hd) ?_;refine⟨_,_,_,hco d,hcd,rfl,?_⟩;(try refine ev ?_);apply z;clear z K)
   refine AWp.condT rfl ?_
   refine sR q1lx ?_
   rw [idxF_some hd (by rw [hn];rfl) hI.2]
   have hl2:l=l.take j++(d::l.drop (j+1)):=by rw [← dp,List.take_append_drop]
   have hno:afterG g j0 (listEL l)=none:=by
    unfold afterG
    rw [if_neg]
    rw [hl2,listEL_append,listEL,allG_append,allG_append,hn]
    simp
   rw [hno]
   exact AWp.ret ⟨_,by rw [results241];rfl,.inr rfl,by simp [ble,bget]⟩
theorem idx_allG (g:Ex→Bool)(l:List Ex):decide (idxF (fun e=>!allG g (listE e)) l ≥ 0) = !allG g (listEL l):=by
 have hm:∀ l:List Ex,(∀ x,x∈l→allG g (listE x)=true)→allG g (listEL l)=true:=by
  intro l
  induction l with
  | nil=>intro _;simp [listEL,allG]
  | cons e l ih =>
   intro h
   rw [listEL,allG_append,h e (by simp),ih fun x hx=>h x (by simp [hx])];rfl
 unfold idxF
 cases h:l.findIdx? (fun e=>!allG g (listE e)) with
 | none =>
  have h':∀ x,x∈l→allG g (listE x)=true:=by simpa [List.findIdx?_eq_none_iff] using h
  rw [hm l h'];rfl
 | some j =>
  obtain⟨h1,h2,_⟩:=List.findIdx?_eq_some_iff_getElem.1 h
  have hd:l=l.take j++(l[j]::l.drop (j+1)):=by rw [List.getElem_cons_drop,List.take_append_drop]
  have hf:allG g (listE l[j])=false:=by simpa using h2
  rw [hd,listEL_append,listEL,allG_append,allG_append,hf]
  simp
theorem ok_ContainsH (g:Ex→Bool)(f:FuncId)(caps:List SV)(hcc:coerceL [] caps=some caps)(hco:∀ x:Ex,coerceL [] (exV x::caps)=some (exV x::caps))(Y:Yld)(l:List Ex)(hl:l.length≤lim)(j0:Nat)(hfit:FitG g Y j0 (listEL l))
  (hc:∀ e,e∈l→∀ j,FitG g Y j (listE e)→CallB prog f (exV e::caps) [(1000000,.ghost Y (some j))] (boolV (!allG g (listE e))) [(1000000,.ghost Y (afterG g j (listE e)))]) :
  CallB prog 180 [.d (.slice (exR l)),.clo f caps] [(1000000,.ghost Y (some j0))] (boolV (!allG g (listEL l))) [(1000000,.ghost Y (afterG g j0 (listEL l)))]:=by
 have h:=ok_IndexH g f caps hco Y l hl j0 hfit hc
 rw [← idx_allG g]
 generalize idxF (fun e=>!allG g (listE e)) l=k at *
 generalize afterG g j0 (listEL l)=st at *
 refine bB func180 ?_
 refine sR [0,1,4,1000000] ?_
 (refine AWp.seqR [0,1,4,1000000] [700007] (by decide +kernel) fun K z=>?_;refine ev ?_;refine⟨_,_,_,(by rw [hcc]),h,rfl,?_⟩;(try refine ev ?_);apply z;clear z K)
 exact AWp.ret ⟨_,by rw [results180];rfl,.inr rfl,by simp [ble,bget]⟩
abbrev q2lx:List Nat:=[0,1,2,3,4,5,9,1000000]
theorem ok_visitG (g:Ex→Bool)(Y:Yld):∀ (e:Ex)(j:Nat),FitG g Y j (listE e)→CallB prog 104 [exV e,.yld Y.l] [(1000000,.ghost Y (some j))] (boolV (allG g (listE e))) [(1000000,.ghost Y (afterG g j (listE e)))]:=by
 intro e
 induction e using Ex.induct with
 | h e ih =>
 intro j hfit
 refine CallB.bd (Enters.of func104 rfl (by decide)) fun hbd=>?_
 have hkl:=(ex_ok hbd.1).kids.1
 have hP:=hfit.P
 have h0:=hfit.at_ 0 e (by rw [listE_eq];rfl)
 have hN:j < Y.N:=by have:=hfit.N;rw [listE_eq,List.length_cons] at this;omega
 rw [Nat.add_zero] at h0
 have hv1:∀ k,k∈e.kids→∀ i,FitG g Y i (listE k)→CallB prog 179 [exV k,.vptr [.yld Y.l] 0] [(1000000,.ghost Y (some i))] (boolV (!allG g (listE k))) [(1000000,.ghost Y (afterG g i (listE k)))]:=by
  intro k hk i hi
  have:=ih k hk i hi
  generalize allG g (listE k)=bb at *
  generalize afterG g i (listE k)=st at *
  refine bB func179 ?_
  refine sR [0,1,2,3,1000000] ?_
  (refine AWp.seqR [0,1,2,3,1000000] [700006] (by decide +kernel) fun K z=>?_;refine ev ?_;refine⟨_,_,_,rfl,this,rfl,?_⟩;(try refine ev ?_);apply z;clear z K)
  exact AWp.ret ⟨_,by rw [results179];rfl,.inr rfl,by simp [ble,bget]⟩
 by_cases hk:g e=true
 ·have hfk:FitG g Y (j+1) (listEL e.kids):=by
   have:=hfit
   rw [listE_eq,show e::listEL e.kids=[e]++listEL e.kids from rfl] at this
   exact this.right
  have hcf:=ok_ContainsH g 179 [.vptr [.yld Y.l] 0] rfl (fun _=>rfl) Y e.kids hkl (j+1) hfk hv1
  have hlit:allG g (listE e)=allG g (listEL e.kids):=by rw [listE_eq];simp [allG,hk]
  have haft:afterG g j (listE e)=afterG g (j+1) (listEL e.kids):=by
   unfold afterG
   rw [hlit,listE_eq,List.length_cons]
   split
   ·congr 1;omega
   ·rfl
  rw [hlit,haft]
  have hgo:Y.go j=true:=by rw [h0.2,hk]
  have hnx:Y.next j=some (j+1):=by unfold Yld.next;rw [if_pos hgo]
  generalize allG g (listEL e.kids)=bb at *
  generalize afterG g (j+1) (listEL e.kids)=st at *
  refine bB func104 ?_
  refine sR q2lx ?_
  refine sK fun K1 u1=>?_
  (refine AWp.seqR q2lx [700008] (by decide +kernel) fun K z=>?_;refine ev2 hgo hnx ?_;refine⟨_,rfl,hP,hN,h0.1,?_⟩;(try refine ev2 hgo hnx ?_);apply z;clear z K)
  refine kI u1 ?_
  clear u1 K1
  refine AWp.freezeV 3 rfl rfl (wk [(0,exV e),(1,.yld Y.l),(2,.box 2 0),(3,.vptr [.yld Y.l] 0),(4,.d (.bool false))] [(2,.cells (exS e)),(1000000,.ghost Y (some (j+1)))] ?_)
  refine sR q2lx ?_
  (refine AWp.seqR q2lx [700014] (by decide +kernel) fun K z=>?_;refine ev ?_;refine⟨_,_,_,rfl,hcf,rfl,?_⟩;(try simp -implicitDefEqProofs only [EV,Nat.reduceEqDiff,reduceCtorEq,Bool.not_not]);apply z;clear z K)
  exact AWp.ret ⟨_,by rw [results104];rfl,.inr rfl,by simp [ble,bget]⟩
 ·have hgo:Y.go j=false:=by rw [h0.2];simpa using hk
  have hnx:Y.next j=none:=by unfold Yld.next;rw [if_neg (by rw [hgo];decide)]
  have hlit:allG g (listE e)=false:=by rw [listE_eq];simp [allG,hk]
  have haft:afterG g j (listE e)=none:=by unfold afterG;rw [hlit];rfl
  rw [hlit,haft]
  refine bB func104 ?_
  refine sR q2lx ?_
  refine sK fun K1 u1=>?_
  (refine AWp.seqR q2lx [700008] (by decide +kernel) fun K z=>?_;refine ev2 hgo hnx ?_;refine⟨_,rfl,hP,hN,h0.1,?_⟩;(try refine ev2 hgo hnx ?_);apply z;clear z K)
  refine tI ?_
  refine sR q2lx ?_
  exact AWp.ret ⟨_,by rw [results104];rfl,.inr rfl,by simp [ble,bget]⟩
theorem ok_ExAll (e:Ex):CallB prog 48 [exV e] [] (.clo 103 [.dptr (exC e) 0]) []:=by
 refine bB func48 ?_
 refine sR [0,1,2] ?_
 refine AWp.freeze 1 rfl rfl ?_
 refine sR [0,1,2] ?_
 exact AWp.ret ⟨_,by rw [results48];rfl,.inr rfl,by simp [ble]⟩
theorem ok_ExAll1 (g:Ex→Bool)(e:Ex)(Y:Yld)(hY:FitG g Y 0 (listE e)):CallB prog 103 [.yld Y.l,.dptr (exC e) 0] [(1000000,.ghost Y (some 0))] (.tuple []) [(1000000,.ghost Y (afterG g 0 (listE e)))]:=by
 have hv:=ok_visitG g Y e 0 hY
 refine bB func103 ?_
 (refine AWp.lastR [0,1,1000000] [700005] (by decide +kernel) fun K z=>?_;refine ev ?_;refine⟨_,_,_,rfl,hv,rfl,?_⟩;(try refine ev ?_);apply z;clear z K;try simp only [thenA,blockA,if_true])
 exact⟨_,by rw [results103];rfl,.inr rfl,by simp [ble,bget]⟩
end Go.Abs
