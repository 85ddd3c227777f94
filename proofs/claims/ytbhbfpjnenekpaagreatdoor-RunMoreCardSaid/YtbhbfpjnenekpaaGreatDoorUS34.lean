/- expr.All, visit: the nodes of an expression in order, for a range over a function; expr.Value; step.first -/
import Derived.Test.YtbhbfpjnenekpaaGreatDoorUSB
import Derived.Test.YtbhbfpjnenekpaaGreatDoorUAb7
namespace Go.Abs
set_option linter.unusedSimpArgs false
set_option linter.unusedVariables false
open Go Go.Proofs Tryz
set_option maxRecDepth 100000
set_option maxHeartbeats 1000000
mutual
def Ex.nodes:Ex→List Ex
 | .mk k n t a ks p=>.mk k n t a ks p::Ex.nodesL ks
def Ex.nodesL:List Ex→List Ex
 | []=>[]
 | e::es=>e.nodes++Ex.nodesL es
end
theorem nodes_eq (e:Ex):e.nodes=e::Ex.nodesL e.kids:=by
 cases e with | mk k n t a ks p=>rw [Ex.nodes];rfl
theorem nodesL_append:∀ l m:List Ex,Ex.nodesL (l++m)=Ex.nodesL l++Ex.nodesL m
 | [],m=>by rw [Ex.nodesL];rfl
 | e::l,m=>by rw [List.cons_append,Ex.nodesL,Ex.nodesL,nodesL_append l m,List.append_assoc]
theorem nodesL_one (e:Ex):Ex.nodesL [e]=e.nodes:=by rw [Ex.nodesL,Ex.nodesL,List.append_nil]
def litB (l:List Ex):Bool:=l.all fun e=>decide (e.kind=3)
theorem litB_append (l m:List Ex):litB (l++m)=(litB l && litB m):=by simp [litB]
def afterN (j:Nat)(l:List Ex):Option Nat:=if litB l=true then some (j+l.length) else none
structure Fits (Y:Yld)(j:Nat)(l:List Ex):Prop where
 P:Y.P=prog
 N:j+l.length≤Y.N
 at_:∀ i e,l[i]? = some e→Y.xs (j+i)=exV e∧Y.go (j+i)=decide (e.kind=3)
theorem Fits.left {Y:Yld} {j:Nat} {l m:List Ex} (h:Fits Y j (l++m)):Fits Y j l where
 P:=h.P
 N:=by have:=h.N;rw [List.length_append] at this;omega
 at_:=fun i e he=>h.at_ i e (by rw [List.getElem?_append_left (List.getElem?_eq_some_iff.1 he).1];exact he)
theorem Fits.right {Y:Yld} {j:Nat} {l m:List Ex} (h:Fits Y j (l++m)):Fits Y (j+l.length) m where
 P:=h.P
 N:=by have:=h.N;rw [List.length_append] at this;omega
 at_:=fun i e he=>by
  have:=h.at_ (l.length+i) e (by rw [List.getElem?_append_right (by omega)];simpa using he)
  rw [Nat.add_assoc];exact this
abbrev q1R:List Nat:=[0,1,4,5,7,8,9,16,1000000]
theorem ok_IndexG (f:FuncId)(caps:List SV)(hco:∀ x:Ex,coerceL [] (exV x::caps)=some (exV x::caps))(Y:Yld)(l:List Ex)(hl:l.length≤lim)(j0:Nat)(hfit:Fits Y j0 (Ex.nodesL l))
  (hc:∀ e,e∈l→∀ j,Fits Y j e.nodes→CallB prog f (exV e::caps) [(1000000,.ghost Y (some j))] (boolV (!litB e.nodes)) [(1000000,.ghost Y (afterN j e.nodes))]) :
  CallB prog 286 [.d (.slice (exR l)),.clo f caps] [(1000000,.ghost Y (some j0))] (intV (idxF (fun e=>!litB e.nodes) l)) [(1000000,.ghost Y (afterN j0 (Ex.nodesL l)))]:=by
 refine bB func286 ?_
 refine sR q1R ?_
 refine kR q1R fun K1 u1=>?_
 refine AWp.block (AWp.forIdx l (X:=Unit) (fun j _=>[(0,.d (.slice (exR l))),(1,.clo f caps),(7,intV l.length),(8,intV j)]) (fun j _=>[(1000000,.ghost Y (some (j0+(Ex.nodesL (l.take j)).length)))])
  (fun j _=>litB (Ex.nodesL (l.take j))=true∧∀ y,y∈l.take j→(!litB y.nodes)=false) () (by simp [Ex.nodesL,litB]) sS (by simp [ble,bget,Ex.nodesL]) ?_ ?_)
 ·intro _ hI
  rw [List.take_length] at hI ⊢
  refine sR1 Int.lt_irrefl q1R ?_
  refine AWp.stop rfl ?_
  simp only [thenA,blockA,if_true]
  refine u1 _ _ ?_
  refine sR q1R ?_
  rw [idxF_none hI.2]
  unfold afterN
  rw [if_pos hI.1]
  exact AWp.ret ⟨_,by rw [results286];rfl,.inr rfl,by simp [ble,bget]⟩
 ·intro j _ d hd hmem dp tk hlt hI
  have hfd:Fits Y (j0+(Ex.nodesL (l.take j)).length) d.nodes:=by
   have hl2:l=l.take j++(d::l.drop (j+1)):=by rw [← dp,List.take_append_drop]
   rw [hl2,nodesL_append,Ex.nodesL] at hfit
   exact hfit.right.left
  have hcd:=hc d hmem _ hfd
  refine sR1 hlt q1R ?_
  refine AWp.goOn rfl ?_
  refine sK fun K2 u2=>?_
  refine AWp.block ?_
  refine sR q1R ?_
  cases hn:litB d.nodes with
  | true =>
   unfold afterN at hcd
   rw [hn,if_pos rfl] at hcd
   (refine AWp.seqR q1R [700016] (by decide +kernel) fun K z=>?_;refine ev ?_;refine ci (exR_get hd) ?_;refine⟨_,_,_,hco d,hcd,rfl,?_⟩;(try refine ev ?_);apply z;clear z K)
   refine AWp.condF rfl (AWp.skip (u2 _ _ ?_))
   clear u2 K2
   (refine lV q1R fun K z=>?_;refine cl ?_;apply z;clear z K;try simp only [thenA,blockA,if_true])
   refine⟨(),?_,sS,?_⟩
   ·rw [tk,nodesL_append,litB_append,hI.1,nodesL_one,hn]
    refine⟨rfl,fun y hy=>?_⟩
    rcases List.mem_append.1 hy with hy | hy
    ·exact hI.2 y hy
    ·rw [List.mem_singleton.1 hy,hn];rfl
   ·rw [tk,nodesL_append,nodesL_one,List.length_append,← Nat.add_assoc]
    simp [ble,bget,berase]
  | false =>
   unfold afterN at hcd
   rw [hn,if_neg (by decide)] at hcd
   (refine AWp.seqR q1R [700016] (by decide +kernel) fun K z=>?_;refine ev ?_;refine ci (exR_get hd) ?_;refine⟨_,_,_,hco d,hcd,rfl,?_⟩;(try refine ev ?_);apply z;clear z K)
   refine AWp.condT rfl ?_
   refine sR q1R ?_
   rw [idxF_some hd (by rw [hn];rfl) hI.2]
   have hl2:l=l.take j++(d::l.drop (j+1)):=by rw [← dp,List.take_append_drop]
   have hno:afterN j0 (Ex.nodesL l)=none:=by
    unfold afterN
    rw [if_neg]
    rw [hl2,nodesL_append,Ex.nodesL,litB_append,litB_append,hn]
    simp
   rw [hno]
   exact AWp.ret ⟨_,by rw [results286];rfl,.inr rfl,by simp [ble,bget]⟩
theorem idx_lit (l:List Ex):decide (idxF (fun e=>!litB e.nodes) l ≥ 0) = !litB (Ex.nodesL l):=by
 have hm:∀ l:List Ex,(∀ x,x∈l→litB x.nodes=true)→litB (Ex.nodesL l)=true:=by
  intro l
  induction l with
  | nil=>intro _;simp [Ex.nodesL,litB]
  | cons e l ih =>
   intro h
   rw [Ex.nodesL,litB_append,h e (by simp),ih fun x hx=>h x (by simp [hx])];rfl
 unfold idxF
 cases h:l.findIdx? (fun e=>!litB e.nodes) with
 | none =>
  have h':∀ x,x∈l→litB x.nodes=true:=by simpa [List.findIdx?_eq_none_iff] using h
  rw [hm l h'];rfl
 | some j =>
  obtain⟨h1,h2,_⟩:=List.findIdx?_eq_some_iff_getElem.1 h
  have hd:l=l.take j++(l[j]::l.drop (j+1)):=by rw [List.getElem_cons_drop,List.take_append_drop]
  have hf:litB l[j].nodes=false:=by simpa using h2
  rw [hd,nodesL_append,Ex.nodesL,litB_append,litB_append,hf]
  simp
theorem ok_ContainsG (f:FuncId)(caps:List SV)(hcc:coerceL [] caps=some caps)(hco:∀ x:Ex,coerceL [] (exV x::caps)=some (exV x::caps))(Y:Yld)(l:List Ex)(hl:l.length≤lim)(j0:Nat)(hfit:Fits Y j0 (Ex.nodesL l))
  (hc:∀ e,e∈l→∀ j,Fits Y j e.nodes→CallB prog f (exV e::caps) [(1000000,.ghost Y (some j))] (boolV (!litB e.nodes)) [(1000000,.ghost Y (afterN j e.nodes))]) :
  CallB prog 341 [.d (.slice (exR l)),.clo f caps] [(1000000,.ghost Y (some j0))] (boolV (!litB (Ex.nodesL l))) [(1000000,.ghost Y (afterN j0 (Ex.nodesL l)))]:=by
 have h:=ok_IndexG f caps hco Y l hl j0 hfit hc
 rw [← idx_lit]
 generalize idxF (fun e=>!litB e.nodes) l=k at *
 generalize afterN j0 (Ex.nodesL l)=st at *
 refine bB func341 ?_
 refine sR [0,1,4,1000000] ?_
 (refine AWp.seqR [0,1,4,1000000] [700007] (by decide +kernel) fun K z=>?_;refine ev ?_;refine⟨_,_,_,(by rw [hcc]),h,rfl,?_⟩;(try refine ev ?_);apply z;clear z K)
 exact AWp.ret ⟨_,by rw [results341];rfl,.inr rfl,by simp [ble,bget]⟩
abbrev q2R:List Nat:=[0,1,2,3,4,5,9,1000000]
theorem ok_visit (Y:Yld):∀ (e:Ex)(j:Nat),Fits Y j e.nodes→CallB prog 334 [exV e,.yld Y.l] [(1000000,.ghost Y (some j))] (boolV (litB e.nodes)) [(1000000,.ghost Y (afterN j e.nodes))]:=by
 intro e
 induction e using Ex.induct with
 | h e ih =>
 intro j hfit
 refine CallB.bd (Enters.of func334 rfl (by decide)) fun hbd=>?_
 have hkl:=(ex_ok hbd.1).kids.1
 have hP:=hfit.P
 have h0:=hfit.at_ 0 e (by rw [nodes_eq];rfl)
 have hN:j < Y.N:=by have:=hfit.N;rw [nodes_eq,List.length_cons] at this;omega
 rw [Nat.add_zero] at h0
 have hv1:∀ k,k∈e.kids→∀ i,Fits Y i k.nodes→CallB prog 340 [exV k,.vptr [.yld Y.l] 0] [(1000000,.ghost Y (some i))] (boolV (!litB k.nodes)) [(1000000,.ghost Y (afterN i k.nodes))]:=by
  intro k hk i hi
  have:=ih k hk i hi
  generalize litB k.nodes=bb at *
  generalize afterN i k.nodes=st at *
  refine bB func340 ?_
  refine sR [0,1,2,3,1000000] ?_
  (refine AWp.seqR [0,1,2,3,1000000] [700006] (by decide +kernel) fun K z=>?_;refine ev ?_;refine⟨_,_,_,rfl,this,rfl,?_⟩;(try refine ev ?_);apply z;clear z K)
  exact AWp.ret ⟨_,by rw [results340];rfl,.inr rfl,by simp [ble,bget]⟩
 by_cases hk:e.kind=3
 ·have hfk:Fits Y (j+1) (Ex.nodesL e.kids):=by
   have:=hfit
   rw [nodes_eq,show e::Ex.nodesL e.kids=[e]++Ex.nodesL e.kids from rfl] at this
   exact this.right
  have hcf:=ok_ContainsG 340 [.vptr [.yld Y.l] 0] rfl (fun _=>rfl) Y e.kids hkl (j+1) hfk hv1
  have hlit:litB e.nodes=litB (Ex.nodesL e.kids):=by rw [nodes_eq];simp [litB,hk]
  have haft:afterN j e.nodes=afterN (j+1) (Ex.nodesL e.kids):=by
   unfold afterN
   rw [hlit,nodes_eq,List.length_cons]
   split
   ·congr 1;omega
   ·rfl
  rw [hlit,haft]
  have hgo:Y.go j=true:=by rw [h0.2,decide_eq_true hk]
  have hnx:Y.next j=some (j+1):=by unfold Yld.next;rw [if_pos hgo]
  generalize litB (Ex.nodesL e.kids)=bb at *
  generalize afterN (j+1) (Ex.nodesL e.kids)=st at *
  refine bB func334 ?_
  refine sR q2R ?_
  refine sK fun K1 u1=>?_
  (refine AWp.seqR q2R [700008] (by decide +kernel) fun K z=>?_;refine ev2 hgo hnx ?_;refine⟨_,rfl,hP,hN,h0.1,?_⟩;(try refine ev2 hgo hnx ?_);apply z;clear z K)
  refine kI u1 ?_
  clear u1 K1
  refine AWp.freezeV 3 rfl rfl (wk [(0,exV e),(1,.yld Y.l),(2,.box 2 0),(3,.vptr [.yld Y.l] 0),(4,.d (.bool false))] [(2,.cells (exS e)),(1000000,.ghost Y (some (j+1)))] ?_)
  refine sR q2R ?_
  (refine AWp.seqR q2R [700014] (by decide +kernel) fun K z=>?_;simp -implicitDefEqProofs only [EV,forall_const,implies_true,Nat.reduceAdd,Nat.reduceEqDiff,Nat.reduceBEq,Nat.reduceLeDiff,Nat.reduceSub,Nat.reduceMul,Int.reduceEq,Int.reduceLT,Int.reduceLE,Int.reduceSub,Int.reduceAdd,Int.reduceToNat,reduceCtorEq,Int.reduceNeg,TF3,TF4,TF9,TF26,TF28,TF126,Bool.not_not];refine⟨_,_,_,rfl,hcf,rfl,?_⟩;(try simp -implicitDefEqProofs only [EV,forall_const,implies_true,Nat.reduceAdd,Nat.reduceEqDiff,Nat.reduceBEq,Nat.reduceLeDiff,Nat.reduceSub,Nat.reduceMul,Int.reduceEq,Int.reduceLT,Int.reduceLE,Int.reduceSub,Int.reduceAdd,Int.reduceToNat,reduceCtorEq,Int.reduceNeg,TF3,TF4,TF9,TF26,TF28,TF126,Bool.not_not]);apply z;clear z K)
  exact AWp.ret ⟨_,by rw [results334];rfl,.inr rfl,by simp [ble,bget]⟩
 ·have hgo:Y.go j=false:=by rw [h0.2,decide_eq_false hk]
  have hnx:Y.next j=none:=by unfold Yld.next;rw [if_neg (by rw [hgo];decide)]
  have hlit:litB e.nodes=false:=by rw [nodes_eq];simp [litB,hk]
  have haft:afterN j e.nodes=none:=by unfold afterN;rw [hlit];rfl
  rw [hlit,haft]
  refine bB func334 ?_
  refine sR q2R ?_
  refine sK fun K1 u1=>?_
  (refine AWp.seqR q2R [700008] (by decide +kernel) fun K z=>?_;refine ev2 hgo hnx ?_;refine⟨_,rfl,hP,hN,h0.1,?_⟩;(try refine ev2 hgo hnx ?_);apply z;clear z K)
  refine tI ?_
  refine sR q2R ?_
  exact AWp.ret ⟨_,by rw [results334];rfl,.inr rfl,by simp [ble,bget]⟩
theorem valL_nodes:∀ l:List Ex,(∀ e,e∈l→isVal e=litB e.nodes)→isValL l=litB (Ex.nodesL l)
 | [],_=>by simp [isValL,Ex.nodesL,litB]
 | e::l,h=>by rw [isValL,Ex.nodesL,litB_append,h e (by simp),valL_nodes l fun x hx=>h x (by simp [hx])]
theorem isVal_nodes (e:Ex):isVal e=litB e.nodes:=by
 induction e using Ex.induct with
 | h e ih =>
 rw [isVal_eq,nodes_eq,valL_nodes e.kids ih,show e::Ex.nodesL e.kids=[e]++Ex.nodesL e.kids from rfl,litB_append]
 simp [litB,Bool.and_comm]
abbrev q3R:List Nat:=[0,1,2,3,5,6,9,2000002]
theorem ok_Value (e:Ex):CallOK prog 288 [exV e] (boolV (isVal e)):=by
 rw [isVal_nodes]
 have hA:CallB prog 315 [exV e] [] (.clo 333 [.dptr (exC e) 0]) []:=by
  refine bB func315 ?_
  refine sR [0,1,2] ?_
  refine AWp.freeze 1 rfl rfl ?_
  refine sR [0,1,2] ?_
  exact AWp.ret ⟨_,by rw [results315];rfl,.inr rfl,by simp [ble,bget]⟩
 have hA1:∀ Y:Yld,Fits Y 0 e.nodes→CallB prog 333 [.yld Y.l,.dptr (exC e) 0] [(1000000,.ghost Y (some 0))] (.tuple []) [(1000000,.ghost Y (afterN 0 e.nodes))]:=by
  intro Y hY
  have hv:=ok_visit Y e 0 hY
  refine bB func333 ?_
  (refine AWp.lastR [0,1,1000000] [700005] (by decide +kernel) fun K z=>?_;refine ev ?_;refine⟨_,_,_,rfl,hv,rfl,?_⟩;(try refine ev ?_);apply z;clear z K;try simp only [thenA,blockA,if_true])
  exact⟨_,by rw [results333];rfl,.inr rfl,by simp [ble,bget]⟩
 refine cB func288 ?_
 refine sR q3R ?_
 refine kC hA q3R fun K1 u1=>?_
 refine AWp.block (AWp.rangeFunc (caps:=[.dptr (exC e) 0]) (caps':=[.dptr (exC e) 0]) (f:=333) (r:=.tuple []) (N:=e.nodes.length) (xs:=fun i=>exV ((e.nodes[i]?).getD e)) (go:=fun i=>decide (((e.nodes[i]?).getD e).kind=3)) (jump:=.ret) (ks:=[2000002]) (slR:=[(2,.box 2000002 0)])
  (mb:=fun _=>[(2000002,.cells [.d (.bool false)])]) (st:=afterN 0 e.nodes) ⟨⟨_,rfl⟩,by decide,by decide,rfl,fun _=>rfl,by decide,fun _=>rfl,?_⟩ (fun _=>by simp) rfl rfl ?_ ⟨.inr (.inl rfl),trivial⟩ ⟨rfl,trivial⟩ ?_ ?_)
 ·intro j hj hgo l
  have hx:=List.getElem?_eq_getElem hj
  generalize e.nodes[j]=x at hx
  simp only [hx,Option.getD_some]
  (refine lV q3R fun K z=>?_;apply z;clear z K;try simp only [thenA,blockA,if_true])
  refine⟨rfl,?_⟩
  refine AWp.block ?_
  refine sR q3R ?_
  refine AWp.cond rfl (fun hc=>?_) (fun hc=>?_)
  ·refine sR q3R ?_
   refine AWp.ret ⟨?_,rfl,⟨rfl,trivial⟩⟩
   simp only [hx,Option.getD_some]
   simpa using hc
  ·refine AWp.skip ⟨?_,⟨rfl,trivial⟩⟩
   simp only [hx,Option.getD_some]
   simpa using hc
 ·intro Y hP hN hxs hg
  refine hA1 Y ⟨hP,by rw [hN];omega,fun i x hx=>?_⟩
  rw [hxs,hg]
  simp [hx]
 ·intro j hj _
  have hlit:litB e.nodes=true:=by
   unfold afterN at hj
   cases h:litB e.nodes with
   | true=>rfl
   | false=>rw [h] at hj;simp at hj
  simp only [thenA,blockA,if_true]
  refine u1 _ _ (wk [(2,.box 2 0)] [(2,.cells [.d (.bool false)])] ?_)
  refine sR q3R ?_
  rw [hlit]
  exact aR
 ·intro hj
  have hlit:litB e.nodes=false:=by
   unfold afterN at hj
   cases h:litB e.nodes with
   | true=>rw [h] at hj;simp at hj
   | false=>rfl
  rw [hlit]
  exact⟨_,by rw [results288];rfl,rfl⟩
theorem tySm_subst {vars:List Str} {args:List Ty} (ha:∀ u,u∈args→u.Sm):∀ t:Ty,t.Sm→(t.subst vars args).Sm:=by
 intro t
 induction t using Ty.induct with
 | h t ih =>
 intro h
 rw [subst_eq]
 split
 ·rename_i hc
  have hlt:(indexS t.name vars 0).toNat < args.length:=by omega
  rw [List.getElem?_eq_getElem hlt,Option.getD_some]
  have:=ha _ (List.getElem_mem hlt)
  exact .mk _ _ _ this.name this.len this.arg
 ·refine .mk _ _ _ h.name (by rw [List.length_map];exact h.len) fun u hu=>?_
  obtain⟨x,hx,rfl⟩:=List.mem_map.1 hu
  exact ih x hx (h.arg x hx)
theorem Ex.Sm.subst {vars:List Str} {args:List Ty} (ha:∀ u,u∈args→u.Sm)(e:Ex):e.Sm→(e.subst vars args).Sm:=by
 induction e using Ex.induct with
 | h e ih =>
 intro h
 unfold Ex.subst
 rw [mapped_eq]
 refine .mk _ _ _ _ _ _ h.name (tySm_subst ha _ h.type) ?_ ?_ ?_ ?_
 ·show (e.targs.map (Ty.subst vars args)).length≤sm
  rw [List.length_map];exact h.targs.1
 ·intro t ht
  have ht:t∈e.targs.map (Ty.subst vars args):=ht
  obtain⟨u,hu,rfl⟩:=List.mem_map.1 ht
  exact tySm_subst ha _ (h.targs.2 u hu)
 ·show (e.kids.map _).length≤sm
  rw [List.length_map];exact h.kids.1
 ·intro k hk
  have hk:k∈e.kids.map (Ex.mapped (Ex.sub1 vars args)):=hk
  obtain⟨u,hu,rfl⟩:=List.mem_map.1 hk
  exact ih u hu (h.kids.2 u hu)
def replG (vars:List Str)(vals:List Ex)(e:Ex):Ex:=if e.kind=1∧0≤indexS e.name vars 0∧indexS e.name vars 0 < vals.length then (vals[(indexS e.name vars 0).toNat]?).getD e else e
def Ex.repl (vars:List Str)(vals:List Ex):Ex→Ex:=Ex.mapped (replG vars vals)
abbrev q1S:List Nat:=[0,1,2,3,4,5,22]
theorem ok_Repl1 (vars:List Str)(vals:List Ex)(ha:∀ u,u∈vals→u.Sm)(e:Ex) :
  CallOK prog 316 [exV e,.dptr [.slice (strR vars)] 0,.dptr [.slice (exR vals)] 0] (exV (replG vars vals e)):=by
 have hi:=ok_Index vars e.name
 unfold replG
 generalize indexS e.name vars 0=k at *
 by_cases hk:e.kind=1
 ·have hx1:exV e=.agg [.d (.int .i64 1),.d (.str e.name),.d (.str e.type.name),.d (.slice (tyR e.type.args)),.d (.int .i64 e.type.pos),.d (.slice (tyR e.targs)),.d (.slice (exR e.kids)),.d (.int .i64 e.pos)]:=by rw [← hk]
  by_cases h0:k < 0
  ·rw [if_neg (by omega),hx1]
   refine cB func316 ?_
   refine sR q1S ?_
   refine sC hi q1S ?_
   refine kR1 h0 q1S fun K1 u1=>?_
   refine tI ?_
   refine sR q1S ?_
   exact aR
  ·by_cases hlt:k < vals.length
   ·rw [if_pos ⟨hk,by omega,hlt⟩]
    have hge:¬ k ≥ (vals.length:Int):=by omega
    have hx:vals[k.toNat]? = some vals[k.toNat]:=List.getElem?_eq_getElem (by omega)
    rw [hx,Option.getD_some]
    have hm:=ha _ (List.mem_of_getElem? hx)
    generalize vals[k.toNat]=u at *
    have hc:=ok_EClone u hm
    rw [hx1]
    refine cB func316 ?_
    refine sR q1S ?_
    refine sC hi q1S ?_
    refine kR2 h0 hge q1S fun K1 u1=>?_
    refine kI u1 ?_
    clear u1 K1
    (refine sV q1S fun K z=>?_;refine ci (exR_get hx) ?_;refine cc hc ?_;apply z;clear z K)
    exact aR
   ·rw [if_neg (by omega),hx1]
    have hge:k ≥ (vals.length:Int):=by omega
    refine cB func316 ?_
    refine sR q1S ?_
    refine sC hi q1S ?_
    refine kR2 h0 hge q1S fun K1 u1=>?_
    refine tI ?_
    refine sR q1S ?_
    exact aR
 ·rw [if_neg (by omega)]
  refine cB func316 ?_
  refine sR q1S ?_
  refine sC hi q1S ?_
  refine kR1 hk q1S fun K1 u1=>?_
  refine tI ?_
  refine sR q1S ?_
  exact aR
theorem ok_EReplace (vars:List Str)(vals:List Ex)(ha:∀ u,u∈vals→u.Sm)(e:Ex)(he:e.Sm):CallOK prog 289 [exV e,strsV vars,.d (.slice (exR vals))] (exV (e.repl vars vals)):=by
 have hm:=ok_mapped 316 [.dptr [.slice (strR vars)] 0,.dptr [.slice (exR vals)] 0] rfl rfl (replG vars vals)
  (fun e ks h=>ok_Repl1 vars vals ha (e.kidded ks)) e he
 have hc:=ok_EClone e he
 refine cB func289 ?_
 refine sR [0,1,2,3,4,5,6] ?_
 refine AWp.freeze 4 rfl rfl ?_
 refine AWp.freeze 5 rfl rfl ?_
 refine AWp.weaken (sl':=[(3,.box 3 0),(4,.dptr [.slice (strR vars)] 0),(5,.dptr [.slice (exR vals)] 0),(6,.box 6 0)])
  (bx':=[(3,.cells ((exC e).map .d)),(6,.cells [.d (.int .i64 0),.d (.str []),.d (.str []),.d .nil,.d (.int .i64 0),.d .nil,.d .nil,.d (.int .i64 0)])])
  (by simp [subSl,SV.sub,SV.subL,sle,vle,sget]) (by simp [subBx,BoxC.sub,SV.subL,SV.sub,ble,bget,berase,exC]) ?_
 (refine sV [0,1,2,3,4,5,6] fun K z=>?_;refine cc hc ?_;refine cc hm ?_;apply z;clear z K)
 exact aR
abbrev q2S:List Nat:=[0,1,2,3,6,7,8,30,67]
theorem ok_R5Subst (vars:List Str)(args:List Ty)(ha:∀ u,u∈args→u.Sm)(e:Ex):e.Sm→CallOK prog 64 [exV e,strsV vars,tysV args] (exV (e.subst vars args)):=by
 induction e using Ex.induct with
 | h e ih =>
 intro hsm
 have hkl:=hsm.kids.1
 have h1:=ok_RSubst vars args ha e.type hsm.type
 have h2:=ok_RAll vars args ha e.targs hsm.targs.1 hsm.targs.2
 have heqn:e.subst vars args=.mk e.kind e.name (e.type.subst vars args) (e.targs.map (Ty.subst vars args)) (e.kids.map (Ex.subst vars args)) e.pos:=by
  unfold Ex.subst
  rw [mapped_eq];rfl
 rw [heqn]
 generalize e.type.subst vars args=T at *
 generalize e.targs.map (Ty.subst vars args)=A at *
 refine cB func64 ?_
 refine sR q2S ?_
 (refine sG q2S [] 18 [⟨[],[],[7],[7]⟩,⟨[],[],[7],[7]⟩,⟨[],[],[7],[7]⟩,⟨[],[],[7],[7]⟩,⟨[],[],[7],[7]⟩,⟨[],[],[7],[7]⟩,⟨[],[],[7],[7]⟩,⟨[],[],[7],[7]⟩,⟨[],[],[7],[7]⟩,⟨[],[],[7],[7]⟩,⟨[],[],[7],[7]⟩,⟨[],[],[7],[7]⟩,⟨[],[],[7],[7]⟩,⟨[],[],[7],[7]⟩,⟨[],[],[7],[7]⟩,⟨[],[],[7],[7]⟩,⟨[],[],[7],[7]⟩,⟨[7],[7],[],[]⟩] fun K z=>?_;refine ev ?_;refine cc h1 ?_;refine cc h2 ?_;apply z;clear z K)
 refine AWp.promoteBox 67 8 7 6 rfl rfl (by decide) ?_
 refine kR q2S fun K1 u1=>?_
 refine AWp.block (AWp.forIdx e.kids (X:=Unit) (fun j _=>[(1,strsV vars),(2,tysV args),(3,.box 3 0),(6,.box 6 0),(7,.box 7 0),(8,intV j)])
  (fun j _=>[(3,.cells (exS e)),(6,.cells [.d (.int .i64 0),.d (.str []),.d (.str []),.d .nil,.d (.int .i64 0),.d .nil,.d .nil,.d (.int .i64 0)]),(7,.cells [.d (.int .i64 e.kind),.d (.str e.name),.d (.str T.name),.d (.slice (tyR T.args)),.d (.int .i64 T.pos),.d (.slice (tyR A)),.acc 67,.d (.int .i64 e.pos)]),(67,.rows 8 (exR ((e.kids.take j).map (Ex.subst vars args))))])
  (fun j _=>True) () trivial sS (by simp [ble,bget,berase,exR_map,exS]) ?_ ?_)
 ·intro _ _
  rw [List.take_length]
  refine kR1 Int.lt_irrefl q2S fun K2 u2=>?_
  refine AWp.stopK rfl ?_
  simp only [thenA,blockA,if_true]
  refine u1 _ _ ?_
  refine sR q2S ?_
  exact aR
 ·intro j _ d hd hmem dp tk hlt _
  rw [tk]
  refine kR1 hlt q2S fun K2 u2=>?_
  refine gI u2 ?_
  clear u2 K2
  refine sK fun K2 u2=>?_
  refine AWp.block ?_
  (refine lG q2S [] 11 [] fun K z=>?_;refine ev ?_;refine ci (exR_get hd) ?_;refine cc (ih d hmem (hsm.kids.2 d hmem)) ?_;refine⟨by simp,by simp only [List.length_map,List.length_take];unfold lim sm at *;omega,?_⟩;(try refine ev ?_);apply z;clear z K;try simp only [thenA,blockA,if_true])
  refine u2 _ _ ?_
  clear u2 K2
  (refine lV q2S fun K z=>?_;refine cl ?_;apply z;clear z K;try simp only [thenA,blockA,if_true])
  exact⟨(),trivial,sS,by simp [ble,bget,exR_map,exC,exS]⟩
abbrev q3S:List Nat:=[0,1,2,3,6,7,8,30,67]
theorem ok_R5Subst0 (k:Int)(n:Str)(T:Ty)(A:List Ty)(p:Int)(hT:T.Sm)(hA:A.length≤sm)(hA2:∀ t,t∈A→t.Sm):CallB prog 64 [exV (.mk k n T A [] p),strsV [],tysV []] []
  (.agg [.d (.int .i64 k),.d (.str n),.d (.str T.name),.d (.slice (tyR T.args)),.d (.int .i64 T.pos),.d (.slice (tyR A)),.d .nil,.d (.int .i64 p)]) []:=by
 have h1:=ok_RSubst [] [] (by simp) T hT
 have h2:=ok_RAll [] [] (by simp) A hA hA2
 rw [subst_nil] at h1
 rw [show A.map (Ty.subst [] [])=A by rw [List.map_congr_left (g:=id) fun t _=>subst_nil t];simp] at h2
 have hx:exV (.mk k n T A [] p)=.agg [.d (.int .i64 k),.d (.str n),.d (.str T.name),.d (.slice (tyR T.args)),.d (.int .i64 T.pos),.d (.slice (tyR A)),.d (.slice (exR [])),.d (.int .i64 p)]:=rfl
 rw [hx]
 refine bB func64 ?_
 refine sR q3S ?_
 (refine sG q3S [] 18 [⟨[],[],[7],[7]⟩,⟨[],[],[7],[7]⟩,⟨[],[],[7],[7]⟩,⟨[],[],[7],[7]⟩,⟨[],[],[7],[7]⟩,⟨[],[],[7],[7]⟩,⟨[],[],[7],[7]⟩,⟨[],[],[7],[7]⟩,⟨[],[],[7],[7]⟩,⟨[],[],[7],[7]⟩,⟨[],[],[7],[7]⟩,⟨[],[],[7],[7]⟩,⟨[],[],[7],[7]⟩,⟨[],[],[7],[7]⟩,⟨[],[],[7],[7]⟩,⟨[],[],[7],[7]⟩,⟨[],[],[7],[7]⟩,⟨[7],[7],[],[]⟩] fun K z=>?_;refine ev ?_;refine cc h1 ?_;refine cc h2 ?_;apply z;clear z K)
 refine kR q3S fun K1 u1=>?_
 refine AWp.block (AWp.forIdx ([]:List Ex) (X:=Unit) (fun j _=>[(3,.box 3 0),(6,.box 6 0),(7,.box 7 0),(8,intV j)])
  (fun j _=>[(3,.cells [.d (.int .i64 k),.d (.str n),.d (.str T.name),.d (.slice (tyR T.args)),.d (.int .i64 T.pos),.d (.slice (tyR A)),.d (.slice (exR [])),.d (.int .i64 p)]),(6,.cells [.d (.int .i64 0),.d (.str []),.d (.str []),.d .nil,.d (.int .i64 0),.d .nil,.d .nil,.d (.int .i64 0)]),(7,.cells [.d (.int .i64 k),.d (.str n),.d (.str T.name),.d (.slice (tyR T.args)),.d (.int .i64 T.pos),.d (.slice (tyR A)),.d .nil,.d (.int .i64 p)])])
  (fun j _=>True) () trivial sS sB ?_ ?_)
 ·intro _ _
  refine kR1 Int.lt_irrefl q3S fun K2 u2=>?_
  refine AWp.stopK rfl ?_
  simp only [thenA,blockA,if_true]
  refine u1 _ _ ?_
  refine sR q3S ?_
  exact AWp.ret ⟨_,by rw [results64];rfl,.inl rfl,by simp [ble,bget]⟩
 ·intro j _ d hd
  simp at hd
theorem repl_eq (vars:List Str)(vals:List Ex)(e:Ex):e.repl vars vals=replG vars vals (e.kidded (e.kids.map (Ex.repl vars vals))):=by
 unfold Ex.repl;rw [mapped_eq]
abbrev q4S:List Nat:=[0,1,2,3,6,7,8,9,18,33,45,62,67]
theorem ok_R5Replace (vars:List Str)(vals:List Ex)(ha:∀ u,u∈vals→u.Sm)(e:Ex):e.Sm→CallOK prog 257 [exV e,strsV vars,.d (.slice (exR vals))] (exV (e.repl vars vals)):=by
 induction e using Ex.induct with
 | h e ih =>
 intro hsm
 have hkl:=hsm.kids.1
 refine CallB.bd (Enters.of func257 rfl (by decide)) fun hbd=>?_
 have hv:=(strs_ok hbd.2.1).1
 have heqn:=repl_eq vars vals e
 unfold replG at heqn
 rw [show (e.kidded (e.kids.map (Ex.repl vars vals))).kind=e.kind from rfl,show (e.kidded (e.kids.map (Ex.repl vars vals))).name=e.name from rfl] at heqn
 have h0:=ok_R5Subst0 e.kind e.name e.type e.targs e.pos hsm.type hsm.targs.1 hsm.targs.2
 refine cB func257 ?_
 refine sR q4S ?_
 refine kR q4S fun K1 u1=>?_
 have fin:¬ (e.kind=1∧0≤indexS e.name vars 0∧indexS e.name vars 0 < vals.length)→∀ sl bx,sle sl [(1,strsV vars),(2,.d (.slice (exR vals))),(3,.box 3 0),(6,.box 6 0)] →
   ble bx [(3,.cells (exS e)),(6,.cells [.d (.int .i64 0),.d (.str []),.d (.str []),.d .nil,.d (.int .i64 0),.d .nil,.d .nil,.d (.int .i64 0)])]→K1 sl bx:=by
  intro hc sl bx h1 h2
  refine u1 _ _ (AWp.weaken h1 h2 ?_)
  clear u1 K1
  erw [if_neg hc] at heqn
  rw [heqn]
  clear heqn
  refine sC h0 q4S ?_
  refine AWp.promoteBox 67 8 8 6 rfl rfl (by decide) ?_
  refine kR q4S fun K1 u1=>?_
  refine AWp.block (AWp.forIdx e.kids (X:=Unit) (fun j _=>[(1,strsV vars),(2,.d (.slice (exR vals))),(3,.box 3 0),(6,.box 6 0),(8,.box 8 0),(9,intV j)])
   (fun j _=>[(3,.cells (exS e)),(6,.cells [.d (.int .i64 0),.d (.str []),.d (.str []),.d .nil,.d (.int .i64 0),.d .nil,.d .nil,.d (.int .i64 0)]),(8,.cells [.d (.int .i64 e.kind),.d (.str e.name),.d (.str e.type.name),.d (.slice (tyR e.type.args)),.d (.int .i64 e.type.pos),.d (.slice (tyR e.targs)),.acc 67,.d (.int .i64 e.pos)]),(67,.rows 8 (exR ((e.kids.take j).map (Ex.repl vars vals))))])
   (fun j _=>True) () trivial sS (by simp [ble,bget,berase,exR_map,exS]) ?_ ?_)
  ·intro _ _
   rw [List.take_length]
   refine kR1 Int.lt_irrefl q4S fun K2 u2=>?_
   refine AWp.stopK rfl ?_
   simp only [thenA,blockA,if_true]
   refine u1 _ _ ?_
   refine sR q4S ?_
   exact aR
  ·intro j _ d hd hmem dp tk hlt _
   rw [tk]
   refine kR1 hlt q4S fun K2 u2=>?_
   refine gI u2 ?_
   clear u2 K2
   refine sK fun K2 u2=>?_
   refine AWp.block ?_
   (refine lG q4S [] 11 [] fun K z=>?_;refine ev ?_;refine ci (exR_get hd) ?_;refine cc (ih d hmem (hsm.kids.2 d hmem)) ?_;refine⟨by simp,by simp only [List.length_map,List.length_take];unfold lim sm at *;omega,?_⟩;(try refine ev ?_);apply z;clear z K;try simp only [thenA,blockA,if_true])
   refine u2 _ _ ?_
   clear u2 K2
   (refine lV q4S fun K z=>?_;refine cl ?_;apply z;clear z K;try simp only [thenA,blockA,if_true])
   exact⟨(),trivial,sS,by simp [ble,bget,exR_map,exC,exS]⟩
 by_cases hk:e.kind=1
 ·have hx1:exS e=[.d (.int .i64 1),.d (.str e.name),.d (.str e.type.name),.d (.slice (tyR e.type.args)),.d (.int .i64 e.type.pos),.d (.slice (tyR e.targs)),.d (.slice (exR e.kids)),.d (.int .i64 e.pos)]:=by rw [← hk]
  rw [hx1] at fin
  refine AWp.block (AWp.forIdx vars (X:=Unit) (fun j _=>[(1,strsV vars),(2,.d (.slice (exR vals))),(3,.box 3 0),(6,.box 6 0),(7,intV j)])
   (fun _ _=>[(3,.cells [.d (.int .i64 1),.d (.str e.name),.d (.str e.type.name),.d (.slice (tyR e.type.args)),.d (.int .i64 e.type.pos),.d (.slice (tyR e.targs)),.d (.slice (exR e.kids)),.d (.int .i64 e.pos)]),(6,.cells [.d (.int .i64 0),.d (.str []),.d (.str []),.d .nil,.d (.int .i64 0),.d .nil,.d .nil,.d (.int .i64 0)])])
   (fun j _=>indexS e.name (vars.drop j) j=indexS e.name vars 0) () rfl sS (by simp [ble,bget,exS,hk]) ?_ ?_)
  ·intro _ hI
   refine kR1 Int.lt_irrefl q4S fun K2 u2=>?_
   refine AWp.stopK rfl ?_
   simp only [thenA,blockA,if_true]
   rw [List.drop_length,indexS] at hI
   exact fin (by rw [← hI];simp) _ _ sS (by simp [ble,bget,exC,tyC,foC,paC,siC,deC,prC])
  ·intro j _ d hd hmem dp tk hlt hI
   rw [dp,indexS] at hI
   refine kR1 hlt q4S fun K2 u2=>?_
   refine gI u2 ?_
   clear u2 K2
   refine sK fun K2 u2=>?_
   refine AWp.block ?_
   by_cases hn:e.name=d
   ·rw [if_pos hn] at hI
    by_cases hlt2:(j:Int) < (vals.length:Int)
    ·have hx:vals[j]? = some vals[j]:=List.getElem?_eq_getElem (by omega)
     rw [← hI,if_pos ⟨hk,by omega,hlt2⟩,Int.toNat_natCast,hx,Option.getD_some] at heqn
     have hm:=ha _ (List.mem_of_getElem? hx)
     generalize vals[j]=u at *
     have hc:=ok_R5Subst [] [] (by simp) u hm
     rw [esubst_nil] at hc
     rw [heqn]
     refine sK fun K3 u3=>?_
     (refine sG q4S [] 11 [] fun K z=>?_;refine ev2 hn.symm hlt2 ?_;refine⟨by omega,_,strR_get hd,rfl,?_⟩;(try refine ev2 hn.symm hlt2 ?_);apply z;clear z K)
     refine tI ?_
     (refine sV q4S fun K z=>?_;refine ci (exR_get hx) ?_;refine cc hc ?_;apply z;clear z K)
     exact aR
    ·refine sK fun K3 u3=>?_
     (refine sG q4S [] 11 [] fun K z=>?_;refine ev2 hn.symm hlt2 ?_;refine⟨by omega,_,strR_get hd,rfl,?_⟩;(try refine ev2 hn.symm hlt2 ?_);apply z;clear z K)
     refine kI u3 ?_
     clear u3 K3
     (refine sG q4S [] 6 [] fun K z=>?_;refine ev1 hn.symm ?_;refine⟨by omega,_,strR_get hd,rfl,?_⟩;(try refine ev1 hn.symm ?_);apply z;clear z K)
     refine AWp.condT rfl (AWp.exit ?_)
     simp only [thenA,blockA,reduceIte,Nat.zero_ne_one,Exit.exit.injEq]
     have hj:indexS e.name vars 0=(j:Int):=hI.symm
     exact fin (by rw [hj];omega) _ _ sS (by simp [ble,bget,exC,tyC,foC,paC,siC,deC,prC])
   ·rw [if_neg hn] at hI
    have hn':¬ d=e.name:=fun h=>hn h.symm
    refine sK fun K3 u3=>?_
    (refine sG q4S [] 11 [] fun K z=>?_;refine ev1 hn' ?_;refine⟨by omega,_,strR_get hd,rfl,?_⟩;(try refine ev1 hn' ?_);apply z;clear z K)
    refine kI u3 ?_
    clear u3 K3
    (refine sG q4S [] 6 [] fun K z=>?_;refine ev1 hn' ?_;refine⟨by omega,_,strR_get hd,rfl,?_⟩;(try refine ev1 hn' ?_);apply z;clear z K)
    refine AWp.condF rfl (AWp.skip (u2 _ _ ?_))
    clear u2 K2
    (refine lV q4S fun K z=>?_;refine cl ?_;apply z;clear z K;try simp only [thenA,blockA,if_true])
    exact⟨(),hI,sS,(by simp [ble,bget,exC,tyC,foC,paC,siC,deC,prC])⟩
 ·have hno:¬ (e.kind=1∧0≤indexS e.name vars 0∧indexS e.name vars 0 < vals.length):=fun h=>hk h.1
  refine AWp.block (AWp.forIdx ([]:List Nat) (X:=Unit) (fun j _=>[(1,strsV vars),(2,.d (.slice (exR vals))),(3,.box 3 0),(6,.box 6 0),(7,intV 0)])
   (fun _ _=>[(3,.cells (exS e)),(6,.cells [.d (.int .i64 0),.d (.str []),.d (.str []),.d .nil,.d (.int .i64 0),.d .nil,.d .nil,.d (.int .i64 0)])])
   (fun j _=>True) () trivial sS (by simp [ble,bget,exS]) ?_ ?_)
  ·intro _ _
   refine sK fun K2 u2=>?_
   by_cases he:(0:Int) < (vars.length:Int)
   ·refine sR2 hk he q4S ?_
    refine AWp.stopK rfl ?_
    simp only [thenA,blockA,if_true]
    exact fin hno _ _ sS (by simp [ble,bget,exS])
   ·refine sR2 hk he q4S ?_
    refine AWp.stopK rfl ?_
    simp only [thenA,blockA,if_true]
    exact fin hno _ _ sS (by simp [ble,bget,exS])
  ·intro j _ d hd
   simp at hd
end Go.Abs
