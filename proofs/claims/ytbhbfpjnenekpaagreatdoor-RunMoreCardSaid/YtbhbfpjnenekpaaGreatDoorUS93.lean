/- the texts of types and expressions: types.Text, expr.Text; castingsref04.Text, castingsref05.Text -/
import Derived.Test.YtbhbfpjnenekpaaGreatDoorUS90
import Derived.Test.YtbhbfpjnenekpaaGreatDoorUS34
namespace Go.Abs
set_option linter.unusedSimpArgs false
set_option linter.unusedVariables false
open Go Go.Proofs Tryz
set_option maxRecDepth 100000
set_option maxHeartbeats 1000000
abbrev comma:Str:=[44,32]
mutual
def Ty.txt:Ty→Str
 | .mk n a _=>if a.isEmpty=true then n else n++[91]++Lib.join (Ty.txtL a) comma++[93]
def Ty.txtL:List Ty→List Str
 | []=>[]
 | t::ts=>t.txt::Ty.txtL ts
end
mutual
def Ty.tlen:Ty→Nat
 | .mk n a _=>n.length+4+Ty.tlenL a
def Ty.tlenL:List Ty→Nat
 | []=>0
 | t::ts=>t.tlen+Ty.tlenL ts
end
theorem Ty.txtL_eq:∀ l:List Ty,Ty.txtL l=l.map Ty.txt
 | []=>rfl
 | t::ts=>by rw [Ty.txtL,Ty.txtL_eq ts,List.map_cons]
theorem Ty.txt_eq (t:Ty):t.txt=if t.args=[] then t.name else t.name++[91]++Lib.join (t.args.map Ty.txt) comma++[93]:=by
 cases t with
 | mk n a p =>
  rw [Ty.txt,Ty.txtL_eq]
  simp only [List.isEmpty_iff]
  rfl
theorem Ty.tlen_eq (t:Ty):t.tlen=t.name.length+4+Ty.tlenL t.args:=by cases t;rfl
def sumL (l:List Str):Nat:=(l.map fun s=>s.length+2).sum
theorem join_len:∀ l:List Str,(Lib.join l comma).length≤sumL l
 | []=>by simp [Lib.join_nil]
 | x::r=>by
  have:∀ r:List Str,(Lib.joinTail comma r).length≤sumL r:=fun r=>by
   induction r with
   | nil=>simp [Lib.joinTail]
   | cons y r ih=>simp only [Lib.joinTail,sumL,List.map_cons,List.flatten_cons,List.length_append,List.sum_cons,List.length_cons,List.length_nil] at ih ⊢;omega
  rw [Lib.join_cons,List.length_append]
  have:=this r
  simp only [sumL,List.map_cons,List.sum_cons] at this ⊢
  omega
mutual
theorem Ty.txt_len:∀ t:Ty,t.txt.length+2≤t.tlen
 | .mk n a p=>by
  have h1:=Ty.txtL_len a
  have h2:=join_len (Ty.txtL a)
  rw [Ty.txt,Ty.tlen]
  split
  ·omega
  ·simp only [List.length_append,List.length_cons,List.length_nil];omega
theorem Ty.txtL_len:∀ l:List Ty,sumL (Ty.txtL l)≤Ty.tlenL l
 | []=>by simp [sumL,Ty.txtL]
 | t::ts=>by
  have h1:=Ty.txt_len t
  have h2:=Ty.txtL_len ts
  simp only [sumL] at h2
  simp only [Ty.txtL,Ty.tlenL,sumL,List.map_cons,List.sum_cons]
  omega
end
theorem tlenL_mem:∀ {l:List Ty} {t:Ty},t∈l→t.tlen≤Ty.tlenL l
 | [],_,h=>by simp at h
 | x::l,t,h=>by
  simp only [Ty.tlenL]
  rcases List.mem_cons.1 h with rfl | h
  ·omega
  ·have:=tlenL_mem h;omega
theorem tlenL_len:∀ l:List Ty,l.length≤Ty.tlenL l
 | []=>Nat.le_refl _
 | x::l=>by
  have:=tlenL_len l
  have:=Ty.tlen_eq x
  simp only [Ty.tlenL,List.length_cons];omega
abbrev q1y:List Nat:=[0,1,2,3,5,9,13,14,15,16]
theorem ok_TText:∀ t:Ty,t.tlen≤sm→CallOK prog 196 [tyV t] (strV t.txt):=by
 intro t
 induction t using Ty.induct with
 | h t ih =>
 intro hl
 have hle:=Ty.tlen_eq t
 have hll:=tlenL_len t.args
 have hxl:=Ty.txt_len t
 have hjl:=join_len (t.args.map Ty.txt)
 have hjs:=Ty.txtL_len t.args
 rw [Ty.txtL_eq] at hjs
 rw [Ty.txt_eq] at hxl ⊢
 by_cases h0:t.args=[]
 ·rw [if_pos h0]
  have hz:((t.args.length:Nat):Int)=0:=by rw [h0];rfl
  refine cB func196 ?_
  refine sR q1y ?_
  refine kR1 hz q1y fun K1 u1=>?_
  refine tI ?_
  refine sR q1y ?_
  exact aR
 have hz:¬ ((t.args.length:Nat):Int)=0:=by
  have:t.args.length≠0:=fun h=>h0 (List.eq_nil_of_length_eq_zero h)
  omega
 rw [if_neg h0] at hxl ⊢
 simp only [List.length_append,List.length_cons,List.length_nil] at hxl
 have hj:=ok_strJoin (t.args.map Ty.txt) comma (by rw [List.length_map];omega) (by unfold lim sm at *;omega)
 generalize hJ:Lib.join (t.args.map Ty.txt) comma=J at *
 refine cB func196 ?_
 refine sR q1y ?_
 refine kR1 hz q1y fun K1 u1=>?_
 refine kI u1 ?_
 clear u1 K1
 refine sR q1y ?_
 refine AWp.promote 3 1 3 rfl ?_
 refine kR q1y fun K1 u1=>?_
 refine AWp.block (AWp.forIdx t.args (X:=Unit) (fun j _=>[(1,.box 1 0),(3,.acc 3),(13,.d (.slice (tyR t.args))),(14,intV t.args.length),(15,intV j)]) (fun j _=>[(1,.cells [.d (.str t.name),.d (.slice (tyR t.args)),.d (.int .i64 t.pos)]),(3,.rows 1 (strR ((t.args.take j).map Ty.txt)))])
  (fun j _=>True) () trivial sS (by simp [ble,bget,strR]) ?_ ?_)
 rotate_left
 ·intro j _ u hu hmem dp tk hlt _
  have hi:=ih u hmem (by have:=tlenL_mem hmem;omega)
  rw [tk]
  refine sR1 hlt q1y ?_
  refine AWp.goOn rfl ?_
  refine sK fun K2 u2=>?_
  refine AWp.block ?_
  (refine sV q1y fun K z=>?_;refine ci (tyR_get hu) ?_;apply z;clear z K)
  (refine lV q1y fun K z=>?_;refine cc hi ?_;refine⟨by simp,by simp only [List.length_map,List.length_take];unfold lim sm at *;omega,?_⟩;(try refine ev ?_);apply z;clear z K;try simp only [thenA,blockA,if_true])
  refine u2 _ _ ?_
  clear u2 K2
  (refine lV q1y fun K z=>?_;refine cl ?_;apply z;clear z K;try simp only [thenA,blockA,if_true])
  exact⟨(),trivial,sS,by simp [ble,bget,strR]⟩
 intro _ _
 rw [List.take_length]
 refine sR1 Int.lt_irrefl q1y ?_
 refine AWp.stop rfl ?_
 simp only [thenA,blockA,if_true]
 refine u1 _ _ ?_
 (refine sG q1y [] 5 [] fun K z=>?_;refine ev ?_;refine⟨(by (try simp only [List.length_append,List.length_cons,List.length_nil]);unfold lim sm at *;omega),?_⟩;(try refine ev ?_);refine⟨_,.inr ⟨_,rfl,hj,rfl⟩,?_⟩;(try refine ev ?_);refine⟨(by (try simp only [List.length_append,List.length_cons,List.length_nil]);unfold lim sm at *;omega),?_⟩;(try refine ev ?_);refine⟨(by (try simp only [List.length_append,List.length_cons,List.length_nil]);unfold lim sm at *;omega),?_⟩;(try refine ev ?_);apply z;clear z K)
 exact aR
abbrev q2y:List Nat:=[0,1,4,5,7,8,9,10,11]
theorem ok_JoinT (l:List Ty)(hs:Ty.tlenL l≤sm):CallOK prog 195 [.d (.slice (tyR l)),.clo 196 []] (strV (Lib.join (l.map Ty.txt) comma)):=by
 have hll:=tlenL_len l
 have hjl:=join_len (l.map Ty.txt)
 have hjs:=Ty.txtL_len l
 rw [Ty.txtL_eq] at hjs
 have hj:=ok_strJoin (l.map Ty.txt) comma (by rw [List.length_map];omega) (by unfold lim sm at *;omega)
 generalize hJ:Lib.join (l.map Ty.txt) comma=J at *
 refine cB func195 ?_
 refine sR q2y ?_
 refine sR q2y ?_
 refine AWp.promote 5 1 5 rfl ?_
 refine kR q2y fun K1 u1=>?_
 refine AWp.block (AWp.forIdx l (X:=Unit) (fun j _=>[(1,.clo 196 []),(5,.acc 5),(8,.d (.slice (tyR l))),(9,intV l.length),(10,intV j)]) (fun j _=>[(5,.rows 1 (strR ((l.take j).map Ty.txt)))])
  (fun j _=>True) () trivial sS (by simp [ble,bget,strR]) ?_ ?_)
 rotate_left
 ·intro j _ u hu hmem dp tk hlt _
  have hi:=ok_TText u (by have:=tlenL_mem hmem;omega)
  rw [tk]
  refine sR1 hlt q2y ?_
  refine AWp.goOn rfl ?_
  refine sK fun K2 u2=>?_
  refine AWp.block ?_
  (refine sV q2y fun K z=>?_;refine ci (tyR_get hu) ?_;apply z;clear z K)
  (refine lV q2y fun K z=>?_;refine cc hi ?_;refine⟨by simp,by simp only [List.length_map,List.length_take];unfold lim sm at *;omega,?_⟩;(try refine ev ?_);apply z;clear z K;try simp only [thenA,blockA,if_true])
  refine u2 _ _ ?_
  clear u2 K2
  (refine lV q2y fun K z=>?_;refine cl ?_;apply z;clear z K;try simp only [thenA,blockA,if_true])
  exact⟨(),trivial,sS,by simp [ble,bget,strR]⟩
 intro _ _
 rw [List.take_length]
 refine sR1 Int.lt_irrefl q2y ?_
 refine AWp.stop rfl ?_
 simp only [thenA,blockA,if_true]
 refine u1 _ _ ?_
 (refine sV q2y fun K z=>?_;refine⟨_,.inr ⟨_,rfl,hj,rfl⟩,?_⟩;(try refine ev ?_);apply z;clear z K)
 exact aR
def Ty.pre (t:Ty)(j:Nat):Str:=if j=0 then t.name else t.name++[91]++Lib.join ((t.args.take j).map Ty.txt) comma
def targsTxt (l:List Ty):Str:=if l=[] then [] else [91]++Lib.join (l.map Ty.txt) comma++[93]
def txtOf (k:Int)(n:Str)(t:Ty)(a:List Ty)(ks:List Str):Str :=
 if k=2 then ks.headD []++[46]++n++targsTxt a++[40]++Lib.join (ks.drop 1) comma++[41]
 else if k=3 then t.txt++[123]++Lib.join ks comma++[125]
 else if k=4 then ks.headD []++[46]++n
 else if k=5 then ks.headD []++[46,40]++t.txt++[41]
 else n
mutual
def Ex.txt:Ex→Str
 | .mk k n t a ks _=>txtOf k n t a (Ex.txtL ks)
def Ex.txtL:List Ex→List Str
 | []=>[]
 | e::es=>e.txt::Ex.txtL es
end
mutual
def Ex.xlen:Ex→Nat
 | .mk _ n t a ks _=>n.length+10+t.tlen+Ty.tlenL a+Ex.xlenL ks
def Ex.xlenL:List Ex→Nat
 | []=>0
 | e::es=>e.xlen+Ex.xlenL es
end
theorem Ex.txtL_eq:∀ l:List Ex,Ex.txtL l=l.map Ex.txt
 | []=>rfl
 | t::ts=>by rw [Ex.txtL,Ex.txtL_eq ts,List.map_cons]
theorem Ex.txt_eq (e:Ex):e.txt=txtOf e.kind e.name e.type e.targs (e.kids.map Ex.txt):=by
 cases e with | mk k n t a ks q=>rw [Ex.txt,Ex.txtL_eq];rfl
theorem Ex.xlen_eq (e:Ex):e.xlen=e.name.length+10+e.type.tlen+Ty.tlenL e.targs+Ex.xlenL e.kids:=by cases e;rfl
theorem targs_len (l:List Ty):(targsTxt l).length≤Ty.tlenL l+2:=by
 have h1:=join_len (l.map Ty.txt)
 have h2:=Ty.txtL_len l
 rw [Ty.txtL_eq] at h2
 unfold targsTxt
 split
 ·simp
 ·simp only [List.length_append,List.length_cons,List.length_nil];omega
theorem sumL_cons (x:Str)(l:List Str):sumL (x::l)=x.length+2+sumL l:=by simp [sumL]
theorem txtOf_len (k:Int)(n:Str)(t:Ty)(a:List Ty)(ks:List Str):(txtOf k n t a ks).length+2≤n.length+10+t.tlen+Ty.tlenL a+sumL ks:=by
 have h1:=Ty.txt_len t
 have h2:=targs_len a
 have h3:=join_len ks
 have h4:=join_len (ks.drop 1)
 have h5:(ks.headD []).length+sumL (ks.drop 1)≤sumL ks:=by
  cases ks with
  | nil=>simp [sumL]
  | cons x r=>simp only [List.headD_cons,List.drop_succ_cons,List.drop_zero,sumL_cons];omega
 unfold txtOf
 split
 ·simp only [List.length_append,List.length_cons,List.length_nil];omega
 ·split
  ·simp only [List.length_append,List.length_cons,List.length_nil];omega
  ·split
   ·simp only [List.length_append,List.length_cons,List.length_nil];omega
   ·split
    ·simp only [List.length_append,List.length_cons,List.length_nil];omega
    ·omega
mutual
theorem Ex.txt_len:∀ e:Ex,e.txt.length+2≤e.xlen
 | .mk k n t a ks q=>by
  have h1:=Ex.txtL_len ks
  have h2:=txtOf_len k n t a (Ex.txtL ks)
  rw [Ex.txt,Ex.xlen]
  omega
theorem Ex.txtL_len:∀ l:List Ex,sumL (Ex.txtL l)≤Ex.xlenL l
 | []=>by simp [sumL,Ex.txtL]
 | t::ts=>by
  have h1:=Ex.txt_len t
  have h2:=Ex.txtL_len ts
  rw [Ex.txtL,Ex.xlenL,sumL_cons]
  omega
end
theorem xlenL_mem:∀ {l:List Ex} {t:Ex},t∈l→t.xlen≤Ex.xlenL l
 | [],_,h=>by simp at h
 | x::l,t,h=>by
  simp only [Ex.xlenL]
  rcases List.mem_cons.1 h with rfl | h
  ·omega
  ·have:=xlenL_mem h;omega
theorem xlenL_len:∀ l:List Ex,l.length≤Ex.xlenL l
 | []=>Nat.le_refl _
 | x::l=>by
  have:=xlenL_len l
  have:=Ex.xlen_eq x
  simp only [Ex.xlenL,List.length_cons];omega
inductive Ex.Shp:Ex→Prop where
 | mk (k:Int) (n:Str) (t:Ty) (a:List Ty) (ks:List Ex) (q:Int):(k=1∨k=2∨k=3∨k=4∨k=5)→(k=2∨k=4∨k=5→ks≠[])→(k=5→n=[])→(∀ e,e∈ks→Ex.Shp e)→Ex.Shp (.mk k n t a ks q)
theorem Ex.Shp.kids {e:Ex} (h:e.Shp):∀ x,x∈e.kids→x.Shp:=by cases h;assumption
theorem Ex.Shp.some {e:Ex} (h:e.Shp)(hk:e.kind=2∨e.kind=4∨e.kind=5):∃ v,e.kids[0]? = some v:=by
 cases h with
 | mk k n t a ks q _ h2 _ _ =>
  have:=h2 hk
  cases ks with
  | nil=>exact absurd rfl this
  | cons v _=>exact⟨v,rfl⟩
theorem Ex.Shp.kind {e:Ex} (h:e.Shp):e.kind=1∨e.kind=2∨e.kind=3∨e.kind=4∨e.kind=5:=by cases h;assumption
theorem Ex.Shp.name {e:Ex} (h:e.Shp):e.kind=5→e.name=[]:=by cases h;assumption
abbrev q1z:List Nat:=[0,1,4,5,7,8,9,10,11]
theorem ok_JoinE (l:List Ex)(hs:Ex.xlenL l≤sm)(ih:∀ u,u∈l→CallOK prog 128 [exV u] (strV u.txt)):CallOK prog 197 [.d (.slice (exR l)),.clo 128 []] (strV (Lib.join (l.map Ex.txt) comma)):=by
 have hll:=xlenL_len l
 have hjl:=join_len (l.map Ex.txt)
 have hjs:=Ex.txtL_len l
 rw [Ex.txtL_eq] at hjs
 have hj:=ok_strJoin (l.map Ex.txt) comma (by rw [List.length_map];omega) (by unfold lim sm at *;omega)
 generalize hJ:Lib.join (l.map Ex.txt) comma=J at *
 refine cB func197 ?_
 refine sR q1z ?_
 refine sR q1z ?_
 refine AWp.promote 5 1 5 rfl ?_
 refine kR q1z fun K1 u1=>?_
 refine AWp.block (AWp.forIdx l (X:=Unit) (fun j _=>[(1,.clo 128 []),(5,.acc 5),(8,.d (.slice (exR l))),(9,intV l.length),(10,intV j)]) (fun j _=>[(5,.rows 1 (strR ((l.take j).map Ex.txt)))])
  (fun j _=>True) () trivial sS (by simp [ble,bget,strR]) ?_ ?_)
 rotate_left
 ·intro j _ u hu hmem dp tk hlt _
  have hi:=ih u hmem
  rw [tk]
  refine sR1 hlt q1z ?_
  refine AWp.goOn rfl ?_
  refine sK fun K2 u2=>?_
  refine AWp.block ?_
  (refine sV q1z fun K z=>?_;refine ci (exR_get hu) ?_;apply z;clear z K)
  (refine lV q1z fun K z=>?_;refine cc hi ?_;refine⟨by simp,by simp only [List.length_map,List.length_take];unfold lim sm at *;omega,?_⟩;(try refine ev ?_);apply z;clear z K;try simp only [thenA,blockA,if_true])
  refine u2 _ _ ?_
  clear u2 K2
  (refine lV q1z fun K z=>?_;refine cl ?_;apply z;clear z K;try simp only [thenA,blockA,if_true])
  exact⟨(),trivial,sS,by simp [ble,bget,strR]⟩
 intro _ _
 rw [List.take_length]
 refine sR1 Int.lt_irrefl q1z ?_
 refine AWp.stop rfl ?_
 simp only [thenA,blockA,if_true]
 refine u1 _ _ ?_
 (refine sV q1z fun K z=>?_;refine⟨_,.inr ⟨_,rfl,hj,rfl⟩,?_⟩;(try refine ev ?_);apply z;clear z K)
 exact aR
theorem xlen_drop (l:List Ex):Ex.xlenL (l.drop 1)≤Ex.xlenL l:=by
 cases l with
 | nil=>simp
 | cons x r=>simp only [List.drop_succ_cons,List.drop_zero,Ex.xlenL];omega
abbrev q2z:List Nat:=[0,1,2,3,5,6,11,35,46,57]
theorem ok_EText:∀ e:Ex,e.Shp→e.xlen≤sm→CallOK prog 128 [exV e] (strV e.txt):=by
 intro e
 induction e using Ex.induct with
 | h e ih =>
 intro hs hl
 have hle:=Ex.xlen_eq e
 have hlt:=Ex.txt_len e
 have hll:=xlenL_len e.kids
 have ihk:∀ u,u∈e.kids→CallOK prog 128 [exV u] (strV u.txt):=fun u hu=>ih u hu (hs.kids u hu) (by have:=xlenL_mem hu;omega)
 have htt:=ok_TText e.type (by omega)
 rw [Ex.txt_eq] at hlt ⊢
 unfold txtOf at hlt ⊢
 rcases hs.kind with hk | hk | hk | hk | hk
 ·have hx:exV e=.agg [.d (.int .i64 1),.d (.str e.name),.d (.str e.type.name),.d (.slice (tyR e.type.args)),.d (.int .i64 e.type.pos),.d (.slice (tyR e.targs)),.d (.slice (exR e.kids)),.d (.int .i64 e.pos)]:=by rw [← hk]
  rw [if_neg (by omega),if_neg (by omega),if_neg (by omega),if_neg (by omega),hx]
  refine cB func128 ?_
  refine sR q2z ?_
  refine kR q2z fun K1 u1=>?_
  refine AWp.block ?_
  refine sR q2z ?_
  refine AWp.condF rfl ?_
  refine sR q2z ?_
  refine AWp.condF rfl ?_
  refine sR q2z ?_
  refine AWp.condF rfl ?_
  refine sR q2z ?_
  refine AWp.condF rfl (AWp.skip (u1 _ _ ?_))
  refine sR q2z ?_
  exact aR
 ·obtain⟨v,hv⟩:=hs.some (.inl hk)
  have hvm:=List.mem_of_getElem? hv
  have hev:=ihk v hvm
  have hlen:=(List.getElem?_eq_some_iff.1 hv).1
  have hx:exV e=.agg [.d (.int .i64 2),.d (.str e.name),.d (.str e.type.name),.d (.slice (tyR e.type.args)),.d (.int .i64 e.type.pos),.d (.slice (tyR e.targs)),.d (.slice (exR e.kids)),.d (.int .i64 e.pos)]:=by rw [← hk]
  rw [if_pos hk] at hlt ⊢
  have hhd:(e.kids.map Ex.txt).headD []=v.txt:=by
   cases hks:e.kids with
   | nil=>rw [hks] at hv;cases hv
   | cons y r=>rw [hks] at hv;cases hv;rfl
  have dp:=xlen_drop e.kids
  have hje:=ok_JoinE (e.kids.drop 1) (by omega) fun u hu=>ihk u (List.mem_of_mem_drop hu)
  rw [List.map_drop] at hje
  have hex:exR (e.kids.drop 1)=((exR e.kids).take e.kids.length).drop 1:=by rw [List.take_of_length_le (by rw [exR_len];exact Nat.le_refl _),exR_map,exR_map,← List.map_drop]
  rw [hex] at hje
  rw [hhd] at hlt ⊢
  rw [hx]
  simp only [List.length_append,List.length_cons,List.length_nil] at hlt
  have hjt:=ok_JoinT e.targs (by omega)
  have hTA:targsTxt e.targs=if e.targs=[] then [] else [91]++Lib.join (e.targs.map Ty.txt) comma++[93]:=rfl
  have hTL:=targs_len e.targs
  generalize targsTxt e.targs=TA at *
  generalize hJ:Lib.join ((e.kids.map Ex.txt).drop 1) comma=J at *
  generalize Lib.join (e.targs.map Ty.txt) comma=JA at *
  generalize v.txt=V at *
  by_cases h0:e.targs=[]
  ·have hz:¬ ((e.targs.length:Nat):Int) > 0:=by rw [h0];decide
   rw [if_pos h0] at hTA
   subst hTA
   rw [List.append_nil]
   simp only [List.length_nil] at hlt
   refine cB func128 ?_
   refine sR q2z ?_
   refine kR q2z fun K1 u1=>?_
   refine AWp.block ?_
   refine sR q2z ?_
   refine AWp.condT rfl ?_
   refine sR q2z ?_
   refine kR1 hz q2z fun K2 u2=>?_
   refine AWp.condF rfl (AWp.skip (u2 _ _ ?_))
   clear u2 K2
   (refine sG q2z [] 16 [] fun K z=>?_;refine ev ?_;refine cj (exR_get hv) ?_;refine cc hev ?_;refine⟨(by (try simp only [List.length_append,List.length_cons,List.length_nil]);unfold lim sm at *;omega),?_⟩;(try refine ev ?_);refine⟨(by (try simp only [List.length_append,List.length_cons,List.length_nil]);unfold lim sm at *;omega),?_⟩;(try refine ev ?_);refine⟨(by (try simp only [List.length_append,List.length_cons,List.length_nil]);unfold lim sm at *;omega),?_⟩;(try refine ev ?_);refine⟨(by (try simp only [List.length_append,List.length_cons,List.length_nil]);unfold lim sm at *;omega),?_⟩;(try refine ev ?_);refine⟨exR_row _,by omega,by omega,?_⟩;(try refine ev ?_);refine cc hje ?_;refine⟨(by (try simp only [List.length_append,List.length_cons,List.length_nil]);unfold lim sm at *;omega),?_⟩;(try refine ev ?_);refine⟨(by (try simp only [List.length_append,List.length_cons,List.length_nil]);unfold lim sm at *;omega),?_⟩;(try refine ev ?_);apply z;clear z K)
   exact aR
  ·have hz:((e.targs.length:Nat):Int) > 0:=by
    have:e.targs.length≠0:=fun h=>h0 (List.eq_nil_of_length_eq_zero h)
    omega
   rw [if_neg h0] at hTA
   subst hTA
   simp only [List.length_append,List.length_cons,List.length_nil] at hlt hTL
   refine cB func128 ?_
   refine sR q2z ?_
   refine kR q2z fun K1 u1=>?_
   refine AWp.block ?_
   refine sR q2z ?_
   refine AWp.condT rfl ?_
   refine sR q2z ?_
   refine kR1 hz q2z fun K2 u2=>?_
   refine AWp.condT rfl ?_
   (refine lV q2z fun K z=>?_;refine cc hjt ?_;refine⟨(by (try simp only [List.length_append,List.length_cons,List.length_nil]);unfold lim sm at *;omega),?_⟩;(try refine ev ?_);refine⟨(by (try simp only [List.length_append,List.length_cons,List.length_nil]);unfold lim sm at *;omega),?_⟩;(try refine ev ?_);apply z;clear z K;try simp only [thenA,blockA,if_true])
   refine u2 _ _ ?_
   clear u2 K2
   (refine sG q2z [] 16 [] fun K z=>?_;refine ev ?_;refine cj (exR_get hv) ?_;refine cc hev ?_;refine⟨(by (try simp only [List.length_append,List.length_cons,List.length_nil]);unfold lim sm at *;omega),?_⟩;(try refine ev ?_);refine⟨(by (try simp only [List.length_append,List.length_cons,List.length_nil]);unfold lim sm at *;omega),?_⟩;(try refine ev ?_);refine⟨(by (try simp only [List.length_append,List.length_cons,List.length_nil]);unfold lim sm at *;omega),?_⟩;(try refine ev ?_);refine⟨(by (try simp only [List.length_append,List.length_cons,List.length_nil]);unfold lim sm at *;omega),?_⟩;(try refine ev ?_);refine⟨exR_row _,by omega,by omega,?_⟩;(try refine ev ?_);refine cc hje ?_;refine⟨(by (try simp only [List.length_append,List.length_cons,List.length_nil]);unfold lim sm at *;omega),?_⟩;(try refine ev ?_);refine⟨(by (try simp only [List.length_append,List.length_cons,List.length_nil]);unfold lim sm at *;omega),?_⟩;(try refine ev ?_);apply z;clear z K)
   exact aR
 ·have hx:exV e=.agg [.d (.int .i64 3),.d (.str e.name),.d (.str e.type.name),.d (.slice (tyR e.type.args)),.d (.int .i64 e.type.pos),.d (.slice (tyR e.targs)),.d (.slice (exR e.kids)),.d (.int .i64 e.pos)]:=by rw [← hk]
  rw [if_neg (by omega),if_pos hk] at hlt ⊢
  have hje:=ok_JoinE e.kids (by omega) ihk
  rw [hx]
  simp only [List.length_append,List.length_cons,List.length_nil] at hlt
  generalize Lib.join (e.kids.map Ex.txt) comma=J at *
  generalize e.type.txt=V at *
  refine cB func128 ?_
  refine sR q2z ?_
  refine kR q2z fun K1 u1=>?_
  refine AWp.block ?_
  refine sR q2z ?_
  refine AWp.condF rfl ?_
  refine sR q2z ?_
  refine AWp.condT rfl ?_
  (refine sG q2z [] 7 [] fun K z=>?_;refine ev ?_;refine cc htt ?_;refine⟨(by (try simp only [List.length_append,List.length_cons,List.length_nil]);unfold lim sm at *;omega),?_⟩;(try refine ev ?_);refine cc hje ?_;refine⟨(by (try simp only [List.length_append,List.length_cons,List.length_nil]);unfold lim sm at *;omega),?_⟩;(try refine ev ?_);refine⟨(by (try simp only [List.length_append,List.length_cons,List.length_nil]);unfold lim sm at *;omega),?_⟩;(try refine ev ?_);apply z;clear z K)
  exact aR
 ·obtain⟨v,hv⟩:=hs.some (.inr (.inl hk))
  have hev:=ihk v (List.mem_of_getElem? hv)
  have hx:exV e=.agg [.d (.int .i64 4),.d (.str e.name),.d (.str e.type.name),.d (.slice (tyR e.type.args)),.d (.int .i64 e.type.pos),.d (.slice (tyR e.targs)),.d (.slice (exR e.kids)),.d (.int .i64 e.pos)]:=by rw [← hk]
  have hhd:(e.kids.map Ex.txt).headD []=v.txt:=by
   cases hks:e.kids with
   | nil=>rw [hks] at hv;cases hv
   | cons y r=>rw [hks] at hv;cases hv;rfl
  rw [if_neg (by omega),if_neg (by omega),if_pos hk,hhd] at hlt ⊢
  rw [hx]
  simp only [List.length_append,List.length_cons,List.length_nil] at hlt
  generalize v.txt=V at *
  refine cB func128 ?_
  refine sR q2z ?_
  refine kR q2z fun K1 u1=>?_
  refine AWp.block ?_
  refine sR q2z ?_
  refine AWp.condF rfl ?_
  refine sR q2z ?_
  refine AWp.condF rfl ?_
  refine sR q2z ?_
  refine AWp.condT rfl ?_
  (refine sG q2z [] 8 [] fun K z=>?_;refine ev ?_;refine cj (exR_get hv) ?_;refine cc hev ?_;refine⟨(by (try simp only [List.length_append,List.length_cons,List.length_nil]);unfold lim sm at *;omega),?_⟩;(try refine ev ?_);refine⟨(by (try simp only [List.length_append,List.length_cons,List.length_nil]);unfold lim sm at *;omega),?_⟩;(try refine ev ?_);apply z;clear z K)
  exact aR
 ·obtain⟨v,hv⟩:=hs.some (.inr (.inr hk))
  have hev:=ihk v (List.mem_of_getElem? hv)
  have hx:exV e=.agg [.d (.int .i64 5),.d (.str e.name),.d (.str e.type.name),.d (.slice (tyR e.type.args)),.d (.int .i64 e.type.pos),.d (.slice (tyR e.targs)),.d (.slice (exR e.kids)),.d (.int .i64 e.pos)]:=by rw [← hk]
  have hhd:(e.kids.map Ex.txt).headD []=v.txt:=by
   cases hks:e.kids with
   | nil=>rw [hks] at hv;cases hv
   | cons y r=>rw [hks] at hv;cases hv;rfl
  rw [if_neg (by omega),if_neg (by omega),if_neg (by omega),if_pos hk,hhd] at hlt ⊢
  rw [hx]
  simp only [List.length_append,List.length_cons,List.length_nil] at hlt
  generalize v.txt=V at *
  generalize e.type.txt=TX at *
  refine cB func128 ?_
  refine sR q2z ?_
  refine kR q2z fun K1 u1=>?_
  refine AWp.block ?_
  refine sR q2z ?_
  refine AWp.condF rfl ?_
  refine sR q2z ?_
  refine AWp.condF rfl ?_
  refine sR q2z ?_
  refine AWp.condF rfl ?_
  refine sR q2z ?_
  refine AWp.condT rfl ?_
  (refine sG q2z [] 9 [] fun K z=>?_;refine ev ?_;refine cj (exR_get hv) ?_;refine cc hev ?_;refine⟨(by (try simp only [List.length_append,List.length_cons,List.length_nil]);unfold lim sm at *;omega),?_⟩;(try refine ev ?_);refine cc htt ?_;refine⟨(by (try simp only [List.length_append,List.length_cons,List.length_nil]);unfold lim sm at *;omega),?_⟩;(try refine ev ?_);refine⟨(by (try simp only [List.length_append,List.length_cons,List.length_nil]);unfold lim sm at *;omega),?_⟩;(try refine ev ?_);apply z;clear z K)
  exact aR
abbrev q1nx:List Nat:=[0,1,2,6,7,8,9,14,15,16,17,18,30]
theorem ok_EqT (l m:List Ty)(hl:l.length≤sm)(hs:∀ t,t∈l→t.Sm):CallOK prog 192 [.d (.slice (tyR l)),.d (.slice (tyR m)),.clo 172 []] (boolV (sameTL l m)):=by
 refine cB func192 ?_
 refine sR q1nx ?_
 refine kR q1nx fun K1 u1=>?_
 refine AWp.ifRetK rfl u1 (fun hc=>?_) (fun hc=>?_)
 ·refine sR q1nx ?_
  have:sameTL l m=false:=by
   cases h:sameTL l m with
   | false=>rfl
   | true=>have:=sameTL_len h;simp [this] at hc
  rw [this]
  exact aR
 clear u1 K1
 have hlm:l.length=m.length:=by
  have:(l.length:Int)=m.length:=by simpa using hc
  omega
 refine kR q1nx fun K1 u1=>?_
 refine AWp.block (AWp.forIdx l (X:=Unit) (fun j _=>[(1,.d (.slice (tyR m))),(2,.clo 172 []),(15,.d (.slice (tyR l))),(16,intV l.length),(17,intV j)]) (fun _ _=>[])
  (fun j _=>sameTL (l.drop j) (m.drop j)=sameTL l m) () (by simp) sS (by simp [ble,bget,exC,tyC,foC,paC,siC,deC,prC]) ?_ ?_)
 rotate_left
 ·intro j _ d hd hmem dp tk hlt hI
  obtain⟨e,he,hdm⟩:=drop_get (l:=m) (j:=j) (by omega)
  have hcall:=ok_TSame d e (hs d hmem)
  rw [dp,hdm,sameTL] at hI
  refine sR1 hlt q1nx ?_
  refine AWp.goOn rfl ?_
  refine sK fun K2 u2=>?_
  refine AWp.block ?_
  (refine sV q1nx fun K z=>?_;refine ci (tyR_get hd) ?_;apply z;clear z K)
  (refine sV q1nx fun K z=>?_;refine ci (tyR_get he) ?_;apply z;clear z K)
  refine sC hcall q1nx ?_
  refine AWp.cond rfl (fun hc=>?_) (fun hc=>?_)
  ·refine sR q1nx ?_
   simp only [Bool.not_eq_true'] at hc
   rw [hc,Bool.false_and] at hI
   rw [← hI]
   exact aR
  simp only [Bool.not_eq_false'] at hc
  rw [hc,Bool.true_and] at hI
  refine AWp.skip (u2 _ _ ?_)
  clear u2 K2
  (refine lV q1nx fun K z=>?_;refine cl ?_;apply z;clear z K;try simp only [thenA,blockA,if_true])
  exact⟨(),hI,sS,(by simp [ble,bget,exC,tyC,foC,paC,siC,deC,prC])⟩
 intro _ hI
 refine sR1 Int.lt_irrefl q1nx ?_
 refine AWp.stop rfl ?_
 simp only [thenA,blockA,if_true]
 refine u1 _ _ ?_
 refine sR q1nx ?_
 rw [List.drop_length,hlm,List.drop_length] at hI
 rw [← hI]
 exact aR
abbrev q2nx:List Nat:=[0,1,2,6,7,8,9,14,15,16,17,18,30]
theorem ok_EqE (l m:List Ex)(hl:l.length≤sm)(hs:∀ t,t∈l→∀ u,CallOK prog 126 [exV t,exV u] (boolV (sameE t u))):CallOK prog 193 [.d (.slice (exR l)),.d (.slice (exR m)),.clo 126 []] (boolV (sameEL l m)):=by
 refine cB func193 ?_
 refine sR q2nx ?_
 refine kR q2nx fun K1 u1=>?_
 refine AWp.ifRetK rfl u1 (fun hc=>?_) (fun hc=>?_)
 ·refine sR q2nx ?_
  have:sameEL l m=false:=by
   cases h:sameEL l m with
   | false=>rfl
   | true=>have:=sameEL_len h;simp [this] at hc
  rw [this]
  exact aR
 clear u1 K1
 have hlm:l.length=m.length:=by
  have:(l.length:Int)=m.length:=by simpa using hc
  omega
 refine kR q2nx fun K1 u1=>?_
 refine AWp.block (AWp.forIdx l (X:=Unit) (fun j _=>[(1,.d (.slice (exR m))),(2,.clo 126 []),(15,.d (.slice (exR l))),(16,intV l.length),(17,intV j)]) (fun _ _=>[])
  (fun j _=>sameEL (l.drop j) (m.drop j)=sameEL l m) () (by simp) sS (by simp [ble,bget,exC,tyC,foC,paC,siC,deC,prC]) ?_ ?_)
 rotate_left
 ·intro j _ d hd hmem dp tk hlt hI
  obtain⟨e,he,hdm⟩:=drop_get (l:=m) (j:=j) (by omega)
  have hcall:=hs d hmem e
  rw [dp,hdm,sameEL] at hI
  refine sR1 hlt q2nx ?_
  refine AWp.goOn rfl ?_
  refine sK fun K2 u2=>?_
  refine AWp.block ?_
  (refine sV q2nx fun K z=>?_;refine ci (exR_get hd) ?_;apply z;clear z K)
  (refine sV q2nx fun K z=>?_;refine ci (exR_get he) ?_;apply z;clear z K)
  refine sC hcall q2nx ?_
  refine AWp.cond rfl (fun hc=>?_) (fun hc=>?_)
  ·refine sR q2nx ?_
   simp only [Bool.not_eq_true'] at hc
   rw [hc,Bool.false_and] at hI
   rw [← hI]
   exact aR
  simp only [Bool.not_eq_false'] at hc
  rw [hc,Bool.true_and] at hI
  refine AWp.skip (u2 _ _ ?_)
  clear u2 K2
  (refine lV q2nx fun K z=>?_;refine cl ?_;apply z;clear z K;try simp only [thenA,blockA,if_true])
  exact⟨(),hI,sS,(by simp [ble,bget,exC,tyC,foC,paC,siC,deC,prC])⟩
 intro _ hI
 refine sR1 Int.lt_irrefl q2nx ?_
 refine AWp.stop rfl ?_
 simp only [thenA,blockA,if_true]
 refine u1 _ _ ?_
 refine sR q2nx ?_
 rw [List.drop_length,hlm,List.drop_length] at hI
 rw [← hI]
 exact aR
theorem ok_ESame:∀ (a:Ex),a.Sm→∀ b:Ex,CallOK prog 126 [exV a,exV b] (boolV (sameE a b)):=by
 intro a
 induction a using Ex.induct with
 | h a ih =>
 intro hs b
 have hst:=ok_EqT a.targs b.targs hs.targs.1 hs.targs.2
 have hsk:=ok_EqE a.kids b.kids hs.kids.1 fun t ht u=>ih t ht (hs.kids.2 t ht) u
 have hsm:=ok_TSame a.type b.type hs.type
 rw [sameE_eq]
 generalize sameT a.type b.type=x at *
 generalize sameTL a.targs b.targs=y at *
 generalize sameEL a.kids b.kids=z at *
 refine cB func126 ?_
 refine sR [0,1,2,3,4] ?_
 by_cases h1:a.kind=b.kind
 ·by_cases h2:a.name=b.name
  ·simp only [h1,h2,decide_true,Bool.true_and]
   cases x with
   | false =>
    (refine sQ [0,1,2,3,4] fun K z=>?_;refine ev2 h1 h2 ?_;refine⟨_,.inl ⟨_,rfl,hsm,rfl⟩,?_⟩;(try refine ev2 h1 h2 ?_);apply z;clear z K)
    exact aR
   | true =>
    cases y with
    | false =>
     (refine sQ [0,1,2,3,4] fun K z=>?_;refine ev2 h1 h2 ?_;refine⟨_,.inl ⟨_,rfl,hsm,rfl⟩,?_⟩;(try refine ev2 h1 h2 ?_);refine⟨_,.inl ⟨_,rfl,hst,rfl⟩,?_⟩;(try refine ev2 h1 h2 ?_);apply z;clear z K)
     exact aR
    | true =>
     (refine sQ [0,1,2,3,4] fun K z=>?_;refine ev2 h1 h2 ?_;refine⟨_,.inl ⟨_,rfl,hsm,rfl⟩,?_⟩;(try refine ev2 h1 h2 ?_);refine⟨_,.inl ⟨_,rfl,hst,rfl⟩,?_⟩;(try refine ev2 h1 h2 ?_);refine⟨_,.inl ⟨_,rfl,hsk,rfl⟩,?_⟩;(try refine ev2 h1 h2 ?_);apply z;clear z K)
     exact aR
  ·simp only [h1,h2,decide_true,decide_false,Bool.true_and,Bool.false_and]
   refine sR2 h1 h2 [0,1,2,3,4] ?_
   exact aR
 ·simp only [h1,decide_false,Bool.false_and]
  refine sR1 h1 [0,1,2,3,4] ?_
  exact aR
end Go.Abs
