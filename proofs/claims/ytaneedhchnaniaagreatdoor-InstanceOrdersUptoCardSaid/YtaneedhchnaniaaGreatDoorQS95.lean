/- the texts of types and expressions: types.Text, expr.Text; castingsref04.Text, castingsref05.Text -/
import Derived.Test.YtaneedhchnaniaaGreatDoorQS90
import Derived.Test.YtaneedhchnaniaaGreatDoorQS36
import Derived.Test.YtaneedhchnaniaaGreatDoorQSB
import Derived.Test.YtaneedhchnaniaaGreatDoorQV05
import Derived.Test.YtaneedhchnaniaaGreatDoorQS49
namespace Go.Abs
set_option linter.unusedSimpArgs false
set_option linter.unusedVariables false
open Go Go.Proofs Tryz
set_option maxRecDepth 100000
set_option maxHeartbeats 1000000
abbrev comma:Str:=[44,32]
mutual
def Ty.txt:Ty→Str
 | .mk n a _=>if a.isEmpty=true then n else n++[91]++Lib.join (Ty.txtL a) comma++[93]
def Ty.txtL:List Ty→List Str
 | []=>[]
 | t::ts=>t.txt::Ty.txtL ts
end
mutual
def Ty.tlen:Ty→Nat
 | .mk n a _=>n.length+4+Ty.tlenL a
def Ty.tlenL:List Ty→Nat
 | []=>0
 | t::ts=>t.tlen+Ty.tlenL ts
end
theorem Ty.txtL_eq:∀ l:List Ty,Ty.txtL l=l.map Ty.txt
 | []=>rfl
 | t::ts=>by rw [Ty.txtL,Ty.txtL_eq ts,List.map_cons]
theorem Ty.txt_eq (t:Ty):t.txt=if t.args=[] then t.name else t.name++[91]++Lib.join (t.args.map Ty.txt) comma++[93]:=by
 cases t with
 | mk n a p =>
  rw [Ty.txt,Ty.txtL_eq]
  simp only [List.isEmpty_iff]
  rfl
theorem Ty.tlen_eq (t:Ty):t.tlen=t.name.length+4+Ty.tlenL t.args:=by cases t;rfl
def sumL (l:List Str):Nat:=(l.map fun s=>s.length+2).sum
theorem join_len:∀ l:List Str,(Lib.join l comma).length≤sumL l
 | []=>by simp [Lib.join_nil]
 | x::r=>by
  have:∀ r:List Str,(Lib.joinTail comma r).length≤sumL r:=fun r=>by
   induction r with
   | nil=>simp [Lib.joinTail]
   | cons y r ih=>simp only [Lib.joinTail,sumL,List.map_cons,List.flatten_cons,List.length_append,List.sum_cons,List.length_cons,List.length_nil] at ih ⊢;omega
  rw [Lib.join_cons,List.length_append]
  have:=this r
  simp only [sumL,List.map_cons,List.sum_cons] at this ⊢
  omega
mutual
theorem Ty.txt_len:∀ t:Ty,t.txt.length+2≤t.tlen
 | .mk n a p=>by
  have h1:=Ty.txtL_len a
  have h2:=join_len (Ty.txtL a)
  rw [Ty.txt,Ty.tlen]
  split
  ·omega
  ·simp only [List.length_append,List.length_cons,List.length_nil];omega
theorem Ty.txtL_len:∀ l:List Ty,sumL (Ty.txtL l)≤Ty.tlenL l
 | []=>by simp [sumL,Ty.txtL]
 | t::ts=>by
  have h1:=Ty.txt_len t
  have h2:=Ty.txtL_len ts
  simp only [sumL] at h2
  simp only [Ty.txtL,Ty.tlenL,sumL,List.map_cons,List.sum_cons]
  omega
end
theorem tlenL_mem:∀ {l:List Ty} {t:Ty},t∈l→t.tlen≤Ty.tlenL l
 | [],_,h=>by simp at h
 | x::l,t,h=>by
  simp only [Ty.tlenL]
  rcases List.mem_cons.1 h with rfl | h
  ·omega
  ·have:=tlenL_mem h;omega
theorem tlenL_len:∀ l:List Ty,l.length≤Ty.tlenL l
 | []=>Nat.le_refl _
 | x::l=>by
  have:=tlenL_len l
  have:=Ty.tlen_eq x
  simp only [Ty.tlenL,List.length_cons];omega
abbrev q1F:List Nat:=[0,1,2,3,5,9,13,14,15,16]
theorem ok_TText:∀ t:Ty,t.tlen≤sm→CallOK prog 185 [tyV t] (strV t.txt):=by
 intro t
 induction t using Ty.induct with
 | h t ih =>
 intro hl
 have hle:=Ty.tlen_eq t
 have hll:=tlenL_len t.args
 have hxl:=Ty.txt_len t
 have hjl:=join_len (t.args.map Ty.txt)
 have hjs:=Ty.txtL_len t.args
 rw [Ty.txtL_eq] at hjs
 rw [Ty.txt_eq] at hxl ⊢
 by_cases h0:t.args=[]
 ·rw [if_pos h0]
  have hz:((t.args.length:Nat):Int)=0:=by rw [h0];rfl
  refine cB func185 ?_
  refine sR q1F ?_
  refine kR1 hz q1F fun K1 u1=>?_
  refine tI ?_
  refine sR q1F ?_
  exact aR
 have hz:¬ ((t.args.length:Nat):Int)=0:=by
  have:t.args.length≠0:=fun h=>h0 (List.eq_nil_of_length_eq_zero h)
  omega
 rw [if_neg h0] at hxl ⊢
 simp only [List.length_append,List.length_cons,List.length_nil] at hxl
 have hj:=ok_strJoin (t.args.map Ty.txt) comma (by rw [List.length_map];omega) (by unfold lim sm at *;omega)
 generalize hJ:Lib.join (t.args.map Ty.txt) comma=J at *
 refine cB func185 ?_
 refine sR q1F ?_
 refine kR1 hz q1F fun K1 u1=>?_
 refine kI u1 ?_
 clear u1 K1
 refine sR q1F ?_
 refine AWp.promote 3 1 3 rfl ?_
 refine kR q1F fun K1 u1=>?_
 refine AWp.block (AWp.forIdx t.args (X:=Unit) (fun j _=>[(1,.box 1 0),(3,.acc 3),(13,.d (.slice (tyR t.args))),(14,intV t.args.length),(15,intV j)]) (fun j _=>[(1,.cells [.d (.str t.name),.d (.slice (tyR t.args)),.d (.int .i64 t.pos)]),(3,.rows 1 (strR ((t.args.take j).map Ty.txt)))])
  (fun j _=>True) () trivial sS (by simp [ble,bget,strR]) ?_ ?_)
 rotate_left
 ·intro j _ u hu hmem dp tk hlt _
  have hi:=ih u hmem (by have:=tlenL_mem hmem;omega)
  rw [tk]
  refine sR1 hlt q1F ?_
  refine AWp.goOn rfl ?_
  refine sK fun K2 u2=>?_
  refine AWp.block ?_
  (refine sV q1F fun K z=>?_;refine ci (tyR_get hu) ?_;apply z;clear z K)
  (refine lV q1F fun K z=>?_;refine cc hi ?_;refine⟨by simp,by simp only [List.length_map,List.length_take];unfold lim sm at *;omega,?_⟩;(try refine ev ?_);apply z;clear z K;try simp only [thenA,blockA])
  refine u2 _ _ ?_
  clear u2 K2
  refine lT q1F ?_
  exact⟨(),trivial,sS,by simp [ble,bget,strR]⟩
 intro _ _
 rw [List.take_length]
 refine sR1 Int.lt_irrefl q1F ?_
 refine AWp.stop rfl ?_
 simp only [thenA,blockA,if_true]
 refine u1 _ _ ?_
 (refine sG q1F [] 5 [] fun K z=>?_;refine ev ?_;refine⟨(by (try simp only [List.length_append,List.length_cons,List.length_nil]);unfold lim sm at *;omega),?_⟩;(try refine ev ?_);refine⟨_,.inr ⟨_,rfl,hj,rfl⟩,?_⟩;(try refine ev ?_);refine⟨(by (try simp only [List.length_append,List.length_cons,List.length_nil]);unfold lim sm at *;omega),?_⟩;(try refine ev ?_);refine⟨(by (try simp only [List.length_append,List.length_cons,List.length_nil]);unfold lim sm at *;omega),?_⟩;(try refine ev ?_);apply z;clear z K)
 exact aR
def Ty.pre (t:Ty)(j:Nat):Str:=if j=0 then t.name else t.name++[91]++Lib.join ((t.args.take j).map Ty.txt) comma
def targsTxt (l:List Ty):Str:=if l=[] then [] else [91]++Lib.join (l.map Ty.txt) comma++[93]
def txtOf (k:Int)(n:Str)(t:Ty)(a:List Ty)(ks:List Str):Str :=
 if k=2 then ks.headD []++[46]++n++targsTxt a++[40]++Lib.join (ks.drop 1) comma++[41]
 else if k=3 then t.txt++[123]++Lib.join ks comma++[125]
 else if k=4 then ks.headD []++[46]++n
 else if k=5 then ks.headD []++[46,40]++t.txt++[41]
 else n
mutual
def Ex.txt:Ex→Str
 | .mk k n t a ks _=>txtOf k n t a (Ex.txtL ks)
def Ex.txtL:List Ex→List Str
 | []=>[]
 | e::es=>e.txt::Ex.txtL es
end
mutual
def Ex.xlen:Ex→Nat
 | .mk _ n t a ks _=>n.length+10+t.tlen+Ty.tlenL a+Ex.xlenL ks
def Ex.xlenL:List Ex→Nat
 | []=>0
 | e::es=>e.xlen+Ex.xlenL es
end
theorem Ex.txtL_eq:∀ l:List Ex,Ex.txtL l=l.map Ex.txt
 | []=>rfl
 | t::ts=>by rw [Ex.txtL,Ex.txtL_eq ts,List.map_cons]
theorem Ex.txt_eq (e:Ex):e.txt=txtOf e.kind e.name e.type e.targs (e.kids.map Ex.txt):=by
 cases e with | mk k n t a ks q=>rw [Ex.txt,Ex.txtL_eq];rfl
theorem targs_len (l:List Ty):(targsTxt l).length≤Ty.tlenL l+2:=by
 have h1:=join_len (l.map Ty.txt)
 have h2:=Ty.txtL_len l
 rw [Ty.txtL_eq] at h2
 unfold targsTxt
 split
 ·simp
 ·simp only [List.length_append,List.length_cons,List.length_nil];omega
theorem sumL_cons (x:Str)(l:List Str):sumL (x::l)=x.length+2+sumL l:=by simp [sumL]
theorem txtOf_len (k:Int)(n:Str)(t:Ty)(a:List Ty)(ks:List Str):(txtOf k n t a ks).length+2≤n.length+10+t.tlen+Ty.tlenL a+sumL ks:=by
 have h1:=Ty.txt_len t
 have h2:=targs_len a
 have h3:=join_len ks
 have h4:=join_len (ks.drop 1)
 have h5:(ks.headD []).length+sumL (ks.drop 1)≤sumL ks:=by
  cases ks with
  | nil=>simp [sumL]
  | cons x r=>simp only [List.headD_cons,List.drop_succ_cons,List.drop_zero,sumL_cons];omega
 unfold txtOf
 split
 ·simp only [List.length_append,List.length_cons,List.length_nil];omega
 ·split
  ·simp only [List.length_append,List.length_cons,List.length_nil];omega
  ·split
   ·simp only [List.length_append,List.length_cons,List.length_nil];omega
   ·split
    ·simp only [List.length_append,List.length_cons,List.length_nil];omega
    ·omega
mutual
theorem Ex.txt_len:∀ e:Ex,e.txt.length+2≤e.xlen
 | .mk k n t a ks q=>by
  have h1:=Ex.txtL_len ks
  have h2:=txtOf_len k n t a (Ex.txtL ks)
  rw [Ex.txt,Ex.xlen]
  omega
theorem Ex.txtL_len:∀ l:List Ex,sumL (Ex.txtL l)≤Ex.xlenL l
 | []=>by simp [sumL,Ex.txtL]
 | t::ts=>by
  have h1:=Ex.txt_len t
  have h2:=Ex.txtL_len ts
  rw [Ex.txtL,Ex.xlenL,sumL_cons]
  omega
end
inductive Ex.Shp:Ex→Prop where
 | mk (k:Int) (n:Str) (t:Ty) (a:List Ty) (ks:List Ex) (q:Int):(k=1∨k=2∨k=3∨k=4∨k=5)→(k=2∨k=4∨k=5→ks≠[])→(k=5→n=[])→(∀ e,e∈ks→Ex.Shp e)→Ex.Shp (.mk k n t a ks q)
theorem Ex.Shp.kids {e:Ex} (h:e.Shp):∀ x,x∈e.kids→x.Shp:=by cases h;assumption
theorem Ex.Shp.some {e:Ex} (h:e.Shp)(hk:e.kind=2∨e.kind=4∨e.kind=5):∃ v,e.kids[0]? = some v:=by
 cases h with
 | mk k n t a ks q _ h2 _ _ =>
  have:=h2 hk
  cases ks with
  | nil=>exact absurd rfl this
  | cons v _=>exact⟨v,rfl⟩
theorem Ex.Shp.kind {e:Ex} (h:e.Shp):e.kind=1∨e.kind=2∨e.kind=3∨e.kind=4∨e.kind=5:=by cases h;assumption
theorem Ex.Shp.name {e:Ex} (h:e.Shp):e.kind=5→e.name=[]:=by cases h;assumption
inductive MOK (mt:Ty→Ty) (mm:Str→List Ty→Str):Ex→Prop where
 | mk (k:Int) (n:Str) (t:Ty) (a:List Ty) (ks:List Ex) (q:Int):(k=3∨k=5→CallOK prog 87 [tyV t] (tyV (mt t)))→(k=2→CallOK prog 88 [strV n,.d (.slice (tyR a))] (strV (mm n a))) →
   (∀ e,e∈ks→MOK mt mm e)→MOK mt mm (.mk k n t a ks q)
theorem MOK.kids {mt:Ty→Ty} {mm:Str→List Ty→Str} {e:Ex} (h:MOK mt mm e):∀ x,x∈e.kids→MOK mt mm x:=by cases h;assumption
structure OwnName (n:Str):Prop where
 len:n.length≤sm
 noD:Lib.hasPrefix n [36]=false
 noN:noNum n=true
 noU:Lib.countByte n 95=0
theorem esubst_is (v:List Str)(a:List Ty)(e:Ex):e.subst v a=.mk e.kind e.name (e.type.subst v a) (e.targs.map (Ty.subst v a)) (e.kids.map (Ex.subst v a)) e.pos:=by
 unfold Ex.subst
 rw [mapped_eq]
 cases e;rfl
theorem erepl_is (names:List Str)(vals:List Ex)(e:Ex):e.repl names vals=replG names vals (e.kidded (e.kids.map (Ex.repl names vals))):=by
 unfold Ex.repl
 rw [mapped_eq]
theorem Ex.Shp.of {e:Ex} (h1:e.kind=1∨e.kind=2∨e.kind=3∨e.kind=4∨e.kind=5)(h2:e.kind=2∨e.kind=4∨e.kind=5→e.kids≠[])(h3:e.kind=5→e.name=[])(h4:∀ x,x∈e.kids→x.Shp):e.Shp:=by
 cases e with | mk k n t a ks q=>exact .mk k n t a ks q h1 h2 h3 h4
theorem Ex.Shp.some' {e:Ex} (h:e.Shp):e.kind=2∨e.kind=4∨e.kind=5→e.kids≠[]:=fun hk hn=>by
 obtain⟨v,hv⟩:=h.some hk
 rw [hn] at hv;cases hv
theorem Ex.Shp.subst (v:List Str)(a:List Ty):∀ {e:Ex},e.Shp→(e.subst v a).Shp:=by
 intro e
 induction e using Ex.induct with | _ e ih=>?_
 intro h
 rw [esubst_is]
 refine .mk _ _ _ _ _ _ h.kind (fun hk hn=>h.some' hk (List.map_eq_nil_iff.1 hn)) h.name fun x hx=>?_
 obtain⟨y,hy,rfl⟩:=List.mem_map.1 hx
 exact ih y hy (h.kids y hy)
theorem Ex.Shp.repl {names:List Str} {vals:List Ex} (hv:∀ x,x∈vals→x.Shp):∀ {e:Ex},e.Shp→(e.repl names vals).Shp:=by
 intro e
 induction e using Ex.induct with | _ e ih=>?_
 intro h
 rw [erepl_is]
 have hk:(e.kidded (e.kids.map (Ex.repl names vals))).Shp:=.mk _ _ _ _ _ _ h.kind (fun hk hn=>h.some' hk (List.map_eq_nil_iff.1 hn)) h.name fun x hx=>by
  obtain⟨y,hy,rfl⟩:=List.mem_map.1 hx
  exact ih y hy (h.kids y hy)
 unfold replG
 split
 ·cases hg:vals[(indexS (e.kidded (e.kids.map (Ex.repl names vals))).name names 0).toNat]? with
  | none=>exact hk
  | some u=>exact hv u (List.mem_of_getElem? hg)
 ·exact hk
end Go.Abs
