/- the texts of types and expressions: types.Text, expr.Text; castingsref04.Text, castingsref05.Text -/
import Derived.Test.YtaneedhchnaniaaGreatDoorKS90
import Derived.Test.YtaneedhchnaniaaGreatDoorKS44
import Derived.Test.YtaneedhchnaniaaGreatDoorKS51
namespace Go.Abs
set_option linter.all false
open Go Go.Proofs Tryz
set_option maxRecDepth 100000
set_option maxHeartbeats 1000000
abbrev comma:A3:=[44,32]
mutual
def Ty.txt:Ty→A3
 |.mk n a _=>if a.isEmpty=true then n else n++[91]++Lib.join (Ty.A9b a) comma++[93]
def Ty.A9b:List Ty→List A3
 |[]=>[]
 |t::E=>t.txt::Ty.A9b E
end
mutual
def Ty.Dr:Ty→Nat
 |.mk n a _=>n.length+4+Ty.C9 a
def Ty.C9:List Ty→Nat
 |[]=>0
 |t::E=>t.Dr+Ty.C9 E
end
theorem Ty.U8 (t:Ty):t.Dr=t.name.length+4+Ty.C9 t.args:=by cases t;rfl
def A2b (l:List A3):Nat:=(l.map fun s=>s.length+2).sum
theorem A6w:∀{l:List Ty} {t:Ty},t∈l→t.Dr≤Ty.C9 l
 |[],_,h=>by simp at h
 |x::l,t,h=>by
  simp only [Ty.C9];rcases As.1 h with rfl| h
  ·omega
  ·have:=A6w h;omega
theorem C4b:∀l:List Ty,l.length≤Ty.C9 l
 |[]=>Cq _
 |x::l=>by have:=C4b l;have:=Ty.U8 x;simp only [Ty.C9,Bg];omega
def Ty.pre (t:Ty)(j:Nat):A3:=if j=0 then t.name else t.name++[91]++Lib.join ((t.args.take j).map Ty.txt) comma
def F4y (l:List Ty):A3:=if l=[] then [] else [91]++Lib.join (l.map Ty.txt) comma++[93]
def F2g (k:Int)(n:A3)(t:Ty)(a:List Ty)(ks:List A3):A3 :=
 if k=2 then ks.headD []++[46]++n++F4y a++[40]++Lib.join (ks.drop 1) comma++[41]
 else if k=3 then t.txt++[123]++Lib.join ks comma++[125]
 else if k=4 then ks.headD []++[46]++n
 else if k=5 then ks.headD []++[46,40]++t.txt++[41]
 else n
mutual
def Ex.txt:Ex→A3
 |.mk k n t a ks _=>F2g k n t a (Ex.A9b ks)
def Ex.A9b:List Ex→List A3
 |[]=>[]
 |e::E=>e.txt::Ex.A9b E
end
mutual
def Ex.Uo:Ex→Nat
 |.mk _ n t a ks _=>n.length+10+t.Dr+Ty.C9 a+Ex.Vu ks
def Ex.Vu:List Ex→Nat
 |[]=>0
 |e::E=>e.Uo+Ex.Vu E
end
theorem Ex.D3m (e:Ex):e.Uo=e.name.length+10+e.type.Dr+Ty.C9 e.targs+Ex.Vu e.kids:=by cases e;rfl
theorem C8r:∀{l:List Ex} {t:Ex},t∈l→t.Uo≤Ex.Vu l
 |[],_,h=>by simp at h
 |x::l,t,h=>by
  simp only [Ex.Vu];rcases As.1 h with rfl| h
  ·omega
  ·have:=C8r h;omega
inductive Ex.Gu:Ex→Prop where
 |mk (k:Int) (n:A3) (t:Ty) (a:List Ty) (ks:List Ex) (q:Int):(k=1∨k=2∨k=3∨k=4∨k=5)→(k=2∨k=4∨k=5→ks≠[])→(k=5→n=[])→(∀e,e∈ks→Ex.Gu e)→Ex.Gu (.mk k n t a ks q)
variable {e:Ex}
theorem Ex.Gu.kids (h:e.Gu):∀x,x∈e.kids→x.Gu:=by cases h;assumption
theorem Ex.Gu.some (h:e.Gu)(I:e.kind=2∨e.kind=4∨e.kind=5):∃v,e.kids[0]? = some v:=by
 cases h with
 |mk k n t a ks q _ E _ _ =>
  have:=E I;cases ks with
  |nil=>exact absurd rfl this
  |cons v _=>exact⟨v,rfl⟩
theorem Ex.Gu.kind (h:e.Gu):e.kind=1∨e.kind=2∨e.kind=3∨e.kind=4∨e.kind=5:=by cases h;assumption
theorem Ex.Gu.name (h:e.Gu):e.kind=5→e.name=[]:=by cases h;assumption
def B8a (mt:Ty→Ty)(E:A3→List Ty→A3)(k:Int)(n:A3)(t:Ty)(a:List Ty)(ks:List Ex)(q:Int):Ex :=
 if k=3∨k=5 then .mk k n (mt t) a ks q else if k=2 then .mk k (E n a) t [] ks q else .mk k n t a ks q
mutual
def Hc (mt:Ty→Ty)(E:A3→List Ty→A3):Ex→Ex
 |.mk k n t a ks q=>B8a mt E k n t a (B8o mt E ks) q
def B8o (mt:Ty→Ty)(E:A3→List Ty→A3):List Ex→List Ex
 |[]=>[]
 |e::I=>Hc mt E e::B8o mt E I
end
theorem E1v (mt:Ty→Ty)(E:A3→List Ty→A3):∀l:List Ex,B8o mt E l=l.map (Hc mt E)
 |[]=>rfl
 |t::I=>by rw [B8o,E1v mt E I,Cz]
theorem D8o (mt:Ty→Ty)(E:A3→List Ty→A3)(e:Ex):Hc mt E e=B8a mt E e.kind e.name e.type e.targs (e.kids.map (Hc mt E)) e.pos:=by cases e with| mk k n t a ks q=>rw [Hc,E1v];rfl
inductive Rx (mt:Ty→Ty) (mm:A3→List Ty→A3):Ex→Prop where
 |mk (k:Int) (n:A3) (t:Ty) (a:List Ty) (ks:List Ex) (q:Int):(k=3∨k=5→Ac prog 87 [Be t] (Be (mt t)))→(k=2→Ac prog 88 [C8 n,.d (.slice (Aq a))] (C8 (mm n a))) →
   (∀e,e∈ks→Rx mt mm e)→Rx mt mm (.mk k n t a ks q)
theorem Rx.kids {mt:Ty→Ty} {E:A3→List Ty→A3} (h:Rx mt E e):∀x,x∈e.kids→Rx mt E x:=by cases h;assumption
theorem Rx.plain {mt:Ty→Ty} {E:A3→List Ty→A3} (h:Rx mt E e):e.kind=3∨e.kind=5→Ac prog 87 [Be e.type] (Be (mt e.type)):=by cases h;assumption
theorem Rx.Ia {mt:Ty→Ty} {E:A3→List Ty→A3} (h:Rx mt E e):e.kind=2→Ac prog 88 [C8 e.name,.d (.slice (Aq e.targs))] (C8 (E e.name e.targs)):=by cases h;assumption
abbrev Dm:List Nat:=[0,1,2,3,5,10,11,12,13,25,26,33,67]
theorem D5n (mt:Ty→Ty)(W:A3→List Ty→A3):∀e:Ex,e.Sm→Rx mt W e→Ac prog 40 [Di e] (Di (Hc mt W e)):=by
 intro e
 induction e using Ex.induct with
 |h e ih =>
 intro hs U;have a0:=hs.kids.1;have I:=C0a e hs;rw [D8o];unfold B8a;by_cases k3:e.kind=3
 ·have Z:Di e=.agg [.d (.int .i64 3),.d (.str e.name),.d (.str e.type.name),.d (.slice (Aq e.type.args)),.d (.int .i64 e.type.pos),.d (.slice (Aq e.targs)),.d (.slice (Db e.kids)),.d (.int .i64 e.pos)]:=by rw [←k3]
  have hp:=U.plain (.inl k3);rw [A8 (.inl k3),k3];rw [Z] at I ⊢;refine cB func40 ?_;refine sR Dm ?_;refine sC I Dm ?_;refine sR Dm ?_;refine A0.No 67 8 3 6 rfl rfl (by decide) ?_;refine kR Dm fun O u1=>?_;refine A0.bb (A0.ii e.kids (X:=Unit) (fun j _=>[(1,.box 1 0),(2,.box 2 0),(3,.box 3 0),(10,.d (.slice (Db e.kids))),(11,A9 e.kids.length),(12,A9 j)])
   (fun j _=>[(1,.cells [.d (.int .i64 3),.d (.str e.name),.d (.str e.type.name),.d (.slice (Aq e.type.args)),.d (.int .i64 e.type.pos),.d (.slice (Aq e.targs)),.d (.slice (Db e.kids)),.d (.int .i64 e.pos)]),
    (2,.cells [.d (.int .i64 0),.d (.str []),.d (.str []),.d .nil,.d (.int .i64 0),.d .nil,.d .nil,.d (.int .i64 0)]),
    (3,.cells [.d (.int .i64 3),.d (.str e.name),.d (.str e.type.name),.d (.slice (Aq e.type.args)),.d (.int .i64 e.type.pos),.d (.slice (Aq e.targs)),.acc 67,.d (.int .i64 e.pos)]),(67,.rows 8 (Db ((e.kids.take j).map (Hc mt W))))])
   (fun j _=>True) () trivial sS (by simp [ble,A7,Lp]) ?_ ?_)
  rotate_left
  ·intro j _ d hd E dp V J _;have R:=ih d E (hs.kids.2 d E) (U.kids d E);rw [V];refine Ah J Dm ?_;refine A0.E5 rfl ?_;refine sK fun L u2=>?_;refine A0.bb ?_
   (refine sV Dm fun K z=>?_;refine ci (Ed hd) ?_;apply z;clear z K)
   (refine lG Dm [] 5 [] fun K z=>?_;refine ev ?_;refine cc R ?_;refine⟨by simp,by simp only [B6,Cw];unfold lim sm at *;omega,?_⟩;(try refine ev ?_);apply z;clear z K;try simp only [A4,Aa])
   refine u2 _ _ ?_;clear u2 L;refine lT Dm ?_;exact⟨(),trivial,sS,by simp [ble,A7,Lp,Ce]⟩
  intro _ _;rw [Cs];refine Ah B4 Dm ?_;refine A0.stop rfl ?_;simp only [A4,Aa,Af];refine u1 _ _ ?_;clear u1 O;refine kR Dm fun O u1=>?_;refine A0.bb ?_;refine kR Dm fun L u2=>?_;refine A0.tt rfl (A0.kk (u2 _ _ ?_));clear u2 L;refine A0.tt rfl ?_
  (refine lV Dm fun K z=>?_;refine cc hp ?_;apply z;clear z K;try simp only [A4,Aa])
  refine u1 _ _ ?_;refine sR Dm ?_;exact aR
 by_cases k5:e.kind=5
 ·have Z:Di e=.agg [.d (.int .i64 5),.d (.str e.name),.d (.str e.type.name),.d (.slice (Aq e.type.args)),.d (.int .i64 e.type.pos),.d (.slice (Aq e.targs)),.d (.slice (Db e.kids)),.d (.int .i64 e.pos)]:=by rw [←k5]
  have hp:=U.plain (.inr k5);rw [A8 (.inr k5),k5];rw [Z] at I ⊢;refine cB func40 ?_;refine sR Dm ?_;refine sC I Dm ?_;refine sR Dm ?_;refine A0.No 67 8 3 6 rfl rfl (by decide) ?_;refine kR Dm fun O u1=>?_;refine A0.bb (A0.ii e.kids (X:=Unit) (fun j _=>[(1,.box 1 0),(2,.box 2 0),(3,.box 3 0),(10,.d (.slice (Db e.kids))),(11,A9 e.kids.length),(12,A9 j)])
   (fun j _=>[(1,.cells [.d (.int .i64 5),.d (.str e.name),.d (.str e.type.name),.d (.slice (Aq e.type.args)),.d (.int .i64 e.type.pos),.d (.slice (Aq e.targs)),.d (.slice (Db e.kids)),.d (.int .i64 e.pos)]),
    (2,.cells [.d (.int .i64 0),.d (.str []),.d (.str []),.d .nil,.d (.int .i64 0),.d .nil,.d .nil,.d (.int .i64 0)]),
    (3,.cells [.d (.int .i64 5),.d (.str e.name),.d (.str e.type.name),.d (.slice (Aq e.type.args)),.d (.int .i64 e.type.pos),.d (.slice (Aq e.targs)),.acc 67,.d (.int .i64 e.pos)]),(67,.rows 8 (Db ((e.kids.take j).map (Hc mt W))))])
   (fun j _=>True) () trivial sS (by simp [ble,A7,Lp]) ?_ ?_)
  rotate_left
  ·intro j _ d hd E dp V J _;have R:=ih d E (hs.kids.2 d E) (U.kids d E);rw [V];refine Ah J Dm ?_;refine A0.E5 rfl ?_;refine sK fun L u2=>?_;refine A0.bb ?_
   (refine sV Dm fun K z=>?_;refine ci (Ed hd) ?_;apply z;clear z K)
   (refine lG Dm [] 5 [] fun K z=>?_;refine ev ?_;refine cc R ?_;refine⟨by simp,by simp only [B6,Cw];unfold lim sm at *;omega,?_⟩;(try refine ev ?_);apply z;clear z K;try simp only [A4,Aa])
   refine u2 _ _ ?_;clear u2 L;refine lT Dm ?_;exact⟨(),trivial,sS,by simp [ble,A7,Lp,Ce]⟩
  intro _ _;rw [Cs];refine Ah B4 Dm ?_;refine A0.stop rfl ?_;simp only [A4,Aa,Af];refine u1 _ _ ?_;clear u1 O;refine kR Dm fun O u1=>?_;refine A0.bb ?_;refine kR Dm fun L u2=>?_;refine A0.ff rfl ?_
  (refine lV Dm fun K z=>?_;apply z;clear z K;try simp only [A4,])
  refine u2 _ _ ?_;clear u2 L;refine A0.tt rfl ?_
  (refine lV Dm fun K z=>?_;refine cc hp ?_;apply z;clear z K;try simp only [A4,Aa])
  refine u1 _ _ ?_;refine sR Dm ?_;exact aR
 rw [A6 (by omega)];by_cases k2:e.kind=2
 ·have Z:Di e=.agg [.d (.int .i64 2),.d (.str e.name),.d (.str e.type.name),.d (.slice (Aq e.type.args)),.d (.int .i64 e.type.pos),.d (.slice (Aq e.targs)),.d (.slice (Db e.kids)),.d (.int .i64 e.pos)]:=by rw [←k2]
  have hp:=U.Ia k2;rw [A8 k2,k2];rw [Z] at I ⊢;refine cB func40 ?_;refine sR Dm ?_;refine sC I Dm ?_;refine sR Dm ?_;refine A0.No 67 8 3 6 rfl rfl (by decide) ?_;refine kR Dm fun O u1=>?_;refine A0.bb (A0.ii e.kids (X:=Unit) (fun j _=>[(1,.box 1 0),(2,.box 2 0),(3,.box 3 0),(10,.d (.slice (Db e.kids))),(11,A9 e.kids.length),(12,A9 j)])
   (fun j _=>[(1,.cells [.d (.int .i64 2),.d (.str e.name),.d (.str e.type.name),.d (.slice (Aq e.type.args)),.d (.int .i64 e.type.pos),.d (.slice (Aq e.targs)),.d (.slice (Db e.kids)),.d (.int .i64 e.pos)]),
    (2,.cells [.d (.int .i64 0),.d (.str []),.d (.str []),.d .nil,.d (.int .i64 0),.d .nil,.d .nil,.d (.int .i64 0)]),
    (3,.cells [.d (.int .i64 2),.d (.str e.name),.d (.str e.type.name),.d (.slice (Aq e.type.args)),.d (.int .i64 e.type.pos),.d (.slice (Aq e.targs)),.acc 67,.d (.int .i64 e.pos)]),(67,.rows 8 (Db ((e.kids.take j).map (Hc mt W))))])
   (fun j _=>True) () trivial sS (by simp [ble,A7,Lp]) ?_ ?_)
  rotate_left
  ·intro j _ d hd E dp V J _;have R:=ih d E (hs.kids.2 d E) (U.kids d E);rw [V];refine Ah J Dm ?_;refine A0.E5 rfl ?_;refine sK fun L u2=>?_;refine A0.bb ?_
   (refine sV Dm fun K z=>?_;refine ci (Ed hd) ?_;apply z;clear z K)
   (refine lG Dm [] 5 [] fun K z=>?_;refine ev ?_;refine cc R ?_;refine⟨by simp,by simp only [B6,Cw];unfold lim sm at *;omega,?_⟩;(try refine ev ?_);apply z;clear z K;try simp only [A4,Aa])
   refine u2 _ _ ?_;clear u2 L;refine lT Dm ?_;exact⟨(),trivial,sS,by simp [ble,A7,Lp,Ce]⟩
  intro _ _;rw [Cs];refine Ah B4 Dm ?_;refine A0.stop rfl ?_;simp only [A4,Aa,Af];refine u1 _ _ ?_;clear u1 O;refine kR Dm fun O u1=>?_;refine A0.bb ?_;refine kR Dm fun L u2=>?_;refine A0.ff rfl ?_
  (refine lV Dm fun K z=>?_;apply z;clear z K;try simp only [A4,])
  refine u2 _ _ ?_;clear u2 L;refine A0.ff rfl ?_;refine sR Dm ?_;refine A0.tt rfl ?_
  (refine lV Dm fun K z=>?_;refine cc hp ?_;apply z;clear z K;try simp only [A4,Aa])
  refine u1 _ _ ?_;refine sR Dm ?_;exact aR
 rw [A6 k2];refine cB func40 ?_;refine sR Dm ?_;refine sC I Dm ?_;refine sR Dm ?_;refine A0.No 67 8 3 6 rfl rfl (by decide) ?_;refine kR Dm fun O u1=>?_;refine A0.bb (A0.ii e.kids (X:=Unit) (fun j _=>[(1,.box 1 0),(2,.box 2 0),(3,.box 3 0),(10,.d (.slice (Db e.kids))),(11,A9 e.kids.length),(12,A9 j)])
  (fun j _=>[(1,.cells [.d (.int .i64 e.kind),.d (.str e.name),.d (.str e.type.name),.d (.slice (Aq e.type.args)),.d (.int .i64 e.type.pos),.d (.slice (Aq e.targs)),.d (.slice (Db e.kids)),.d (.int .i64 e.pos)]),
   (2,.cells [.d (.int .i64 0),.d (.str []),.d (.str []),.d .nil,.d (.int .i64 0),.d .nil,.d .nil,.d (.int .i64 0)]),
   (3,.cells [.d (.int .i64 e.kind),.d (.str e.name),.d (.str e.type.name),.d (.slice (Aq e.type.args)),.d (.int .i64 e.type.pos),.d (.slice (Aq e.targs)),.acc 67,.d (.int .i64 e.pos)]),(67,.rows 8 (Db ((e.kids.take j).map (Hc mt W))))])
  (fun j _=>True) () trivial sS (by simp [ble,A7,Lp]) ?_ ?_)
 rotate_left
 ·intro j _ d hd E dp V J _;have R:=ih d E (hs.kids.2 d E) (U.kids d E);rw [V];refine Ah J Dm ?_;refine A0.E5 rfl ?_;refine sK fun L u2=>?_;refine A0.bb ?_
  (refine sV Dm fun K z=>?_;refine ci (Ed hd) ?_;apply z;clear z K)
  (refine lG Dm [] 5 [] fun K z=>?_;refine ev ?_;refine cc R ?_;refine⟨by simp,by simp only [B6,Cw];unfold lim sm at *;omega,?_⟩;(try refine ev ?_);apply z;clear z K;try simp only [A4,Aa])
  refine u2 _ _ ?_;clear u2 L;refine lT Dm ?_;exact⟨(),trivial,sS,by simp [ble,A7,Lp,Ce]⟩
 intro _ _;rw [Cs];refine Ah B4 Dm ?_;refine A0.stop rfl ?_;simp only [A4,Aa,Af];refine u1 _ _ ?_;clear u1 O;refine kR Dm fun O u1=>?_;refine A0.bb ?_;refine Ai k3 Dm fun L u2=>?_;refine A0.ff rfl ?_
 (refine lQ Dm fun K z=>?_;refine An k5 ?_;apply z;clear z K;try simp only [A4,])
 refine u2 _ _ ?_;clear u2 L;refine A0.ff rfl ?_;refine Ah k2 Dm ?_;refine A0.ff rfl (A0.kk (u1 _ _ ?_));refine sR Dm ?_;exact aR
structure G6f (n:A3):Prop where
 len:n.length≤sm
 noD:Lib.hasPrefix n [36]=false
 noN:B3a n=true
 noU:Lib.countByte n 95=0
theorem W7 (v:List A3)(a:List Ty)(e:Ex):e.subst v a=.mk e.kind e.name (e.type.subst v a) (e.targs.map (Ty.subst v a)) (e.kids.map (Ex.subst v a)) e.pos:=by unfold Ex.subst;rw [A1b];cases e;rfl
theorem F8s (names:List A3)(E:List Ex)(e:Ex):e.Qi names E=B1h names E (e.Ue (e.kids.map (Ex.Qi names E))):=by unfold Ex.Qi;rw [A1b]
theorem Ex.Gu.of (L:e.kind=1∨e.kind=2∨e.kind=3∨e.kind=4∨e.kind=5)(E:e.kind=2∨e.kind=4∨e.kind=5→e.kids≠[])(J:e.kind=5→e.name=[])(I:∀x,x∈e.kids→x.Gu):e.Gu:=by cases e with| mk k n t a ks q=>exact .mk k n t a ks q L E J I
theorem Ex.Gu.D0g (h:e.Gu):e.kind=2∨e.kind=4∨e.kind=5→e.kids≠[]:=fun J I=>by obtain⟨v,E⟩:=h.some J;rw [I] at E;cases E
theorem Ex.D5d:∀e:Ex,e.right=true→e.Gu:=by
 intro e
 induction e using Ex.induct with| _ e W=>?_
 intro h;rw [Ex.A2w,B1,B1] at h;have E:e.L2=true:=by have:=h.2.2;unfold Ex.Rc at this;split at this <;> (simp only [B1] at this;exact this.2)
 have V:e.kind=5→e.name=[]:=fun U=>by
  have:=h.2.2;have ht:e.typed=true:=by unfold Ex.typed;rw [U];rfl
  unfold Ex.Rc at this;rw [A8 ht] at this;simp only [B1,D8] at this;exact this.1.2
 refine .of ?_ (fun h2 Z=>?_) V fun x J=>W x J (A8f h.1 x J)
 ·unfold Ex.L2 at E;by_cases L:e.kind=1
  ·exact .inl L
  ·by_cases I:e.kind=2
   ·exact .inr (.inl I)
   ·by_cases R:e.kind=3
    ·exact .inr (.inr (.inl R))
    ·rw [A6 L,A6 I,A6 R] at E;by_cases O:e.kind=4∨e.kind=5
     ·exact .inr (.inr (.inr O))
     ·rw [A6 O] at E;cases E
 ·unfold Ex.L2 at E;have hl:e.kids.length=0:=by rw [Z];rfl
  by_cases I:e.kind=2
  ·rw [A6 (by omega),A8 I,D8] at E;omega
  ·rw [A6 (by omega),A6 I,A6 (by omega),A8 (by omega),D8] at E;omega
theorem Ex.Gu.subst (v:List A3)(a:List Ty):∀{e:Ex},e.Gu→(e.subst v a).Gu:=by
 intro e
 induction e using Ex.induct with| _ e L=>?_
 intro h;rw [W7];refine .mk _ _ _ _ _ _ h.kind (fun O J=>h.D0g O (As2.1 J)) h.name fun x I=>?_;obtain⟨y,E,rfl⟩:=Ax.1 I;exact L y E (h.kids y E)
theorem Ex.Gu.Qi {names:List A3} {E:List Ex} (V:∀x,x∈E→x.Gu):∀{e:Ex},e.Gu→(e.Qi names E).Gu:=by
 intro e
 induction e using Ex.induct with| _ e R=>?_
 intro h;rw [F8s];have I:(e.Ue (e.kids.map (Ex.Qi names E))).Gu:=.mk _ _ _ _ _ _ h.kind (fun I O=>h.D0g I (As2.1 O)) h.name fun x L=>by obtain⟨y,J,rfl⟩:=Ax.1 L;exact R y J (h.kids y J)
 unfold B1h;split
 ·cases U:E[(Cy (e.Ue (e.kids.map (Ex.Qi names E))).name names 0).toNat]? with
  |none=>exact I
  |some u=>exact V u (Bx U)
 ·exact I
theorem F4x {p:Prog} (hr:p.right=true):∀d,d∈p.decls→d.kind=3→d.body.Gu:=fun d hd E=>by unfold Prog.right at hr;simp only [B1,Cf] at hr;have:=hr.1 d hd;unfold Decl.right Decl.Sv at this;rw [A8 E] at this;simp only [B1] at this;exact Ex.D5d _ this.2.2.2.2.2.2.2.2
theorem F0z {p:Prog} (hr:p.right=true):p.main.Gu:=by unfold Prog.right at hr;simp only [B1] at hr;exact Ex.D5d _ hr.2
mutual
theorem Ty.A0p:∀(t:Ty)(k:Int),t.count k≤2000→(t.Dr:Int)≤60*(t.count k - k)
 |.mk n a p,k,h=>by simp only [Ty.count] at h ⊢;have I:=Ty.B9v a (k+1+((n.length / 50:Nat):Int)) h;rw [Ty.Dr];omega
theorem Ty.B9v:∀(l:List Ty)(k:Int),Ty.C4 l k≤2000→(Ty.C9 l:Int)≤60*(Ty.C4 l k - k)
 |[],k,_=>by simp [Ty.C4,Ty.C9]
 |t::E,k,h=>by
  simp only [Ty.C4] at h ⊢;split at h
  ·rename_i J;rw [A8 J];have O:=Ty.Jr E (t.count k);have I:=Ty.B9v E (t.count k) h;have L:=Ty.A0p t k (by omega);rw [Ty.C9];omega
  ·omega
end
mutual
theorem Ex.B5b:∀(e:Ex)(k:Int),e.count k≤2000→(e.Uo:Int)≤120*(e.count k - k)
 |.mk V n t a ks p,k,h=>by simp only [Ex.count] at h ⊢;have O:=Ty.F4 t (k+((n.length / 50:Nat):Int));have I:=Ty.Jr a (t.count (k+((n.length / 50:Nat):Int)));have J:=Ex.Jr ks (Ty.C4 a (t.count (k+((n.length / 50:Nat):Int))));have U:=Ty.A0p t (k+((n.length / 50:Nat):Int)) (by omega);have W:=Ty.B9v a (t.count (k+((n.length / 50:Nat):Int))) (by omega);have R:=Ex.C9w ks (Ty.C4 a (t.count (k+((n.length / 50:Nat):Int)))) h;rw [Ex.Uo];omega
theorem Ex.C9w:∀(l:List Ex)(k:Int),Ex.C4 l k≤2000→(Ex.Vu l:Int)≤120*(Ex.C4 l k - k)
 |[],k,_=>by simp [Ex.C4,Ex.Vu]
 |t::E,k,h=>by
  simp only [Ex.C4] at h ⊢;split at h
  ·rename_i L;rw [A8 L];have O:=Ex.Jr E (t.count k);have I:=Ex.C9w E (t.count k) h;have J:=Ex.B5b t k (by omega);rw [Ex.Vu];omega
  ·omega
end
end Go.Abs
