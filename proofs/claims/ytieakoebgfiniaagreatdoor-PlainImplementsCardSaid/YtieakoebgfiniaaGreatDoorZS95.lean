/- the texts of types and expressions: types.Text, expr.Text; castingsref04.Text, castingsref05.Text -/
import Derived.Test.YtieakoebgfiniaaGreatDoorZV05
set_option linter.all false
set_option maxHeartbeats 1000000
set_option maxRecDepth 100000
namespace Go.Abs
open Go Go.Proofs
abbrev comma:A2:=[44,32]
mutual
def Ty.txt:Ty->A2
 |.mk n a _=>if a.isEmpty=true then n else n++[91]++Lib.join (Ty.B4u a) comma++[93]
def Ty.B4u:List Ty->List A2
 |[]=>[]
 |t::E=>t.txt::Ty.B4u E
end
mutual
def Ty.Dv:Ty->Nat
 |.mk n a _=>n.length+4+Ty.C0 a
def Ty.C0:List Ty->Nat
 |[]=>0
 |t::E=>t.Dv+Ty.C0 E
end
theorem Ty.Ug(t:Ty):t.Dv=t.name.length+4+Ty.C0 t.args:=by cases t;rfl
def A3v(l:List A2):Nat:=(l.map λs=>s.length+2).sum
def A6a:∀{l:List Ty} {t:Ty},t∈l->t.Dv<=Ty.C0 l
 |[],_,h=>by simp at h
 |x::l,t,h=>by
  simp only[Ty.C0];rcases B1.1 h with rfl|h
  .omega
  .have:=A6a h;omega
def C5m:∀l:List Ty,l.length<=Ty.C0 l
 |[]=>Bs _
 |x::l=>by have:=C5m l;have:=Ty.Ug x;simp only[Ty.C0,Bg];omega
def Ty.pre(t:Ty)(j:Nat):A2:=if j=0 then t.name else t.name++[91]++Lib.join ((t.args.take j).map Ty.txt) comma
def G9q(l:List Ty):A2:=if l=[]then[]else[91]++Lib.join (l.map Ty.txt) comma++[93]
def F4q(k:Int)(n:A2)(t:Ty)(a:List Ty)(ks:List A2):A2 :=
 if k=2 then ks.headD []++[46]++n++G9q a++[40]++Lib.join (ks.drop 1) comma++[41]
 else if k=3 then t.txt++[123]++Lib.join ks comma++[125]
 else if k=4 then ks.headD []++[46]++n
 else if k=5 then ks.headD []++[46,40]++t.txt++[41]
 else n
mutual
def Ex.txt:Ex->A2
 |.mk k n t a ks _=>F4q k n t a (Ex.B4u ks)
def Ex.B4u:List Ex->List A2
 |[]=>[]
 |e::es=>e.txt::Ex.B4u es
end
mutual
def Ex.Sp:Ex->Nat
 |.mk _ n t a ks _=>n.length+10+t.Dv+Ty.C0 a+Ex.Wa ks
def Ex.Wa:List Ex->Nat
 |[]=>0
 |e::es=>e.Sp+Ex.Wa es
end
def Ex.C3p(e:Ex):e.Sp=e.name.length+10+e.type.Dv+Ty.C0 e.targs+Ex.Wa e.kids:=by cases e;rfl
def C6t:∀{l:List Ex} {t:Ex},t∈l->t.Sp<=Ex.Wa l
 |[],_,h=>by simp at h
 |x::l,t,h=>by
  simp only[Ex.Wa];rcases B1.1 h with rfl|h
  .omega
  .have:=C6t h;omega
inductive Ex.Gz:Ex->Prop where
 |mk (k:Int) (n:A2) (t:Ty) (a:List Ty) (ks:List Ex) (q:Int):(k=1\/k=2\/k=3\/k=4\/k=5)->(k=2\/k=4\/k=5->ks≠[])->(k=5->n=[])->(∀e,e∈ks->Ex.Gz e)->Ex.Gz (.mk k n t a ks q)
def Ex.Gz.kids{e:Ex}(h:e.Gz):∀x,x∈e.kids->x.Gz:=by cases h;assumption
def Ex.Gz.some{e:Ex}(h:e.Gz)(I:e.kind=2\/e.kind=4\/e.kind=5):∃v,e.kids[0]?=some v:=by
 cases h with
 |mk k n t a ks q _ E _ _ =>
  have:=E I;cases ks with
  |nil=>exact absurd rfl this
  |cons v _=>exact⟨v,rfl⟩
def Ex.Gz.kind{e:Ex}(h:e.Gz):e.kind=1\/e.kind=2\/e.kind=3\/e.kind=4\/e.kind=5:=by cases h;assumption
theorem Ex.Gz.name{e:Ex}(h:e.Gz):e.kind=5->e.name=[]:=by cases h;assumption
structure H5x(n:A2):Prop where
 len:n.length<=sm
 noD:Lib.hasPrefix n [36]=false
 noN:F2g n=true
 noU:Lib.countByte n 95=0
def Yr(v:List A2)(a:List Ty)(e:Ex):e.subst v a=.mk e.kind e.name (e.type.subst v a) (e.targs.map (Ty.subst v a)) (e.kids.map (Ex.subst v a)) e.pos:=by unfold Ex.subst;rw[A1e];cases e;rfl
def G5q(names:List A2)(E:List Ex)(e:Ex):e.Rv names E=B2u names E (e.Vr (e.kids.map (Ex.Rv names E))):=by unfold Ex.Rv;rw[A1e]
def Ex.Gz.of{e:Ex}(L:e.kind=1\/e.kind=2\/e.kind=3\/e.kind=4\/e.kind=5)(E:e.kind=2\/e.kind=4\/e.kind=5->e.kids≠[])(I:e.kind=5->e.name=[])(J:∀x,x∈e.kids->x.Gz):e.Gz:=by cases e with|mk k n t a ks q=>exact .mk k n t a ks q L E I J
def Ex.Gz.D0o{e:Ex}(h:e.Gz):e.kind=2\/e.kind=4\/e.kind=5->e.kids≠[]:=λJ I=>by obtain⟨v,E⟩:=h.some J;rw[I]at E;cases E
def Ex.E5p:∀e:Ex,e.right=true->e.Gz:=by
 intro e
 induction e using Ex.induct with|_ e W=>?_
 intro h;rw[Ex.A2g,Bb,Bb]at h;have E:e.Lb=true:=by have:=h.2.2;unfold Ex.Ry at this;split at this <;> (simp only[Bb]at this;exact this.2)
 have hn:e.kind=5->e.name=[]:=λV=>by
  have:=h.2.2;have ht:e.typed=true:=by unfold Ex.typed;rw[V];rfl
  unfold Ex.Ry at this;rw[A8 ht]at this;simp only[Bb,Dp]at this;exact this.1.2
 refine .of ?_ (λh2 Z=>?_) hn λx J=>W x J (A7a h.1 x J)
 .unfold Ex.Lb at E;by_cases U:e.kind=1
  .exact .inl U
  .by_cases I:e.kind=2
   .exact .inr (.inl I)
   .by_cases O:e.kind=3
    .exact .inr (.inr (.inl O))
    .rw[A6 U,A6 I,A6 O]at E;by_cases L:e.kind=4\/e.kind=5
     .exact .inr (.inr (.inr L))
     .rw[A6 L]at E;cases E
 .unfold Ex.Lb at E;have hl:e.kids.length=0:=by rw[Z];rfl
  by_cases I:e.kind=2
  .rw[A6 (by omega),A8 I,Dp]at E;omega
  .rw[A6 (by omega),A6 I,A6 (by omega),A8 (by omega),Dp]at E;omega
def Ex.Gz.subst(v:List A2)(a:List Ty):∀{e:Ex},e.Gz->(e.subst v a).Gz:=by
 intro e
 induction e using Ex.induct with|_ e L=>?_
 intro h;rw[Yr];refine .mk _ _ _ _ _ _ h.kind (λJ O=>h.D0o J (Ar0.1 O)) h.name λx I=>?_;obtain⟨y,E,rfl⟩:=Au.1 I;exact L y E (h.kids y E)
def Ex.Gz.Rv{names:List A2}{E:List Ex}(U:∀x,x∈E->x.Gz):∀{e:Ex},e.Gz->(e.Rv names E).Gz:=by
 intro e
 induction e using Ex.induct with|_ e V=>?_
 intro h;rw[G5q];have I:(e.Vr (e.kids.map (Ex.Rv names E))).Gz:=.mk _ _ _ _ _ _ h.kind (λI W=>h.D0o I (Ar0.1 W)) h.name λx L=>by obtain⟨y,J,rfl⟩:=Au.1 L;exact V y J (h.kids y J)
 unfold B2u;split
 .cases O:E[(D5 (e.Vr (e.kids.map (Ex.Rv names E))).name names 0).toNat]? with
  |none=>exact I
  |some u=>exact U u (C6 O)
 .exact I
def F1r{p:Prog}(hr:p.right=true):∀d,d∈p.decls->d.kind=3->d.body.Gz:=λd hd E=>by unfold Prog.right at hr;simp only[Bb,Dm]at hr;have:=hr.1 d hd;unfold Decl.right Decl.T2 at this;rw[A8 E]at this;simp only[Bb]at this;exact Ex.E5p _ this.2.2.2.2.2.2.2.2
def F2s{p:Prog}(hr:p.right=true):p.main.Gz:=by unfold Prog.right at hr;simp only[Bb]at hr;exact Ex.E5p _ hr.2
mutual
theorem Ty.A0z:∀(t:Ty)(k:Int),t.count k<=2000->(t.Dv:Int)<=60*(t.count k - k)
 |.mk n a p,k,h=>by simp only[Ty.count]at h |-;have J:=Ty.C7m a (k+1+((n.length / 50:Nat):Int)) h;rw[Ty.Dv];omega
theorem Ty.C7m:∀(l:List Ty)(k:Int),Ty.Ce l k<=2000->(Ty.C0 l:Int)<=60*(Ty.Ce l k - k)
 |[],k,_=>by simp[Ty.Ce,Ty.C0]
 |t::E,k,h=>by
  simp only[Ty.Ce]at h |-;split at h
  .rename_i I;rw[A8 I];have L:=Ty.Kr E (t.count k);have J:=Ty.C7m E (t.count k) h;have O:=Ty.A0z t k (by omega);rw[Ty.C0];omega
  .omega
end
mutual
theorem Ex.B5f:∀(e:Ex)(k:Int),e.count k<=2000->(e.Sp:Int)<=120*(e.count k - k)
 |.mk Z n t a ks p,k,h=>by simp only[Ex.count]at h |-;have J:=Ty.F6 t (k+((n.length / 50:Nat):Int));have L:=Ty.Kr a (t.count (k+((n.length / 50:Nat):Int)));have O:=Ex.Kr ks (Ty.Ce a (t.count (k+((n.length / 50:Nat):Int))));have V:=Ty.A0z t (k+((n.length / 50:Nat):Int)) (by omega);have U:=Ty.C7m a (t.count (k+((n.length / 50:Nat):Int))) (by omega);have W:=Ex.D5a ks (Ty.Ce a (t.count (k+((n.length / 50:Nat):Int)))) h;rw[Ex.Sp];omega
theorem Ex.D5a:∀(l:List Ex)(k:Int),Ex.Ce l k<=2000->(Ex.Wa l:Int)<=120*(Ex.Ce l k - k)
 |[],k,_=>by simp[Ex.Ce,Ex.Wa]
 |t::E,k,h=>by
  simp only[Ex.Ce]at h |-;split at h
  .rename_i I;rw[A8 I];have J:=Ex.Kr E (t.count k);have L:=Ex.D5a E (t.count k) h;have O:=Ex.B5f t k (by omega);rw[Ex.Wa];omega
  .omega
end
end Go.Abs
