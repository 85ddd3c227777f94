/- The program's data as plain Lean data, and how it reads. -/
import Derived.Test.YtcmlfpcaeflleaaGreatDoorGAb5
set_option linter.all false
namespace Go.Abs
open Go
inductive Ty where
 |mk (name:A3) (args:List Ty) (pos:Int)
def Ty.name:Ty->A3| .mk n _ _=>n
def Ty.args:Ty->List Ty| .mk _ a _=>a
def Ty.pos:Ty->Int| .mk _ _ p=>p
instance:Inhabited Ty:=⟨.mk [] [] 0⟩
mutual
def Ty.Qd:Ty->List D
 |.mk n a p=>[.str n,.slice (Ty.Po a),.int .i64 p]
def Ty.Po:List Ty->List (List D)
 |[]=>[]
 |t::ts=>t.Qd::Ty.Po ts
end
def Au(l:List Ty):List (List D):=Ty.Po l
def Be(t:Ty):List D:=[.str t.name,.slice (Au t.args),.int .i64 t.pos]
def E3a(t:Ty):t.Qd=Be t:=by cases t;rfl
def X2:Au []=[]:=rfl
def A7z(t:Ty)(l:List Ty):Au (t::l)=Be t::Au l:=by show t.Qd::_=_;rw[E3a];rfl
def Cz:∀l:List Ty,Au l=l.map Be
 |[]=>rfl
 |t::l=>by rw[A7z,Cz l];rfl
def Dv{l:List Ty}{i:Nat}{t:Ty}(h:l[i]?=some t):(Au l)[i]?=some (Be t):=by rw[Cz];simp[h]
def C4g(l:List Ty):(Au l).length=l.length:=by rw[Cz];simp
def A0j(l:List Ty):∀row,row∈Au l->row.length=3:=by intro row h;rw[Cz]at h;obtain⟨t,_,rfl⟩:=B1.1 h;rfl
def C5g(l m:List Ty):Au (l++m)=Au l++Au m:=by simp[Cz]
abbrev B6(t:Ty):SV:=.agg [.d (.str t.name),.d (.slice (Au t.args)),.d (.int .i64 t.pos)]
abbrev A8(n:Int):SV:=.d (.int .i64 n)
abbrev Ay(b:Bool):SV:=.d (.bool b)
abbrev D9(s:A3):SV:=.d (.str s)
abbrev Cd(l:List Ty):SV:=.d (.slice (Au l))
def C5(l:List A3):List (List D):=l.map λs=>[.str s]
abbrev Cy(l:List A3):SV:=.d (.slice (C5 l))
inductive Ty.Ok:Ty->Prop where
 |mk (n:A3) (a:List Ty) (p:Int):n.length<=lim->a.length<=lim->(∀t,t∈a->Ty.Ok t)->Ty.Ok (.mk n a p)
mutual
theorem Ty.C2a:∀(t:Ty),(∀d,d∈t.Qd->d.Bd)->t.Ok
 |.mk n a p,h=>by
  have I:(D.str n).Bd:=h _ (by simp[Ty.Qd]);have J:(D.slice (Ty.Po a)).Bd:=h _ (by simp[Ty.Qd]);cases I with
  |str _ I=>exact .mk n a p I (Ty.A6m a J).1 (Ty.A6m a J).2
theorem Ty.A6m:∀(l:List Ty),(D.slice (Ty.Po l)).Bd->l.length<=lim/\∀t,t∈l->t.Ok
 |l,h=>by
  cases h with
  |slice _ I J =>
   refine⟨by have:=C4g l;unfold Au at this;omega,?_⟩;exact Ty.B4u l λrow E d M=>by obtain⟨i,O⟩:=N4.1 E;obtain⟨j,L⟩:=N4.1 M;exact J i j row d O L
theorem Ty.B4u:∀(l:List Ty),(∀row,row∈Ty.Po l->∀d,d∈row->d.Bd)->∀t,t∈l->t.Ok
 |[],_=>by simp
 |t::ts,h=>by
  intro u hu;simp only[Aw]at hu;rcases hu with rfl|hu
  .exact Ty.C2a _ (h _ (by simp[Ty.Po]))
  .exact Ty.B4u ts (λrow E=>h row (by simp[Ty.Po,E])) u hu
end
def A6h{l:List Ty}(h:(D.slice (Au l)).Bd):l.length<=lim/\∀t,t∈l->t.Ok:=Ty.A6m l h
def Ty.Ok.name{t:Ty}(h:t.Ok):t.name.length<=lim:=by cases h;assumption
def Ty.Ok.len{t:Ty}(h:t.Ok):t.args.length<=lim:=by cases h;assumption
def Ty.Ok.arg{t:Ty}(h:t.Ok):∀u,u∈t.args->u.Ok:=by cases h;assumption
def E6r{t:Ty}(h:SV.bd (B6 t)):t.Ok:=by
 simp only[SV.bd,SV.U2]at h;refine Ty.C2a t ?_;rw[E3a];intro d E;simp only[Be,Aw,Ej,Eh]at E;rcases E with rfl|rfl|rfl
 .exact h.1
 .exact h.2.1
 .exact .int _ _
mutual
theorem Ty.induct{p:Ty->Prop}(h:∀t,(∀u,u∈t.args->p u)->p t):∀t:Ty,p t
 |.mk n a q=>h _ (Ty.B3g h a)
theorem Ty.B3g{p:Ty->Prop}(h:∀t,(∀u,u∈t.args->p u)->p t):∀l:List Ty,∀u,u∈l->p u
 |[]=>by simp
 |t::ts=>by
  intro u hu;simp only[Aw]at hu;rcases hu with rfl|hu
  .exact Ty.induct h _
  .exact Ty.B3g h ts u hu
end
inductive Ex where
 |mk (kind:Int) (name:A3) (type:Ty) (targs:List Ty) (kids:List Ex) (pos:Int)
def Ex.kind:Ex->Int| .mk k _ _ _ _ _=>k
def Ex.name:Ex->A3| .mk _ n _ _ _ _=>n
def Ex.type:Ex->Ty| .mk _ _ t _ _ _=>t
def Ex.targs:Ex->List Ty| .mk _ _ _ a _ _=>a
def Ex.kids:Ex->List Ex| .mk _ _ _ _ k _=>k
def Ex.pos:Ex->Int| .mk _ _ _ _ _ p=>p
instance:Inhabited Ex:=⟨.mk 0 [] default [] [] 0⟩
mutual
def Ex.Qd:Ex->List D
 |.mk k n t a ks p=>[.int .i64 k,.str n,.str t.name,.slice (Au t.args),.int .i64 t.pos,.slice (Au a),.slice (Ex.Po ks),.int .i64 p]
def Ex.Po:List Ex->List (List D)
 |[]=>[]
 |t::ts=>t.Qd::Ex.Po ts
end
def Ew(l:List Ex):List (List D):=Ex.Po l
def Bu(e:Ex):List D:=[.int .i64 e.kind,.str e.name,.str e.type.name,.slice (Au e.type.args),.int .i64 e.type.pos,.slice (Au e.targs),.slice (Ew e.kids),.int .i64 e.pos]
def H0i(t:Ex):t.Qd=Bu t:=by cases t;rfl
def G7i:Ew []=[]:=rfl
def G6d(t:Ex)(l:List Ex):Ew (t::l)=Bu t::Ew l:=by show t.Qd::_=_;rw[H0i];rfl
def S6:∀l:List Ex,Ew l=l.map Bu
 |[]=>rfl
 |t::l=>by rw[G6d,S6 l];rfl
def Dn{l:List Ex}{i:Nat}{t:Ex}(h:l[i]?=some t):(Ew l)[i]?=some (Bu t):=by rw[S6];simp[h]
def C1t(l:List Ex):(Ew l).length=l.length:=by rw[S6];simp
def C0a(l:List Ex):∀row,row∈Ew l->row.length=8:=by intro row h;rw[S6]at h;obtain⟨t,_,rfl⟩:=B1.1 h;rfl
abbrev D0(e:Ex):SV:=.agg [.d (.int .i64 e.kind),.d (.str e.name),.d (.str e.type.name),.d (.slice (Au e.type.args)),.d (.int .i64 e.type.pos),.d (.slice (Au e.targs)),.d (.slice (Ew e.kids)),.d (.int .i64 e.pos)]
mutual
theorem Ex.induct{p:Ex->Prop}(h:∀t,(∀u,u∈t.kids->p u)->p t):∀t:Ex,p t
 |.mk _ _ _ _ a _=>h _ (Ex.B3g h a)
theorem Ex.B3g{p:Ex->Prop}(h:∀t,(∀u,u∈t.kids->p u)->p t):∀l:List Ex,∀u,u∈l->p u
 |[]=>by simp
 |t::ts=>by
  intro u hu;simp only[Aw]at hu;rcases hu with rfl|hu
  .exact Ex.induct h _
  .exact Ex.B3g h ts u hu
end
inductive Ex.Ok:Ex->Prop where
 |mk (k:Int) (n:A3) (t:Ty) (a:List Ty) (ks:List Ex) (p:Int):n.length<=lim->t.Ok->a.length<=lim->(∀t,t∈a->t.Ok)->ks.length<=lim->(∀e,e∈ks->Ex.Ok e)->Ex.Ok (.mk k n t a ks p)
def A7c{t:Ty}(E:(D.str t.name).Bd)(I:(D.slice (Au t.args)).Bd):t.Ok:=by
 cases t with
 |mk n a p=>cases E with|str _ E=>exact .mk n a p E (A6h I).1 (A6h I).2
mutual
theorem Ex.C2a:∀(e:Ex),(∀d,d∈e.Qd->d.Bd)->e.Ok
 |.mk k n t a ks p,h=>by
  have I:(D.str n).Bd:=h _ (by simp[Ex.Qd]);have J:(D.str t.name).Bd:=h _ (by simp[Ex.Qd]);have V:(D.slice (Au t.args)).Bd:=h _ (by simp[Ex.Qd]);have L:(D.slice (Au a)).Bd:=h _ (by simp[Ex.Qd]);have M:(D.slice (Ex.Po ks)).Bd:=h _ (by simp[Ex.Qd]);cases I with
  |str _ I=>exact .mk k n t a ks p I (A7c J V) (A6h L).1 (A6h L).2 (Ex.A6m ks M).1 (Ex.A6m ks M).2
theorem Ex.A6m:∀(l:List Ex),(D.slice (Ex.Po l)).Bd->l.length<=lim/\∀t,t∈l->t.Ok
 |l,h=>by
  cases h with
  |slice _ I J =>
   refine⟨by have:=C1t l;unfold Ew at this;omega,?_⟩;exact Ex.B4u l λrow E d U=>by obtain⟨i,W⟩:=N4.1 E;obtain⟨j,O⟩:=N4.1 U;exact J i j row d W O
theorem Ex.B4u:∀(l:List Ex),(∀row,row∈Ex.Po l->∀d,d∈row->d.Bd)->∀t,t∈l->t.Ok
 |[],_=>by simp
 |t::ts,h=>by
  intro u hu;simp only[Aw]at hu;rcases hu with rfl|hu
  .exact Ex.C2a _ (h _ (by simp[Ex.Po]))
  .exact Ex.B4u ts (λrow E=>h row (by simp[Ex.Po,E])) u hu
end
def D4t{l:List Ex}(h:(D.slice (Ew l)).Bd):l.length<=lim/\∀t,t∈l->t.Ok:=Ex.A6m l h
def C6a{e:Ex}(E:(D.str e.name).Bd)(M:(D.str e.type.name).Bd)(L:(D.slice (Au e.type.args)).Bd)(I:(D.slice (Au e.targs)).Bd)(J:(D.slice (Ew e.kids)).Bd):e.Ok:=by
 cases e with
 |mk k n t a ks p=>cases E with|str _ E=>exact .mk k n t a ks p E (A7c M L) (A6h I).1 (A6h I).2 (D4t J).1 (D4t J).2
def C6e{e:Ex}(h:SV.bd (D0 e)):e.Ok:=by simp only[SV.bd,SV.U2]at h;exact C6a h.2.1 h.2.2.1 h.2.2.2.1 h.2.2.2.2.2.1 h.2.2.2.2.2.2.1
def Ex.Ok.name{e:Ex}(h:e.Ok):e.name.length<=lim:=by cases h;assumption
def Ex.Ok.type{e:Ex}(h:e.Ok):e.type.Ok:=by cases h;assumption
def Ex.Ok.targs{e:Ex}(h:e.Ok):e.targs.length<=lim/\∀t,t∈e.targs->t.Ok:=by cases h;exact⟨by assumption,by assumption⟩
def Ex.Ok.kids{e:Ex}(h:e.Ok):e.kids.length<=lim/\∀t,t∈e.kids->t.Ok:=by cases h;exact⟨by assumption,by assumption⟩
structure Am where
 name:A3
 bound:Ty
 pos:Int
structure Param where
 name:A3
 type:Ty
 pos:Int
structure A5 where
 name:A3
 A1:List Am
 params:List Param
 result:Ty
 pos:Int
structure Decl where
 kind:Int
 name:A3
 A1:List Am
 fields:List Param
 sigs:List A5
 recv:A3
 vars:List A3
 sig:A5
 body:Ex
 pos:Int
structure Prog where
 decls:List Decl
 main:Ex
instance:Inhabited Am:=⟨⟨[],default,0⟩⟩
instance:Inhabited Param:=⟨⟨[],default,0⟩⟩
instance:Inhabited A5:=⟨⟨[],[],[],default,0⟩⟩
instance:Inhabited Decl:=⟨⟨0,[],[],[],[],[],[],default,default,0⟩⟩
def Jy(f:Am):List D:=[.str f.name,.str f.bound.name,.slice (Au f.bound.args),.int .i64 f.bound.pos,.int .i64 f.pos]
def Ha(f:Param):List D:=[.str f.name,.str f.type.name,.slice (Au f.type.args),.int .i64 f.type.pos,.int .i64 f.pos]
def Ar(l:List Am):List (List D):=l.map Jy
def B9(l:List Param):List (List D):=l.map Ha
def Fw(s:A5):List D:=[.str s.name,.slice (Ar s.A1),.slice (B9 s.params),.str s.result.name,.slice (Au s.result.args),.int .i64 s.result.pos,.int .i64 s.pos]
def C1(l:List A5):List (List D):=l.map Fw
def Bb(d:Decl):List D:=[.int .i64 d.kind,.str d.name,.slice (Ar d.A1),.slice (B9 d.fields),.slice (C1 d.sigs),.str d.recv,.slice (C5 d.vars),
 .str d.sig.name,.slice (Ar d.sig.A1),.slice (B9 d.sig.params),.str d.sig.result.name,.slice (Au d.sig.result.args),.int .i64 d.sig.result.pos,.int .i64 d.sig.pos,
 .int .i64 d.body.kind,.str d.body.name,.str d.body.type.name,.slice (Au d.body.type.args),.int .i64 d.body.type.pos,.slice (Au d.body.targs),.slice (Ew d.body.kids),.int .i64 d.body.pos,.int .i64 d.pos]
def Ix(l:List Decl):List (List D):=l.map Bb
def An(p:Prog):List D:=[.slice (Ix p.decls),.int .i64 p.main.kind,.str p.main.name,.str p.main.type.name,.slice (Au p.main.type.args),.int .i64 p.main.type.pos,.slice (Au p.main.targs),.slice (Ew p.main.kids),.int .i64 p.main.pos]
abbrev Se(f:Am):SV:=.agg [.d (.str f.name),.d (.str f.bound.name),.d (.slice (Au f.bound.args)),.d (.int .i64 f.bound.pos),.d (.int .i64 f.pos)]
abbrev Rk(f:Param):SV:=.agg [.d (.str f.name),.d (.str f.type.name),.d (.slice (Au f.type.args)),.d (.int .i64 f.type.pos),.d (.int .i64 f.pos)]
abbrev Ea(s:A5):SV:=.agg [.d (.str s.name),.d (.slice (Ar s.A1)),.d (.slice (B9 s.params)),.d (.str s.result.name),.d (.slice (Au s.result.args)),.d (.int .i64 s.result.pos),.d (.int .i64 s.pos)]
abbrev Ma(d:Decl):SV:=.agg [.d (.int .i64 d.kind),.d (.str d.name),.d (.slice (Ar d.A1)),.d (.slice (B9 d.fields)),.d (.slice (C1 d.sigs)),.d (.str d.recv),.d (.slice (C5 d.vars)),
 .d (.str d.sig.name),.d (.slice (Ar d.sig.A1)),.d (.slice (B9 d.sig.params)),.d (.str d.sig.result.name),.d (.slice (Au d.sig.result.args)),.d (.int .i64 d.sig.result.pos),.d (.int .i64 d.sig.pos),
 .d (.int .i64 d.body.kind),.d (.str d.body.name),.d (.str d.body.type.name),.d (.slice (Au d.body.type.args)),.d (.int .i64 d.body.type.pos),.d (.slice (Au d.body.targs)),.d (.slice (Ew d.body.kids)),.d (.int .i64 d.body.pos),.d (.int .i64 d.pos)]
abbrev D7(p:Prog):SV:=.agg [.d (.slice (Ix p.decls)),.d (.int .i64 p.main.kind),.d (.str p.main.name),.d (.str p.main.type.name),.d (.slice (Au p.main.type.args)),.d (.int .i64 p.main.type.pos),.d (.slice (Au p.main.targs)),.d (.slice (Ew p.main.kids)),.d (.int .i64 p.main.pos)]
def A0z{α:Type}{f:α->List D}{l:List α}{i:Nat}{t:α}(h:l[i]?=some t):(l.map f)[i]?=some (f t):=by simp[h]
def F5{l:List Am}{i:Nat}{t:Am}(h:l[i]?=some t):(Ar l)[i]?=some (Jy t):=A0z h
def E9{l:List Param}{i:Nat}{t:Param}(h:l[i]?=some t):(B9 l)[i]?=some (Ha t):=A0z h
def F6{l:List A5}{i:Nat}{t:A5}(h:l[i]?=some t):(C1 l)[i]?=some (Fw t):=A0z h
def Ev{l:List Decl}{i:Nat}{t:Decl}(h:l[i]?=some t):(Ix l)[i]?=some (Bb t):=A0z h
def Ku{l:List A3}{i:Nat}{t:A3}(h:l[i]?=some t):(C5 l)[i]?=some [.str t]:=A0z (f:=λs=>[D.str s]) h
def H1b(l:List Am):(Ar l).length=l.length:=by simp[Ar]
def D9n(l:List Param):(B9 l).length=l.length:=by simp[B9]
def H0q(l:List A5):(C1 l).length=l.length:=by simp[C1]
def G6i(l:List Decl):(Ix l).length=l.length:=by simp[Ix]
def G9j(l:List A3):(C5 l).length=l.length:=by simp[C5]
def H2a(l m:List A5):C1 (l++m)=C1 l++C1 m:=by simp[C1]
def C2b(l:List Am):∀row,row∈Ar l->row.length=5:=by intro row h;obtain⟨t,_,rfl⟩:=B1.1 h;rfl
def D7j(l:List Param):∀row,row∈B9 l->row.length=5:=by intro row h;obtain⟨t,_,rfl⟩:=B1.1 h;rfl
def A5n(l:List A3):∀row,row∈C5 l->row.length=1:=by intro row h;obtain⟨t,_,rfl⟩:=B1.1 h;rfl
def Zc{α:Type}{f:α->List D}{l:List α}(h:(D.slice (l.map f)).Bd):l.length<=lim/\∀t,t∈l->∀d,d∈f t->d.Bd:=by
 cases h with
 |slice _ J L =>refine⟨by simpa using J,λt ht d I=>?_⟩;obtain⟨i,M⟩:=N4.1 ht;obtain⟨j,E⟩:=N4.1 I;exact L i j (f t) d (A0z M) E
def V6{s:A3}(h:(D.str s).Bd):s.length<=lim:=by cases h;assumption
structure Am.Ok(f:Am):Prop where
 name:f.name.length<=lim
 bound:f.bound.Ok
structure Param.Ok(f:Param):Prop where
 name:f.name.length<=lim
 type:f.type.Ok
def B4b{l:List Am}(h:(D.slice (Ar l)).Bd):l.length<=lim/\∀t,t∈l->t.Ok :=
 ⟨(Zc h).1,λt ht=>have g:=(Zc h).2 t ht;⟨V6 (g _ (by simp[Jy])),A7c (g _ (by simp[Jy])) (g _ (by simp[Jy]))⟩⟩
def B3a{l:List Param}(h:(D.slice (B9 l)).Bd):l.length<=lim/\∀t,t∈l->t.Ok :=
 ⟨(Zc h).1,λt ht=>have g:=(Zc h).2 t ht;⟨V6 (g _ (by simp[Ha])),A7c (g _ (by simp[Ha])) (g _ (by simp[Ha]))⟩⟩
structure A5.Ok(s:A5):Prop where
 name:s.name.length<=lim
 A1:s.A1.length<=lim/\∀t,t∈s.A1->t.Ok
 params:s.params.length<=lim/\∀t,t∈s.params->t.Ok
 result:s.result.Ok
def F0a{l:List A5}(h:(D.slice (C1 l)).Bd):l.length<=lim/\∀t,t∈l->t.Ok :=
 ⟨(Zc h).1,λt ht=>have g:=(Zc h).2 t ht;⟨V6 (g _ (by simp[Fw])),B4b (g _ (by simp[Fw])),B3a (g _ (by simp[Fw])),A7c (g _ (by simp[Fw])) (g _ (by simp[Fw]))⟩⟩
def B4y{l:List A3}(h:(D.slice (C5 l)).Bd):l.length<=lim/\∀t,t∈l->t.length<=lim :=
 ⟨(Zc h).1,λt ht=>V6 ((Zc h).2 t ht _ (by simp))⟩
structure Decl.Ok(d:Decl):Prop where
 name:d.name.length<=lim
 A1:d.A1.length<=lim/\∀t,t∈d.A1->t.Ok
 fields:d.fields.length<=lim/\∀t,t∈d.fields->t.Ok
 sigs:d.sigs.length<=lim/\∀t,t∈d.sigs->t.Ok
 recv:d.recv.length<=lim
 vars:d.vars.length<=lim/\∀t,t∈d.vars->t.length<=lim
 sig:d.sig.Ok
 body:d.body.Ok
def G7h{l:List Decl}(h:(D.slice (Ix l)).Bd):l.length<=lim/\∀t,t∈l->t.Ok :=
 ⟨(Zc h).1,λt ht=>have g:=(Zc h).2 t ht
  ⟨V6 (g _ (by simp[Bb])),B4b (g _ (by simp[Bb])),B3a (g _ (by simp[Bb])),F0a (g _ (by simp[Bb])),V6 (g _ (by simp[Bb])),B4y (g _ (by simp[Bb])),
   ⟨V6 (g _ (by simp[Bb])),B4b (g _ (by simp[Bb])),B3a (g _ (by simp[Bb])),A7c (g _ (by simp[Bb])) (g _ (by simp[Bb]))⟩,
   C6a (g _ (by simp[Bb])) (g _ (by simp[Bb])) (g _ (by simp[Bb])) (g _ (by simp[Bb])) (g _ (by simp[Bb]))⟩⟩
structure Prog.Ok(p:Prog):Prop where
 decls:p.decls.length<=lim/\∀t,t∈p.decls->t.Ok
 main:p.main.Ok
def B3s{p:Prog}(h:SV.bd (D7 p)):p.Ok:=by simp only[SV.bd,SV.U2]at h;exact⟨G7h h.1,C6a h.2.2.1 h.2.2.2.1 h.2.2.2.2.1 h.2.2.2.2.2.2.1 h.2.2.2.2.2.2.2.1⟩
def F6i{s:A5}(h:SV.bd (Ea s)):s.Ok:=by simp only[SV.bd,SV.U2]at h;exact⟨V6 h.1,B4b h.2.1,B3a h.2.2.1,A7c h.2.2.2.1 h.2.2.2.2.1⟩
def F4c(n:Nat):(n:Int).tdiv 50=((n / 50:Nat):Int):=rfl
end Go.Abs
