/- The program's data as plain Lean data, and how it reads. -/
import Derived.Test.YtjneockcgjfhaaaGreatDoorKAb5
set_option linter.all false
namespace Go.Abs
open Go
inductive Ty where
 |mk (name:A2) (args:List Ty) (pos:Int)
def Ty.name:Ty->A2| .mk n _ _=>n
def Ty.args:Ty->List Ty| .mk _ a _=>a
def Ty.pos:Ty->Int| .mk _ _ p=>p
instance:Inhabited Ty:=⟨.mk [] [] 0⟩
mutual
def Ty.Qd:Ty->List D
 |.mk n a p=>[.str n,.slice (Ty.Pc a),.int .i64 p]
def Ty.Pc:List Ty->List (List D)
 |[]=>[]
 |t::E=>t.Qd::Ty.Pc E
end
def Ag(l:List Ty):List (List D):=Ty.Pc l
def Bs(t:Ty):List D:=[.str t.name,.slice (Ag t.args),.int .i64 t.pos]
def D5f(t:Ty):t.Qd=Bs t:=by cases t;rfl
def E9v:Ag []=[]:=rfl
def F5t(t:Ty)(l:List Ty):Ag (t::l)=Bs t::Ag l:=by show t.Qd::_=_;rw[D5f];rfl
def H3:∀l:List Ty,Ag l=l.map Bs
 |[]=>rfl
 |t::l=>by rw[F5t,H3 l];rfl
variable {t:Ty}
def Ev{l:List Ty}{i:Nat}(h:l[i]?=some t):(Ag l)[i]?=some (Bs t):=by rw[H3];simp[h]
def D6q(l:List Ty):(Ag l).length=l.length:=by rw[H3];simp
def A4x(l:List Ty):∀row,row∈Ag l->row.length=3:=by intro row h;rw[H3]at h;obtain⟨t,_,rfl⟩:=Au.1 h;rfl
def E9t(l m:List Ty):Ag (l++m)=Ag l++Ag m:=by simp[H3]
abbrev Be(t:Ty):SV:=.agg [.d (.str t.name),.d (.slice (Ag t.args)),.d (.int .i64 t.pos)]
abbrev A7(n:Int):SV:=.d (.int .i64 n)
abbrev B1(b:Bool):SV:=.d (.bool b)
abbrev B4(s:A2):SV:=.d (.str s)
abbrev Co(l:List Ty):SV:=.d (.slice (Ag l))
def Ba(l:List A2):List (List D):=l.map λs=>[.str s]
abbrev Ce(l:List A2):SV:=.d (.slice (Ba l))
inductive Ty.Ok:Ty->Prop where
 |mk (n:A2) (a:List Ty) (p:Int):n.length<=lim->a.length<=lim->(∀t,t∈a->Ty.Ok t)->Ty.Ok (.mk n a p)
mutual
theorem Ty.B7q:∀(t:Ty),(∀d,d∈t.Qd->d.Bd)->t.Ok
 |.mk n a p,h=>by
  have I:(D.str n).Bd:=h _ (by simp[Ty.Qd]);have J:(D.slice (Ty.Pc a)).Bd:=h _ (by simp[Ty.Qd]);cases I with
  |str _ I=>exact .mk n a p I (Ty.A4m a J).1 (Ty.A4m a J).2
theorem Ty.A4m:∀(l:List Ty),(D.slice (Ty.Pc l)).Bd->l.length<=lim/\∀t,t∈l->t.Ok
 |l,h=>by
  cases h with
  |slice _ I J =>
   refine⟨by have:=D6q l;unfold Ag at this;omega,?_⟩;exact Ty.B3p l λrow E d hd=>by grind[List.mem_iff_getElem?]
theorem Ty.B3p:∀(l:List Ty),(∀row,row∈Ty.Pc l->∀d,d∈row->d.Bd)->∀t,t∈l->t.Ok
 |[],_=>by simp
 |t::L,h=>by intro u hu;simp at hu;rcases hu with rfl|hu;exact Ty.B7q _ (h _ (by simp[Ty.Pc]));exact Ty.B3p L (λrow E=>h row (by simp[Ty.Pc,E])) u hu
end
def A4s{l:List Ty}(h:(D.slice (Ag l)).Bd):l.length<=lim/\∀t,t∈l->t.Ok:=Ty.A4m l h
theorem Ty.Ok.name(h:t.Ok):t.name.length<=lim:=by cases h;assumption
def Ty.Ok.len(h:t.Ok):t.args.length<=lim:=by cases h;assumption
def Ty.Ok.arg(h:t.Ok):∀u,u∈t.args->u.Ok:=by cases h;assumption
def D7j(h:SV.bd (Be t)):t.Ok:=by simp only[SV.bd,SV.Ub]at h;refine Ty.B7q t ?_;rw[D5f];intro d hd;simp only[Bs,B5,Fb,Fg]at hd;grind
mutual
theorem Ty.induct{p:Ty->Prop}(h:∀t,(∀u,u∈t.args->p u)->p t):∀t:Ty,p t
 |.mk n a q=>h _ (Ty.B4c h a)
theorem Ty.B4c{p:Ty->Prop}(h:∀t,(∀u,u∈t.args->p u)->p t):∀l:List Ty,∀u,u∈l->p u
 |[]=>by simp
 |t::E=>by intro u hu;simp at hu;rcases hu with rfl|hu;exact Ty.induct h _;exact Ty.B4c h E u hu
end
inductive Ex where
 |mk (kind:Int) (name:A2) (type:Ty) (targs:List Ty) (kids:List Ex) (pos:Int)
def Ex.kind:Ex->Int| .mk k _ _ _ _ _=>k
def Ex.name:Ex->A2| .mk _ n _ _ _ _=>n
def Ex.type:Ex->Ty| .mk _ _ t _ _ _=>t
def Ex.targs:Ex->List Ty| .mk _ _ _ a _ _=>a
def Ex.kids:Ex->List Ex| .mk _ _ _ _ k _=>k
def Ex.pos:Ex->Int| .mk _ _ _ _ _ p=>p
instance:Inhabited Ex:=⟨.mk 0 [] default [] [] 0⟩
mutual
def Ex.Qd:Ex->List D
 |.mk k n t a ks p=>[.int .i64 k,.str n,.str t.name,.slice (Ag t.args),.int .i64 t.pos,.slice (Ag a),.slice (Ex.Pc ks),.int .i64 p]
def Ex.Pc:List Ex->List (List D)
 |[]=>[]
 |t::E=>t.Qd::Ex.Pc E
end
def Bj(l:List Ex):List (List D):=Ex.Pc l
def Bp(e:Ex):List D:=[.int .i64 e.kind,.str e.name,.str e.type.name,.slice (Ag e.type.args),.int .i64 e.type.pos,.slice (Ag e.targs),.slice (Bj e.kids),.int .i64 e.pos]
def F1w(t:Ex):t.Qd=Bp t:=by cases t;rfl
def E8u:Bj []=[]:=rfl
def G9v(t:Ex)(l:List Ex):Bj (t::l)=Bp t::Bj l:=by show t.Qd::_=_;rw[F1w];rfl
def I0:∀l:List Ex,Bj l=l.map Bp
 |[]=>rfl
 |t::l=>by rw[G9v,I0 l];rfl
def Ck{l:List Ex}{i:Nat}{t:Ex}(h:l[i]?=some t):(Bj l)[i]?=some (Bp t):=by rw[I0];simp[h]
def Wt(l:List Ex):(Bj l).length=l.length:=by rw[I0];simp
def Z5(l:List Ex):∀row,row∈Bj l->row.length=8:=by intro row h;rw[I0]at h;obtain⟨t,_,rfl⟩:=Au.1 h;rfl
abbrev Bg(e:Ex):SV:=.agg [.d (.int .i64 e.kind),.d (.str e.name),.d (.str e.type.name),.d (.slice (Ag e.type.args)),.d (.int .i64 e.type.pos),.d (.slice (Ag e.targs)),.d (.slice (Bj e.kids)),.d (.int .i64 e.pos)]
mutual
theorem Ex.induct{p:Ex->Prop}(h:∀t,(∀u,u∈t.kids->p u)->p t):∀t:Ex,p t
 |.mk _ _ _ _ a _=>h _ (Ex.B4c h a)
theorem Ex.B4c{p:Ex->Prop}(h:∀t,(∀u,u∈t.kids->p u)->p t):∀l:List Ex,∀u,u∈l->p u
 |[]=>by simp
 |t::E=>by intro u hu;simp at hu;rcases hu with rfl|hu;exact Ex.induct h _;exact Ex.B4c h E u hu
end
inductive Ex.Ok:Ex->Prop where
 |mk (k:Int) (n:A2) (t:Ty) (a:List Ty) (ks:List Ex) (p:Int):n.length<=lim->t.Ok->a.length<=lim->(∀t,t∈a->t.Ok)->ks.length<=lim->(∀e,e∈ks->Ex.Ok e)->Ex.Ok (.mk k n t a ks p)
def A6m(E:(D.str t.name).Bd)(I:(D.slice (Ag t.args)).Bd):t.Ok:=by
 cases t with
 |mk n a p=>cases E with|str _ E=>exact .mk n a p E (A4s I).1 (A4s I).2
mutual
theorem Ex.B7q:∀(e:Ex),(∀d,d∈e.Qd->d.Bd)->e.Ok
 |.mk k n t a ks p,h=>by
  have I:(D.str n).Bd:=h _ (by simp[Ex.Qd]);have O:(D.str t.name).Bd:=h _ (by simp[Ex.Qd]);have V:(D.slice (Ag t.args)).Bd:=h _ (by simp[Ex.Qd]);have L:(D.slice (Ag a)).Bd:=h _ (by simp[Ex.Qd]);have J:(D.slice (Ex.Pc ks)).Bd:=h _ (by simp[Ex.Qd]);cases I with
  |str _ I=>exact .mk k n t a ks p I (A6m O V) (A4s L).1 (A4s L).2 (Ex.A4m ks J).1 (Ex.A4m ks J).2
theorem Ex.A4m:∀(l:List Ex),(D.slice (Ex.Pc l)).Bd->l.length<=lim/\∀t,t∈l->t.Ok
 |l,h=>by
  cases h with
  |slice _ I O =>
   refine⟨by have:=Wt l;unfold Bj at this;omega,?_⟩;exact Ex.B3p l λrow E d hd=>by grind[List.mem_iff_getElem?]
theorem Ex.B3p:∀(l:List Ex),(∀row,row∈Ex.Pc l->∀d,d∈row->d.Bd)->∀t,t∈l->t.Ok
 |[],_=>by simp
 |t::U,h=>by intro u hu;simp at hu;rcases hu with rfl|hu;exact Ex.B7q _ (h _ (by simp[Ex.Pc]));exact Ex.B3p U (λrow E=>h row (by simp[Ex.Pc,E])) u hu
end
def E4w{l:List Ex}(h:(D.slice (Bj l)).Bd):l.length<=lim/\∀t,t∈l->t.Ok:=Ex.A4m l h
variable {e:Ex}
theorem C8s(E:(D.str e.name).Bd)(O:(D.str e.type.name).Bd)(L:(D.slice (Ag e.type.args)).Bd)(J:(D.slice (Ag e.targs)).Bd)(I:(D.slice (Bj e.kids)).Bd):e.Ok:=by
 cases e with
 |mk k n t a ks p=>cases E with|str _ E=>exact .mk k n t a ks p E (A6m O L) (A4s J).1 (A4s J).2 (E4w I).1 (E4w I).2
def C8m(h:SV.bd (Bg e)):e.Ok:=by simp only[SV.bd,SV.Ub]at h;grind[C8s]
theorem Ex.Ok.name(h:e.Ok):e.name.length<=lim:=by cases h;assumption
def Ex.Ok.type(h:e.Ok):e.type.Ok:=by cases h;assumption
def Ex.Ok.targs(h:e.Ok):e.targs.length<=lim/\∀t,t∈e.targs->t.Ok:=by cases h;exact⟨by assumption,by assumption⟩
def Ex.Ok.kids(h:e.Ok):e.kids.length<=lim/\∀t,t∈e.kids->t.Ok:=by cases h;exact⟨by assumption,by assumption⟩
structure Ak where
 name:A2
 bound:Ty
 pos:Int
structure Param where
 name:A2
 type:Ty
 pos:Int
structure A4 where
 name:A2
 A1:List Ak
 params:List Param
 result:Ty
 pos:Int
structure Decl where
 kind:Int
 name:A2
 A1:List Ak
 fields:List Param
 sigs:List A4
 recv:A2
 vars:List A2
 sig:A4
 body:Ex
 pos:Int
structure Prog where
 decls:List Decl
 main:Ex
instance:Inhabited Ak:=⟨⟨[],default,0⟩⟩
instance:Inhabited Param:=⟨⟨[],default,0⟩⟩
instance:Inhabited A4:=⟨⟨[],[],[],default,0⟩⟩
instance:Inhabited Decl:=⟨⟨0,[],[],[],[],[],[],default,default,0⟩⟩
def Gs(f:Ak):List D:=[.str f.name,.str f.bound.name,.slice (Ag f.bound.args),.int .i64 f.bound.pos,.int .i64 f.pos]
def E9(f:Param):List D:=[.str f.name,.str f.type.name,.slice (Ag f.type.args),.int .i64 f.type.pos,.int .i64 f.pos]
def Ax(l:List Ak):List (List D):=l.map Gs
def Ay(l:List Param):List (List D):=l.map E9
def Dm(s:A4):List D:=[.str s.name,.slice (Ax s.A1),.slice (Ay s.params),.str s.result.name,.slice (Ag s.result.args),.int .i64 s.result.pos,.int .i64 s.pos]
def B9(l:List A4):List (List D):=l.map Dm
def B3(d:Decl):List D:=[.int .i64 d.kind,.str d.name,.slice (Ax d.A1),.slice (Ay d.fields),.slice (B9 d.sigs),.str d.recv,.slice (Ba d.vars),.str d.sig.name,.slice (Ax d.sig.A1),.slice (Ay d.sig.params),.str d.sig.result.name,.slice (Ag d.sig.result.args),.int .i64 d.sig.result.pos,.int .i64 d.sig.pos,.int .i64 d.body.kind,.str d.body.name,.str d.body.type.name,.slice (Ag d.body.type.args),.int .i64 d.body.type.pos,.slice (Ag d.body.targs),.slice (Bj d.body.kids),.int .i64 d.body.pos,.int .i64 d.pos]
def Di(l:List Decl):List (List D):=l.map B3
def Ai(p:Prog):List D:=[.slice (Di p.decls),.int .i64 p.main.kind,.str p.main.name,.str p.main.type.name,.slice (Ag p.main.type.args),.int .i64 p.main.type.pos,.slice (Ag p.main.targs),.slice (Bj p.main.kids),.int .i64 p.main.pos]
abbrev Sa(f:Ak):SV:=.agg [.d (.str f.name),.d (.str f.bound.name),.d (.slice (Ag f.bound.args)),.d (.int .i64 f.bound.pos),.d (.int .i64 f.pos)]
abbrev Sy(f:Param):SV:=.agg [.d (.str f.name),.d (.str f.type.name),.d (.slice (Ag f.type.args)),.d (.int .i64 f.type.pos),.d (.int .i64 f.pos)]
abbrev E0(s:A4):SV:=.agg [.d (.str s.name),.d (.slice (Ax s.A1)),.d (.slice (Ay s.params)),.d (.str s.result.name),.d (.slice (Ag s.result.args)),.d (.int .i64 s.result.pos),.d (.int .i64 s.pos)]
abbrev Pz(d:Decl):SV:=.agg [.d (.int .i64 d.kind),.d (.str d.name),.d (.slice (Ax d.A1)),.d (.slice (Ay d.fields)),.d (.slice (B9 d.sigs)),.d (.str d.recv),.d (.slice (Ba d.vars)),.d (.str d.sig.name),.d (.slice (Ax d.sig.A1)),.d (.slice (Ay d.sig.params)),.d (.str d.sig.result.name),.d (.slice (Ag d.sig.result.args)),.d (.int .i64 d.sig.result.pos),.d (.int .i64 d.sig.pos),.d (.int .i64 d.body.kind),.d (.str d.body.name),.d (.str d.body.type.name),.d (.slice (Ag d.body.type.args)),.d (.int .i64 d.body.type.pos),.d (.slice (Ag d.body.targs)),.d (.slice (Bj d.body.kids)),.d (.int .i64 d.body.pos),.d (.int .i64 d.pos)]
abbrev Cq(p:Prog):SV:=.agg [.d (.slice (Di p.decls)),.d (.int .i64 p.main.kind),.d (.str p.main.name),.d (.str p.main.type.name),.d (.slice (Ag p.main.type.args)),.d (.int .i64 p.main.type.pos),.d (.slice (Ag p.main.targs)),.d (.slice (Bj p.main.kids)),.d (.int .i64 p.main.pos)]
def A0o{α:Type}{f:α->List D}{l:List α}{i:Nat}{t:α}(h:l[i]?=some t):(l.map f)[i]?=some (f t):=by simp[h]
def Fc{l:List Ak}{i:Nat}{t:Ak}(h:l[i]?=some t):(Ax l)[i]?=some (Gs t):=A0o h
def Dx{l:List Param}{i:Nat}{t:Param}(h:l[i]?=some t):(Ay l)[i]?=some (E9 t):=A0o h
def De{l:List A4}{i:Nat}{t:A4}(h:l[i]?=some t):(B9 l)[i]?=some (Dm t):=A0o h
def Ek{l:List Decl}{i:Nat}{t:Decl}(h:l[i]?=some t):(Di l)[i]?=some (B3 t):=A0o h
def J7{l:List A2}{i:Nat}{t:A2}(h:l[i]?=some t):(Ba l)[i]?=some [.str t]:=A0o (f:=λs=>[D.str s]) h
def F3t(l:List Ak):(Ax l).length=l.length:=by simp[Ax]
def A8a(l:List Param):(Ay l).length=l.length:=by simp[Ay]
def F6n(l:List A4):(B9 l).length=l.length:=by simp[B9]
def C7z(l:List Decl):(Di l).length=l.length:=by simp[Di]
def G1q(l:List A2):(Ba l).length=l.length:=by simp[Ba]
def H1n(l m:List A4):B9 (l++m)=B9 l++B9 m:=by simp[B9]
def D2j(l m:List A2):Ba (l++m)=Ba l++Ba m:=by simp[Ba]
def B9i(l:List Ak):∀row,row∈Ax l->row.length=5:=by intro row h;obtain⟨t,_,rfl⟩:=Au.1 h;rfl
def E9y(l:List Param):∀row,row∈Ay l->row.length=5:=by intro row h;obtain⟨t,_,rfl⟩:=Au.1 h;rfl
def F2f(l:List Decl):∀row,row∈Di l->row.length=23:=by intro row h;obtain⟨t,_,rfl⟩:=Au.1 h;rfl
def V0(l:List A2):∀row,row∈Ba l->row.length=1:=by intro row h;obtain⟨t,_,rfl⟩:=Au.1 h;rfl
def Xa{α:Type}{f:α->List D}{l:List α}(h:(D.slice (l.map f)).Bd):l.length<=lim/\∀t,t∈l->∀d,d∈f t->d.Bd:=by
 cases h with
 |slice _ L E =>refine⟨by grind,λt ht d hd=>?_⟩;obtain⟨i,J⟩:=Wz.1 ht;obtain⟨j,I⟩:=Wz.1 hd;exact E i j (f t) d (A0o J) I
def Vf{s:A2}(h:(D.str s).Bd):s.length<=lim:=by cases h;omega
structure Ak.Ok(f:Ak):Prop where
 name:f.name.length<=lim
 bound:f.bound.Ok
structure Param.Ok(f:Param):Prop where
 name:f.name.length<=lim
 type:f.type.Ok
def B1u{l:List Ak}(h:(D.slice (Ax l)).Bd):l.length<=lim/\∀t,t∈l->t.Ok :=⟨(Xa h).1,λt ht=>have g:=(Xa h).2 t ht;⟨Vf (g _ (by simp[Gs])),A6m (g _ (by simp[Gs])) (g _ (by simp[Gs]))⟩⟩
def B2a{l:List Param}(h:(D.slice (Ay l)).Bd):l.length<=lim/\∀t,t∈l->t.Ok :=⟨(Xa h).1,λt ht=>have g:=(Xa h).2 t ht;⟨Vf (g _ (by simp[E9])),A6m (g _ (by simp[E9])) (g _ (by simp[E9]))⟩⟩
structure A4.Ok(s:A4):Prop where
 name:s.name.length<=lim
 A1:s.A1.length<=lim/\∀t,t∈s.A1->t.Ok
 params:s.params.length<=lim/\∀t,t∈s.params->t.Ok
 result:s.result.Ok
def G1t{l:List A4}(h:(D.slice (B9 l)).Bd):l.length<=lim/\∀t,t∈l->t.Ok :=⟨(Xa h).1,λt ht=>have g:=(Xa h).2 t ht;⟨Vf (g _ (by simp[Dm])),B1u (g _ (by simp[Dm])),B2a (g _ (by simp[Dm])),A6m (g _ (by simp[Dm])) (g _ (by simp[Dm]))⟩⟩
def A9s{l:List A2}(h:(D.slice (Ba l)).Bd):l.length<=lim/\∀t,t∈l->t.length<=lim :=⟨(Xa h).1,λt ht=>Vf ((Xa h).2 t ht _ (by simp))⟩
structure Decl.Ok(d:Decl):Prop where
 name:d.name.length<=lim
 A1:d.A1.length<=lim/\∀t,t∈d.A1->t.Ok
 fields:d.fields.length<=lim/\∀t,t∈d.fields->t.Ok
 sigs:d.sigs.length<=lim/\∀t,t∈d.sigs->t.Ok
 recv:d.recv.length<=lim
 vars:d.vars.length<=lim/\∀t,t∈d.vars->t.length<=lim
 sig:d.sig.Ok
 body:d.body.Ok
def G8r{l:List Decl}(h:(D.slice (Di l)).Bd):l.length<=lim/\∀t,t∈l->t.Ok :=⟨(Xa h).1,λt ht=>have g:=(Xa h).2 t ht
  ⟨Vf (g _ (by simp[B3])),B1u (g _ (by simp[B3])),B2a (g _ (by simp[B3])),G1t (g _ (by simp[B3])),Vf (g _ (by simp[B3])),A9s (g _ (by simp[B3])),⟨Vf (g _ (by simp[B3])),B1u (g _ (by simp[B3])),B2a (g _ (by simp[B3])),A6m (g _ (by simp[B3])) (g _ (by simp[B3]))⟩,C8s (g _ (by simp[B3])) (g _ (by simp[B3])) (g _ (by simp[B3])) (g _ (by simp[B3])) (g _ (by simp[B3]))⟩⟩
structure Prog.Ok(p:Prog):Prop where
 decls:p.decls.length<=lim/\∀t,t∈p.decls->t.Ok
 main:p.main.Ok
def B4j{p:Prog}(h:SV.bd (Cq p)):p.Ok:=by simp only[SV.bd,SV.Ub]at h;exact⟨G8r h.1,C8s h.2.2.1 h.2.2.2.1 h.2.2.2.2.1 h.2.2.2.2.2.2.1 h.2.2.2.2.2.2.2.1⟩
def F6j{s:A4}(h:SV.bd (E0 s)):s.Ok:=by simp only[SV.bd,SV.Ub]at h;exact⟨Vf h.1,B1u h.2.1,B2a h.2.2.1,A6m h.2.2.2.1 h.2.2.2.2.1⟩
def F6y(n:Nat):(n:Int).tdiv 50=((n / 50:Nat):Int):=rfl
end Go.Abs
