/- The program's data as plain Lean data, and how it reads. -/
import Derived.Test.YtieakoebgfiniaaGreatDoorZAb5
set_option linter.all false
namespace Go.Abs
open Go
inductive Ty where
 |mk (name:A2) (args:List Ty) (pos:Int)
def Ty.name:Ty->A2| .mk n _ _=>n
def Ty.args:Ty->List Ty| .mk _ a _=>a
def Ty.pos:Ty->Int| .mk _ _ p=>p
instance:Inhabited Ty:=⟨.mk [] [] 0⟩
mutual
def Ty.Q5:Ty->List D
 |.mk n a p=>[.str n,.slice (Ty.Nh a),.int .i64 p]
def Ty.Nh:List Ty->List (List D)
 |[]=>[]
 |t::E=>t.Q5::Ty.Nh E
end
def Ax(l:List Ty):List (List D):=Ty.Nh l
def Bo(t:Ty):List D:=[.str t.name,.slice (Ax t.args),.int .i64 t.pos]
def D3c(t:Ty):t.Q5=Bo t:=by cases t;rfl
def F1s:Ax []=[]:=rfl
def F3y(t:Ty)(l:List Ty):Ax (t::l)=Bo t::Ax l:=by show t.Q5::_=_;rw[D3c];rfl
def Dj:∀l:List Ty,Ax l=l.map Bo
 |[]=>rfl
 |t::l=>by rw[F3y,Dj l];rfl
variable {t:Ty}
def Et{l:List Ty}{i:Nat}(h:l[i]?=some t):(Ax l)[i]?=some (Bo t):=by rw[Dj];simp[h]
def D3z(l:List Ty):(Ax l).length=l.length:=by rw[Dj];simp
def Wj(l:List Ty):∀row,row∈Ax l->row.length=3:=by intro row h;rw[Dj]at h;obtain⟨t,_,rfl⟩:=Au.1 h;rfl
def D3r(l m:List Ty):Ax (l++m)=Ax l++Ax m:=by simp[Dj]
abbrev B7(t:Ty):SV:=.agg [.d (.str t.name),.d (.slice (Ax t.args)),.d (.int .i64 t.pos)]
abbrev A5(n:Int):SV:=.d (.int .i64 n)
abbrev Aw(b:Bool):SV:=.d (.bool b)
abbrev Bm(s:A2):SV:=.d (.str s)
abbrev Cm(l:List Ty):SV:=.d (.slice (Ax l))
def Bq(l:List A2):List (List D):=l.map λs=>[.str s]
abbrev Cc(l:List A2):SV:=.d (.slice (Bq l))
inductive Ty.Ok:Ty->Prop where
 |mk (n:A2) (a:List Ty) (p:Int):n.length<=lim->a.length<=lim->(∀t,t∈a->Ty.Ok t)->Ty.Ok (.mk n a p)
mutual
theorem Ty.B6y:∀(t:Ty),(∀d,d∈t.Q5->d.Bd)->t.Ok
 |.mk n a p,h=>by
  have I:(D.str n).Bd:=h _ (by simp[Ty.Q5]);have J:(D.slice (Ty.Nh a)).Bd:=h _ (by simp[Ty.Q5]);cases I with
  |str _ I=>exact .mk n a p I (Ty.A4w a J).1 (Ty.A4w a J).2
theorem Ty.A4w:∀(l:List Ty),(D.slice (Ty.Nh l)).Bd->l.length<=lim/\∀t,t∈l->t.Ok
 |l,h=>by
  cases h with
  |slice _ I J =>
   refine⟨by have:=D3z l;unfold Ax at this;omega,?_⟩;exact Ty.B4e l λrow E d hd=>by grind[List.mem_iff_getElem?]
theorem Ty.B4e:∀(l:List Ty),(∀row,row∈Ty.Nh l->∀d,d∈row->d.Bd)->∀t,t∈l->t.Ok
 |[],_=>by simp
 |t::L,h=>by
  intro u hu;simp at hu;rcases hu with rfl|hu
  .exact Ty.B6y _ (h _ (by simp[Ty.Nh]))
  .exact Ty.B4e L (λrow E=>h row (by simp[Ty.Nh,E])) u hu
end
def A4r{l:List Ty}(h:(D.slice (Ax l)).Bd):l.length<=lim/\∀t,t∈l->t.Ok:=Ty.A4w l h
theorem Ty.Ok.name(h:t.Ok):t.name.length<=lim:=by cases h;assumption
def Ty.Ok.len(h:t.Ok):t.args.length<=lim:=by cases h;assumption
def Ty.Ok.arg(h:t.Ok):∀u,u∈t.args->u.Ok:=by cases h;assumption
def C2r(h:SV.bd (B7 t)):t.Ok:=by
 simp only[SV.bd,SV.T1]at h;refine Ty.B6y t ?_;rw[D3c];intro d hd;simp only[Bo,B1,E5,Ea]at hd
 grind
mutual
theorem Ty.induct{p:Ty->Prop}(h:∀t,(∀u,u∈t.args->p u)->p t):∀t:Ty,p t
 |.mk n a q=>h _ (Ty.B1d h a)
theorem Ty.B1d{p:Ty->Prop}(h:∀t,(∀u,u∈t.args->p u)->p t):∀l:List Ty,∀u,u∈l->p u
 |[]=>by simp
 |t::E=>by
  intro u hu;simp at hu;rcases hu with rfl|hu
  .exact Ty.induct h _
  .exact Ty.B1d h E u hu
end
inductive Ex where
 |mk (kind:Int) (name:A2) (type:Ty) (targs:List Ty) (kids:List Ex) (pos:Int)
def Ex.kind:Ex->Int| .mk k _ _ _ _ _=>k
def Ex.name:Ex->A2| .mk _ n _ _ _ _=>n
def Ex.type:Ex->Ty| .mk _ _ t _ _ _=>t
def Ex.targs:Ex->List Ty| .mk _ _ _ a _ _=>a
def Ex.kids:Ex->List Ex| .mk _ _ _ _ k _=>k
def Ex.pos:Ex->Int| .mk _ _ _ _ _ p=>p
instance:Inhabited Ex:=⟨.mk 0 [] default [] [] 0⟩
mutual
def Ex.Q5:Ex->List D
 |.mk k n t a ks p=>[.int .i64 k,.str n,.str t.name,.slice (Ax t.args),.int .i64 t.pos,.slice (Ax a),.slice (Ex.Nh ks),.int .i64 p]
def Ex.Nh:List Ex->List (List D)
 |[]=>[]
 |t::E=>t.Q5::Ex.Nh E
end
def Eb(l:List Ex):List (List D):=Ex.Nh l
def Cg(e:Ex):List D:=[.int .i64 e.kind,.str e.name,.str e.type.name,.slice (Ax e.type.args),.int .i64 e.type.pos,.slice (Ax e.targs),.slice (Eb e.kids),.int .i64 e.pos]
def G1m(t:Ex):t.Q5=Cg t:=by cases t;rfl
def G6r:Eb []=[]:=rfl
def H5b(t:Ex)(l:List Ex):Eb (t::l)=Cg t::Eb l:=by show t.Q5::_=_;rw[G1m];rfl
def Pt:∀l:List Ex,Eb l=l.map Cg
 |[]=>rfl
 |t::l=>by rw[H5b,Pt l];rfl
def G8{l:List Ex}{i:Nat}{t:Ex}(h:l[i]?=some t):(Eb l)[i]?=some (Cg t):=by rw[Pt];simp[h]
def C3c(l:List Ex):(Eb l).length=l.length:=by rw[Pt];simp
def E3v(l:List Ex):∀row,row∈Eb l->row.length=8:=by intro row h;rw[Pt]at h;obtain⟨t,_,rfl⟩:=Au.1 h;rfl
abbrev D3(e:Ex):SV:=.agg [.d (.int .i64 e.kind),.d (.str e.name),.d (.str e.type.name),.d (.slice (Ax e.type.args)),.d (.int .i64 e.type.pos),.d (.slice (Ax e.targs)),.d (.slice (Eb e.kids)),.d (.int .i64 e.pos)]
mutual
theorem Ex.induct{p:Ex->Prop}(h:∀t,(∀u,u∈t.kids->p u)->p t):∀t:Ex,p t
 |.mk _ _ _ _ a _=>h _ (Ex.B1d h a)
theorem Ex.B1d{p:Ex->Prop}(h:∀t,(∀u,u∈t.kids->p u)->p t):∀l:List Ex,∀u,u∈l->p u
 |[]=>by simp
 |t::E=>by
  intro u hu;simp at hu;rcases hu with rfl|hu
  .exact Ex.induct h _
  .exact Ex.B1d h E u hu
end
inductive Ex.Ok:Ex->Prop where
 |mk (k:Int) (n:A2) (t:Ty) (a:List Ty) (ks:List Ex) (p:Int):n.length<=lim->t.Ok->a.length<=lim->(∀t,t∈a->t.Ok)->ks.length<=lim->(∀e,e∈ks->Ex.Ok e)->Ex.Ok (.mk k n t a ks p)
def A5n(E:(D.str t.name).Bd)(I:(D.slice (Ax t.args)).Bd):t.Ok:=by
 cases t with
 |mk n a p=>cases E with|str _ E=>exact .mk n a p E (A4r I).1 (A4r I).2
mutual
theorem Ex.B6y:∀(e:Ex),(∀d,d∈e.Q5->d.Bd)->e.Ok
 |.mk k n t a ks p,h=>by
  have I:(D.str n).Bd:=h _ (by simp[Ex.Q5]);have O:(D.str t.name).Bd:=h _ (by simp[Ex.Q5]);have V:(D.slice (Ax t.args)).Bd:=h _ (by simp[Ex.Q5]);have J:(D.slice (Ax a)).Bd:=h _ (by simp[Ex.Q5]);have L:(D.slice (Ex.Nh ks)).Bd:=h _ (by simp[Ex.Q5]);cases I with
  |str _ I=>exact .mk k n t a ks p I (A5n O V) (A4r J).1 (A4r J).2 (Ex.A4w ks L).1 (Ex.A4w ks L).2
theorem Ex.A4w:∀(l:List Ex),(D.slice (Ex.Nh l)).Bd->l.length<=lim/\∀t,t∈l->t.Ok
 |l,h=>by
  cases h with
  |slice _ I O =>
   refine⟨by have:=C3c l;unfold Eb at this;omega,?_⟩;exact Ex.B4e l λrow E d hd=>by grind[List.mem_iff_getElem?]
theorem Ex.B4e:∀(l:List Ex),(∀row,row∈Ex.Nh l->∀d,d∈row->d.Bd)->∀t,t∈l->t.Ok
 |[],_=>by simp
 |t::U,h=>by
  intro u hu;simp at hu;rcases hu with rfl|hu
  .exact Ex.B6y _ (h _ (by simp[Ex.Nh]))
  .exact Ex.B4e U (λrow E=>h row (by simp[Ex.Nh,E])) u hu
end
def E6n{l:List Ex}(h:(D.slice (Eb l)).Bd):l.length<=lim/\∀t,t∈l->t.Ok:=Ex.A4w l h
variable {e:Ex}
theorem C2h(E:(D.str e.name).Bd)(L:(D.str e.type.name).Bd)(O:(D.slice (Ax e.type.args)).Bd)(I:(D.slice (Ax e.targs)).Bd)(J:(D.slice (Eb e.kids)).Bd):e.Ok:=by
 cases e with
 |mk k n t a ks p=>cases E with|str _ E=>exact .mk k n t a ks p E (A5n L O) (A4r I).1 (A4r I).2 (E6n J).1 (E6n J).2
def C1w(h:SV.bd (D3 e)):e.Ok:=by
 simp only[SV.bd,SV.T1]at h
 grind[C2h]
theorem Ex.Ok.name(h:e.Ok):e.name.length<=lim:=by cases h;assumption
def Ex.Ok.type(h:e.Ok):e.type.Ok:=by cases h;assumption
def Ex.Ok.targs(h:e.Ok):e.targs.length<=lim/\∀t,t∈e.targs->t.Ok:=by cases h;exact⟨by assumption,by assumption⟩
def Ex.Ok.kids(h:e.Ok):e.kids.length<=lim/\∀t,t∈e.kids->t.Ok:=by cases h;exact⟨by assumption,by assumption⟩
structure Ah where
 name:A2
 bound:Ty
 pos:Int
structure Param where
 name:A2
 type:Ty
 pos:Int
structure A3 where
 name:A2
 A1:List Ah
 params:List Param
 result:Ty
 pos:Int
structure Decl where
 kind:Int
 name:A2
 A1:List Ah
 fields:List Param
 sigs:List A3
 recv:A2
 vars:List A2
 sig:A3
 body:Ex
 pos:Int
structure Prog where
 decls:List Decl
 main:Ex
instance:Inhabited Ah:=⟨⟨[],default,0⟩⟩
instance:Inhabited Param:=⟨⟨[],default,0⟩⟩
instance:Inhabited A3:=⟨⟨[],[],[],default,0⟩⟩
instance:Inhabited Decl:=⟨⟨0,[],[],[],[],[],[],default,default,0⟩⟩
def Jm(f:Ah):List D:=[.str f.name,.str f.bound.name,.slice (Ax f.bound.args),.int .i64 f.bound.pos,.int .i64 f.pos]
def G9(f:Param):List D:=[.str f.name,.str f.type.name,.slice (Ax f.type.args),.int .i64 f.type.pos,.int .i64 f.pos]
def Ag(l:List Ah):List (List D):=l.map Jm
def Av(l:List Param):List (List D):=l.map G9
def Dd(s:A3):List D:=[.str s.name,.slice (Ag s.A1),.slice (Av s.params),.str s.result.name,.slice (Ax s.result.args),.int .i64 s.result.pos,.int .i64 s.pos]
def B0(l:List A3):List (List D):=l.map Dd
def Ar(d:Decl):List D:=[.int .i64 d.kind,.str d.name,.slice (Ag d.A1),.slice (Av d.fields),.slice (B0 d.sigs),.str d.recv,.slice (Bq d.vars),
 .str d.sig.name,.slice (Ag d.sig.A1),.slice (Av d.sig.params),.str d.sig.result.name,.slice (Ax d.sig.result.args),.int .i64 d.sig.result.pos,.int .i64 d.sig.pos,
 .int .i64 d.body.kind,.str d.body.name,.str d.body.type.name,.slice (Ax d.body.type.args),.int .i64 d.body.type.pos,.slice (Ax d.body.targs),.slice (Eb d.body.kids),.int .i64 d.body.pos,.int .i64 d.pos]
def C1(l:List Decl):List (List D):=l.map Ar
def Aj(p:Prog):List D:=[.slice (C1 p.decls),.int .i64 p.main.kind,.str p.main.name,.str p.main.type.name,.slice (Ax p.main.type.args),.int .i64 p.main.type.pos,.slice (Ax p.main.targs),.slice (Eb p.main.kids),.int .i64 p.main.pos]
abbrev S8(f:Ah):SV:=.agg [.d (.str f.name),.d (.str f.bound.name),.d (.slice (Ax f.bound.args)),.d (.int .i64 f.bound.pos),.d (.int .i64 f.pos)]
abbrev Q4(f:Param):SV:=.agg [.d (.str f.name),.d (.str f.type.name),.d (.slice (Ax f.type.args)),.d (.int .i64 f.type.pos),.d (.int .i64 f.pos)]
abbrev Cy(s:A3):SV:=.agg [.d (.str s.name),.d (.slice (Ag s.A1)),.d (.slice (Av s.params)),.d (.str s.result.name),.d (.slice (Ax s.result.args)),.d (.int .i64 s.result.pos),.d (.int .i64 s.pos)]
abbrev Ia(d:Decl):SV:=.agg [.d (.int .i64 d.kind),.d (.str d.name),.d (.slice (Ag d.A1)),.d (.slice (Av d.fields)),.d (.slice (B0 d.sigs)),.d (.str d.recv),.d (.slice (Bq d.vars)),
 .d (.str d.sig.name),.d (.slice (Ag d.sig.A1)),.d (.slice (Av d.sig.params)),.d (.str d.sig.result.name),.d (.slice (Ax d.sig.result.args)),.d (.int .i64 d.sig.result.pos),.d (.int .i64 d.sig.pos),
 .d (.int .i64 d.body.kind),.d (.str d.body.name),.d (.str d.body.type.name),.d (.slice (Ax d.body.type.args)),.d (.int .i64 d.body.type.pos),.d (.slice (Ax d.body.targs)),.d (.slice (Eb d.body.kids)),.d (.int .i64 d.body.pos),.d (.int .i64 d.pos)]
abbrev Ct(p:Prog):SV:=.agg [.d (.slice (C1 p.decls)),.d (.int .i64 p.main.kind),.d (.str p.main.name),.d (.str p.main.type.name),.d (.slice (Ax p.main.type.args)),.d (.int .i64 p.main.type.pos),.d (.slice (Ax p.main.targs)),.d (.slice (Eb p.main.kids)),.d (.int .i64 p.main.pos)]
def Zi{α:Type}{f:α->List D}{l:List α}{i:Nat}{t:α}(h:l[i]?=some t):(l.map f)[i]?=some (f t):=by simp[h]
def F4{l:List Ah}{i:Nat}{t:Ah}(h:l[i]?=some t):(Ag l)[i]?=some (Jm t):=Zi h
def Du{l:List Param}{i:Nat}{t:Param}(h:l[i]?=some t):(Av l)[i]?=some (G9 t):=Zi h
def D1{l:List A3}{i:Nat}{t:A3}(h:l[i]?=some t):(B0 l)[i]?=some (Dd t):=Zi h
def Dx{l:List Decl}{i:Nat}{t:Decl}(h:l[i]?=some t):(C1 l)[i]?=some (Ar t):=Zi h
def Ko{l:List A2}{i:Nat}{t:A2}(h:l[i]?=some t):(Bq l)[i]?=some [.str t]:=Zi (f:=λs=>[D.str s]) h
def H1m(l:List Ah):(Ag l).length=l.length:=by simp[Ag]
def A7g(l:List Param):(Av l).length=l.length:=by simp[Av]
def E9k(l:List A3):(B0 l).length=l.length:=by simp[B0]
def C9b(l:List Decl):(C1 l).length=l.length:=by simp[C1]
def E9s(l:List A2):(Bq l).length=l.length:=by simp[Bq]
def H5y(l m:List A3):B0 (l++m)=B0 l++B0 m:=by simp[B0]
def B9z(l:List Ah):∀row,row∈Ag l->row.length=5:=by intro row h;obtain⟨t,_,rfl⟩:=Au.1 h;rfl
def D8y(l:List Param):∀row,row∈Av l->row.length=5:=by intro row h;obtain⟨t,_,rfl⟩:=Au.1 h;rfl
def F9y(l:List A3):∀row,row∈B0 l->row.length=7:=by intro row h;obtain⟨t,_,rfl⟩:=Au.1 h;rfl
def C7x(l:List Decl):∀row,row∈C1 l->row.length=23:=by intro row h;obtain⟨t,_,rfl⟩:=Au.1 h;rfl
def A2e(l:List A2):∀row,row∈Bq l->row.length=1:=by intro row h;obtain⟨t,_,rfl⟩:=Au.1 h;rfl
def Yb{α:Type}{f:α->List D}{l:List α}(h:(D.slice (l.map f)).Bd):l.length<=lim/\∀t,t∈l->∀d,d∈f t->d.Bd:=by
 cases h with
 |slice _ L I =>refine⟨by grind,λt ht d hd=>?_⟩;obtain⟨i,E⟩:=Sy.1 ht;obtain⟨j,J⟩:=Sy.1 hd;exact I i j (f t) d (Zi E) J
def U6{s:A2}(h:(D.str s).Bd):s.length<=lim:=by cases h;omega
structure Ah.Ok(f:Ah):Prop where
 name:f.name.length<=lim
 bound:f.bound.Ok
structure Param.Ok(f:Param):Prop where
 name:f.name.length<=lim
 type:f.type.Ok
def B4f{l:List Ah}(h:(D.slice (Ag l)).Bd):l.length<=lim/\∀t,t∈l->t.Ok :=
 ⟨(Yb h).1,λt ht=>have g:=(Yb h).2 t ht;⟨U6 (g _ (by simp[Jm])),A5n (g _ (by simp[Jm])) (g _ (by simp[Jm]))⟩⟩
def B4i{l:List Param}(h:(D.slice (Av l)).Bd):l.length<=lim/\∀t,t∈l->t.Ok :=
 ⟨(Yb h).1,λt ht=>have g:=(Yb h).2 t ht;⟨U6 (g _ (by simp[G9])),A5n (g _ (by simp[G9])) (g _ (by simp[G9]))⟩⟩
structure A3.Ok(s:A3):Prop where
 name:s.name.length<=lim
 A1:s.A1.length<=lim/\∀t,t∈s.A1->t.Ok
 params:s.params.length<=lim/\∀t,t∈s.params->t.Ok
 result:s.result.Ok
def G9e{l:List A3}(h:(D.slice (B0 l)).Bd):l.length<=lim/\∀t,t∈l->t.Ok :=
 ⟨(Yb h).1,λt ht=>have g:=(Yb h).2 t ht;⟨U6 (g _ (by simp[Dd])),B4f (g _ (by simp[Dd])),B4i (g _ (by simp[Dd])),A5n (g _ (by simp[Dd])) (g _ (by simp[Dd]))⟩⟩
def A5c{l:List A2}(h:(D.slice (Bq l)).Bd):l.length<=lim/\∀t,t∈l->t.length<=lim :=
 ⟨(Yb h).1,λt ht=>U6 ((Yb h).2 t ht _ (by simp))⟩
structure Decl.Ok(d:Decl):Prop where
 name:d.name.length<=lim
 A1:d.A1.length<=lim/\∀t,t∈d.A1->t.Ok
 fields:d.fields.length<=lim/\∀t,t∈d.fields->t.Ok
 sigs:d.sigs.length<=lim/\∀t,t∈d.sigs->t.Ok
 recv:d.recv.length<=lim
 vars:d.vars.length<=lim/\∀t,t∈d.vars->t.length<=lim
 sig:d.sig.Ok
 body:d.body.Ok
def F4w{l:List Decl}(h:(D.slice (C1 l)).Bd):l.length<=lim/\∀t,t∈l->t.Ok :=
 ⟨(Yb h).1,λt ht=>have g:=(Yb h).2 t ht
  ⟨U6 (g _ (by simp[Ar])),B4f (g _ (by simp[Ar])),B4i (g _ (by simp[Ar])),G9e (g _ (by simp[Ar])),U6 (g _ (by simp[Ar])),A5c (g _ (by simp[Ar])),
   ⟨U6 (g _ (by simp[Ar])),B4f (g _ (by simp[Ar])),B4i (g _ (by simp[Ar])),A5n (g _ (by simp[Ar])) (g _ (by simp[Ar]))⟩,
   C2h (g _ (by simp[Ar])) (g _ (by simp[Ar])) (g _ (by simp[Ar])) (g _ (by simp[Ar])) (g _ (by simp[Ar]))⟩⟩
structure Prog.Ok(p:Prog):Prop where
 decls:p.decls.length<=lim/\∀t,t∈p.decls->t.Ok
 main:p.main.Ok
def B3y{p:Prog}(h:SV.bd (Ct p)):p.Ok:=by simp only[SV.bd,SV.T1]at h;exact⟨F4w h.1,C2h h.2.2.1 h.2.2.2.1 h.2.2.2.2.1 h.2.2.2.2.2.2.1 h.2.2.2.2.2.2.2.1⟩
def H2n{s:A3}(h:SV.bd (Cy s)):s.Ok:=by simp only[SV.bd,SV.T1]at h;exact⟨U6 h.1,B4f h.2.1,B4i h.2.2.1,A5n h.2.2.2.1 h.2.2.2.2.1⟩
def G1j(n:Nat):(n:Int).tdiv 50=((n / 50:Nat):Int):=rfl
end Go.Abs
