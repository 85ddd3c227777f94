import Derived.Test.YtoajimpjknbnoaaGreatDoorKAb5
set_option linter.all false
namespace Go.iA
open Go
inductive Ty where
 |mk (name:A3) (args:List Ty) (pos:Int)
def Ty.name:Ty->A3| .mk n _ _=>n
def Ty.args:Ty->List Ty| .mk _ a _=>a
def Ty.pos:Ty->Int| .mk _ _ p=>p
instance:Inhabited Ty:=⟨.mk [] [] 0⟩
mutual
def Ty.Qr:Ty->List D
 |.mk n a p=>[.str n,.slice (Ty.Q6 a),.int .i64 p]
def Ty.Q6:List Ty->List (List D)
 |[]=>[]
 |t::E=>t.Qr::Ty.Q6 E
end
def Au(l:List Ty):List (List D):=Ty.Q6 l
def Bf(t:Ty):List D:=[.str t.name,.slice (Au t.args),.int .i64 t.pos]
def fg(t:Ty):t.Qr=Bf t:=by cases t;rfl
def Ox:Au []=[]:=rfl
def H1j(t:Ty)(l:List Ty):Au (t::l)=Bf t::Au l:=by show t.Qr::_=_;rw[fg];rfl
def Cq:∀l:List Ty,Au l=l.map Bf
 |[]=>rfl
 |t::l=>by rw[H1j,Cq l];rfl
variable {t:Ty}
def Fs{l:List Ty}{i:Nat}(h:l[i]?=some t):(Au l)[i]?=some (Bf t):=by rw[Cq];simp[h]
def we(l:List Ty):(Au l).length=l.length:=by rw[Cq];simp
def R3(l:List Ty):∀row,row∈Au l->row.length=3:=by intro row h;rw[Cq]at h;obtain⟨t,_,rfl⟩:=Ap.1 h;rfl
def VO(l m:List Ty):Au (l++m)=Au l++Au m:=by simp[Cq]
abbrev Ba(t:Ty):SV:=.agg [.d (.str t.name),.d (.slice (Au t.args)),.d (.int .i64 t.pos)]
abbrev A6(n:Int):SV:=.d (.int .i64 n)
abbrev Ar(b:Bool):SV:=.d (.bool b)
abbrev Bo(s:A3):SV:=.d (.str s)
abbrev Cv(l:List Ty):SV:=.d (.slice (Au l))
def Bq(l:List A3):List (List D):=l.map λs=>[.str s]
abbrev Cm(l:List A3):SV:=.d (.slice (Bq l))
inductive Ty.Ok:Ty->Prop where
 |mk (n:A3) (a:List Ty) (p:Int):n.length<=lim->a.length<=lim->(∀t,t∈a->Ty.Ok t)->Ty.Ok (.mk n a p)
mutual
theorem Ty.oO:∀(t:Ty),(∀d,d∈t.Qr->d.Bd)->t.Ok
 |.mk n a p,h=>by
  have I:(D.str n).Bd:=h _ (by simp[Ty.Qr]);have J:(D.slice (Ty.Q6 a)).Bd:=h _ (by simp[Ty.Qr]);cases I with
  |str _ I=>exact .mk n a p I (Ty.gH a J).1 (Ty.gH a J).2
theorem Ty.gH:∀(l:List Ty),(D.slice (Ty.Q6 l)).Bd->l.length<=lim/\∀t,t∈l->t.Ok
 |l,h=>by
  cases h with
  |slice _ I J =>
   refine⟨by have:=we l;unfold Au at this;omega,?_⟩;exact Ty.vL l λrow E d hd=>by grind[List.mem_iff_getElem?]
theorem Ty.vL:∀(l:List Ty),(∀row,row∈Ty.Q6 l->∀d,d∈row->d.Bd)->∀t,t∈l->t.Ok
 |[],_=>by simp
 |t::L,h=>by intro u hu;simp at hu;rcases hu with rfl|hu;exact Ty.oO _ (h _ (by simp[Ty.Q6]));exact Ty.vL L (λrow E=>h row (by simp[Ty.Q6,E])) u hu
end
def OH{l:List Ty}(h:(D.slice (Au l)).Bd):l.length<=lim/\∀t,t∈l->t.Ok:=Ty.gH l h
theorem Ty.Ok.name(h:t.Ok):t.name.length<=lim:=by cases h;assumption
def Ty.Ok.len(h:t.Ok):t.args.length<=lim:=by cases h;assumption
def Ty.Ok.arg(h:t.Ok):∀u,u∈t.args->u.Ok:=by cases h;assumption
def BQ(h:SV.bd (Ba t)):t.Ok:=by simp only[SV.bd,sA]at h;refine Ty.oO t ?_;rw[fg];intro d hd;simp only[Bf,Ay,Eh,Eo]at hd;grind
mutual
theorem Ty.induct{p:Ty->Prop}(h:∀t,(∀u,u∈t.args->p u)->p t):∀t:Ty,p t
 |.mk n a q=>h _ (Ty.lM h a)
theorem Ty.lM{p:Ty->Prop}(h:∀t,(∀u,u∈t.args->p u)->p t):∀l:List Ty,∀u,u∈l->p u
 |[]=>by simp
 |t::E=>by intro u hu;simp at hu;rcases hu with rfl|hu;exact Ty.induct h _;exact Ty.lM h E u hu
end
inductive Ex where
 |mk (kind:Int) (name:A3) (type:Ty) (targs:List Ty) (kids:List Ex) (pos:Int)
def Ex.kind:Ex->Int| .mk k _ _ _ _ _=>k
def Ex.name:Ex->A3| .mk _ n _ _ _ _=>n
def Ex.type:Ex->Ty| .mk _ _ t _ _ _=>t
def Ex.targs:Ex->List Ty| .mk _ _ _ a _ _=>a
def Ex.kids:Ex->List Ex| .mk _ _ _ _ k _=>k
def Ex.pos:Ex->Int| .mk _ _ _ _ _ p=>p
instance:Inhabited Ex:=⟨.mk 0 [] default [] [] 0⟩
mutual
def Ex.Qr:Ex->List D
 |.mk k n t a ks p=>[.int .i64 k,.str n,.str t.name,.slice (Au t.args),.int .i64 t.pos,.slice (Au a),.slice (Ex.Q6 ks),.int .i64 p]
def Ex.Q6:List Ex->List (List D)
 |[]=>[]
 |t::E=>t.Qr::Ex.Q6 E
end
def Ed(l:List Ex):List (List D):=Ex.Q6 l
def Ce(e:Ex):List D:=[.int .i64 e.kind,.str e.name,.str e.type.name,.slice (Au e.type.args),.int .i64 e.type.pos,.slice (Au e.targs),.slice (Ed e.kids),.int .i64 e.pos]
def H0p(t:Ex):t.Qr=Ce t:=by cases t;rfl
def G5u:Ed []=[]:=rfl
def xz(t:Ex)(l:List Ex):Ed (t::l)=Ce t::Ed l:=by show t.Qr::_=_;rw[H0p];rfl
def P8:∀l:List Ex,Ed l=l.map Ce
 |[]=>rfl
 |t::l=>by rw[xz,P8 l];rfl
def Ey{l:List Ex}{i:Nat}{t:Ex}(h:l[i]?=some t):(Ed l)[i]?=some (Ce t):=by rw[P8];simp[h]
def AN(l:List Ex):(Ed l).length=l.length:=by rw[P8];simp
def UU(l:List Ex):∀row,row∈Ed l->row.length=8:=by intro row h;rw[P8]at h;obtain⟨t,_,rfl⟩:=Ap.1 h;rfl
abbrev D6(e:Ex):SV:=.agg [.d (.int .i64 e.kind),.d (.str e.name),.d (.str e.type.name),.d (.slice (Au e.type.args)),.d (.int .i64 e.type.pos),.d (.slice (Au e.targs)),.d (.slice (Ed e.kids)),.d (.int .i64 e.pos)]
mutual
theorem Ex.induct{p:Ex->Prop}(h:∀t,(∀u,u∈t.kids->p u)->p t):∀t:Ex,p t
 |.mk _ _ _ _ a _=>h _ (Ex.lM h a)
theorem Ex.lM{p:Ex->Prop}(h:∀t,(∀u,u∈t.kids->p u)->p t):∀l:List Ex,∀u,u∈l->p u
 |[]=>by simp
 |t::E=>by intro u hu;simp at hu;rcases hu with rfl|hu;exact Ex.induct h _;exact Ex.lM h E u hu
end
inductive Ex.Ok:Ex->Prop where
 |mk (k:Int) (n:A3) (t:Ty) (a:List Ty) (ks:List Ex) (p:Int):n.length<=lim->t.Ok->a.length<=lim->(∀t,t∈a->t.Ok)->ks.length<=lim->(∀e,e∈ks->Ex.Ok e)->Ex.Ok (.mk k n t a ks p)
def nH(E:(D.str t.name).Bd)(I:(D.slice (Au t.args)).Bd):t.Ok:=by
 cases t with
 |mk n a p=>cases E with|str _ E=>exact .mk n a p E (OH I).1 (OH I).2
mutual
theorem Ex.oO:∀(e:Ex),(∀d,d∈e.Qr->d.Bd)->e.Ok
 |.mk k n t a ks p,h=>by
  have I:(D.str n).Bd:=h _ (by simp[Ex.Qr]);have O:(D.str t.name).Bd:=h _ (by simp[Ex.Qr]);have U:(D.slice (Au t.args)).Bd:=h _ (by simp[Ex.Qr]);have L:(D.slice (Au a)).Bd:=h _ (by simp[Ex.Qr]);have J:(D.slice (Ex.Q6 ks)).Bd:=h _ (by simp[Ex.Qr]);cases I with
  |str _ I=>exact .mk k n t a ks p I (nH O U) (OH L).1 (OH L).2 (Ex.gH ks J).1 (Ex.gH ks J).2
theorem Ex.gH:∀(l:List Ex),(D.slice (Ex.Q6 l)).Bd->l.length<=lim/\∀t,t∈l->t.Ok
 |l,h=>by
  cases h with
  |slice _ I O =>
   refine⟨by have:=AN l;unfold Ed at this;omega,?_⟩;exact Ex.vL l λrow E d hd=>by grind[List.mem_iff_getElem?]
theorem Ex.vL:∀(l:List Ex),(∀row,row∈Ex.Q6 l->∀d,d∈row->d.Bd)->∀t,t∈l->t.Ok
 |[],_=>by simp
 |t::V,h=>by intro u hu;simp at hu;rcases hu with rfl|hu;exact Ex.oO _ (h _ (by simp[Ex.Q6]));exact Ex.vL V (λrow E=>h row (by simp[Ex.Q6,E])) u hu
end
def yX{l:List Ex}(h:(D.slice (Ed l)).Bd):l.length<=lim/\∀t,t∈l->t.Ok:=Ex.gH l h
variable {e:Ex}
theorem AR(E:(D.str e.name).Bd)(L:(D.str e.type.name).Bd)(O:(D.slice (Au e.type.args)).Bd)(J:(D.slice (Au e.targs)).Bd)(I:(D.slice (Ed e.kids)).Bd):e.Ok:=by
 cases e with
 |mk k n t a ks p=>cases E with|str _ E=>exact .mk k n t a ks p E (nH L O) (OH J).1 (OH J).2 (yX I).1 (yX I).2
def cU(h:SV.bd (D6 e)):e.Ok:=by simp only[SV.bd,sA]at h;grind[AR]
theorem Ex.Ok.name(h:e.Ok):e.name.length<=lim:=by cases h;assumption
def Ex.Ok.type(h:e.Ok):e.type.Ok:=by cases h;assumption
def Ex.Ok.targs(h:e.Ok):e.targs.length<=lim/\∀t,t∈e.targs->t.Ok:=by cases h;exact⟨by assumption,by assumption⟩
def Ex.Ok.kids(h:e.Ok):e.kids.length<=lim/\∀t,t∈e.kids->t.Ok:=by cases h;exact⟨by assumption,by assumption⟩
structure Aj where
 name:A3
 bound:Ty
 pos:Int
structure Param where
 name:A3
 type:Ty
 pos:Int
structure A4 where
 name:A3
 A1:List Aj
 params:List Param
 result:Ty
 pos:Int
structure Decl where
 kind:Int
 name:A3
 A1:List Aj
 fields:List Param
 sigs:List A4
 recv:A3
 vars:List A3
 sig:A4
 body:Ex
 pos:Int
structure Prog where
 decls:List Decl
 main:Ex
instance:Inhabited Aj:=⟨⟨[],default,0⟩⟩
instance:Inhabited Param:=⟨⟨[],default,0⟩⟩
instance:Inhabited A4:=⟨⟨[],[],[],default,0⟩⟩
instance:Inhabited Decl:=⟨⟨0,[],[],[],[],[],[],default,default,0⟩⟩
def Iz(f:Aj):List D:=[.str f.name,.str f.bound.name,.slice (Au f.bound.args),.int .i64 f.bound.pos,.int .i64 f.pos]
def G9(f:Param):List D:=[.str f.name,.str f.type.name,.slice (Au f.type.args),.int .i64 f.type.pos,.int .i64 f.pos]
def Ai(l:List Aj):List (List D):=l.map Iz
def Aw(l:List Param):List (List D):=l.map G9
def Dp(s:A4):List D:=[.str s.name,.slice (Ai s.A1),.slice (Aw s.params),.str s.result.name,.slice (Au s.result.args),.int .i64 s.result.pos,.int .i64 s.pos]
def B4(l:List A4):List (List D):=l.map Dp
def Am(d:Decl):List D:=[.int .i64 d.kind,.str d.name,.slice (Ai d.A1),.slice (Aw d.fields),.slice (B4 d.sigs),.str d.recv,.slice (Bq d.vars),.str d.sig.name,.slice (Ai d.sig.A1),.slice (Aw d.sig.params),.str d.sig.result.name,.slice (Au d.sig.result.args),.int .i64 d.sig.result.pos,.int .i64 d.sig.pos,.int .i64 d.body.kind,.str d.body.name,.str d.body.type.name,.slice (Au d.body.type.args),.int .i64 d.body.type.pos,.slice (Au d.body.targs),.slice (Ed d.body.kids),.int .i64 d.body.pos,.int .i64 d.pos]
def Bx(l:List Decl):List (List D):=l.map Am
def Ah(p:Prog):List D:=[.slice (Bx p.decls),.int .i64 p.main.kind,.str p.main.name,.str p.main.type.name,.slice (Au p.main.type.args),.int .i64 p.main.type.pos,.slice (Au p.main.targs),.slice (Ed p.main.kids),.int .i64 p.main.pos]
abbrev Th(f:Aj):SV:=.agg [.d (.str f.name),.d (.str f.bound.name),.d (.slice (Au f.bound.args)),.d (.int .i64 f.bound.pos),.d (.int .i64 f.pos)]
abbrev Ma(f:Param):SV:=.agg [.d (.str f.name),.d (.str f.type.name),.d (.slice (Au f.type.args)),.d (.int .i64 f.type.pos),.d (.int .i64 f.pos)]
abbrev Db(s:A4):SV:=.agg [.d (.str s.name),.d (.slice (Ai s.A1)),.d (.slice (Aw s.params)),.d (.str s.result.name),.d (.slice (Au s.result.args)),.d (.int .i64 s.result.pos),.d (.int .i64 s.pos)]
abbrev Hw(d:Decl):SV:=.agg [.d (.int .i64 d.kind),.d (.str d.name),.d (.slice (Ai d.A1)),.d (.slice (Aw d.fields)),.d (.slice (B4 d.sigs)),.d (.str d.recv),.d (.slice (Bq d.vars)),.d (.str d.sig.name),.d (.slice (Ai d.sig.A1)),.d (.slice (Aw d.sig.params)),.d (.str d.sig.result.name),.d (.slice (Au d.sig.result.args)),.d (.int .i64 d.sig.result.pos),.d (.int .i64 d.sig.pos),.d (.int .i64 d.body.kind),.d (.str d.body.name),.d (.str d.body.type.name),.d (.slice (Au d.body.type.args)),.d (.int .i64 d.body.type.pos),.d (.slice (Au d.body.targs)),.d (.slice (Ed d.body.kids)),.d (.int .i64 d.body.pos),.d (.int .i64 d.pos)]
abbrev Cs(p:Prog):SV:=.agg [.d (.slice (Bx p.decls)),.d (.int .i64 p.main.kind),.d (.str p.main.name),.d (.str p.main.type.name),.d (.slice (Au p.main.type.args)),.d (.int .i64 p.main.type.pos),.d (.slice (Au p.main.targs)),.d (.slice (Ed p.main.kids)),.d (.int .i64 p.main.pos)]
def cD{α:Type}{f:α->List D}{l:List α}{i:Nat}{t:α}(h:l[i]?=some t):(l.map f)[i]?=some (f t):=by simp[h]
def Fm{l:List Aj}{i:Nat}{t:Aj}(h:l[i]?=some t):(Ai l)[i]?=some (Iz t):=cD h
def Dt{l:List Param}{i:Nat}{t:Param}(h:l[i]?=some t):(Aw l)[i]?=some (G9 t):=cD h
def Dg{l:List A4}{i:Nat}{t:A4}(h:l[i]?=some t):(B4 l)[i]?=some (Dp t):=cD h
def E6{l:List Decl}{i:Nat}{t:Decl}(h:l[i]?=some t):(Bx l)[i]?=some (Am t):=cD h
def Jj{l:List A3}{i:Nat}{t:A3}(h:l[i]?=some t):(Bq l)[i]?=some [.str t]:=cD (f:=λs=>[D.str s]) h
def G4n(l:List Aj):(Ai l).length=l.length:=by simp[Ai]
def rK(l:List Param):(Aw l).length=l.length:=by simp[Aw]
def F9h(l:List A4):(B4 l).length=l.length:=by simp[B4]
def XV(l:List Decl):(Bx l).length=l.length:=by simp[Bx]
def VR(l:List A3):(Bq l).length=l.length:=by simp[Bq]
def I4i(l m:List A4):B4 (l++m)=B4 l++B4 m:=by simp[B4]
def G5j(l m:List A3):Bq (l++m)=Bq l++Bq m:=by simp[Bq]
def FO(l:List Aj):∀row,row∈Ai l->row.length=5:=by intro row h;obtain⟨t,_,rfl⟩:=Ap.1 h;rfl
def uV(l:List Param):∀row,row∈Aw l->row.length=5:=by intro row h;obtain⟨t,_,rfl⟩:=Ap.1 h;rfl
def H7a(l:List A4):∀row,row∈B4 l->row.length=7:=by intro row h;obtain⟨t,_,rfl⟩:=Ap.1 h;rfl
def oV(l:List Decl):∀row,row∈Bx l->row.length=23:=by intro row h;obtain⟨t,_,rfl⟩:=Ap.1 h;rfl
def LD(l:List A3):∀row,row∈Bq l->row.length=1:=by intro row h;obtain⟨t,_,rfl⟩:=Ap.1 h;rfl
def Yy{α:Type}{f:α->List D}{l:List α}(h:(D.slice (l.map f)).Bd):l.length<=lim/\∀t,t∈l->∀d,d∈f t->d.Bd:=by
 cases h with
 |slice _ L I =>refine⟨by grind,λt ht d hd=>?_⟩;obtain⟨i,J⟩:=Re.1 ht;obtain⟨j,E⟩:=Re.1 hd;exact I i j (f t) d (cD J) E
def Wn{s:A3}(h:(D.str s).Bd):s.length<=lim:=by cases h;omega
structure Aj.Ok(f:Aj):Prop where
 name:f.name.length<=lim
 bound:f.bound.Ok
structure Param.Ok(f:Param):Prop where
 name:f.name.length<=lim
 type:f.type.Ok
def iM{l:List Aj}(h:(D.slice (Ai l)).Bd):l.length<=lim/\∀t,t∈l->t.Ok :=⟨(Yy h).1,λt ht=>have g:=(Yy h).2 t ht;⟨Wn (g _ (by simp[Iz])),nH (g _ (by simp[Iz])) (g _ (by simp[Iz]))⟩⟩
def xL{l:List Param}(h:(D.slice (Aw l)).Bd):l.length<=lim/\∀t,t∈l->t.Ok :=⟨(Yy h).1,λt ht=>have g:=(Yy h).2 t ht;⟨Wn (g _ (by simp[G9])),nH (g _ (by simp[G9])) (g _ (by simp[G9]))⟩⟩
structure A4.Ok(s:A4):Prop where
 name:s.name.length<=lim
 A1:s.A1.length<=lim/\∀t,t∈s.A1->t.Ok
 params:s.params.length<=lim/\∀t,t∈s.params->t.Ok
 result:s.result.Ok
def H4r{l:List A4}(h:(D.slice (B4 l)).Bd):l.length<=lim/\∀t,t∈l->t.Ok :=⟨(Yy h).1,λt ht=>have g:=(Yy h).2 t ht;⟨Wn (g _ (by simp[Dp])),iM (g _ (by simp[Dp])),xL (g _ (by simp[Dp])),nH (g _ (by simp[Dp])) (g _ (by simp[Dp]))⟩⟩
def FE{l:List A3}(h:(D.slice (Bq l)).Bd):l.length<=lim/\∀t,t∈l->t.length<=lim :=⟨(Yy h).1,λt ht=>Wn ((Yy h).2 t ht _ (by simp))⟩
structure Decl.Ok(d:Decl):Prop where
 name:d.name.length<=lim
 A1:d.A1.length<=lim/\∀t,t∈d.A1->t.Ok
 fields:d.fields.length<=lim/\∀t,t∈d.fields->t.Ok
 sigs:d.sigs.length<=lim/\∀t,t∈d.sigs->t.Ok
 recv:d.recv.length<=lim
 vars:d.vars.length<=lim/\∀t,t∈d.vars->t.length<=lim
 sig:d.sig.Ok
 body:d.body.Ok
def H3p{l:List Decl}(h:(D.slice (Bx l)).Bd):l.length<=lim/\∀t,t∈l->t.Ok :=⟨(Yy h).1,λt ht=>have g:=(Yy h).2 t ht
  ⟨Wn (g _ (by simp[Am])),iM (g _ (by simp[Am])),xL (g _ (by simp[Am])),H4r (g _ (by simp[Am])),Wn (g _ (by simp[Am])),FE (g _ (by simp[Am])),⟨Wn (g _ (by simp[Am])),iM (g _ (by simp[Am])),xL (g _ (by simp[Am])),nH (g _ (by simp[Am])) (g _ (by simp[Am]))⟩,AR (g _ (by simp[Am])) (g _ (by simp[Am])) (g _ (by simp[Am])) (g _ (by simp[Am])) (g _ (by simp[Am]))⟩⟩
structure Prog.Ok(p:Prog):Prop where
 decls:p.decls.length<=lim/\∀t,t∈p.decls->t.Ok
 main:p.main.Ok
def eM{p:Prog}(h:SV.bd (Cs p)):p.Ok:=by simp only[SV.bd,sA]at h;exact⟨H3p h.1,AR h.2.2.1 h.2.2.2.1 h.2.2.2.2.1 h.2.2.2.2.2.2.1 h.2.2.2.2.2.2.2.1⟩
def H4k{s:A4}(h:SV.bd (Db s)):s.Ok:=by simp only[SV.bd,sA]at h;exact⟨Wn h.1,iM h.2.1,xL h.2.2.1,nH h.2.2.2.1 h.2.2.2.2.1⟩
def G0v(n:Nat):(n:Int).tdiv 50=((n / 50:Nat):Int):=rfl
end Go.iA
