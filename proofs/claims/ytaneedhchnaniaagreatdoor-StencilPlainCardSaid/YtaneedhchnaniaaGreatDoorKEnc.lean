/- The program's data as plain Lean data, and how it reads. -/
import Derived.Test.YtaneedhchnaniaaGreatDoorKAb5
namespace Go.Abs
set_option linter.all false
open Go
inductive Ty where
 |mk (name:A3) (args:List Ty) (pos:Int)
def Ty.name:Ty→A3| .mk n _ _=>n
def Ty.args:Ty→List Ty| .mk _ a _=>a
def Ty.pos:Ty→Int| .mk _ _ p=>p
instance:Inhabited Ty:=⟨.mk [] [] 0⟩
mutual
def Ty.Po:Ty→List D
 |.mk n a p=>[.str n,.slice (Ty.Nv a),.int .i64 p]
def Ty.Nv:List Ty→List (List D)
 |[]=>[]
 |t::E=>t.Po::Ty.Nv E
end
def Aq (l:List Ty):List (List D):=Ty.Nv l
def Bh (t:Ty):List D:=[.str t.name,.slice (Aq t.args),.int .i64 t.pos]
theorem D8h (t:Ty):t.Po=Bh t:=by cases t;rfl
theorem F3i:Aq []=[]:=rfl
theorem G1a (t:Ty)(l:List Ty):Aq (t::l)=Bh t::Aq l:=by show t.Po::_=_;rw [D8h];rfl
theorem Cc:∀l:List Ty,Aq l=l.map Bh
 |[]=>rfl
 |t::l=>by rw [G1a,Cc l];rfl
variable {t:Ty}
theorem F5 {l:List Ty} {i:Nat} (h:l[i]? = some t):(Aq l)[i]? = some (Bh t):=by rw [Cc];simp [h]
theorem D7g (l:List Ty):(Aq l).length=l.length:=by rw [Cc];simp
theorem Rz (l:List Ty):∀row,row∈Aq l→row.length=3:=by intro row h;rw [Cc] at h;obtain⟨t,_,rfl⟩:=Ax.1 h;rfl
theorem B3m (l m:List Ty):Aq (l++m)=Aq l++Aq m:=by simp [Cc]
abbrev Be (t:Ty):SV:=.agg [.d (.str t.name),.d (.slice (Aq t.args)),.d (.int .i64 t.pos)]
abbrev A9 (n:Int):SV:=.d (.int .i64 n)
abbrev B0 (b:Bool):SV:=.d (.bool b)
abbrev C8 (s:A3):SV:=.d (.str s)
abbrev Cg (l:List Ty):SV:=.d (.slice (Aq l))
def C6 (l:List A3):List (List D):=l.map fun s=>[.str s]
abbrev Ct (l:List A3):SV:=.d (.slice (C6 l))
inductive Ty.Ok:Ty→Prop where
 |mk (n:A3) (a:List Ty) (p:Int):n.length≤lim→a.length≤lim→(∀t,t∈a→Ty.Ok t)→Ty.Ok (.mk n a p)
mutual
theorem Ty.B4b:∀(t:Ty),(∀d,d∈t.Po→d.Bd)→t.Ok
 |.mk n a p,h=>by
  have J:(D.str n).Bd:=h _ (by simp [Ty.Po]);have I:(D.slice (Ty.Nv a)).Bd:=h _ (by simp [Ty.Po]);cases J with
  |str _ J=>exact .mk n a p J (Ty.A4k a I).1 (Ty.A4k a I).2
theorem Ty.A4k:∀(l:List Ty),(D.slice (Ty.Nv l)).Bd→l.length≤lim∧∀t,t∈l→t.Ok
 |l,h=>by
  cases h with
  |slice _ J I =>
   refine⟨by have:=D7g l;unfold Aq at this;omega,?_⟩;exact Ty.B1d l fun row E d hd=>by obtain⟨i,L⟩:=Nt.1 E;obtain⟨j,O⟩:=Nt.1 hd;exact I i j row d L O
theorem Ty.B1d:∀(l:List Ty),(∀row,row∈Ty.Nv l→∀d,d∈row→d.Bd)→∀t,t∈l→t.Ok
 |[],_=>by simp
 |t::R,h=>by
  intro u hu;simp only [As] at hu;rcases hu with rfl| hu
  ·exact Ty.B4b _ (h _ (by simp [Ty.Nv]))
  ·exact Ty.B1d R (fun row E=>h row (by simp [Ty.Nv,E])) u hu
end
theorem A5d {l:List Ty} (h:(D.slice (Aq l)).Bd):l.length≤lim∧∀t,t∈l→t.Ok:=Ty.A4k l h
theorem Ty.Ok.name (h:t.Ok):t.name.length≤lim:=by cases h;assumption
theorem Ty.Ok.len (h:t.Ok):t.args.length≤lim:=by cases h;assumption
theorem Ty.Ok.arg (h:t.Ok):∀u,u∈t.args→u.Ok:=by cases h;assumption
theorem E3j (h:SV.bd (Be t)):t.Ok:=by
 simp only [SV.bd,SV.Sy] at h;refine Ty.B4b t ?_;rw [D8h];intro d hd;simp only [Bh,As,Dt,Du] at hd;rcases hd with rfl| rfl| rfl
 ·exact h.1
 ·exact h.2.1
 ·exact .int _ _
mutual
theorem Ty.induct {p:Ty→Prop} (h:∀t,(∀u,u∈t.args→p u)→p t):∀t:Ty,p t
 |.mk n a q=>h _ (Ty.A9w h a)
theorem Ty.A9w {p:Ty→Prop} (h:∀t,(∀u,u∈t.args→p u)→p t):∀l:List Ty,∀u,u∈l→p u
 |[]=>by simp
 |t::E=>by
  intro u hu;simp only [As] at hu;rcases hu with rfl| hu
  ·exact Ty.induct h _
  ·exact Ty.A9w h E u hu
end
inductive Ex where
 |mk (kind:Int) (name:A3) (type:Ty) (targs:List Ty) (kids:List Ex) (pos:Int)
def Ex.kind:Ex→Int| .mk k _ _ _ _ _=>k
def Ex.name:Ex→A3| .mk _ n _ _ _ _=>n
def Ex.type:Ex→Ty| .mk _ _ t _ _ _=>t
def Ex.targs:Ex→List Ty| .mk _ _ _ a _ _=>a
def Ex.kids:Ex→List Ex| .mk _ _ _ _ k _=>k
def Ex.pos:Ex→Int| .mk _ _ _ _ _ p=>p
instance:Inhabited Ex:=⟨.mk 0 [] default [] [] 0⟩
mutual
def Ex.Po:Ex→List D
 |.mk k n t a ks p=>[.int .i64 k,.str n,.str t.name,.slice (Aq t.args),.int .i64 t.pos,.slice (Aq a),.slice (Ex.Nv ks),.int .i64 p]
def Ex.Nv:List Ex→List (List D)
 |[]=>[]
 |t::E=>t.Po::Ex.Nv E
end
def Db (l:List Ex):List (List D):=Ex.Nv l
def Ce (e:Ex):List D:=[.int .i64 e.kind,.str e.name,.str e.type.name,.slice (Aq e.type.args),.int .i64 e.type.pos,.slice (Aq e.targs),.slice (Db e.kids),.int .i64 e.pos]
theorem F5j (t:Ex):t.Po=Ce t:=by cases t;rfl
theorem F3p:Db []=[]:=rfl
theorem F6e (t:Ex)(l:List Ex):Db (t::l)=Ce t::Db l:=by show t.Po::_=_;rw [F5j];rfl
theorem Lp:∀l:List Ex,Db l=l.map Ce
 |[]=>rfl
 |t::l=>by rw [F6e,Lp l];rfl
theorem Ed {l:List Ex} {i:Nat} {t:Ex} (h:l[i]? = some t):(Db l)[i]? = some (Ce t):=by rw [Lp];simp [h]
theorem C2n (l:List Ex):(Db l).length=l.length:=by rw [Lp];simp
theorem D6r (l:List Ex):∀row,row∈Db l→row.length=8:=by intro row h;rw [Lp] at h;obtain⟨t,_,rfl⟩:=Ax.1 h;rfl
abbrev Di (e:Ex):SV:=.agg [.d (.int .i64 e.kind),.d (.str e.name),.d (.str e.type.name),.d (.slice (Aq e.type.args)),.d (.int .i64 e.type.pos),.d (.slice (Aq e.targs)),.d (.slice (Db e.kids)),.d (.int .i64 e.pos)]
mutual
theorem Ex.induct {p:Ex→Prop} (h:∀t,(∀u,u∈t.kids→p u)→p t):∀t:Ex,p t
 |.mk _ _ _ _ a _=>h _ (Ex.A9w h a)
theorem Ex.A9w {p:Ex→Prop} (h:∀t,(∀u,u∈t.kids→p u)→p t):∀l:List Ex,∀u,u∈l→p u
 |[]=>by simp
 |t::E=>by
  intro u hu;simp only [As] at hu;rcases hu with rfl| hu
  ·exact Ex.induct h _
  ·exact Ex.A9w h E u hu
end
inductive Ex.Ok:Ex→Prop where
 |mk (k:Int) (n:A3) (t:Ty) (a:List Ty) (ks:List Ex) (p:Int):n.length≤lim→t.Ok→a.length≤lim→(∀t,t∈a→t.Ok)→ks.length≤lim→(∀e,e∈ks→Ex.Ok e)→Ex.Ok (.mk k n t a ks p)
theorem A3y (E:(D.str t.name).Bd)(I:(D.slice (Aq t.args)).Bd):t.Ok:=by
 cases t with
 |mk n a p=>cases E with| str _ E=>exact .mk n a p E (A5d I).1 (A5d I).2
mutual
theorem Ex.B4b:∀(e:Ex),(∀d,d∈e.Po→d.Bd)→e.Ok
 |.mk k n t a ks p,h=>by
  have I:(D.str n).Bd:=h _ (by simp [Ex.Po]);have J:(D.str t.name).Bd:=h _ (by simp [Ex.Po]);have U:(D.slice (Aq t.args)).Bd:=h _ (by simp [Ex.Po]);have O:(D.slice (Aq a)).Bd:=h _ (by simp [Ex.Po]);have L:(D.slice (Ex.Nv ks)).Bd:=h _ (by simp [Ex.Po]);cases I with
  |str _ I=>exact .mk k n t a ks p I (A3y J U) (A5d O).1 (A5d O).2 (Ex.A4k ks L).1 (Ex.A4k ks L).2
theorem Ex.A4k:∀(l:List Ex),(D.slice (Ex.Nv l)).Bd→l.length≤lim∧∀t,t∈l→t.Ok
 |l,h=>by
  cases h with
  |slice _ I J =>
   refine⟨by have:=C2n l;unfold Db at this;omega,?_⟩;exact Ex.B1d l fun row E d hd=>by obtain⟨i,R⟩:=Nt.1 E;obtain⟨j,V⟩:=Nt.1 hd;exact J i j row d R V
theorem Ex.B1d:∀(l:List Ex),(∀row,row∈Ex.Nv l→∀d,d∈row→d.Bd)→∀t,t∈l→t.Ok
 |[],_=>by simp
 |t::W,h=>by
  intro u hu;simp only [As] at hu;rcases hu with rfl| hu
  ·exact Ex.B4b _ (h _ (by simp [Ex.Nv]))
  ·exact Ex.B1d W (fun row E=>h row (by simp [Ex.Nv,E])) u hu
end
theorem D3v {l:List Ex} (h:(D.slice (Db l)).Bd):l.length≤lim∧∀t,t∈l→t.Ok:=Ex.A4k l h
variable {e:Ex}
theorem C2d (E:(D.str e.name).Bd)(L:(D.str e.type.name).Bd)(O:(D.slice (Aq e.type.args)).Bd)(J:(D.slice (Aq e.targs)).Bd)(I:(D.slice (Db e.kids)).Bd):e.Ok:=by
 cases e with
 |mk k n t a ks p=>cases E with| str _ E=>exact .mk k n t a ks p E (A3y L O) (A5d J).1 (A5d J).2 (D3v I).1 (D3v I).2
theorem B9m (h:SV.bd (Di e)):e.Ok:=by simp only [SV.bd,SV.Sy] at h;exact C2d h.2.1 h.2.2.1 h.2.2.2.1 h.2.2.2.2.2.1 h.2.2.2.2.2.2.1
theorem Ex.Ok.name (h:e.Ok):e.name.length≤lim:=by cases h;assumption
theorem Ex.Ok.type (h:e.Ok):e.type.Ok:=by cases h;assumption
theorem Ex.Ok.targs (h:e.Ok):e.targs.length≤lim∧∀t,t∈e.targs→t.Ok:=by cases h;exact⟨by assumption,by assumption⟩
theorem Ex.Ok.kids (h:e.Ok):e.kids.length≤lim∧∀t,t∈e.kids→t.Ok:=by cases h;exact⟨by assumption,by assumption⟩
structure Ak where
 name:A3
 bound:Ty
 pos:Int
structure Param where
 name:A3
 type:Ty
 pos:Int
structure A5 where
 name:A3
 A1:List Ak
 params:List Param
 result:Ty
 pos:Int
structure Decl where
 kind:Int
 name:A3
 A1:List Ak
 fields:List Param
 sigs:List A5
 recv:A3
 vars:List A3
 sig:A5
 body:Ex
 pos:Int
structure Prog where
 decls:List Decl
 main:Ex
instance:Inhabited Ak:=⟨⟨[],default,0⟩⟩
instance:Inhabited Param:=⟨⟨[],default,0⟩⟩
instance:Inhabited A5:=⟨⟨[],[],[],default,0⟩⟩
instance:Inhabited Decl:=⟨⟨0,[],[],[],[],[],[],default,default,0⟩⟩
def Ke (f:Ak):List D:=[.str f.name,.str f.bound.name,.slice (Aq f.bound.args),.int .i64 f.bound.pos,.int .i64 f.pos]
def Gc (f:Param):List D:=[.str f.name,.str f.type.name,.slice (Aq f.type.args),.int .i64 f.type.pos,.int .i64 f.pos]
def Az (l:List Ak):List (List D):=l.map Ke
def B5 (l:List Param):List (List D):=l.map Gc
def Eu (s:A5):List D:=[.str s.name,.slice (Az s.A1),.slice (B5 s.params),.str s.result.name,.slice (Aq s.result.args),.int .i64 s.result.pos,.int .i64 s.pos]
def B9 (l:List A5):List (List D):=l.map Eu
def Bc (d:Decl):List D:=[.int .i64 d.kind,.str d.name,.slice (Az d.A1),.slice (B5 d.fields),.slice (B9 d.sigs),.str d.recv,.slice (C6 d.vars),
 .str d.sig.name,.slice (Az d.sig.A1),.slice (B5 d.sig.params),.str d.sig.result.name,.slice (Aq d.sig.result.args),.int .i64 d.sig.result.pos,.int .i64 d.sig.pos,
 .int .i64 d.body.kind,.str d.body.name,.str d.body.type.name,.slice (Aq d.body.type.args),.int .i64 d.body.type.pos,.slice (Aq d.body.targs),.slice (Db d.body.kids),.int .i64 d.body.pos,.int .i64 d.pos]
def Bu (l:List Decl):List (List D):=l.map Bc
def Aj (p:Prog):List D:=[.slice (Bu p.decls),.int .i64 p.main.kind,.str p.main.name,.str p.main.type.name,.slice (Aq p.main.type.args),.int .i64 p.main.type.pos,.slice (Aq p.main.targs),.slice (Db p.main.kids),.int .i64 p.main.pos]
abbrev Qy (f:Ak):SV:=.agg [.d (.str f.name),.d (.str f.bound.name),.d (.slice (Aq f.bound.args)),.d (.int .i64 f.bound.pos),.d (.int .i64 f.pos)]
abbrev X1 (f:Param):SV:=.agg [.d (.str f.name),.d (.str f.type.name),.d (.slice (Aq f.type.args)),.d (.int .i64 f.type.pos),.d (.int .i64 f.pos)]
abbrev Cx (s:A5):SV:=.agg [.d (.str s.name),.d (.slice (Az s.A1)),.d (.slice (B5 s.params)),.d (.str s.result.name),.d (.slice (Aq s.result.args)),.d (.int .i64 s.result.pos),.d (.int .i64 s.pos)]
abbrev Iy (d:Decl):SV:=.agg [.d (.int .i64 d.kind),.d (.str d.name),.d (.slice (Az d.A1)),.d (.slice (B5 d.fields)),.d (.slice (B9 d.sigs)),.d (.str d.recv),.d (.slice (C6 d.vars)),
 .d (.str d.sig.name),.d (.slice (Az d.sig.A1)),.d (.slice (B5 d.sig.params)),.d (.str d.sig.result.name),.d (.slice (Aq d.sig.result.args)),.d (.int .i64 d.sig.result.pos),.d (.int .i64 d.sig.pos),
 .d (.int .i64 d.body.kind),.d (.str d.body.name),.d (.str d.body.type.name),.d (.slice (Aq d.body.type.args)),.d (.int .i64 d.body.type.pos),.d (.slice (Aq d.body.targs)),.d (.slice (Db d.body.kids)),.d (.int .i64 d.body.pos),.d (.int .i64 d.pos)]
abbrev Cv (p:Prog):SV:=.agg [.d (.slice (Bu p.decls)),.d (.int .i64 p.main.kind),.d (.str p.main.name),.d (.str p.main.type.name),.d (.slice (Aq p.main.type.args)),.d (.int .i64 p.main.type.pos),.d (.slice (Aq p.main.targs)),.d (.slice (Db p.main.kids)),.d (.int .i64 p.main.pos)]
theorem Yf {α:Type} {f:α→List D} {l:List α} {i:Nat} {t:α} (h:l[i]? = some t):(l.map f)[i]? = some (f t):=by simp [h]
theorem Ep {l:List Ak} {i:Nat} {t:Ak} (h:l[i]? = some t):(Az l)[i]? = some (Ke t):=Yf h
theorem E7 {l:List Param} {i:Nat} {t:Param} (h:l[i]? = some t):(B5 l)[i]? = some (Gc t):=Yf h
theorem E1 {l:List A5} {i:Nat} {t:A5} (h:l[i]? = some t):(B9 l)[i]? = some (Eu t):=Yf h
theorem E2 {l:List Decl} {i:Nat} {t:Decl} (h:l[i]? = some t):(Bu l)[i]? = some (Bc t):=Yf h
theorem La {l:List A3} {i:Nat} {t:A3} (h:l[i]? = some t):(C6 l)[i]? = some [.str t]:=Yf (f:=fun s=>[D.str s]) h
theorem F4k (l:List Ak):(Az l).length=l.length:=by simp [Az]
theorem B8m (l:List Param):(B5 l).length=l.length:=by simp [B5]
theorem G3i (l:List A5):(B9 l).length=l.length:=by simp [B9]
theorem B8u (l:List Decl):(Bu l).length=l.length:=by simp [Bu]
theorem F1h (l:List A3):(C6 l).length=l.length:=by simp [C6]
theorem G6e (l m:List A5):B9 (l++m)=B9 l++B9 m:=by simp [B9]
theorem B7v (l:List Ak):∀row,row∈Az l→row.length=5:=by intro row h;obtain⟨t,_,rfl⟩:=Ax.1 h;rfl
theorem F4z (l:List Param):∀row,row∈B5 l→row.length=5:=by intro row h;obtain⟨t,_,rfl⟩:=Ax.1 h;rfl
theorem C7d (l:List Decl):∀row,row∈Bu l→row.length=23:=by intro row h;obtain⟨t,_,rfl⟩:=Ax.1 h;rfl
theorem A4g (l:List A3):∀row,row∈C6 l→row.length=1:=by intro row h;obtain⟨t,_,rfl⟩:=Ax.1 h;rfl
theorem Xc {α:Type} {f:α→List D} {l:List α} (h:(D.slice (l.map f)).Bd):l.length≤lim∧∀t,t∈l→∀d,d∈f t→d.Bd:=by
 cases h with
 |slice _ I E =>refine⟨by simpa using I,fun t ht d hd=>?_⟩;obtain⟨i,J⟩:=Nt.1 ht;obtain⟨j,L⟩:=Nt.1 hd;exact E i j (f t) d (Yf J) L
theorem U0 {s:A3} (h:(D.str s).Bd):s.length≤lim:=by cases h;assumption
structure Ak.Ok (f:Ak):Prop where
 name:f.name.length≤lim
 bound:f.bound.Ok
structure Param.Ok (f:Param):Prop where
 name:f.name.length≤lim
 type:f.type.Ok
theorem B2z {l:List Ak} (h:(D.slice (Az l)).Bd):l.length≤lim∧∀t,t∈l→t.Ok :=
 ⟨(Xc h).1,fun t ht=>have g:=(Xc h).2 t ht;⟨U0 (g _ (by simp [Ke])),A3y (g _ (by simp [Ke])) (g _ (by simp [Ke]))⟩⟩
theorem B1x {l:List Param} (h:(D.slice (B5 l)).Bd):l.length≤lim∧∀t,t∈l→t.Ok :=
 ⟨(Xc h).1,fun t ht=>have g:=(Xc h).2 t ht;⟨U0 (g _ (by simp [Gc])),A3y (g _ (by simp [Gc])) (g _ (by simp [Gc]))⟩⟩
structure A5.Ok (s:A5):Prop where
 name:s.name.length≤lim
 A1:s.A1.length≤lim∧∀t,t∈s.A1→t.Ok
 params:s.params.length≤lim∧∀t,t∈s.params→t.Ok
 result:s.result.Ok
theorem E8d {l:List A5} (h:(D.slice (B9 l)).Bd):l.length≤lim∧∀t,t∈l→t.Ok :=
 ⟨(Xc h).1,fun t ht=>have g:=(Xc h).2 t ht;⟨U0 (g _ (by simp [Eu])),B2z (g _ (by simp [Eu])),B1x (g _ (by simp [Eu])),A3y (g _ (by simp [Eu])) (g _ (by simp [Eu]))⟩⟩
theorem B2t {l:List A3} (h:(D.slice (C6 l)).Bd):l.length≤lim∧∀t,t∈l→t.length≤lim :=
 ⟨(Xc h).1,fun t ht=>U0 ((Xc h).2 t ht _ (by simp))⟩
structure Decl.Ok (d:Decl):Prop where
 name:d.name.length≤lim
 A1:d.A1.length≤lim∧∀t,t∈d.A1→t.Ok
 fields:d.fields.length≤lim∧∀t,t∈d.fields→t.Ok
 sigs:d.sigs.length≤lim∧∀t,t∈d.sigs→t.Ok
 recv:d.recv.length≤lim
 vars:d.vars.length≤lim∧∀t,t∈d.vars→t.length≤lim
 sig:d.sig.Ok
 body:d.body.Ok
theorem E4b {l:List Decl} (h:(D.slice (Bu l)).Bd):l.length≤lim∧∀t,t∈l→t.Ok :=
 ⟨(Xc h).1,fun t ht=>have g:=(Xc h).2 t ht
  ⟨U0 (g _ (by simp [Bc])),B2z (g _ (by simp [Bc])),B1x (g _ (by simp [Bc])),E8d (g _ (by simp [Bc])),U0 (g _ (by simp [Bc])),B2t (g _ (by simp [Bc])),
   ⟨U0 (g _ (by simp [Bc])),B2z (g _ (by simp [Bc])),B1x (g _ (by simp [Bc])),A3y (g _ (by simp [Bc])) (g _ (by simp [Bc]))⟩,
   C2d (g _ (by simp [Bc])) (g _ (by simp [Bc])) (g _ (by simp [Bc])) (g _ (by simp [Bc])) (g _ (by simp [Bc]))⟩⟩
structure Prog.Ok (p:Prog):Prop where
 decls:p.decls.length≤lim∧∀t,t∈p.decls→t.Ok
 main:p.main.Ok
theorem B1u {p:Prog} (h:SV.bd (Cv p)):p.Ok:=by simp only [SV.bd,SV.Sy] at h;exact⟨E4b h.1,C2d h.2.2.1 h.2.2.2.1 h.2.2.2.2.1 h.2.2.2.2.2.2.1 h.2.2.2.2.2.2.2.1⟩
theorem G2t {s:A5} (h:SV.bd (Cx s)):s.Ok:=by simp only [SV.bd,SV.Sy] at h;exact⟨U0 h.1,B2z h.2.1,B1x h.2.2.1,A3y h.2.2.2.1 h.2.2.2.2.1⟩
theorem E7f (n:Nat):(n:Int).tdiv 50=((n / 50:Nat):Int):=rfl
end Go.Abs
