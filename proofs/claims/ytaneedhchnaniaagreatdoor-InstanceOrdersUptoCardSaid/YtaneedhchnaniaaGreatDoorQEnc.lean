/- The program's data as plain Lean data, and how it reads. -/
import Derived.Test.YtaneedhchnaniaaGreatDoorQAb5
namespace Go.Abs
set_option linter.unusedSimpArgs false
set_option linter.unusedVariables false
open Go
inductive Ty where
 | mk (name:Str) (args:List Ty) (pos:Int)
def Ty.name:Ty→Str | .mk n _ _=>n
def Ty.args:Ty→List Ty | .mk _ a _=>a
def Ty.pos:Ty→Int | .mk _ _ p=>p
instance:Inhabited Ty:=⟨.mk [] [] 0⟩
mutual
def Ty.cellsA:Ty→List D
 | .mk n a p=>[.str n,.slice (Ty.rowsA a),.int .i64 p]
def Ty.rowsA:List Ty→List (List D)
 | []=>[]
 | t::ts=>t.cellsA::Ty.rowsA ts
end
def tyR (l:List Ty):List (List D):=Ty.rowsA l
def tyC (t:Ty):List D:=[.str t.name,.slice (tyR t.args),.int .i64 t.pos]
theorem cellsA_eq (t:Ty):t.cellsA=tyC t:=by cases t;rfl
theorem tyR_nil:tyR []=[]:=rfl
theorem tyR_cons (t:Ty)(l:List Ty):tyR (t::l)=tyC t::tyR l:=by show t.cellsA::_=_;rw [cellsA_eq];rfl
theorem tyR_map:∀ l:List Ty,tyR l=l.map tyC
 | []=>rfl
 | t::l=>by rw [tyR_cons,tyR_map l];rfl
variable {t:Ty}
theorem tyR_get {l:List Ty} {i:Nat} (h:l[i]? = some t):(tyR l)[i]? = some (tyC t):=by rw [tyR_map];simp [h]
theorem tyR_len (l:List Ty):(tyR l).length=l.length:=by rw [tyR_map];simp
theorem tyR_row (l:List Ty):∀ row,row∈tyR l→row.length=3:=by
 intro row h;rw [tyR_map] at h;obtain⟨t,_,rfl⟩:=List.mem_map.1 h;rfl
theorem tyR_append (l m:List Ty):tyR (l++m)=tyR l++tyR m:=by simp [tyR_map]
abbrev tyV (t:Ty):SV:=.agg [.d (.str t.name),.d (.slice (tyR t.args)),.d (.int .i64 t.pos)]
abbrev intV (n:Int):SV:=.d (.int .i64 n)
abbrev boolV (b:Bool):SV:=.d (.bool b)
abbrev strV (s:Str):SV:=.d (.str s)
abbrev tysV (l:List Ty):SV:=.d (.slice (tyR l))
def strR (l:List Str):List (List D):=l.map fun s=>[.str s]
abbrev strsV (l:List Str):SV:=.d (.slice (strR l))
inductive Ty.Ok:Ty→Prop where
 | mk (n:Str) (a:List Ty) (p:Int):n.length≤lim→a.length≤lim→(∀ t,t∈a→Ty.Ok t)→Ty.Ok (.mk n a p)
mutual
theorem Ty.ok_cells:∀ (t:Ty),(∀ d,d∈t.cellsA→d.Bd)→t.Ok
 | .mk n a p,h=>by
  have h1:(D.str n).Bd:=h _ (by simp [Ty.cellsA])
  have h2:(D.slice (Ty.rowsA a)).Bd:=h _ (by simp [Ty.cellsA])
  cases h1 with
  | str _ h1=>exact .mk n a p h1 (Ty.ok_rows a h2).1 (Ty.ok_rows a h2).2
theorem Ty.ok_rows:∀ (l:List Ty),(D.slice (Ty.rowsA l)).Bd→l.length≤lim∧∀ t,t∈l→t.Ok
 | l,h=>by
  cases h with
  | slice _ h1 h2 =>
   refine⟨by have:=tyR_len l;unfold tyR at this;omega,?_⟩
   exact Ty.ok_list l fun row hrow d hd=>by
    obtain⟨i,hi⟩:=List.mem_iff_getElem?.1 hrow
    obtain⟨j,hj⟩:=List.mem_iff_getElem?.1 hd
    exact h2 i j row d hi hj
theorem Ty.ok_list:∀ (l:List Ty),(∀ row,row∈Ty.rowsA l→∀ d,d∈row→d.Bd)→∀ t,t∈l→t.Ok
 | [],_=>by simp
 | t::ts,h=>by
  intro u hu
  simp only [List.mem_cons] at hu
  rcases hu with rfl | hu
  ·exact Ty.ok_cells _ (h _ (by simp [Ty.rowsA]))
  ·exact Ty.ok_list ts (fun row hrow=>h row (by simp [Ty.rowsA,hrow])) u hu
end
theorem tys_ok {l:List Ty} (h:(D.slice (tyR l)).Bd):l.length≤lim∧∀ t,t∈l→t.Ok:=Ty.ok_rows l h
theorem Ty.Ok.name (h:t.Ok):t.name.length≤lim:=by cases h;assumption
theorem Ty.Ok.len (h:t.Ok):t.args.length≤lim:=by cases h;assumption
theorem Ty.Ok.arg (h:t.Ok):∀ u,u∈t.args→u.Ok:=by cases h;assumption
theorem ty_ok (h:SV.bd (tyV t)):t.Ok:=by
 simp only [SV.bd,SV.bdL] at h
 refine Ty.ok_cells t ?_
 rw [cellsA_eq]
 intro d hd
 simp only [tyC,List.mem_cons,List.not_mem_nil,or_false] at hd
 rcases hd with rfl | rfl | rfl
 ·exact h.1
 ·exact h.2.1
 ·exact .int _ _
mutual
theorem Ty.induct {p:Ty→Prop} (h:∀ t,(∀ u,u∈t.args→p u)→p t):∀ t:Ty,p t
 | .mk n a q=>h _ (Ty.inductL h a)
theorem Ty.inductL {p:Ty→Prop} (h:∀ t,(∀ u,u∈t.args→p u)→p t):∀ l:List Ty,∀ u,u∈l→p u
 | []=>by simp
 | t::ts=>by
  intro u hu
  simp only [List.mem_cons] at hu
  rcases hu with rfl | hu
  ·exact Ty.induct h _
  ·exact Ty.inductL h ts u hu
end
inductive Ex where
 | mk (kind:Int) (name:Str) (type:Ty) (targs:List Ty) (kids:List Ex) (pos:Int)
def Ex.kind:Ex→Int | .mk k _ _ _ _ _=>k
def Ex.name:Ex→Str | .mk _ n _ _ _ _=>n
def Ex.type:Ex→Ty | .mk _ _ t _ _ _=>t
def Ex.targs:Ex→List Ty | .mk _ _ _ a _ _=>a
def Ex.kids:Ex→List Ex | .mk _ _ _ _ k _=>k
def Ex.pos:Ex→Int | .mk _ _ _ _ _ p=>p
instance:Inhabited Ex:=⟨.mk 0 [] default [] [] 0⟩
mutual
def Ex.cellsA:Ex→List D
 | .mk k n t a ks p=>[.int .i64 k,.str n,.str t.name,.slice (tyR t.args),.int .i64 t.pos,.slice (tyR a),.slice (Ex.rowsA ks),.int .i64 p]
def Ex.rowsA:List Ex→List (List D)
 | []=>[]
 | t::ts=>t.cellsA::Ex.rowsA ts
end
def exR (l:List Ex):List (List D):=Ex.rowsA l
def exC (e:Ex):List D:=[.int .i64 e.kind,.str e.name,.str e.type.name,.slice (tyR e.type.args),.int .i64 e.type.pos,.slice (tyR e.targs),.slice (exR e.kids),.int .i64 e.pos]
theorem exCellsA_eq (t:Ex):t.cellsA=exC t:=by cases t;rfl
theorem exR_nil:exR []=[]:=rfl
theorem exR_cons (t:Ex)(l:List Ex):exR (t::l)=exC t::exR l:=by show t.cellsA::_=_;rw [exCellsA_eq];rfl
theorem exR_map:∀ l:List Ex,exR l=l.map exC
 | []=>rfl
 | t::l=>by rw [exR_cons,exR_map l];rfl
theorem exR_get {l:List Ex} {i:Nat} {t:Ex} (h:l[i]? = some t):(exR l)[i]? = some (exC t):=by rw [exR_map];simp [h]
theorem exR_len (l:List Ex):(exR l).length=l.length:=by rw [exR_map];simp
abbrev exV (e:Ex):SV:=.agg [.d (.int .i64 e.kind),.d (.str e.name),.d (.str e.type.name),.d (.slice (tyR e.type.args)),.d (.int .i64 e.type.pos),.d (.slice (tyR e.targs)),.d (.slice (exR e.kids)),.d (.int .i64 e.pos)]
mutual
theorem Ex.induct {p:Ex→Prop} (h:∀ t,(∀ u,u∈t.kids→p u)→p t):∀ t:Ex,p t
 | .mk _ _ _ _ a _=>h _ (Ex.inductL h a)
theorem Ex.inductL {p:Ex→Prop} (h:∀ t,(∀ u,u∈t.kids→p u)→p t):∀ l:List Ex,∀ u,u∈l→p u
 | []=>by simp
 | t::ts=>by
  intro u hu
  simp only [List.mem_cons] at hu
  rcases hu with rfl | hu
  ·exact Ex.induct h _
  ·exact Ex.inductL h ts u hu
end
inductive Ex.Ok:Ex→Prop where
 | mk (k:Int) (n:Str) (t:Ty) (a:List Ty) (ks:List Ex) (p:Int):n.length≤lim→t.Ok→a.length≤lim→(∀ t,t∈a→t.Ok)→ks.length≤lim→(∀ e,e∈ks→Ex.Ok e)→Ex.Ok (.mk k n t a ks p)
theorem ty_okD (h1:(D.str t.name).Bd)(h2:(D.slice (tyR t.args)).Bd):t.Ok:=by
 cases t with
 | mk n a p=>cases h1 with | str _ h1=>exact .mk n a p h1 (tys_ok h2).1 (tys_ok h2).2
mutual
theorem Ex.ok_cells:∀ (e:Ex),(∀ d,d∈e.cellsA→d.Bd)→e.Ok
 | .mk k n t a ks p,h=>by
  have h1:(D.str n).Bd:=h _ (by simp [Ex.cellsA])
  have h2:(D.str t.name).Bd:=h _ (by simp [Ex.cellsA])
  have h3:(D.slice (tyR t.args)).Bd:=h _ (by simp [Ex.cellsA])
  have h4:(D.slice (tyR a)).Bd:=h _ (by simp [Ex.cellsA])
  have h5:(D.slice (Ex.rowsA ks)).Bd:=h _ (by simp [Ex.cellsA])
  cases h1 with
  | str _ h1=>exact .mk k n t a ks p h1 (ty_okD h2 h3) (tys_ok h4).1 (tys_ok h4).2 (Ex.ok_rows ks h5).1 (Ex.ok_rows ks h5).2
theorem Ex.ok_rows:∀ (l:List Ex),(D.slice (Ex.rowsA l)).Bd→l.length≤lim∧∀ t,t∈l→t.Ok
 | l,h=>by
  cases h with
  | slice _ h1 h2 =>
   refine⟨by have:=exR_len l;unfold exR at this;omega,?_⟩
   exact Ex.ok_list l fun row hrow d hd=>by
    obtain⟨i,hi⟩:=List.mem_iff_getElem?.1 hrow
    obtain⟨j,hj⟩:=List.mem_iff_getElem?.1 hd
    exact h2 i j row d hi hj
theorem Ex.ok_list:∀ (l:List Ex),(∀ row,row∈Ex.rowsA l→∀ d,d∈row→d.Bd)→∀ t,t∈l→t.Ok
 | [],_=>by simp
 | t::ts,h=>by
  intro u hu
  simp only [List.mem_cons] at hu
  rcases hu with rfl | hu
  ·exact Ex.ok_cells _ (h _ (by simp [Ex.rowsA]))
  ·exact Ex.ok_list ts (fun row hrow=>h row (by simp [Ex.rowsA,hrow])) u hu
end
theorem exs_ok {l:List Ex} (h:(D.slice (exR l)).Bd):l.length≤lim∧∀ t,t∈l→t.Ok:=Ex.ok_rows l h
variable {e:Ex}
theorem ex_okD (h1:(D.str e.name).Bd)(h2:(D.str e.type.name).Bd)(h3:(D.slice (tyR e.type.args)).Bd)(h4:(D.slice (tyR e.targs)).Bd)(h5:(D.slice (exR e.kids)).Bd):e.Ok:=by
 cases e with
 | mk k n t a ks p=>cases h1 with | str _ h1=>exact .mk k n t a ks p h1 (ty_okD h2 h3) (tys_ok h4).1 (tys_ok h4).2 (exs_ok h5).1 (exs_ok h5).2
theorem ex_ok (h:SV.bd (exV e)):e.Ok:=by
 simp only [SV.bd,SV.bdL] at h
 exact ex_okD h.2.1 h.2.2.1 h.2.2.2.1 h.2.2.2.2.2.1 h.2.2.2.2.2.2.1
theorem Ex.Ok.name (h:e.Ok):e.name.length≤lim:=by cases h;assumption
theorem Ex.Ok.type (h:e.Ok):e.type.Ok:=by cases h;assumption
theorem Ex.Ok.targs (h:e.Ok):e.targs.length≤lim∧∀ t,t∈e.targs→t.Ok:=by cases h;exact⟨by assumption,by assumption⟩
theorem Ex.Ok.kids (h:e.Ok):e.kids.length≤lim∧∀ t,t∈e.kids→t.Ok:=by cases h;exact⟨by assumption,by assumption⟩
structure Formal where
 name:Str
 bound:Ty
 pos:Int
structure Param where
 name:Str
 type:Ty
 pos:Int
structure Sig where
 name:Str
 formals:List Formal
 params:List Param
 result:Ty
 pos:Int
structure Decl where
 kind:Int
 name:Str
 formals:List Formal
 fields:List Param
 sigs:List Sig
 recv:Str
 vars:List Str
 sig:Sig
 body:Ex
 pos:Int
structure Prog where
 decls:List Decl
 main:Ex
instance:Inhabited Formal:=⟨⟨[],default,0⟩⟩
instance:Inhabited Param:=⟨⟨[],default,0⟩⟩
instance:Inhabited Sig:=⟨⟨[],[],[],default,0⟩⟩
instance:Inhabited Decl:=⟨⟨0,[],[],[],[],[],[],default,default,0⟩⟩
def foC (f:Formal):List D:=[.str f.name,.str f.bound.name,.slice (tyR f.bound.args),.int .i64 f.bound.pos,.int .i64 f.pos]
def paC (f:Param):List D:=[.str f.name,.str f.type.name,.slice (tyR f.type.args),.int .i64 f.type.pos,.int .i64 f.pos]
def foR (l:List Formal):List (List D):=l.map foC
def paR (l:List Param):List (List D):=l.map paC
def siC (s:Sig):List D:=[.str s.name,.slice (foR s.formals),.slice (paR s.params),.str s.result.name,.slice (tyR s.result.args),.int .i64 s.result.pos,.int .i64 s.pos]
def siR (l:List Sig):List (List D):=l.map siC
def deC (d:Decl):List D:=[.int .i64 d.kind,.str d.name,.slice (foR d.formals),.slice (paR d.fields),.slice (siR d.sigs),.str d.recv,.slice (strR d.vars),
 .str d.sig.name,.slice (foR d.sig.formals),.slice (paR d.sig.params),.str d.sig.result.name,.slice (tyR d.sig.result.args),.int .i64 d.sig.result.pos,.int .i64 d.sig.pos,
 .int .i64 d.body.kind,.str d.body.name,.str d.body.type.name,.slice (tyR d.body.type.args),.int .i64 d.body.type.pos,.slice (tyR d.body.targs),.slice (exR d.body.kids),.int .i64 d.body.pos,.int .i64 d.pos]
def deR (l:List Decl):List (List D):=l.map deC
def prC (p:Prog):List D:=[.slice (deR p.decls),.int .i64 p.main.kind,.str p.main.name,.str p.main.type.name,.slice (tyR p.main.type.args),.int .i64 p.main.type.pos,.slice (tyR p.main.targs),.slice (exR p.main.kids),.int .i64 p.main.pos]
abbrev foV (f:Formal):SV:=.agg [.d (.str f.name),.d (.str f.bound.name),.d (.slice (tyR f.bound.args)),.d (.int .i64 f.bound.pos),.d (.int .i64 f.pos)]
abbrev paV (f:Param):SV:=.agg [.d (.str f.name),.d (.str f.type.name),.d (.slice (tyR f.type.args)),.d (.int .i64 f.type.pos),.d (.int .i64 f.pos)]
abbrev siV (s:Sig):SV:=.agg [.d (.str s.name),.d (.slice (foR s.formals)),.d (.slice (paR s.params)),.d (.str s.result.name),.d (.slice (tyR s.result.args)),.d (.int .i64 s.result.pos),.d (.int .i64 s.pos)]
abbrev deV (d:Decl):SV:=.agg [.d (.int .i64 d.kind),.d (.str d.name),.d (.slice (foR d.formals)),.d (.slice (paR d.fields)),.d (.slice (siR d.sigs)),.d (.str d.recv),.d (.slice (strR d.vars)),
 .d (.str d.sig.name),.d (.slice (foR d.sig.formals)),.d (.slice (paR d.sig.params)),.d (.str d.sig.result.name),.d (.slice (tyR d.sig.result.args)),.d (.int .i64 d.sig.result.pos),.d (.int .i64 d.sig.pos),
 .d (.int .i64 d.body.kind),.d (.str d.body.name),.d (.str d.body.type.name),.d (.slice (tyR d.body.type.args)),.d (.int .i64 d.body.type.pos),.d (.slice (tyR d.body.targs)),.d (.slice (exR d.body.kids)),.d (.int .i64 d.body.pos),.d (.int .i64 d.pos)]
abbrev prV (p:Prog):SV:=.agg [.d (.slice (deR p.decls)),.d (.int .i64 p.main.kind),.d (.str p.main.name),.d (.str p.main.type.name),.d (.slice (tyR p.main.type.args)),.d (.int .i64 p.main.type.pos),.d (.slice (tyR p.main.targs)),.d (.slice (exR p.main.kids)),.d (.int .i64 p.main.pos)]
theorem map_get {α:Type} {f:α→List D} {l:List α} {i:Nat} {t:α} (h:l[i]? = some t):(l.map f)[i]? = some (f t):=by simp [h]
theorem foR_get {l:List Formal} {i:Nat} {t:Formal} (h:l[i]? = some t):(foR l)[i]? = some (foC t):=map_get h
theorem paR_get {l:List Param} {i:Nat} {t:Param} (h:l[i]? = some t):(paR l)[i]? = some (paC t):=map_get h
theorem siR_get {l:List Sig} {i:Nat} {t:Sig} (h:l[i]? = some t):(siR l)[i]? = some (siC t):=map_get h
theorem deR_get {l:List Decl} {i:Nat} {t:Decl} (h:l[i]? = some t):(deR l)[i]? = some (deC t):=map_get h
theorem strR_get {l:List Str} {i:Nat} {t:Str} (h:l[i]? = some t):(strR l)[i]? = some [.str t]:=map_get (f:=fun s=>[D.str s]) h
theorem foR_len (l:List Formal):(foR l).length=l.length:=by simp [foR]
theorem paR_len (l:List Param):(paR l).length=l.length:=by simp [paR]
theorem siR_len (l:List Sig):(siR l).length=l.length:=by simp [siR]
theorem deR_len (l:List Decl):(deR l).length=l.length:=by simp [deR]
theorem strR_len (l:List Str):(strR l).length=l.length:=by simp [strR]
theorem siR_append (l m:List Sig):siR (l++m)=siR l++siR m:=by simp [siR]
theorem strR_row (l:List Str):∀ row,row∈strR l→row.length=1:=by intro row h;obtain⟨t,_,rfl⟩:=List.mem_map.1 h;rfl
theorem rows_bd {α:Type} {f:α→List D} {l:List α} (h:(D.slice (l.map f)).Bd):l.length≤lim∧∀ t,t∈l→∀ d,d∈f t→d.Bd:=by
 cases h with
 | slice _ h1 h2 =>
  refine⟨by simpa using h1,fun t ht d hd=>?_⟩
  obtain⟨i,hi⟩:=List.mem_iff_getElem?.1 ht
  obtain⟨j,hj⟩:=List.mem_iff_getElem?.1 hd
  exact h2 i j (f t) d (map_get hi) hj
theorem str_bd {s:Str} (h:(D.str s).Bd):s.length≤lim:=by cases h;assumption
structure Formal.Ok (f:Formal):Prop where
 name:f.name.length≤lim
 bound:f.bound.Ok
structure Param.Ok (f:Param):Prop where
 name:f.name.length≤lim
 type:f.type.Ok
structure Sig.Ok (s:Sig):Prop where
 name:s.name.length≤lim
 formals:s.formals.length≤lim∧∀ t,t∈s.formals→t.Ok
 params:s.params.length≤lim∧∀ t,t∈s.params→t.Ok
 result:s.result.Ok
theorem strs_ok {l:List Str} (h:(D.slice (strR l)).Bd):l.length≤lim∧∀ t,t∈l→t.length≤lim :=
 ⟨(rows_bd h).1,fun t ht=>str_bd ((rows_bd h).2 t ht _ (by simp))⟩
structure Decl.Ok (d:Decl):Prop where
 name:d.name.length≤lim
 formals:d.formals.length≤lim∧∀ t,t∈d.formals→t.Ok
 fields:d.fields.length≤lim∧∀ t,t∈d.fields→t.Ok
 sigs:d.sigs.length≤lim∧∀ t,t∈d.sigs→t.Ok
 recv:d.recv.length≤lim
 vars:d.vars.length≤lim∧∀ t,t∈d.vars→t.length≤lim
 sig:d.sig.Ok
 body:d.body.Ok
structure Prog.Ok (p:Prog):Prop where
 decls:p.decls.length≤lim∧∀ t,t∈p.decls→t.Ok
 main:p.main.Ok
theorem tdiv50 (n:Nat):(n:Int).tdiv 50=((n / 50:Nat):Int):=rfl
end Go.Abs
