/- castingsref06: sigTypes, Body, Types, bare, Plain; sizes of the lists of types -/
import Derived.Test.YtbhbfpjnenekpaaGreatDoorJU01
import Derived.Test.YtbhbfpjnenekpaaGreatDoorJS58
namespace Go.Abs
set_option linter.unusedSimpArgs false
set_option linter.unusedVariables false
open Go Go.Proofs
set_option maxRecDepth 100000
set_option maxHeartbeats 4000000
def exTs (x:Ex):List Ty:=x.targs++if x.kind=3∨x.kind=5 then [x.type] else []
def exsTs (l:List Ex):List Ty:=l.flatMap exTs
def bodyTs (e:Ex):List Ty:=exsTs (listE e)
theorem Ty.countL_lenL:∀ (l:List Ty)(k:Int),Ty.countL l k≤2000→k+(l.length:Int)≤Ty.countL l k
 | [],k,_=>by simp [Ty.countL]
 | t::ts,k,h=>by
  simp only [Ty.countL] at h ⊢
  split at h
  ·rename_i hk
   rw [if_pos hk]
   have h1:=Ty.countL_lenL ts _ h
   have h2:=Ty.count_ge t k
   simp only [List.length_cons]
   omega
  ·omega
theorem exsTs_cons (e:Ex)(l:List Ex):exsTs (e::l)=exTs e++exsTs l:=rfl
theorem exsTs_append (a b:List Ex):exsTs (a++b)=exsTs a++exsTs b:=by simp [exsTs]
theorem exTs_len (x:Ex):(exTs x).length≤x.targs.length+1:=by
 unfold exTs
 rw [List.length_append]
 split <;> simp
mutual
theorem Ex.count_lens:∀ (e:Ex)(k:Int),e.count k≤2000→k+((listE e).length:Int)≤e.count k∧k+((bodyTs e).length:Int)≤e.count k
 | .mk kd n t a ks p,k,h=>by
  simp only [Ex.count] at h ⊢
  have h1:=Ty.count_ge t (k+((n.length / 50:Nat):Int))
  have h2:=Ty.countL_ge a (t.count (k+((n.length / 50:Nat):Int)))
  have h3:=Ex.countL_ge ks (Ty.countL a (t.count (k+((n.length / 50:Nat):Int))))
  have g2:=Ty.countL_lenL a (t.count (k+((n.length / 50:Nat):Int))) (by omega)
  obtain⟨g3,g4⟩:=Ex.countL_lens ks (Ty.countL a (t.count (k+((n.length / 50:Nat):Int)))) h
  have g5:=exTs_len (.mk kd n t a ks p)
  rw [show (Ex.mk kd n t a ks p).targs=a from rfl] at g5
  unfold bodyTs
  rw [listE,exsTs_cons]
  simp only [List.length_cons,List.length_append]
  omega
theorem Ex.countL_lens:∀ (l:List Ex)(k:Int),Ex.countL l k≤2000→k+((listEL l).length:Int)≤Ex.countL l k∧k+((exsTs (listEL l)).length:Int)≤Ex.countL l k
 | [],k,_=>by simp [Ex.countL,listEL,exsTs]
 | t::ts,k,h=>by
  simp only [Ex.countL] at h ⊢
  split at h
  ·rename_i hk
   rw [if_pos hk]
   have h1:=Ex.countL_ge ts (t.count k)
   obtain⟨h2,h3⟩:=Ex.countL_lens ts (t.count k) h
   obtain⟨h4,h5⟩:=Ex.count_lens t k (by omega)
   unfold bodyTs at h5
   rw [listEL,exsTs_append]
   simp only [List.length_append]
   omega
  ·omega
end
structure Ex.Le (e:Ex):Prop where
 list:(listE e).length≤2000
 tys:(bodyTs e).length≤2000
theorem Ex.count_Le (e:Ex)(k:Int)(h0:0≤k)(h:e.count k≤2000):e.Le:=by
 have:=Ex.count_lens e k h
 exact⟨by omega,by omega⟩
structure Sig.Le (s:Sig):Prop where
 formals:s.formals.length≤2000
 params:s.params.length≤2000
structure Decl.Le (d:Decl):Prop where
 formals:d.formals.length≤2000
 fields:d.fields.length≤2000
 sigsL:d.sigs.length≤2000
 sigs:∀ s,s∈d.sigs→s.Le
 sig:d.sig.Le
 body:d.body.Le
structure Prog.Le (p:Prog):Prop where
 declsL:p.decls.length≤2000
 decls:∀ d,d∈p.decls→d.Le
 main:p.main.Le
theorem Sig.count_Le (s:Sig)(n:Int)(h0:0≤n)(h:s.count n≤2000):s.Le:=by
 unfold Sig.count at h
 obtain⟨a1,a2⟩:=fo_Nn s.formals (n+((s.name.length / 50:Nat):Int))
 obtain⟨b1,b2⟩:=pa_Nn s.params (foCount s.formals (n+((s.name.length / 50:Nat):Int)))
 have c1:=Ty.count_ge s.result (paCount s.params (foCount s.formals (n+((s.name.length / 50:Nat):Int))))
 have a3:=(a2 (by omega) (by omega)).1
 have b3:=(b2 (by omega) (by omega)).1
 exact⟨by omega,by omega⟩
theorem si_Le:LSm siCount Sig.Le:=list_sm siCount Sig.count Sig.Le (fun _=>rfl) (fun _ _ _=>rfl) (fun x k=>(Sig.count_sm x k).1) (fun x k h0 h=>Sig.count_Le x k h0 h)
theorem Decl.count_Le (d:Decl)(n:Int)(h0:0≤n)(h:d.count n≤2000):d.Le:=by
 unfold Decl.count at h
 generalize hm:n+1+((d.name.length / 50:Nat):Int)+((d.recv.length / 50:Nat):Int)=m at h
 obtain⟨a1,a2⟩:=fo_Nn d.formals m
 obtain⟨b1,b2⟩:=pa_Nn d.fields (foCount d.formals m)
 obtain⟨c1,c2⟩:=si_Le d.sigs (paCount d.fields (foCount d.formals m))
 obtain⟨e1,e2⟩:=va_sm d.vars (siCount d.sigs (paCount d.fields (foCount d.formals m)))
 generalize hz:vaCount d.vars (siCount d.sigs (paCount d.fields (foCount d.formals m)))=z at *
 unfold Decl.count2 at h
 obtain⟨f1,_⟩:=Sig.count_sm d.sig z
 have g1:=Ex.count_ge d.body (d.sig.count z)
 split at h
 ·have a3:=(a2 (by omega) (by omega)).1
  have b3:=(b2 (by omega) (by omega)).1
  have c3:=(c2 (by omega) (by omega)).1
  exact⟨by omega,by omega,by omega,(c2 (by omega) (by omega)).2,Sig.count_Le d.sig z (by omega) (by omega),Ex.count_Le d.body (d.sig.count z) (by omega) h⟩
 ·omega
theorem de_Le:LSm deCount Decl.Le:=list_sm deCount Decl.count Decl.Le (fun _=>rfl) (fun _ _ _=>rfl) (fun x k=>(Decl.count_sm x k).1) (fun x k h0 h=>Decl.count_Le x k h0 h)
theorem Prog.count_Le (p:Prog)(h:p.count≤600):p.Le:=by
 unfold Prog.count at h
 have h1:=Ex.count_ge p.main 0
 obtain⟨a1,a2⟩:=de_Le p.decls (p.main.count 0)
 have:=(a2 (by omega) (by omega)).1
 exact⟨by omega,(a2 (by omega) (by omega)).2,Ex.count_Le p.main 0 (by omega) (by omega)⟩
end Go.Abs
