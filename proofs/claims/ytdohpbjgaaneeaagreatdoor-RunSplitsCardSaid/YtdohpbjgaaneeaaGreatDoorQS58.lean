/- castingsref17.Scope, Body, Program -/
import Derived.Test.YtdohpbjgaaneeaaGreatDoorQS57
import Derived.Test.YtdohpbjgaaneeaaGreatDoorQAb16
namespace Go.Abs
set_option linter.unusedSimpArgs false
set_option linter.unusedVariables false
open Go Go.Proofs
set_option maxRecDepth 100000
set_option maxHeartbeats 4000000
structure Prog.Fit (p:Prog):Prop where
 sm:p.Sm
 len:p.decls.length≤100000
 two:∀ d,d∈p.decls→d.Two
 par:∀ d,d∈p.decls→d.sig.params.length+1≤Go.Abs.sm
theorem Sig.count_par (s:Sig)(n:Int)(h0:0≤n)(h:s.count n≤2000):s.params.length≤2000:=by
 unfold Sig.count at h
 obtain⟨a1,a2⟩:=fo_Nn s.formals (n+((s.name.length / 50:Nat):Int))
 obtain⟨b1,b2⟩:=pa_Nn s.params (foCount s.formals (n+((s.name.length / 50:Nat):Int)))
 have c1:=Ty.count_ge s.result (paCount s.params (foCount s.formals (n+((s.name.length / 50:Nat):Int))))
 have:=(b2 (by omega) (by omega)).1
 omega
theorem Decl.count_par (d:Decl)(n:Int)(h0:0≤n)(h:d.count n≤2000):d.sig.params.length≤2000:=by
 unfold Decl.count at h
 generalize hm:n+1+((d.name.length / 50:Nat):Int)+((d.recv.length / 50:Nat):Int)=m at h
 obtain⟨a1,a2⟩:=fo_Nn d.formals m
 obtain⟨b1,b2⟩:=pa_Nn d.fields (foCount d.formals m)
 obtain⟨c1,c2⟩:=si_Nn d.sigs (paCount d.fields (foCount d.formals m))
 obtain⟨e1,e2⟩:=va_sm d.vars (siCount d.sigs (paCount d.fields (foCount d.formals m)))
 generalize hz:vaCount d.vars (siCount d.sigs (paCount d.fields (foCount d.formals m)))=z at *
 unfold Decl.count2 at h
 have g1:=Ex.count_ge d.body (d.sig.count z)
 split at h
 ·exact Sig.count_par d.sig z (by omega) (by omega)
 ·omega
theorem de_par:LSm deCount (fun d=>d.sig.params.length≤2000):=list_sm deCount Decl.count (fun d=>d.sig.params.length≤2000) (fun _=>rfl) (fun _ _ _=>rfl) (fun x k=>(Decl.count_sm x k).1) (fun x k h0 h=>Decl.count_par x k h0 h)
theorem Prog.count_Fit (p:Prog)(h:p.count≤600):p.Fit:=by
 have hn:=Prog.count_Nn p h
 have hs:=Prog.count_sm p h
 refine⟨hs.1,by have:=hs.2;omega,fun d hd=>(hn.decls d hd).two,fun d hd=>?_⟩
 unfold Prog.count at h
 have h1:=Ex.count_ge p.main 0
 obtain⟨a1,a2⟩:=de_par p.decls (p.main.count 0)
 have:=(a2 (by omega) (by omega)).2 d hd
 unfold Go.Abs.sm;omega
end Go.Abs
