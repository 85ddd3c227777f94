/- castingsref17.Scope, Body, Program -/
import Derived.Test.YtbhbfpjnenekpaaGreatDoorJS57
import Derived.Test.YtbhbfpjnenekpaaGreatDoorJAb11
namespace Go.Abs
set_option maxHeartbeats 1000000
set_option linter.unusedSimpArgs false
set_option linter.unusedVariables false
open Go Go.Proofs Tryz
set_option maxRecDepth 100000
set_option maxHeartbeats 4000000
theorem scope_Sm {p:Prog} (h:p.Sm)(st:Bool) {d:Decl} (hd:d.Sm)(h2:d.Two)(hps:d.sig.params.length+1≤sm):(scopeT p st d).Sm:=by
 refine⟨h,?_,?_,?_,?_⟩
 ·show (envR p d++d.sig.formals).length≤sm
  have:=envR_len p d;have:=h2.sig
  rw [List.length_append];omega
 ·intro f hf
  rcases List.mem_append.1 hf with hf | hf
  ·exact envR_Sm h hd f hf
  ·exact hd.sig.formals.2 f hf
 ·show (⟨d.recv,selfT d,0⟩::d.sig.params:List Param).length≤sm
  rw [List.length_cons];exact hps
 ·intro f hf
  rcases List.mem_cons.1 hf with rfl | hf
  ·refine⟨hd.recv,.mk _ _ _ hd.name (by simp only [varTs,List.length_map];exact hd.vars.1) (varTs_Sm hd)⟩
  ·exact hd.sig.params.2 f hf
abbrev z49:BoxC:=.cells [.d .nil,.d (.int .i64 0),.d (.str []),.d (.str []),.d .nil,.d (.int .i64 0),.d .nil,.d .nil,.d (.int .i64 0),.d (.bool false),.d .nil,.d .nil]
abbrev q1Rx:List Nat:=[0,1,2,3,5,6,7,8,9,17,36,46,900]
theorem ok_Scope17 (p:Prog)(h:p.Sm)(st:Bool)(d:Decl)(hd:d.Sm)(h2:d.Two)(hps:d.sig.params.length+1≤sm):CallOK prog 137 [prV p,boolV st,deV d] (tcV (scopeT p st d)):=by
 have henv:=ok_Env15O p h d hd
 have hel:=envR_len p d
 have hvl:=hd.vars.1
 have hsl:=h2.sig
 have e1:foR (scopeT p st d).env=foR (envR p d)++foR d.sig.formals:=by simp [scopeT,foR]
 unfold tcV
 rw [e1]
 show CallOK prog 137 [prV p,boolV st,deV d] (.agg [.d (.slice (deR p.decls)),.d (.int .i64 p.main.kind),.d (.str p.main.name),.d (.str p.main.type.name),.d (.slice (tyR p.main.type.args)),.d (.int .i64 p.main.type.pos),.d (.slice (tyR p.main.targs)),.d (.slice (exR p.main.kids)),.d (.int .i64 p.main.pos),.d (.bool st),.d (.slice (foR (envR p d)++foR d.sig.formals)),.d (.slice ([[.str d.recv,.str d.name,.slice (tyR (varTs d.vars)),.int .i64 0,.int .i64 0]]++paR d.sig.params))])
 have helr:(foR (envR p d)).length≤d.vars.length:=by simpa [foR] using hel
 generalize foR (envR p d)=ER at *
 refine cB func137 ?_
 refine sR q1Rx ?_
 (refine AWp.freeze 3 rfl rfl ?_;refine AWp.freeze 5 rfl rfl (wk [(1,boolV st),(3,.dptr (prC p) 0),(5,.dptr (deC d) 0),(6,.box 6 0)] [(6,z49)] ?_))
 refine sR q1Rx ?_
 refine AWp.promoteBox 900 3 7 1 rfl rfl (by decide) ?_
 refine kR q1Rx fun K1 u1=>?_
 refine AWp.block (AWp.forIdx d.vars (X:=Unit) (fun j _=>[(1,boolV st),(3,.dptr (prC p) 0),(5,.dptr (deC d) 0),(6,.box 6 0),(7,.box 7 0),(8,intV j)]) (fun j _=>[(6,z49),(7,.cells [.d (.str d.name),.acc 900,.d (.int .i64 0)]),(900,.rows 3 (tyR (varTs (d.vars.take j))))])
  (fun _ _=>True) () trivial (by simp [sle,vle,sget,exC,tyC,foC,paC,siC,deC,prC]) (by simp [ble,bget,berase,tyR_map,varTs]) ?_ ?_)
 rotate_left
 ·intro j _ s hs hmem dp tk hlt _
  rw [tk]
  refine kR1 hlt q1Rx fun K2 u2=>?_
  refine gI u2 ?_
  clear u2 K2
  refine sK fun K2 u2=>?_
  refine AWp.block ?_
  (refine lG q1Rx [] 9 [] fun K z=>?_;refine ev ?_;refine ci (strR_get hs) ?_;refine⟨by simp,by simp only [varTs,List.length_map,List.length_take];unfold lim sm at *;omega,?_⟩;(try refine ev ?_);apply z;clear z K;try simp only [thenA,blockA,if_true])
  refine u2 _ _ ?_
  clear u2 K2
  (refine lV q1Rx fun K z=>?_;refine cl ?_;apply z;clear z K;try simp only [thenA,blockA,if_true])
  exact⟨(),trivial,(by simp [sle,vle,sget,exC,tyC,foC,paC,siC,deC,prC]),by simp [ble,bget,tyR_map,varTs,tyC,Ty.name,Ty.args,Ty.pos]⟩
 intro _ _
 rw [List.take_length]
 refine kR1 Int.lt_irrefl q1Rx fun K2 u2=>?_
 refine AWp.stopK rfl ?_
 simp only [thenA,blockA,if_true]
 refine u1 _ _ ?_
 clear u2 K2 u1 K1
 (refine AWp.publish 900 rfl (wk [(1,boolV st),(3,.dptr (prC p) 0),(5,.dptr (deC d) 0),(6,.box 6 0),(7,.box 7 0)] [(6,z49),(7,.cells [.d (.str d.name),.d (.slice (tyR (varTs d.vars))),.d (.int .i64 0)])] ?_))
 refine sR q1Rx ?_
 (refine sG q1Rx [36] 6 [⟨[],[],[],[]⟩,⟨[],[],[],[]⟩,⟨[36],[36],[],[]⟩,⟨[],[],[36],[36]⟩,⟨[],[],[36],[36]⟩,⟨[],[],[36],[36]⟩] fun K z=>?_;refine ev ?_;refine⟨_,_,_,_,_,rfl,henv,?_⟩;(try refine ev ?_);refine⟨foR_row _,by unfold lim sm at *;omega,?_⟩;(try refine ev ?_);apply z;clear z K)
 (refine AWp.seqR q1Rx [46] (by decide +kernel) fun K z=>?_;refine ev ?_;refine⟨paR_row _,by unfold lim sm at *;omega,?_⟩;(try refine ev ?_);apply z;clear z K)
 (refine AWp.publish 36 rfl ?_;refine AWp.publish 46 rfl (wk [(6,.box 6 0),(9,.box 9 0)] [(6,z49),(9,.cells [.d (.slice (deR p.decls)),.d (.int .i64 p.main.kind),.d (.str p.main.name),.d (.str p.main.type.name),.d (.slice (tyR p.main.type.args)),.d (.int .i64 p.main.type.pos),.d (.slice (tyR p.main.targs)),.d (.slice (exR p.main.kids)),.d (.int .i64 p.main.pos),.d (.bool st),.d (.slice (ER++foR d.sig.formals)),.d (.slice ([[.str d.recv,.str d.name,.slice (tyR (varTs d.vars)),.int .i64 0,.int .i64 0]]++paR d.sig.params))])] ?_))
 refine sR q1Rx ?_
 exact aR
abbrev q2Rx:List Nat:=[0,1,2,3,6,7,25]
theorem ok_Body17 (p:Prog)(h:p.Sm)(st:Bool)(i:Nat)(d:Decl)(hd:p.decls[i]? = some d)(h2:d.Two)(hps:d.sig.params.length+1≤sm):CallOK prog 72 [prV p,boolV st,intV i] (rsV (bodyT p st d)):=by
 have hlt:=(List.getElem?_eq_some_iff.1 hd).1
 have g1:¬ (i:Int) < 0:=by omega
 have g2:¬ (i:Int) ≥ (p.decls.length:Int):=by omega
 have hds:=h.decls.2 d (List.mem_of_getElem? hd)
 have hsm:=scope_Sm h st hds h2 hps
 have hsc:=ok_Scope17 p h st d hds h2 hps
 have hft:=ok_Fits16 (scopeT p st d) hsm d.body (ok_Type16 _ hsm d.body hds.body) (typeE_Sm hsm d.body hds.body) d.sig.result hds.sig.result
 unfold bodyT
 generalize fitsT (scopeT p st d) d.sig.result d.body (typeE (scopeT p st d) d.body)=r at *
 generalize scopeT p st d=c at *
 by_cases k3:d.kind=3
 ·rw [if_pos k3]
  have d3:=decide_eq_true k3
  refine cB func72 ?_
  refine sR q2Rx ?_
  refine sK fun K1 u1=>?_
  (refine sQ q2Rx fun K z=>?_;simp -implicitDefEqProofs only [EV,forall_const,implies_true,Nat.reduceAdd,Nat.reduceEqDiff,Nat.reduceBEq,Nat.reduceLeDiff,Nat.reduceSub,Nat.reduceMul,Int.reduceEq,Int.reduceLT,Int.reduceLE,Int.reduceSub,Int.reduceAdd,Int.reduceToNat,reduceCtorEq,Int.reduceNeg,TF3,TF4,TF9,TF22,TF25,TF28,TF30,TF52,TF61,TF75,g1,g2,decide_not,d3];refine⟨by omega,_,deR_get hd,rfl,?_⟩;(try simp -implicitDefEqProofs only [EV,forall_const,implies_true,Nat.reduceAdd,Nat.reduceEqDiff,Nat.reduceBEq,Nat.reduceLeDiff,Nat.reduceSub,Nat.reduceMul,Int.reduceEq,Int.reduceLT,Int.reduceLE,Int.reduceSub,Int.reduceAdd,Int.reduceToNat,reduceCtorEq,Int.reduceNeg,TF3,TF4,TF9,TF22,TF25,TF28,TF30,TF52,TF61,TF75,g1,g2,decide_not,d3]);apply z;clear z K)
  refine kI u1 ?_
  clear u1 K1
  (refine sV q2Rx fun K z=>?_;refine ci (deR_get hd) ?_;apply z;clear z K)
  (refine sG q2Rx [] 9 [] fun K z=>?_;refine ev ?_;refine cc hsc ?_;refine cc hft ?_;apply z;clear z K)
  exact aR
 ·rw [if_neg k3]
  refine cB func72 ?_
  refine sR q2Rx ?_
  refine sK fun K1 u1=>?_
  (refine sQ q2Rx fun K z=>?_;refine ev3 g1 g2 k3 ?_;refine⟨by omega,_,deR_get hd,rfl,?_⟩;(try refine ev3 g1 g2 k3 ?_);apply z;clear z K)
  refine tI ?_
  refine sR q2Rx ?_
  exact aR
structure Prog.Fit (p:Prog):Prop where
 sm:p.Sm
 len:p.decls.length≤100000
 two:∀ d,d∈p.decls→d.Two
 par:∀ d,d∈p.decls→d.sig.params.length+1≤Go.Abs.sm
theorem Sig.count_par (s:Sig)(n:Int)(h0:0≤n)(h:s.count n≤2000):s.params.length≤2000:=by
 unfold Sig.count at h
 obtain⟨a1,a2⟩:=fo_Nn s.formals (n+((s.name.length / 50:Nat):Int))
 obtain⟨b1,b2⟩:=pa_Nn s.params (foCount s.formals (n+((s.name.length / 50:Nat):Int)))
 have c1:=Ty.count_ge s.result (paCount s.params (foCount s.formals (n+((s.name.length / 50:Nat):Int))))
 have:=(b2 (by omega) (by omega)).1
 omega
theorem Decl.count_par (d:Decl)(n:Int)(h0:0≤n)(h:d.count n≤2000):d.sig.params.length≤2000:=by
 unfold Decl.count at h
 generalize hm:n+1+((d.name.length / 50:Nat):Int)+((d.recv.length / 50:Nat):Int)=m at h
 obtain⟨a1,a2⟩:=fo_Nn d.formals m
 obtain⟨b1,b2⟩:=pa_Nn d.fields (foCount d.formals m)
 obtain⟨c1,c2⟩:=si_Nn d.sigs (paCount d.fields (foCount d.formals m))
 obtain⟨e1,e2⟩:=va_sm d.vars (siCount d.sigs (paCount d.fields (foCount d.formals m)))
 generalize hz:vaCount d.vars (siCount d.sigs (paCount d.fields (foCount d.formals m)))=z at *
 unfold Decl.count2 at h
 have g1:=Ex.count_ge d.body (d.sig.count z)
 split at h
 ·exact Sig.count_par d.sig z (by omega) (by omega)
 ·omega
theorem de_par:LSm deCount (fun d=>d.sig.params.length≤2000):=list_sm deCount Decl.count (fun d=>d.sig.params.length≤2000) (fun _=>rfl) (fun _ _ _=>rfl) (fun x k=>(Decl.count_sm x k).1) (fun x k h0 h=>Decl.count_par x k h0 h)
theorem Prog.count_Fit (p:Prog)(h:p.count≤600):p.Fit:=by
 have hn:=Prog.count_Nn p h
 have hs:=Prog.count_sm p h
 refine⟨hs.1,by have:=hs.2;omega,fun d hd=>(hn.decls d hd).two,fun d hd=>?_⟩
 unfold Prog.count at h
 have h1:=Ex.count_ge p.main 0
 obtain⟨a1,a2⟩:=de_par p.decls (p.main.count 0)
 have:=(a2 (by omega) (by omega)).2 d hd
 unfold Go.Abs.sm;omega
abbrev q3Rx:List Nat:=[0,1,2,4,5,6,8,13,21,27]
theorem ok_Program17 (p:Prog)(h:p.Fit)(st:Bool):CallOK prog 28 [prV p,boolV st] (rsV (progT p st)):=by
 have hpl:=h.sm.decls.1
 have hm0:(⟨p,st,[],[]⟩:TCtx).Sm:=⟨h.sm,by simp,by simp,by simp,by simp⟩
 have hmt:=ok_Type16 ⟨p,st,[],[]⟩ hm0 p.main h.sm.main
 generalize hR:progT p st=R
 unfold progT at hR
 refine cB func28 ?_
 refine sR q3Rx ?_
 (refine AWp.freeze 2 rfl rfl (wk [(1,boolV st),(2,.dptr (prC p) 0),(4,.box 4 0)] [(4,rs0)] ?_))
 refine kR q3Rx fun K1 u1=>?_
 refine AWp.block (AWp.forIdx p.decls (X:=Unit) (fun j _=>[(1,boolV st),(2,.dptr (prC p) 0),(4,.box 4 0),(5,intV j)]) (fun _ _=>[(4,rs0)])
  (fun j _=>progL p st (p.decls.drop j) j=R) () hR (by simp [sle,vle,sget,exC,tyC,foC,paC,siC,deC,prC]) (by simp [ble,bget,exC,tyC,foC,paC,siC,deC,prC]) ?_ ?_)
 rotate_left
 ·intro j _ d hd hmem dp tk hlt hI
  have hhd:=ok_Head15 p h.sm h.len j d hd (h.two d hmem)
  have hbo:=ok_Body17 p h.sm st j d hd (h.two d hmem) (h.par d hmem)
  rw [dp,progL] at hI
  refine kR1 hlt q3Rx fun K2 u2=>?_
  refine gI u2 ?_
  clear u2 K2
  refine sK fun K2 u2=>?_
  refine AWp.block ?_
  cases ho:headR p j d with
  | some q =>
   rw [ho] at hhd hI
   simp only [rsV,resO,badR,res0] at hhd hI
   refine sC hhd q3Rx ?_
   refine kR q3Rx fun K3 u3=>?_
   refine AWp.condF rfl (AWp.skip (u3 _ _ ?_))
   clear u3 K3
   refine sR q3Rx ?_
   refine AWp.condT rfl ?_
   refine sR q3Rx ?_
   rw [← hI]
   exact aR
  | none =>
   rw [ho] at hhd hI
   simp only [rsV,resO,badR,res0] at hhd hI
   generalize bodyT p st d=r at *
   obtain⟨q,b,l⟩:=r
   refine sC hhd q3Rx ?_
   refine kR q3Rx fun K3 u3=>?_
   refine AWp.condT rfl ?_
   (refine lV q3Rx fun K z=>?_;refine cc hbo ?_;apply z;clear z K;try simp only [thenA,blockA,if_true])
   refine u3 _ _ ?_
   clear u3 K3
   refine sR q3Rx ?_
   cases b with
   | true =>
    rw [if_pos rfl] at hI
    refine AWp.condT rfl ?_
    refine sR q3Rx ?_
    rw [← hI]
    exact aR
   | false =>
    rw [if_neg (by simp)] at hI
    refine AWp.condF rfl (AWp.skip (u2 _ _ ?_))
    clear u2 K2
    (refine lV q3Rx fun K z=>?_;refine cl ?_;apply z;clear z K;try simp only [thenA,blockA,if_true])
    exact⟨(),hI,(by simp [sle,vle,sget,exC,tyC,foC,paC,siC,deC,prC]),(by simp [ble,bget,exC,tyC,foC,paC,siC,deC,prC])⟩
 intro _ hI
 rw [List.drop_length,progL] at hI
 refine kR1 Int.lt_irrefl q3Rx fun K2 u2=>?_
 refine AWp.stopK rfl ?_
 simp only [thenA,blockA,if_true]
 refine u1 _ _ ?_
 clear u2 K2 u1 K1
 generalize typeE ⟨p,st,[],[]⟩ p.main=z at *
 obtain⟨x,r⟩:=z
 simp only at hI
 subst hI
 refine sC hmt q3Rx ?_
 refine sR q3Rx ?_
 exact aR
end Go.Abs
