/- castingsref18: sig, Decl, Edges; castingsref19: has, Reach, Leads, Expansive, Is -/
import Derived.Test.YtbhbfpjnenekpaaGreatDoorJW13
import Derived.Test.YtbhbfpjnenekpaaGreatDoorJSB
namespace Go.Abs
set_option maxHeartbeats 1000000
set_option linter.unusedSimpArgs false
set_option linter.unusedVariables false
open Go Go.Proofs Tryz
set_option maxRecDepth 100000
set_option maxHeartbeats 4000000
abbrev siS8 (s:Sig):List SV:=[.d (.str s.name),.d (.slice (foR s.formals)),.d (.slice (paR s.params)),.d (.str s.result.name),.d (.slice (tyR s.result.args)),.d (.int .i64 s.result.pos),.d (.int .i64 s.pos)]
abbrev q1ux:List Nat:=[0,1,2,5,6,7,8,13,37]
theorem ok_sig18 (s:List VarT)(hs:s.length≤10*sm)(l:List EdgeT)(x:Sig)(hf:x.formals.length≤sm)(hp:x.params.length≤sm)(hl:l.length+x.al*x.al≤1000000000000):CallOK prog 213 [edsV l,vrV s,siV x] (edsV (sigE s l x)):=by
 have hR1:∃ R1,x.formals.foldl (fun l f=>argsE s false f.bound.name 0 l f.bound.args) l=R1:=⟨_,rfl⟩
 obtain⟨R1,hR1⟩:=hR1
 have hR2:∃ R2,x.params.foldl (fun l p=>argsE s false p.type.name 0 l p.type.args) R1=R2:=⟨_,rfl⟩
 obtain⟨R2,hR2⟩:=hR2
 have e0:sigE s l x=argsE s false x.result.name 0 R2 x.result.args:=by unfold sigE;rw [hR1,hR2]
 rw [e0]
 unfold Sig.al at hl
 obtain⟨B,hB⟩:∃ B,B=paAl x.params+Ty.tlenL x.result.args:=⟨_,rfl⟩
 obtain⟨C,hC⟩:∃ C,C=Ty.tlenL x.result.args:=⟨_,rfl⟩
 refine cB func213 ?_
 refine sR q1ux ?_
 refine kR q1ux fun K1 u1=>?_
 refine AWp.block (AWp.forIdx x.formals (X:=List EdgeT) (fun j z=>[(0,edsV z),(1,vrV s),(5,.box 5 0),(7,intV j)]) (fun j z=>[(5,.cells (siS8 x))])
  (fun j z=>(x.formals.drop j).foldl (fun l f=>argsE s false f.bound.name 0 l f.bound.args) z=R1∧z.length+(foAl (x.formals.drop j)+B)*(foAl (x.formals.drop j)+B)≤1000000000000) l
  ⟨hR1,by rw [List.drop_zero,hB];rw [Nat.add_assoc] at hl;exact hl⟩ sS sB ?_ ?_)
 rotate_left
 ·intro j z d hd hmem dp tk hlt hI
  obtain⟨hI,hz⟩:=hI
  have hj:=(List.getElem?_eq_some_iff.1 hd).1
  rw [dp,List.foldl_cons] at hI
  have e1:foAl (x.formals.drop j)+B=Ty.tlenL d.bound.args+(foAl (x.formals.drop (j+1))+B):=by rw [dp];simp only [foAl,List.map_cons,List.sum_cons];omega
  rw [e1] at hz
  have hlen:=argsE_len s d.bound.args false d.bound.name 0 z
  have h1:=room_step hz hlen
  have h2:=sq_add (Ty.tlenL d.bound.args) (foAl (x.formals.drop (j+1))+B)
  have hc:=ok_args18 s hs false d.bound.name d.bound.args z (by omega)
  generalize argsE s false d.bound.name 0 z d.bound.args=z2 at *
  refine kR1 hlt q1ux fun K2 u2=>?_
  refine gI u2 ?_
  clear u2 K2
  refine sK fun K2 u2=>?_
  refine AWp.block ?_
  (refine lG q1ux [] 16 [] fun K z=>?_;refine ev ?_;refine ci (foR_get hd) ?_;refine ci (foR_get hd) ?_;refine cc hc ?_;apply z;clear z K;try simp only [thenA,blockA,if_true])
  refine u2 _ _ ?_
  clear u2 K2
  (refine lV q1ux fun K z=>?_;refine cl ?_;apply z;clear z K;try simp only [thenA,blockA,if_true])
  exact⟨z2,⟨hI,h1⟩,sS,by simp [ble,bget]⟩
 intro z hI
 obtain⟨hI,hz⟩:=hI
 rw [List.drop_length] at hI hz
 rw [List.foldl_nil] at hI
 subst hI
 have hz2:z.length+(paAl x.params+C)*(paAl x.params+C)≤1000000000000:=by
  have:foAl []+B=paAl x.params+C:=by rw [hB,hC];simp [foAl]
  rw [this] at hz;exact hz
 refine kR1 Int.lt_irrefl q1ux fun K2 u2=>?_
 refine AWp.stopK rfl ?_
 simp only [thenA,blockA,if_true]
 refine u1 _ _ ?_
 clear u2 K2 u1 K1
 refine kR q1ux fun K1 u1=>?_
 refine AWp.block (AWp.forIdx x.params (X:=List EdgeT) (fun j z=>[(0,edsV z),(1,vrV s),(5,.box 5 0),(8,intV j)]) (fun j z=>[(5,.cells (siS8 x))])
  (fun j z=>(x.params.drop j).foldl (fun l p=>argsE s false p.type.name 0 l p.type.args) z=R2∧z.length+(paAl (x.params.drop j)+C)*(paAl (x.params.drop j)+C)≤1000000000000) z
  ⟨hR2,by rw [List.drop_zero];exact hz2⟩ sS sB ?_ ?_)
 rotate_left
 ·intro j z d hd hmem dp tk hlt hI
  obtain⟨hI,hz⟩:=hI
  have hj:=(List.getElem?_eq_some_iff.1 hd).1
  rw [dp,List.foldl_cons] at hI
  have e1:paAl (x.params.drop j)+C=Ty.tlenL d.type.args+(paAl (x.params.drop (j+1))+C):=by rw [dp];simp only [paAl,List.map_cons,List.sum_cons];omega
  rw [e1] at hz
  have hlen:=argsE_len s d.type.args false d.type.name 0 z
  have h1:=room_step hz hlen
  have h2:=sq_add (Ty.tlenL d.type.args) (paAl (x.params.drop (j+1))+C)
  have hc:=ok_args18 s hs false d.type.name d.type.args z (by omega)
  generalize argsE s false d.type.name 0 z d.type.args=z2 at *
  refine kR1 hlt q1ux fun K2 u2=>?_
  refine gI u2 ?_
  clear u2 K2
  refine sK fun K2 u2=>?_
  refine AWp.block ?_
  (refine lG q1ux [] 16 [] fun K z=>?_;refine ev ?_;refine ci (paR_get hd) ?_;refine ci (paR_get hd) ?_;refine cc hc ?_;apply z;clear z K;try simp only [thenA,blockA,if_true])
  refine u2 _ _ ?_
  clear u2 K2
  (refine lV q1ux fun K z=>?_;refine cl ?_;apply z;clear z K;try simp only [thenA,blockA,if_true])
  exact⟨z2,⟨hI,h1⟩,sS,by simp [ble,bget]⟩
 intro z hI
 obtain⟨hI,hz⟩:=hI
 rw [List.drop_length] at hI hz
 rw [List.foldl_nil] at hI
 subst hI
 have hz3:z.length+Ty.tlenL x.result.args*Ty.tlenL x.result.args≤1000000000000:=by
  have:paAl []+C=Ty.tlenL x.result.args:=by rw [hC];simp [paAl]
  rw [this] at hz;exact hz
 have hc:=ok_args18 s hs false x.result.name x.result.args z hz3
 generalize argsE s false x.result.name 0 z x.result.args=z2 at *
 refine kR1 Int.lt_irrefl q1ux fun K2 u2=>?_
 refine AWp.stopK rfl ?_
 simp only [thenA,blockA,if_true]
 refine u1 _ _ ?_
 clear u2 K2 u1 K1
 refine sC hc q1ux ?_
 exact aR
abbrev q2ux:List Nat:=[0,1,3,4,5,6,7,8,9,12,37,87]
theorem ok_Decl18 (l:List EdgeT)(d:Decl)(hd:d.Sm)(hlist:(listE d.body).length≤sm)(hl:l.length+d.al*d.al≤1000000000000):CallOK prog 152 [edsV l,deV d] (edsV (declE l d)):=by
 have hvl:=hd.vars.1
 have hfl:=hd.formals.1
 have hsl:=hd.sigs.1
 have hgl:=hd.sig.formals.1
 rw [declE_eq]
 unfold Decl.al at hl
 by_cases hk:d.kind=3
 ·rw [if_pos hk] at hl ⊢
  have hv1:=ok_vars18 [] false d.name d.vars (by simp) hvl
  have hn:=ok_RefNames d.sig.formals hgl
  rw [show d.sig.formals.map (·.name)=fnames d.sig.formals from rfl] at hn
  have hv1l:=varsE_len [] false d.name d.vars
  have hfn:(fnames d.sig.formals).length≤sm:=by simpa [fnames] using hgl
  generalize varsE [] false d.name d.vars=s1 at *
  simp only [List.length_nil,Nat.zero_add] at hv1l
  have hv2:=ok_vars18 s1 true d.sig.name (fnames d.sig.formals) (by unfold sm at *;omega) hfn
  have hv2l:=varsE_len s1 true d.sig.name (fnames d.sig.formals)
  generalize varsE s1 true d.sig.name (fnames d.sig.formals)=s at *
  have hs:s.length≤10*sm:=by unfold sm at *;omega
  have hsq:=sq_add d.sig.al (exsAl (listE d.body))
  have hg:=ok_sig18 s hs l d.sig hgl hd.sig.params.1 (by omega)
  have hgl2:=sigE_len s l d.sig
  have hLi:=ok_RList d.body hlist
  have hz:=room_step hl hgl2
  generalize sigE s l d.sig=z0 at *
  have hR:∃ R,(listE d.body).foldl (exE s) z0=R:=⟨_,rfl⟩
  obtain⟨R,hR⟩:=hR
  rw [hR]
  generalize listE d.body=es at *
  refine cB func152 ?_
  refine sR q2ux ?_
  refine kR1 hk q2ux fun K1 u1=>?_
  refine AWp.condT rfl ?_
  (refine sG q2ux [] 12 [] fun K z=>?_;refine ev ?_;refine cc hv1 ?_;refine cc hn ?_;refine cc hv2 ?_;apply z;clear z K)
  refine sC hg q2ux ?_
  refine sC hLi q2ux ?_
  refine kR q2ux fun K2 u2=>?_
  refine AWp.block (AWp.forIdx es (X:=List EdgeT) (fun j z=>[(0,edsV z),(5,vrV s),(6,.d (.slice (exR es))),(7,intV j)]) (fun j z=>[])
   (fun j z=>(es.drop j).foldl (exE s) z=R∧z.length+exsAl (es.drop j)*exsAl (es.drop j)≤1000000000000) z0 ⟨hR,hz⟩ sS (by simp [ble]) ?_ ?_)
  rotate_left
  ·intro j z e he hmem dp tk hlt hI
   obtain⟨hI,hz⟩:=hI
   have hj:=(List.getElem?_eq_some_iff.1 he).1
   rw [dp,List.foldl_cons] at hI
   have e1:exsAl (es.drop j)=exAl e+exsAl (es.drop (j+1)):=by rw [dp];simp only [exsAl,List.map_cons,List.sum_cons]
   rw [e1] at hz
   have h1:=room_step hz (exE_len s z e)
   have h2:=sq_add (exAl e) (exsAl (es.drop (j+1)))
   have h3:=sq_add (Ty.tlenL e.type.args) (Ty.tlenL e.targs)
   have h4:=argsE_len s e.type.args false e.type.name 0 z
   have hc1:=ok_args18 s hs false e.type.name e.type.args z (by unfold exAl at *;omega)
   unfold exE at hI h1
   unfold exAl at *
   generalize argsE s false e.type.name 0 z e.type.args=z1 at *
   have hc2:=ok_args18 s hs true e.name e.targs z1 (by omega)
   generalize argsE s true e.name 0 z1 e.targs=z2 at *
   refine kR1 hlt q2ux fun K3 u3=>?_
   refine gI u3 ?_
   clear u3 K3
   refine sK fun K3 u3=>?_
   refine AWp.block ?_
   (refine sG q2ux [] 14 [] fun K z=>?_;refine ev ?_;refine ci (exR_get he) ?_;refine ci (exR_get he) ?_;refine cc hc1 ?_;apply z;clear z K)
   (refine lG q2ux [] 12 [] fun K z=>?_;refine ev ?_;refine ci (exR_get he) ?_;refine ci (exR_get he) ?_;refine cc hc2 ?_;apply z;clear z K;try simp only [thenA,blockA,if_true])
   refine u3 _ _ ?_
   clear u3 K3
   (refine lV q2ux fun K z=>?_;refine cl ?_;apply z;clear z K;try simp only [thenA,blockA,if_true])
   exact⟨z2,⟨hI,h1⟩,sS,by simp [ble]⟩
  intro z hI
  obtain⟨hI,_⟩:=hI
  rw [List.drop_length,List.foldl_nil] at hI
  subst hI
  refine kR1 Int.lt_irrefl q2ux fun K3 u3=>?_
  refine AWp.stopK rfl ?_
  simp only [thenA,blockA,if_true]
  refine u2 _ _ ?_
  clear u3 K3 u2 K2
  refine sR q2ux ?_
  exact aR
 ·rw [if_neg hk] at hl ⊢
  have hn:=ok_RefNames d.formals hfl
  rw [show d.formals.map (·.name)=fnames d.formals from rfl] at hn
  have hfn:(fnames d.formals).length≤sm:=by simpa [fnames] using hfl
  have hv1:=ok_vars18 [] false d.name (fnames d.formals) (by simp) hfn
  have hv1l:=varsE_len [] false d.name (fnames d.formals)
  simp only [List.length_nil,Nat.zero_add] at hv1l
  generalize varsE [] false d.name (fnames d.formals)=s at *
  have hs:s.length≤10*sm:=by unfold sm at *;omega
  have hal:=headE_al d
  have hsq:=sq_add (foAl d.formals+paAl d.fields) (siAl d.sigs)
  have hg:=ok_sig18 s hs l (headE d) hfl hd.fields.1 (by rw [hal];omega)
  have hgl2:=sigE_len s l (headE d)
  rw [hal] at hgl2
  have hz:=room_step hl hgl2
  generalize sigE s l (headE d)=z0 at *
  unfold headE at hg
  have hR:∃ R,d.sigs.foldl (sgE s) z0=R:=⟨_,rfl⟩
  obtain⟨R,hR⟩:=hR
  rw [hR]
  refine cB func152 ?_
  refine sR q2ux ?_
  refine kR1 hk q2ux fun K1 u1=>?_
  refine AWp.condF rfl (AWp.skip (u1 _ _ ?_))
  clear u1 K1
  (refine sG q2ux [] 5 [] fun K z=>?_;refine ev ?_;refine cc hn ?_;refine cc hv1 ?_;apply z;clear z K)
  refine sC hg q2ux ?_
  refine kR q2ux fun K2 u2=>?_
  refine AWp.block (AWp.forIdx d.sigs (X:=List EdgeT) (fun j z=>[(0,edsV z),(3,.box 3 0),(8,vrV s),(9,intV j)]) (fun j z=>[(3,.cells (deS d))])
   (fun j z=>(d.sigs.drop j).foldl (sgE s) z=R∧z.length+siAl (d.sigs.drop j)*siAl (d.sigs.drop j)≤1000000000000) z0 ⟨hR,hz⟩ sS sB ?_ ?_)
  rotate_left
  ·intro j z x hx hmem dp tk hlt hI
   obtain⟨hI,hz⟩:=hI
   have hj:=(List.getElem?_eq_some_iff.1 hx).1
   rw [dp,List.foldl_cons] at hI
   have e1:siAl (d.sigs.drop j)=x.al+siAl (d.sigs.drop (j+1)):=by rw [dp];simp only [siAl,List.map_cons,List.sum_cons]
   rw [e1] at hz
   have hxs:=hd.sigs.2 x hmem
   have hn:=ok_RefNames x.formals hxs.formals.1
   rw [show x.formals.map (·.name)=fnames x.formals from rfl] at hn
   have hfn:(fnames x.formals).length≤sm:=by simpa [fnames] using hxs.formals.1
   have hv2:=ok_vars18 s true x.name (fnames x.formals) hs hfn
   have hv2l:=varsE_len s true x.name (fnames x.formals)
   unfold sgE at hI
   have h1:=room_step hz (sigE_len (varsE s true x.name (fnames x.formals)) z x)
   have h2:=sq_add x.al (siAl (d.sigs.drop (j+1)))
   have hc:=ok_sig18 (varsE s true x.name (fnames x.formals)) (by rw [hv2l];unfold sm at *;omega) z x hxs.formals.1 hxs.params.1 (by omega)
   generalize varsE s true x.name (fnames x.formals)=s2 at *
   generalize sigE s2 z x=z2 at *
   refine kR1 hlt q2ux fun K3 u3=>?_
   refine gI u3 ?_
   clear u3 K3
   refine sK fun K3 u3=>?_
   refine AWp.block ?_
   (refine lG q2ux [] 21 [] fun K z=>?_;refine ev ?_;refine ci (siR_get hx) ?_;refine ci (siR_get hx) ?_;refine cc hn ?_;refine cc hv2 ?_;refine ci (siR_get hx) ?_;refine cc hc ?_;apply z;clear z K;try simp only [thenA,blockA,if_true])
   refine u3 _ _ ?_
   clear u3 K3
   (refine lV q2ux fun K z=>?_;refine cl ?_;apply z;clear z K;try simp only [thenA,blockA,if_true])
   exact⟨z2,⟨hI,h1⟩,sS,by simp [ble,bget]⟩
  intro z hI
  obtain⟨hI,_⟩:=hI
  rw [List.drop_length,List.foldl_nil] at hI
  subst hI
  refine kR1 Int.lt_irrefl q2ux fun K3 u3=>?_
  refine AWp.stopK rfl ?_
  simp only [thenA,blockA,if_true]
  refine u2 _ _ ?_
  clear u3 K3 u2 K2
  refine sR q2ux ?_
  exact aR
abbrev q3ux:List Nat:=[0,1,2,3,4,9]
theorem ok_Edges18 (p:Prog)(h:p.Sm)(hlist:∀ d,d∈p.decls→(listE d.body).length≤sm)(hl:deAl p.decls≤72000):CallOK prog 78 [prV p] (edsV (edgesP p)):=by
 have hpl:=h.decls.1
 have hR:∃ R,p.decls.foldl declE []=R:=⟨_,rfl⟩
 obtain⟨R,hR⟩:=hR
 unfold edgesP
 rw [hR]
 have hz0:([]:List EdgeT).length+deAl p.decls*deAl p.decls≤1000000000000:=by
  have:deAl p.decls*deAl p.decls≤72000*72000:=Nat.mul_le_mul hl hl
  simp only [List.length_nil];omega
 refine cB func78 ?_
 refine sR q3ux ?_
 refine sR q3ux ?_
 refine kR q3ux fun K1 u1=>?_
 refine AWp.block (AWp.forIdx p.decls (X:=List EdgeT) (fun j z=>[(1,.box 1 0),(3,edsV z),(4,intV j)]) (fun j z=>[(1,.cells ((prC p).map .d))])
  (fun j z=>(p.decls.drop j).foldl declE z=R∧z.length+deAl (p.decls.drop j)*deAl (p.decls.drop j)≤1000000000000) [] ⟨hR,hz0⟩ (by simp [sle,vle,sget,edR]) (by simp [ble,bget,prC]) ?_ ?_)
 rotate_left
 ·intro j z d hd hmem dp tk hlt hI
  obtain⟨hI,hz⟩:=hI
  have hj:=(List.getElem?_eq_some_iff.1 hd).1
  rw [dp,List.foldl_cons] at hI
  have e1:deAl (p.decls.drop j)=d.al+deAl (p.decls.drop (j+1)):=by rw [dp];simp only [deAl,List.map_cons,List.sum_cons]
  rw [e1] at hz
  have h1:=room_step hz (declE_len z d)
  have h2:=sq_add d.al (deAl (p.decls.drop (j+1)))
  have hc:=ok_Decl18 z d (h.decls.2 d hmem) (hlist d hmem) (by omega)
  generalize declE z d=z2 at *
  refine kR1 hlt q3ux fun K2 u2=>?_
  refine gI u2 ?_
  clear u2 K2
  refine sK fun K2 u2=>?_
  refine AWp.block ?_
  (refine lV q3ux fun K z=>?_;refine ci (deR_get hd) ?_;refine cc hc ?_;apply z;clear z K;try simp only [thenA,blockA,if_true])
  refine u2 _ _ ?_
  clear u2 K2
  (refine lV q3ux fun K z=>?_;refine cl ?_;apply z;clear z K;try simp only [thenA,blockA,if_true])
  exact⟨z2,⟨hI,h1⟩,sS,by simp [ble,bget,prC]⟩
 intro z hI
 obtain⟨hI,_⟩:=hI
 rw [List.drop_length,List.foldl_nil] at hI
 subst hI
 refine kR1 Int.lt_irrefl q3ux fun K2 u2=>?_
 refine AWp.stopK rfl ?_
 simp only [thenA,blockA,if_true]
 refine u1 _ _ ?_
 clear u2 K2 u1 K1
 refine sR q3ux ?_
 exact aR
abbrev q4ux:List Nat:=[0,1,3,4,5,9,17]
theorem ok_has19 (l:List NodeT)(n:NodeT)(hl:l.length≤1000000000000):CallOK prog 210 [.d (.slice (noR l)),noV n] (boolV (decide (n∈l))):=by
 refine cB func210 ?_
 refine sR q4ux ?_
 refine kR q4ux fun K1 u1=>?_
 refine AWp.block (AWp.forIdx l (X:=Unit) (fun j _=>[(0,.d (.slice (noR l))),(3,.box 3 0),(5,intV j)]) (fun j _=>[(3,.cells (noS n))])
  (fun j _=>decide (n∈l)=decide (n∈l.drop j)) () rfl sS sB ?_ ?_)
 rotate_left
 ·intro j _ d hd hmem dp tk hlt hI
  have hj:=(List.getElem?_eq_some_iff.1 hd).1
  rw [dp] at hI
  refine sK fun K2 u2=>?_
  (refine sQ q4ux fun K z=>?_;simp -implicitDefEqProofs only [EV,forall_const,implies_true,Nat.reduceAdd,Nat.reduceEqDiff,Nat.reduceBEq,Nat.reduceLeDiff,Nat.reduceSub,Nat.reduceMul,Int.reduceEq,Int.reduceLT,Int.reduceLE,Int.reduceSub,Int.reduceAdd,Int.reduceToNat,reduceCtorEq,Int.reduceNeg,TF3,TF4,TF9,TF196,TF254,hlt,noR_len];apply z;clear z K)
  refine gI u2 ?_
  clear u2 K2
  refine sK fun K2 u2=>?_
  refine AWp.block ?_
  by_cases hn:d=n
  ·subst hn
   rw [decide_eq_true hmem]
   (refine sG q4ux [] 5 [] fun K z=>?_;simp -implicitDefEqProofs only [EV,forall_const,implies_true,Nat.reduceAdd,Nat.reduceEqDiff,Nat.reduceBEq,Nat.reduceLeDiff,Nat.reduceSub,Nat.reduceMul,Int.reduceEq,Int.reduceLT,Int.reduceLE,Int.reduceSub,Int.reduceAdd,Int.reduceToNat,reduceCtorEq,Int.reduceNeg,TF3,TF4,TF9,TF196,TF254,noC];refine⟨by omega,_,noR_get hd,rfl,?_⟩;(try simp -implicitDefEqProofs only [EV,forall_const,implies_true,Nat.reduceAdd,Nat.reduceEqDiff,Nat.reduceBEq,Nat.reduceLeDiff,Nat.reduceSub,Nat.reduceMul,Int.reduceEq,Int.reduceLT,Int.reduceLE,Int.reduceSub,Int.reduceAdd,Int.reduceToNat,reduceCtorEq,Int.reduceNeg,TF3,TF4,TF9,TF196,TF254,noC]);refine⟨_,opQ_eqN d d rfl rfl,?_⟩;(try simp -implicitDefEqProofs only [EV,forall_const,implies_true,Nat.reduceAdd,Nat.reduceEqDiff,Nat.reduceBEq,Nat.reduceLeDiff,Nat.reduceSub,Nat.reduceMul,Int.reduceEq,Int.reduceLT,Int.reduceLE,Int.reduceSub,Int.reduceAdd,Int.reduceToNat,reduceCtorEq,Int.reduceNeg,TF3,TF4,TF9,TF196,TF254,noC]);apply z;clear z K)
   refine AWp.condT rfl ?_
   refine sR q4ux ?_
   exact aR
  ·(refine sG q4ux [] 5 [] fun K z=>?_;simp -implicitDefEqProofs only [EV,forall_const,implies_true,Nat.reduceAdd,Nat.reduceEqDiff,Nat.reduceBEq,Nat.reduceLeDiff,Nat.reduceSub,Nat.reduceMul,Int.reduceEq,Int.reduceLT,Int.reduceLE,Int.reduceSub,Int.reduceAdd,Int.reduceToNat,reduceCtorEq,Int.reduceNeg,TF3,TF4,TF9,TF196,TF254,noC,hn];refine⟨by omega,_,noR_get hd,rfl,?_⟩;(try simp -implicitDefEqProofs only [EV,forall_const,implies_true,Nat.reduceAdd,Nat.reduceEqDiff,Nat.reduceBEq,Nat.reduceLeDiff,Nat.reduceSub,Nat.reduceMul,Int.reduceEq,Int.reduceLT,Int.reduceLE,Int.reduceSub,Int.reduceAdd,Int.reduceToNat,reduceCtorEq,Int.reduceNeg,TF3,TF4,TF9,TF196,TF254,noC,hn]);refine⟨_,opQ_eqN d n rfl rfl,?_⟩;(try simp -implicitDefEqProofs only [EV,forall_const,implies_true,Nat.reduceAdd,Nat.reduceEqDiff,Nat.reduceBEq,Nat.reduceLeDiff,Nat.reduceSub,Nat.reduceMul,Int.reduceEq,Int.reduceLT,Int.reduceLE,Int.reduceSub,Int.reduceAdd,Int.reduceToNat,reduceCtorEq,Int.reduceNeg,TF3,TF4,TF9,TF196,TF254,noC,hn]);apply z;clear z K)
   refine AWp.condF rfl (AWp.skip (u2 _ _ ?_))
   clear u2 K2
   (refine lV q4ux fun K z=>?_;refine cl ?_;apply z;clear z K;try simp only [thenA,blockA,if_true])
   exact⟨(),by rw [hI];simp [Ne.symm hn],sS,by simp [ble,bget]⟩
 intro _ hI
 rw [List.drop_length] at hI
 rw [hI,show decide (n∈([]:List NodeT))=false by simp] at u1
 refine sK fun K2 u2=>?_
 (refine sQ q4ux fun K z=>?_;simp -implicitDefEqProofs only [EV,forall_const,implies_true,Nat.reduceAdd,Nat.reduceEqDiff,Nat.reduceBEq,Nat.reduceLeDiff,Nat.reduceSub,Nat.reduceMul,Int.reduceEq,Int.reduceLT,Int.reduceLE,Int.reduceSub,Int.reduceAdd,Int.reduceToNat,reduceCtorEq,Int.reduceNeg,TF3,TF4,TF9,TF196,TF254,Int.lt_irrefl,noR_len];apply z;clear z K)
 refine AWp.stopK rfl ?_
 simp only [thenA,blockA,if_true]
 refine u1 _ _ ?_
 refine sR q4ux ?_
 exact aR
theorem nodup_len19 {α:Type} [DecidableEq α]:∀ {out m:List α},out.Nodup→(∀ x,x∈out→x∈m)→out.length≤m.length
 | [],_,_,_=>by simp
 | x::xs,m,h,hs=>by
  rw [List.nodup_cons] at h
  have hx:=hs x (by simp)
  have h1:=nodup_len19 (m:=m.erase x) h.2 fun y hy=>(List.mem_erase_of_ne (by rintro rfl;exact h.1 hy)).2 (hs y (by simp [hy]))
  rw [List.length_erase_of_mem hx] at h1
  have:=List.length_pos_of_mem hx
  rw [List.length_cons];omega
structure OutOK (l:List EdgeT)(out:List NodeT):Prop where
 nd:out.Nodup
 sub:∀ x,x∈out→x∈l.map (·.dst)
theorem OutOK.len {l:List EdgeT} {out:List NodeT} (h:OutOK l out):out.length≤l.length:=by
 have:=nodup_len19 h.nd h.sub
 rwa [List.length_map] at this
theorem OutOK.step {l:List EdgeT} {out:List NodeT} (h:OutOK l out)(n:NodeT) {e:EdgeT} (he:e∈l):OutOK l (reach1 n out e):=by
 unfold reach1
 split
 ·rename_i hc
  refine⟨?_,fun x hx=>?_⟩
  ·rw [List.nodup_append]
   exact⟨h.nd,by simp,fun a ha b hb=>by simp only [List.mem_cons,List.not_mem_nil,or_false] at hb;rintro rfl;exact hc.2 (hb ▸ ha)⟩
  ·rcases List.mem_append.1 hx with hx | hx
   ·exact h.sub x hx
   ·simp only [List.mem_cons,List.not_mem_nil,or_false] at hx
    subst hx
    exact List.mem_map.2 ⟨e,he,rfl⟩
 ·exact h
theorem reach1_ge (n:NodeT)(out:List NodeT)(e:EdgeT):out.length≤(reach1 n out e).length:=by
 unfold reach1;split <;> simp
theorem fold_ge (n:NodeT):∀ (l:List EdgeT)(out:List NodeT),out.length≤(l.foldl (reach1 n) out).length
 | [],_=>by simp
 | e::l,out=>by rw [List.foldl_cons];exact Nat.le_trans (reach1_ge n out e) (fold_ge n l _)
abbrev q5ux:List Nat:=[0,1,3,4,5,6,7,11,17,45]
theorem ok_Reach19 (l:List EdgeT)(n:NodeT)(hl:l.length≤1000000000000):CallOK prog 211 [edsV l,noV n] (.d (.slice (noR (reachE l n)))):=by
 have hR:∃ R,reachE l n=R:=⟨_,rfl⟩
 obtain⟨R,hR⟩:=hR
 rw [hR]
 unfold reachE at hR
 refine cB func211 ?_
 refine sR q5ux ?_
 refine sR q5ux ?_
 refine AWp.promote 5 3 5 rfl ?_
 refine kR q5ux fun K1 u1=>?_
 refine AWp.block (AWp.loop (X:=Nat × Int × List NodeT) (fun z=>[(0,edsV l),(3,.box 3 0),(5,.acc 5),(6,intV z.2.1)]) (fun z=>[(3,.cells (noS n)),(5,.rows 3 (noR z.2.2))])
  (fun z=>reachG l n z.1 z.2.1 z.2.2=R∧OutOK l z.2.2∧(z.2.1=(z.2.2.length:Int)∨l.length+3≤z.1+z.2.2.length)) (fun z=>z.1) (l.length+3,-1,[])
  ⟨hR,⟨by simp,by simp⟩,.inr (by simp)⟩ sS (by simp [ble,bget,noR]) ?_)
 rintro⟨k,c,out⟩ ⟨hI,hO,hF⟩
 simp only at hI hO hF ⊢
 have hol:=hO.len
 by_cases hc:c=(out.length:Int)
 ·have hRo:R=out:=by
   cases k with
   | zero=>rw [reachG] at hI;exact hI.symm
   | succ k=>rw [reachG,if_pos hc] at hI;exact hI.symm
  subst hRo
  refine sK fun K2 u2=>?_
  (refine sQ q5ux fun K z=>?_;simp -implicitDefEqProofs only [EV,forall_const,implies_true,Nat.reduceAdd,Nat.reduceEqDiff,Nat.reduceBEq,Nat.reduceLeDiff,Nat.reduceSub,Nat.reduceMul,Int.reduceEq,Int.reduceLT,Int.reduceLE,Int.reduceSub,Int.reduceAdd,Int.reduceToNat,reduceCtorEq,Int.reduceNeg,TF3,TF4,TF9,TF127,TF196,TF198,TF254,hc,noR_len,ne_eq,not_true_eq_false,decide_false];apply z;clear z K)
  refine AWp.stopK rfl ?_
  simp only [thenA,blockA,if_true]
  refine u1 _ _ ?_
  clear u2 K2 u1 K1
  refine sR q5ux ?_
  exact aR
 have hF2:=hF.resolve_left hc
 cases k with
 | zero=>omega
 | succ k =>
 rw [reachG,if_neg hc] at hI
 refine sK fun K2 u2=>?_
 (refine sQ q5ux fun K z=>?_;simp -implicitDefEqProofs only [EV,forall_const,implies_true,Nat.reduceAdd,Nat.reduceEqDiff,Nat.reduceBEq,Nat.reduceLeDiff,Nat.reduceSub,Nat.reduceMul,Int.reduceEq,Int.reduceLT,Int.reduceLE,Int.reduceSub,Int.reduceAdd,Int.reduceToNat,reduceCtorEq,Int.reduceNeg,TF3,TF4,TF9,TF127,TF196,TF198,TF254,hc,noR_len,ne_eq,not_false_eq_true,decide_true];apply z;clear z K)
 refine gI u2 ?_
 clear u2 K2
 refine AWp.block ?_
 (refine sQ q5ux fun K z=>?_;simp -implicitDefEqProofs only [EV,forall_const,implies_true,Nat.reduceAdd,Nat.reduceEqDiff,Nat.reduceBEq,Nat.reduceLeDiff,Nat.reduceSub,Nat.reduceMul,Int.reduceEq,Int.reduceLT,Int.reduceLE,Int.reduceSub,Int.reduceAdd,Int.reduceToNat,reduceCtorEq,Int.reduceNeg,TF3,TF4,TF9,TF127,TF196,TF198,TF254,noR_len];apply z;clear z K)
 refine sR q5ux ?_
 refine AWp.block (AWp.forIdx l (X:=List NodeT) (fun j z=>[(0,edsV l),(3,.box 3 0),(5,.acc 5),(6,intV out.length),(7,intV j)]) (fun j z=>[(3,.cells (noS n)),(5,.rows 3 (noR z))])
  (fun j z=>(l.drop j).foldl (reach1 n) z=l.foldl (reach1 n) out∧OutOK l z) out ⟨rfl,hO⟩ sS sB ?_ ?_)
 rotate_left
 ·intro j z e he hmem dp tk hlt hz
  obtain⟨hz,hzO⟩:=hz
  have hj:=(List.getElem?_eq_some_iff.1 he).1
  have hzl:=hzO.len
  have hz2O:=hzO.step n hmem
  have hz2l:=hz2O.len
  rw [dp,List.foldl_cons] at hz
  have hh1:=ok_has19 z e.src (by omega)
  have hh2:=ok_has19 z e.dst (by omega)
  refine sK fun K2 u2=>?_
  (refine sQ q5ux fun K z=>?_;simp -implicitDefEqProofs only [EV,forall_const,implies_true,Nat.reduceAdd,Nat.reduceEqDiff,Nat.reduceBEq,Nat.reduceLeDiff,Nat.reduceSub,Nat.reduceMul,Int.reduceEq,Int.reduceLT,Int.reduceLE,Int.reduceSub,Int.reduceAdd,Int.reduceToNat,reduceCtorEq,Int.reduceNeg,TF3,TF4,TF9,TF127,TF196,TF198,TF254,hlt,edR_len];apply z;clear z K)
  refine gI u2 ?_
  clear u2 K2
  refine sK fun K2 u2=>?_
  refine AWp.block ?_
  have skip:reach1 n z e=z→∀ sl bx,sle sl [(0,edsV l),(3,.box 3 0),(5,.acc 5),(6,intV out.length),(7,intV j)]→ble bx [(3,.cells (noS n)),(5,.rows 3 (noR z))]→K2 sl bx:=by
   intro hr sl bx s1 s2
   rw [hr] at hz
   refine u2 _ _ (AWp.weaken s1 s2 ?_)
   clear u2 K2
   (refine lV q5ux fun K z=>?_;refine cl ?_;apply z;clear z K;try simp only [thenA,blockA,if_true])
   exact⟨z,⟨hz,hzO⟩,sS,by simp [ble,bget]⟩
  by_cases h1:e.src=n∨e.src∈z
  ·by_cases h2:e.dst∈z
   ·rw [decide_eq_true h2] at hh2
    have hr:reach1 n z e=z:=by unfold reach1;rw [if_neg (fun h=>h.2 h2)]
    by_cases h3:e.src=n
    ·(refine sG q5ux [] 23 [] fun K z=>?_;simp -implicitDefEqProofs only [EV,forall_const,implies_true,Nat.reduceAdd,Nat.reduceEqDiff,Nat.reduceBEq,Nat.reduceLeDiff,Nat.reduceSub,Nat.reduceMul,Int.reduceEq,Int.reduceLT,Int.reduceLE,Int.reduceSub,Int.reduceAdd,Int.reduceToNat,reduceCtorEq,Int.reduceNeg,TF3,TF4,TF9,TF127,TF196,TF198,TF254,edC,h3];refine⟨by omega,_,edR_get he,rfl,?_⟩;(try simp -implicitDefEqProofs only [EV,forall_const,implies_true,Nat.reduceAdd,Nat.reduceEqDiff,Nat.reduceBEq,Nat.reduceLeDiff,Nat.reduceSub,Nat.reduceMul,Int.reduceEq,Int.reduceLT,Int.reduceLE,Int.reduceSub,Int.reduceAdd,Int.reduceToNat,reduceCtorEq,Int.reduceNeg,TF3,TF4,TF9,TF127,TF196,TF198,TF254,edC,h3]);refine⟨_,opQ_eqN n n rfl rfl,?_⟩;(try simp -implicitDefEqProofs only [EV,forall_const,implies_true,Nat.reduceAdd,Nat.reduceEqDiff,Nat.reduceBEq,Nat.reduceLeDiff,Nat.reduceSub,Nat.reduceMul,Int.reduceEq,Int.reduceLT,Int.reduceLE,Int.reduceSub,Int.reduceAdd,Int.reduceToNat,reduceCtorEq,Int.reduceNeg,TF3,TF4,TF9,TF127,TF196,TF198,TF254,edC,h3]);refine⟨by omega,_,edR_get he,rfl,?_⟩;(try simp -implicitDefEqProofs only [EV,forall_const,implies_true,Nat.reduceAdd,Nat.reduceEqDiff,Nat.reduceBEq,Nat.reduceLeDiff,Nat.reduceSub,Nat.reduceMul,Int.reduceEq,Int.reduceLT,Int.reduceLE,Int.reduceSub,Int.reduceAdd,Int.reduceToNat,reduceCtorEq,Int.reduceNeg,TF3,TF4,TF9,TF127,TF196,TF198,TF254,edC,h3]);refine⟨_,.inr ⟨_,rfl,hh2,rfl⟩,?_⟩;(try simp -implicitDefEqProofs only [EV,forall_const,implies_true,Nat.reduceAdd,Nat.reduceEqDiff,Nat.reduceBEq,Nat.reduceLeDiff,Nat.reduceSub,Nat.reduceMul,Int.reduceEq,Int.reduceLT,Int.reduceLE,Int.reduceSub,Int.reduceAdd,Int.reduceToNat,reduceCtorEq,Int.reduceNeg,TF3,TF4,TF9,TF127,TF196,TF198,TF254,edC,h3]);apply z;clear z K)
     refine AWp.condF rfl (AWp.skip ?_)
     exact skip hr _ _ sS sB
    ·rw [decide_eq_true (h1.resolve_left h3)] at hh1
     (refine sG q5ux [] 23 [] fun K z=>?_;simp -implicitDefEqProofs only [EV,forall_const,implies_true,Nat.reduceAdd,Nat.reduceEqDiff,Nat.reduceBEq,Nat.reduceLeDiff,Nat.reduceSub,Nat.reduceMul,Int.reduceEq,Int.reduceLT,Int.reduceLE,Int.reduceSub,Int.reduceAdd,Int.reduceToNat,reduceCtorEq,Int.reduceNeg,TF3,TF4,TF9,TF127,TF196,TF198,TF254,edC,h3];refine⟨by omega,_,edR_get he,rfl,?_⟩;(try simp -implicitDefEqProofs only [EV,forall_const,implies_true,Nat.reduceAdd,Nat.reduceEqDiff,Nat.reduceBEq,Nat.reduceLeDiff,Nat.reduceSub,Nat.reduceMul,Int.reduceEq,Int.reduceLT,Int.reduceLE,Int.reduceSub,Int.reduceAdd,Int.reduceToNat,reduceCtorEq,Int.reduceNeg,TF3,TF4,TF9,TF127,TF196,TF198,TF254,edC,h3]);refine⟨_,opQ_eqN e.src n rfl rfl,?_⟩;(try simp -implicitDefEqProofs only [EV,forall_const,implies_true,Nat.reduceAdd,Nat.reduceEqDiff,Nat.reduceBEq,Nat.reduceLeDiff,Nat.reduceSub,Nat.reduceMul,Int.reduceEq,Int.reduceLT,Int.reduceLE,Int.reduceSub,Int.reduceAdd,Int.reduceToNat,reduceCtorEq,Int.reduceNeg,TF3,TF4,TF9,TF127,TF196,TF198,TF254,edC,h3]);refine⟨by omega,_,edR_get he,rfl,?_⟩;(try simp -implicitDefEqProofs only [EV,forall_const,implies_true,Nat.reduceAdd,Nat.reduceEqDiff,Nat.reduceBEq,Nat.reduceLeDiff,Nat.reduceSub,Nat.reduceMul,Int.reduceEq,Int.reduceLT,Int.reduceLE,Int.reduceSub,Int.reduceAdd,Int.reduceToNat,reduceCtorEq,Int.reduceNeg,TF3,TF4,TF9,TF127,TF196,TF198,TF254,edC,h3]);refine⟨_,.inr ⟨_,rfl,hh1,rfl⟩,?_⟩;(try simp -implicitDefEqProofs only [EV,forall_const,implies_true,Nat.reduceAdd,Nat.reduceEqDiff,Nat.reduceBEq,Nat.reduceLeDiff,Nat.reduceSub,Nat.reduceMul,Int.reduceEq,Int.reduceLT,Int.reduceLE,Int.reduceSub,Int.reduceAdd,Int.reduceToNat,reduceCtorEq,Int.reduceNeg,TF3,TF4,TF9,TF127,TF196,TF198,TF254,edC,h3]);refine⟨by omega,_,edR_get he,rfl,?_⟩;(try simp -implicitDefEqProofs only [EV,forall_const,implies_true,Nat.reduceAdd,Nat.reduceEqDiff,Nat.reduceBEq,Nat.reduceLeDiff,Nat.reduceSub,Nat.reduceMul,Int.reduceEq,Int.reduceLT,Int.reduceLE,Int.reduceSub,Int.reduceAdd,Int.reduceToNat,reduceCtorEq,Int.reduceNeg,TF3,TF4,TF9,TF127,TF196,TF198,TF254,edC,h3]);refine⟨_,.inr ⟨_,rfl,hh2,rfl⟩,?_⟩;(try simp -implicitDefEqProofs only [EV,forall_const,implies_true,Nat.reduceAdd,Nat.reduceEqDiff,Nat.reduceBEq,Nat.reduceLeDiff,Nat.reduceSub,Nat.reduceMul,Int.reduceEq,Int.reduceLT,Int.reduceLE,Int.reduceSub,Int.reduceAdd,Int.reduceToNat,reduceCtorEq,Int.reduceNeg,TF3,TF4,TF9,TF127,TF196,TF198,TF254,edC,h3]);apply z;clear z K)
     refine AWp.condF rfl (AWp.skip ?_)
     exact skip hr _ _ sS sB
   ·rw [decide_eq_false h2] at hh2
    have hr:reach1 n z e=z++[e.dst]:=by unfold reach1;rw [if_pos ⟨h1,h2⟩]
    rw [hr] at hz hz2O hz2l
    rw [List.length_append] at hz2l
    simp only [List.length_cons,List.length_nil] at hz2l
    by_cases h3:e.src=n
    ·(refine sG q5ux [] 23 [] fun K z=>?_;simp -implicitDefEqProofs only [EV,forall_const,implies_true,Nat.reduceAdd,Nat.reduceEqDiff,Nat.reduceBEq,Nat.reduceLeDiff,Nat.reduceSub,Nat.reduceMul,Int.reduceEq,Int.reduceLT,Int.reduceLE,Int.reduceSub,Int.reduceAdd,Int.reduceToNat,reduceCtorEq,Int.reduceNeg,TF3,TF4,TF9,TF127,TF196,TF198,TF254,edC,h3];refine⟨by omega,_,edR_get he,rfl,?_⟩;(try simp -implicitDefEqProofs only [EV,forall_const,implies_true,Nat.reduceAdd,Nat.reduceEqDiff,Nat.reduceBEq,Nat.reduceLeDiff,Nat.reduceSub,Nat.reduceMul,Int.reduceEq,Int.reduceLT,Int.reduceLE,Int.reduceSub,Int.reduceAdd,Int.reduceToNat,reduceCtorEq,Int.reduceNeg,TF3,TF4,TF9,TF127,TF196,TF198,TF254,edC,h3]);refine⟨_,opQ_eqN n n rfl rfl,?_⟩;(try simp -implicitDefEqProofs only [EV,forall_const,implies_true,Nat.reduceAdd,Nat.reduceEqDiff,Nat.reduceBEq,Nat.reduceLeDiff,Nat.reduceSub,Nat.reduceMul,Int.reduceEq,Int.reduceLT,Int.reduceLE,Int.reduceSub,Int.reduceAdd,Int.reduceToNat,reduceCtorEq,Int.reduceNeg,TF3,TF4,TF9,TF127,TF196,TF198,TF254,edC,h3]);refine⟨by omega,_,edR_get he,rfl,?_⟩;(try simp -implicitDefEqProofs only [EV,forall_const,implies_true,Nat.reduceAdd,Nat.reduceEqDiff,Nat.reduceBEq,Nat.reduceLeDiff,Nat.reduceSub,Nat.reduceMul,Int.reduceEq,Int.reduceLT,Int.reduceLE,Int.reduceSub,Int.reduceAdd,Int.reduceToNat,reduceCtorEq,Int.reduceNeg,TF3,TF4,TF9,TF127,TF196,TF198,TF254,edC,h3]);refine⟨_,.inr ⟨_,rfl,hh2,rfl⟩,?_⟩;(try simp -implicitDefEqProofs only [EV,forall_const,implies_true,Nat.reduceAdd,Nat.reduceEqDiff,Nat.reduceBEq,Nat.reduceLeDiff,Nat.reduceSub,Nat.reduceMul,Int.reduceEq,Int.reduceLT,Int.reduceLE,Int.reduceSub,Int.reduceAdd,Int.reduceToNat,reduceCtorEq,Int.reduceNeg,TF3,TF4,TF9,TF127,TF196,TF198,TF254,edC,h3]);apply z;clear z K)
     refine AWp.condT rfl ?_
     (refine lQ q5ux fun K z=>?_;simp -implicitDefEqProofs only [EV,forall_const,implies_true,Nat.reduceAdd,Nat.reduceEqDiff,Nat.reduceBEq,Nat.reduceLeDiff,Nat.reduceSub,Nat.reduceMul,Int.reduceEq,Int.reduceLT,Int.reduceLE,Int.reduceSub,Int.reduceAdd,Int.reduceToNat,reduceCtorEq,Int.reduceNeg,TF3,TF4,TF9,TF127,TF196,TF198,TF254,edC,noR_len];refine⟨by omega,_,edR_get he,rfl,?_⟩;(try simp -implicitDefEqProofs only [EV,forall_const,implies_true,Nat.reduceAdd,Nat.reduceEqDiff,Nat.reduceBEq,Nat.reduceLeDiff,Nat.reduceSub,Nat.reduceMul,Int.reduceEq,Int.reduceLT,Int.reduceLE,Int.reduceSub,Int.reduceAdd,Int.reduceToNat,reduceCtorEq,Int.reduceNeg,TF3,TF4,TF9,TF127,TF196,TF198,TF254,edC,noR_len]);refine⟨by simp,by (try simp only [noR_len]);unfold lim;omega,?_⟩;(try simp -implicitDefEqProofs only [EV,forall_const,implies_true,Nat.reduceAdd,Nat.reduceEqDiff,Nat.reduceBEq,Nat.reduceLeDiff,Nat.reduceSub,Nat.reduceMul,Int.reduceEq,Int.reduceLT,Int.reduceLE,Int.reduceSub,Int.reduceAdd,Int.reduceToNat,reduceCtorEq,Int.reduceNeg,TF3,TF4,TF9,TF127,TF196,TF198,TF254,edC,noR_len]);apply z;clear z K;try simp only [thenA,blockA,if_true])
     refine u2 _ _ ?_
     clear skip u2 K2
     (refine lV q5ux fun K z=>?_;refine cl ?_;apply z;clear z K;try simp only [thenA,blockA,if_true])
     exact⟨z++[e.dst],⟨hz,hz2O⟩,sS,by simp [ble,bget,noR,noC]⟩
    ·rw [decide_eq_true (h1.resolve_left h3)] at hh1
     (refine sG q5ux [] 23 [] fun K z=>?_;simp -implicitDefEqProofs only [EV,forall_const,implies_true,Nat.reduceAdd,Nat.reduceEqDiff,Nat.reduceBEq,Nat.reduceLeDiff,Nat.reduceSub,Nat.reduceMul,Int.reduceEq,Int.reduceLT,Int.reduceLE,Int.reduceSub,Int.reduceAdd,Int.reduceToNat,reduceCtorEq,Int.reduceNeg,TF3,TF4,TF9,TF127,TF196,TF198,TF254,edC,h3];refine⟨by omega,_,edR_get he,rfl,?_⟩;(try simp -implicitDefEqProofs only [EV,forall_const,implies_true,Nat.reduceAdd,Nat.reduceEqDiff,Nat.reduceBEq,Nat.reduceLeDiff,Nat.reduceSub,Nat.reduceMul,Int.reduceEq,Int.reduceLT,Int.reduceLE,Int.reduceSub,Int.reduceAdd,Int.reduceToNat,reduceCtorEq,Int.reduceNeg,TF3,TF4,TF9,TF127,TF196,TF198,TF254,edC,h3]);refine⟨_,opQ_eqN e.src n rfl rfl,?_⟩;(try simp -implicitDefEqProofs only [EV,forall_const,implies_true,Nat.reduceAdd,Nat.reduceEqDiff,Nat.reduceBEq,Nat.reduceLeDiff,Nat.reduceSub,Nat.reduceMul,Int.reduceEq,Int.reduceLT,Int.reduceLE,Int.reduceSub,Int.reduceAdd,Int.reduceToNat,reduceCtorEq,Int.reduceNeg,TF3,TF4,TF9,TF127,TF196,TF198,TF254,edC,h3]);refine⟨by omega,_,edR_get he,rfl,?_⟩;(try simp -implicitDefEqProofs only [EV,forall_const,implies_true,Nat.reduceAdd,Nat.reduceEqDiff,Nat.reduceBEq,Nat.reduceLeDiff,Nat.reduceSub,Nat.reduceMul,Int.reduceEq,Int.reduceLT,Int.reduceLE,Int.reduceSub,Int.reduceAdd,Int.reduceToNat,reduceCtorEq,Int.reduceNeg,TF3,TF4,TF9,TF127,TF196,TF198,TF254,edC,h3]);refine⟨_,.inr ⟨_,rfl,hh1,rfl⟩,?_⟩;(try simp -implicitDefEqProofs only [EV,forall_const,implies_true,Nat.reduceAdd,Nat.reduceEqDiff,Nat.reduceBEq,Nat.reduceLeDiff,Nat.reduceSub,Nat.reduceMul,Int.reduceEq,Int.reduceLT,Int.reduceLE,Int.reduceSub,Int.reduceAdd,Int.reduceToNat,reduceCtorEq,Int.reduceNeg,TF3,TF4,TF9,TF127,TF196,TF198,TF254,edC,h3]);refine⟨by omega,_,edR_get he,rfl,?_⟩;(try simp -implicitDefEqProofs only [EV,forall_const,implies_true,Nat.reduceAdd,Nat.reduceEqDiff,Nat.reduceBEq,Nat.reduceLeDiff,Nat.reduceSub,Nat.reduceMul,Int.reduceEq,Int.reduceLT,Int.reduceLE,Int.reduceSub,Int.reduceAdd,Int.reduceToNat,reduceCtorEq,Int.reduceNeg,TF3,TF4,TF9,TF127,TF196,TF198,TF254,edC,h3]);refine⟨_,.inr ⟨_,rfl,hh2,rfl⟩,?_⟩;(try simp -implicitDefEqProofs only [EV,forall_const,implies_true,Nat.reduceAdd,Nat.reduceEqDiff,Nat.reduceBEq,Nat.reduceLeDiff,Nat.reduceSub,Nat.reduceMul,Int.reduceEq,Int.reduceLT,Int.reduceLE,Int.reduceSub,Int.reduceAdd,Int.reduceToNat,reduceCtorEq,Int.reduceNeg,TF3,TF4,TF9,TF127,TF196,TF198,TF254,edC,h3]);apply z;clear z K)
     refine AWp.condT rfl ?_
     (refine lQ q5ux fun K z=>?_;simp -implicitDefEqProofs only [EV,forall_const,implies_true,Nat.reduceAdd,Nat.reduceEqDiff,Nat.reduceBEq,Nat.reduceLeDiff,Nat.reduceSub,Nat.reduceMul,Int.reduceEq,Int.reduceLT,Int.reduceLE,Int.reduceSub,Int.reduceAdd,Int.reduceToNat,reduceCtorEq,Int.reduceNeg,TF3,TF4,TF9,TF127,TF196,TF198,TF254,edC,noR_len];refine⟨by omega,_,edR_get he,rfl,?_⟩;(try simp -implicitDefEqProofs only [EV,forall_const,implies_true,Nat.reduceAdd,Nat.reduceEqDiff,Nat.reduceBEq,Nat.reduceLeDiff,Nat.reduceSub,Nat.reduceMul,Int.reduceEq,Int.reduceLT,Int.reduceLE,Int.reduceSub,Int.reduceAdd,Int.reduceToNat,reduceCtorEq,Int.reduceNeg,TF3,TF4,TF9,TF127,TF196,TF198,TF254,edC,noR_len]);refine⟨by simp,by (try simp only [noR_len]);unfold lim;omega,?_⟩;(try simp -implicitDefEqProofs only [EV,forall_const,implies_true,Nat.reduceAdd,Nat.reduceEqDiff,Nat.reduceBEq,Nat.reduceLeDiff,Nat.reduceSub,Nat.reduceMul,Int.reduceEq,Int.reduceLT,Int.reduceLE,Int.reduceSub,Int.reduceAdd,Int.reduceToNat,reduceCtorEq,Int.reduceNeg,TF3,TF4,TF9,TF127,TF196,TF198,TF254,edC,noR_len]);apply z;clear z K;try simp only [thenA,blockA,if_true])
     refine u2 _ _ ?_
     clear skip u2 K2
     (refine lV q5ux fun K z=>?_;refine cl ?_;apply z;clear z K;try simp only [thenA,blockA,if_true])
     exact⟨z++[e.dst],⟨hz,hz2O⟩,sS,by simp [ble,bget,noR,noC]⟩
  ·have hr:reach1 n z e=z:=by unfold reach1;rw [if_neg (fun h=>h1 h.1)]
   have h3:¬ e.src=n:=fun h=>h1 (.inl h)
   rw [decide_eq_false (fun h=>h1 (.inr h))] at hh1
   (refine sG q5ux [] 23 [] fun K z=>?_;simp -implicitDefEqProofs only [EV,forall_const,implies_true,Nat.reduceAdd,Nat.reduceEqDiff,Nat.reduceBEq,Nat.reduceLeDiff,Nat.reduceSub,Nat.reduceMul,Int.reduceEq,Int.reduceLT,Int.reduceLE,Int.reduceSub,Int.reduceAdd,Int.reduceToNat,reduceCtorEq,Int.reduceNeg,TF3,TF4,TF9,TF127,TF196,TF198,TF254,edC,h3];refine⟨by omega,_,edR_get he,rfl,?_⟩;(try simp -implicitDefEqProofs only [EV,forall_const,implies_true,Nat.reduceAdd,Nat.reduceEqDiff,Nat.reduceBEq,Nat.reduceLeDiff,Nat.reduceSub,Nat.reduceMul,Int.reduceEq,Int.reduceLT,Int.reduceLE,Int.reduceSub,Int.reduceAdd,Int.reduceToNat,reduceCtorEq,Int.reduceNeg,TF3,TF4,TF9,TF127,TF196,TF198,TF254,edC,h3]);refine⟨_,opQ_eqN e.src n rfl rfl,?_⟩;(try simp -implicitDefEqProofs only [EV,forall_const,implies_true,Nat.reduceAdd,Nat.reduceEqDiff,Nat.reduceBEq,Nat.reduceLeDiff,Nat.reduceSub,Nat.reduceMul,Int.reduceEq,Int.reduceLT,Int.reduceLE,Int.reduceSub,Int.reduceAdd,Int.reduceToNat,reduceCtorEq,Int.reduceNeg,TF3,TF4,TF9,TF127,TF196,TF198,TF254,edC,h3]);refine⟨by omega,_,edR_get he,rfl,?_⟩;(try simp -implicitDefEqProofs only [EV,forall_const,implies_true,Nat.reduceAdd,Nat.reduceEqDiff,Nat.reduceBEq,Nat.reduceLeDiff,Nat.reduceSub,Nat.reduceMul,Int.reduceEq,Int.reduceLT,Int.reduceLE,Int.reduceSub,Int.reduceAdd,Int.reduceToNat,reduceCtorEq,Int.reduceNeg,TF3,TF4,TF9,TF127,TF196,TF198,TF254,edC,h3]);refine⟨_,.inr ⟨_,rfl,hh1,rfl⟩,?_⟩;(try simp -implicitDefEqProofs only [EV,forall_const,implies_true,Nat.reduceAdd,Nat.reduceEqDiff,Nat.reduceBEq,Nat.reduceLeDiff,Nat.reduceSub,Nat.reduceMul,Int.reduceEq,Int.reduceLT,Int.reduceLE,Int.reduceSub,Int.reduceAdd,Int.reduceToNat,reduceCtorEq,Int.reduceNeg,TF3,TF4,TF9,TF127,TF196,TF198,TF254,edC,h3]);apply z;clear z K)
   refine AWp.condF rfl (AWp.skip ?_)
   exact skip hr _ _ sS sB
 intro z hz
 obtain⟨hz,hzO⟩:=hz
 rw [List.drop_length,List.foldl_nil] at hz
 have hge:=fold_ge n l out
 rw [← hz] at hI hge
 refine sK fun K2 u2=>?_
 (refine sQ q5ux fun K z=>?_;simp -implicitDefEqProofs only [EV,forall_const,implies_true,Nat.reduceAdd,Nat.reduceEqDiff,Nat.reduceBEq,Nat.reduceLeDiff,Nat.reduceSub,Nat.reduceMul,Int.reduceEq,Int.reduceLT,Int.reduceLE,Int.reduceSub,Int.reduceAdd,Int.reduceToNat,reduceCtorEq,Int.reduceNeg,TF3,TF4,TF9,TF127,TF196,TF198,TF254,Int.lt_irrefl,edR_len];apply z;clear z K)
 refine AWp.stopK rfl ?_
 simp only [thenA,blockA,if_true]
 refine⟨(k,(out.length:Int),z),⟨hI,hzO,?_⟩,by simp only;omega,sS,by simp [ble,bget]⟩
 simp only
 by_cases h:z.length=out.length
 ·exact .inl (by omega)
 ·exact .inr (by omega)
theorem ok_Leads19 (l:List EdgeT)(a b:NodeT)(hl:l.length≤1000000000000)(hr:(reachE l a).length≤1000000000000):CallOK prog 151 [edsV l,noV a,noV b] (boolV (leadsE l a b)):=by
 have h1:=ok_Reach19 l a hl
 have h2:=ok_has19 (reachE l a) b hr
 unfold leadsE
 generalize reachE l a=z at *
 refine cB func151 ?_
 refine sR [0,1,2,4,5,6] ?_
 (refine sG [0,1,2,4,5,6] [] 4 [] fun K z=>?_;refine ev ?_;refine cc h1 ?_;refine cc h2 ?_;apply z;clear z K)
 exact aR
theorem fold_OK (n:NodeT)(l:List EdgeT):∀ (m:List EdgeT)(out:List NodeT),(∀ e,e∈m→e∈l)→OutOK l out→OutOK l (m.foldl (reach1 n) out)
 | [],_,_,h=>h
 | e::m,out,hm,h=>by rw [List.foldl_cons];exact fold_OK n l m _ (fun x hx=>hm x (by simp [hx])) (h.step n (hm e (by simp)))
theorem reachG_OK (l:List EdgeT)(n:NodeT):∀ (k:Nat)(c:Int)(out:List NodeT),OutOK l out→OutOK l (reachG l n k c out)
 | 0,_,_,h=>h
 | k+1,c,out,h=>by
  rw [reachG]
  split
  ·exact h
  ·exact reachG_OK l n k _ _ (fold_OK n l l out (fun _ h=>h) h)
theorem reachE_len (l:List EdgeT)(n:NodeT):(reachE l n).length≤l.length:=(reachG_OK l n _ _ _ ⟨by simp,by simp⟩).len
def expB (l:List EdgeT)(e:EdgeT):Bool:=e.ins && (decide (e.dst=e.src) || leadsE l e.dst e.src)
abbrev q6ux:List Nat:=[0,2,3,4,8,42]
theorem ok_Exp19 (l:List EdgeT)(hl:l.length≤1000000000000):CallOK prog 77 [edsV l] (edsV (expE l)):=by
 refine cB func77 ?_
 refine sR q6ux ?_
 refine sR q6ux ?_
 refine AWp.promote 3 7 3 rfl ?_
 refine kR q6ux fun K1 u1=>?_
 refine AWp.block (AWp.forIdx l (X:=Unit) (fun j _=>[(0,edsV l),(3,.acc 3),(4,intV j)]) (fun j _=>[(3,.rows 7 (edR ((l.take j).filter (expB l))))])
  (fun _ _=>True) () trivial sS (by simp [ble,bget,edR]) ?_ ?_)
 rotate_left
 ·intro j _ e he hmem dp tk hlt _
  have hj:=(List.getElem?_eq_some_iff.1 he).1
  have hL:=ok_Leads19 l e.dst e.src hl (Nat.le_trans (reachE_len l e.dst) hl)
  have e2:edR ((l.take (j+1)).filter (expB l))=edR ((l.take j).filter (expB l))++(if expB l e=true then [edC e] else []):=by
   rw [List.take_succ_eq_append_getElem hj,(List.getElem?_eq_some_iff.1 he).2,List.filter_append]
   simp only [edR,List.map_append,List.filter_cons,List.filter_nil]
   split <;> simp
  have e3:(edR ((l.take j).filter (expB l))).length≤j:=by
   rw [edR_len]
   exact Nat.le_trans (List.length_filter_le _ _) (by rw [List.length_take];omega)
  rw [e2]
  generalize edR ((l.take j).filter (expB l))=PR at *
  unfold expB
  generalize leadsE l e.dst e.src=lb at *
  refine sK fun K2 u2=>?_
  (refine sQ q6ux fun K z=>?_;simp -implicitDefEqProofs only [EV,forall_const,implies_true,Nat.reduceAdd,Nat.reduceEqDiff,Nat.reduceBEq,Nat.reduceLeDiff,Nat.reduceSub,Nat.reduceMul,Int.reduceEq,Int.reduceLT,Int.reduceLE,Int.reduceSub,Int.reduceAdd,Int.reduceToNat,reduceCtorEq,Int.reduceNeg,TF3,TF4,TF9,TF127,TF196,TF198,hlt,edR_len];apply z;clear z K)
  refine gI u2 ?_
  clear u2 K2
  refine sK fun K2 u2=>?_
  refine AWp.block ?_
  cases hi:e.ins with
  | false =>
   simp only [Bool.false_and,Bool.false_eq_true,if_false,List.append_nil]
   (refine sG q6ux [] 29 [] fun K z=>?_;simp -implicitDefEqProofs only [EV,forall_const,implies_true,Nat.reduceAdd,Nat.reduceEqDiff,Nat.reduceBEq,Nat.reduceLeDiff,Nat.reduceSub,Nat.reduceMul,Int.reduceEq,Int.reduceLT,Int.reduceLE,Int.reduceSub,Int.reduceAdd,Int.reduceToNat,reduceCtorEq,Int.reduceNeg,TF3,TF4,TF9,TF127,TF196,TF198,edC,hi];refine⟨by omega,_,edR_get he,rfl,?_⟩;(try simp -implicitDefEqProofs only [EV,forall_const,implies_true,Nat.reduceAdd,Nat.reduceEqDiff,Nat.reduceBEq,Nat.reduceLeDiff,Nat.reduceSub,Nat.reduceMul,Int.reduceEq,Int.reduceLT,Int.reduceLE,Int.reduceSub,Int.reduceAdd,Int.reduceToNat,reduceCtorEq,Int.reduceNeg,TF3,TF4,TF9,TF127,TF196,TF198,edC,hi]);apply z;clear z K)
   refine AWp.condF rfl (AWp.skip (u2 _ _ ?_))
   clear u2 K2
   (refine lV q6ux fun K z=>?_;refine cl ?_;apply z;clear z K;try simp only [thenA,blockA,if_true])
   exact⟨(),trivial,sS,by simp [ble,bget,hi]⟩
  | true =>
   by_cases hds:e.dst=e.src
   ·simp only [Bool.true_and,decide_eq_true hds,Bool.true_or,if_true]
    (refine sG q6ux [] 29 [] fun K z=>?_;simp -implicitDefEqProofs only [EV,forall_const,implies_true,Nat.reduceAdd,Nat.reduceEqDiff,Nat.reduceBEq,Nat.reduceLeDiff,Nat.reduceSub,Nat.reduceMul,Int.reduceEq,Int.reduceLT,Int.reduceLE,Int.reduceSub,Int.reduceAdd,Int.reduceToNat,reduceCtorEq,Int.reduceNeg,TF3,TF4,TF9,TF127,TF196,TF198,edC,hi,hds];refine⟨by omega,_,edR_get he,rfl,?_⟩;(try simp -implicitDefEqProofs only [EV,forall_const,implies_true,Nat.reduceAdd,Nat.reduceEqDiff,Nat.reduceBEq,Nat.reduceLeDiff,Nat.reduceSub,Nat.reduceMul,Int.reduceEq,Int.reduceLT,Int.reduceLE,Int.reduceSub,Int.reduceAdd,Int.reduceToNat,reduceCtorEq,Int.reduceNeg,TF3,TF4,TF9,TF127,TF196,TF198,edC,hi,hds]);refine⟨by omega,_,edR_get he,rfl,?_⟩;(try simp -implicitDefEqProofs only [EV,forall_const,implies_true,Nat.reduceAdd,Nat.reduceEqDiff,Nat.reduceBEq,Nat.reduceLeDiff,Nat.reduceSub,Nat.reduceMul,Int.reduceEq,Int.reduceLT,Int.reduceLE,Int.reduceSub,Int.reduceAdd,Int.reduceToNat,reduceCtorEq,Int.reduceNeg,TF3,TF4,TF9,TF127,TF196,TF198,edC,hi,hds]);refine⟨by omega,_,edR_get he,rfl,?_⟩;(try simp -implicitDefEqProofs only [EV,forall_const,implies_true,Nat.reduceAdd,Nat.reduceEqDiff,Nat.reduceBEq,Nat.reduceLeDiff,Nat.reduceSub,Nat.reduceMul,Int.reduceEq,Int.reduceLT,Int.reduceLE,Int.reduceSub,Int.reduceAdd,Int.reduceToNat,reduceCtorEq,Int.reduceNeg,TF3,TF4,TF9,TF127,TF196,TF198,edC,hi,hds]);refine⟨_,opQ_eqN e.src e.src rfl rfl,?_⟩;(try simp -implicitDefEqProofs only [EV,forall_const,implies_true,Nat.reduceAdd,Nat.reduceEqDiff,Nat.reduceBEq,Nat.reduceLeDiff,Nat.reduceSub,Nat.reduceMul,Int.reduceEq,Int.reduceLT,Int.reduceLE,Int.reduceSub,Int.reduceAdd,Int.reduceToNat,reduceCtorEq,Int.reduceNeg,TF3,TF4,TF9,TF127,TF196,TF198,edC,hi,hds]);apply z;clear z K)
    refine AWp.condT rfl ?_
    (refine lQ q6ux fun K z=>?_;simp -implicitDefEqProofs only [EV,forall_const,implies_true,Nat.reduceAdd,Nat.reduceEqDiff,Nat.reduceBEq,Nat.reduceLeDiff,Nat.reduceSub,Nat.reduceMul,Int.reduceEq,Int.reduceLT,Int.reduceLE,Int.reduceSub,Int.reduceAdd,Int.reduceToNat,reduceCtorEq,Int.reduceNeg,TF3,TF4,TF9,TF127,TF196,TF198,edC];refine⟨by omega,_,edR_get he,rfl,?_⟩;(try simp -implicitDefEqProofs only [EV,forall_const,implies_true,Nat.reduceAdd,Nat.reduceEqDiff,Nat.reduceBEq,Nat.reduceLeDiff,Nat.reduceSub,Nat.reduceMul,Int.reduceEq,Int.reduceLT,Int.reduceLE,Int.reduceSub,Int.reduceAdd,Int.reduceToNat,reduceCtorEq,Int.reduceNeg,TF3,TF4,TF9,TF127,TF196,TF198,edC]);refine⟨by simp,by unfold lim;omega,?_⟩;(try simp -implicitDefEqProofs only [EV,forall_const,implies_true,Nat.reduceAdd,Nat.reduceEqDiff,Nat.reduceBEq,Nat.reduceLeDiff,Nat.reduceSub,Nat.reduceMul,Int.reduceEq,Int.reduceLT,Int.reduceLE,Int.reduceSub,Int.reduceAdd,Int.reduceToNat,reduceCtorEq,Int.reduceNeg,TF3,TF4,TF9,TF127,TF196,TF198,edC]);apply z;clear z K;try simp only [thenA,blockA,if_true])
    refine u2 _ _ ?_
    clear u2 K2
    (refine lV q6ux fun K z=>?_;refine cl ?_;apply z;clear z K;try simp only [thenA,blockA,if_true])
    exact⟨(),trivial,sS,by simp [ble,bget,hi,hds,edC]⟩
   ·cases lb with
    | true =>
     simp only [Bool.true_and,Bool.or_true,if_true]
     (refine sG q6ux [] 29 [] fun K z=>?_;simp -implicitDefEqProofs only [EV,forall_const,implies_true,Nat.reduceAdd,Nat.reduceEqDiff,Nat.reduceBEq,Nat.reduceLeDiff,Nat.reduceSub,Nat.reduceMul,Int.reduceEq,Int.reduceLT,Int.reduceLE,Int.reduceSub,Int.reduceAdd,Int.reduceToNat,reduceCtorEq,Int.reduceNeg,TF3,TF4,TF9,TF127,TF196,TF198,edC,hi,hds];refine⟨by omega,_,edR_get he,rfl,?_⟩;(try simp -implicitDefEqProofs only [EV,forall_const,implies_true,Nat.reduceAdd,Nat.reduceEqDiff,Nat.reduceBEq,Nat.reduceLeDiff,Nat.reduceSub,Nat.reduceMul,Int.reduceEq,Int.reduceLT,Int.reduceLE,Int.reduceSub,Int.reduceAdd,Int.reduceToNat,reduceCtorEq,Int.reduceNeg,TF3,TF4,TF9,TF127,TF196,TF198,edC,hi,hds]);refine⟨by omega,_,edR_get he,rfl,?_⟩;(try simp -implicitDefEqProofs only [EV,forall_const,implies_true,Nat.reduceAdd,Nat.reduceEqDiff,Nat.reduceBEq,Nat.reduceLeDiff,Nat.reduceSub,Nat.reduceMul,Int.reduceEq,Int.reduceLT,Int.reduceLE,Int.reduceSub,Int.reduceAdd,Int.reduceToNat,reduceCtorEq,Int.reduceNeg,TF3,TF4,TF9,TF127,TF196,TF198,edC,hi,hds]);refine⟨by omega,_,edR_get he,rfl,?_⟩;(try simp -implicitDefEqProofs only [EV,forall_const,implies_true,Nat.reduceAdd,Nat.reduceEqDiff,Nat.reduceBEq,Nat.reduceLeDiff,Nat.reduceSub,Nat.reduceMul,Int.reduceEq,Int.reduceLT,Int.reduceLE,Int.reduceSub,Int.reduceAdd,Int.reduceToNat,reduceCtorEq,Int.reduceNeg,TF3,TF4,TF9,TF127,TF196,TF198,edC,hi,hds]);refine⟨_,opQ_eqN e.dst e.src rfl rfl,?_⟩;(try simp -implicitDefEqProofs only [EV,forall_const,implies_true,Nat.reduceAdd,Nat.reduceEqDiff,Nat.reduceBEq,Nat.reduceLeDiff,Nat.reduceSub,Nat.reduceMul,Int.reduceEq,Int.reduceLT,Int.reduceLE,Int.reduceSub,Int.reduceAdd,Int.reduceToNat,reduceCtorEq,Int.reduceNeg,TF3,TF4,TF9,TF127,TF196,TF198,edC,hi,hds]);refine⟨by omega,_,edR_get he,rfl,?_⟩;(try simp -implicitDefEqProofs only [EV,forall_const,implies_true,Nat.reduceAdd,Nat.reduceEqDiff,Nat.reduceBEq,Nat.reduceLeDiff,Nat.reduceSub,Nat.reduceMul,Int.reduceEq,Int.reduceLT,Int.reduceLE,Int.reduceSub,Int.reduceAdd,Int.reduceToNat,reduceCtorEq,Int.reduceNeg,TF3,TF4,TF9,TF127,TF196,TF198,edC,hi,hds]);refine⟨by omega,_,edR_get he,rfl,?_⟩;(try simp -implicitDefEqProofs only [EV,forall_const,implies_true,Nat.reduceAdd,Nat.reduceEqDiff,Nat.reduceBEq,Nat.reduceLeDiff,Nat.reduceSub,Nat.reduceMul,Int.reduceEq,Int.reduceLT,Int.reduceLE,Int.reduceSub,Int.reduceAdd,Int.reduceToNat,reduceCtorEq,Int.reduceNeg,TF3,TF4,TF9,TF127,TF196,TF198,edC,hi,hds]);refine⟨_,.inl ⟨_,rfl,hL,rfl⟩,?_⟩;(try simp -implicitDefEqProofs only [EV,forall_const,implies_true,Nat.reduceAdd,Nat.reduceEqDiff,Nat.reduceBEq,Nat.reduceLeDiff,Nat.reduceSub,Nat.reduceMul,Int.reduceEq,Int.reduceLT,Int.reduceLE,Int.reduceSub,Int.reduceAdd,Int.reduceToNat,reduceCtorEq,Int.reduceNeg,TF3,TF4,TF9,TF127,TF196,TF198,edC,hi,hds]);apply z;clear z K)
     refine AWp.condT rfl ?_
     (refine lQ q6ux fun K z=>?_;simp -implicitDefEqProofs only [EV,forall_const,implies_true,Nat.reduceAdd,Nat.reduceEqDiff,Nat.reduceBEq,Nat.reduceLeDiff,Nat.reduceSub,Nat.reduceMul,Int.reduceEq,Int.reduceLT,Int.reduceLE,Int.reduceSub,Int.reduceAdd,Int.reduceToNat,reduceCtorEq,Int.reduceNeg,TF3,TF4,TF9,TF127,TF196,TF198,edC];refine⟨by omega,_,edR_get he,rfl,?_⟩;(try simp -implicitDefEqProofs only [EV,forall_const,implies_true,Nat.reduceAdd,Nat.reduceEqDiff,Nat.reduceBEq,Nat.reduceLeDiff,Nat.reduceSub,Nat.reduceMul,Int.reduceEq,Int.reduceLT,Int.reduceLE,Int.reduceSub,Int.reduceAdd,Int.reduceToNat,reduceCtorEq,Int.reduceNeg,TF3,TF4,TF9,TF127,TF196,TF198,edC]);refine⟨by simp,by unfold lim;omega,?_⟩;(try simp -implicitDefEqProofs only [EV,forall_const,implies_true,Nat.reduceAdd,Nat.reduceEqDiff,Nat.reduceBEq,Nat.reduceLeDiff,Nat.reduceSub,Nat.reduceMul,Int.reduceEq,Int.reduceLT,Int.reduceLE,Int.reduceSub,Int.reduceAdd,Int.reduceToNat,reduceCtorEq,Int.reduceNeg,TF3,TF4,TF9,TF127,TF196,TF198,edC]);apply z;clear z K;try simp only [thenA,blockA,if_true])
     refine u2 _ _ ?_
     clear u2 K2
     (refine lV q6ux fun K z=>?_;refine cl ?_;apply z;clear z K;try simp only [thenA,blockA,if_true])
     exact⟨(),trivial,sS,by simp [ble,bget,hi,hds,edC]⟩
    | false =>
     simp only [Bool.true_and,decide_eq_false hds,Bool.or_false,Bool.false_eq_true,if_false,List.append_nil]
     (refine sG q6ux [] 29 [] fun K z=>?_;simp -implicitDefEqProofs only [EV,forall_const,implies_true,Nat.reduceAdd,Nat.reduceEqDiff,Nat.reduceBEq,Nat.reduceLeDiff,Nat.reduceSub,Nat.reduceMul,Int.reduceEq,Int.reduceLT,Int.reduceLE,Int.reduceSub,Int.reduceAdd,Int.reduceToNat,reduceCtorEq,Int.reduceNeg,TF3,TF4,TF9,TF127,TF196,TF198,edC,hi,hds];refine⟨by omega,_,edR_get he,rfl,?_⟩;(try simp -implicitDefEqProofs only [EV,forall_const,implies_true,Nat.reduceAdd,Nat.reduceEqDiff,Nat.reduceBEq,Nat.reduceLeDiff,Nat.reduceSub,Nat.reduceMul,Int.reduceEq,Int.reduceLT,Int.reduceLE,Int.reduceSub,Int.reduceAdd,Int.reduceToNat,reduceCtorEq,Int.reduceNeg,TF3,TF4,TF9,TF127,TF196,TF198,edC,hi,hds]);refine⟨by omega,_,edR_get he,rfl,?_⟩;(try simp -implicitDefEqProofs only [EV,forall_const,implies_true,Nat.reduceAdd,Nat.reduceEqDiff,Nat.reduceBEq,Nat.reduceLeDiff,Nat.reduceSub,Nat.reduceMul,Int.reduceEq,Int.reduceLT,Int.reduceLE,Int.reduceSub,Int.reduceAdd,Int.reduceToNat,reduceCtorEq,Int.reduceNeg,TF3,TF4,TF9,TF127,TF196,TF198,edC,hi,hds]);refine⟨by omega,_,edR_get he,rfl,?_⟩;(try simp -implicitDefEqProofs only [EV,forall_const,implies_true,Nat.reduceAdd,Nat.reduceEqDiff,Nat.reduceBEq,Nat.reduceLeDiff,Nat.reduceSub,Nat.reduceMul,Int.reduceEq,Int.reduceLT,Int.reduceLE,Int.reduceSub,Int.reduceAdd,Int.reduceToNat,reduceCtorEq,Int.reduceNeg,TF3,TF4,TF9,TF127,TF196,TF198,edC,hi,hds]);refine⟨_,opQ_eqN e.dst e.src rfl rfl,?_⟩;(try simp -implicitDefEqProofs only [EV,forall_const,implies_true,Nat.reduceAdd,Nat.reduceEqDiff,Nat.reduceBEq,Nat.reduceLeDiff,Nat.reduceSub,Nat.reduceMul,Int.reduceEq,Int.reduceLT,Int.reduceLE,Int.reduceSub,Int.reduceAdd,Int.reduceToNat,reduceCtorEq,Int.reduceNeg,TF3,TF4,TF9,TF127,TF196,TF198,edC,hi,hds]);refine⟨by omega,_,edR_get he,rfl,?_⟩;(try simp -implicitDefEqProofs only [EV,forall_const,implies_true,Nat.reduceAdd,Nat.reduceEqDiff,Nat.reduceBEq,Nat.reduceLeDiff,Nat.reduceSub,Nat.reduceMul,Int.reduceEq,Int.reduceLT,Int.reduceLE,Int.reduceSub,Int.reduceAdd,Int.reduceToNat,reduceCtorEq,Int.reduceNeg,TF3,TF4,TF9,TF127,TF196,TF198,edC,hi,hds]);refine⟨by omega,_,edR_get he,rfl,?_⟩;(try simp -implicitDefEqProofs only [EV,forall_const,implies_true,Nat.reduceAdd,Nat.reduceEqDiff,Nat.reduceBEq,Nat.reduceLeDiff,Nat.reduceSub,Nat.reduceMul,Int.reduceEq,Int.reduceLT,Int.reduceLE,Int.reduceSub,Int.reduceAdd,Int.reduceToNat,reduceCtorEq,Int.reduceNeg,TF3,TF4,TF9,TF127,TF196,TF198,edC,hi,hds]);refine⟨_,.inl ⟨_,rfl,hL,rfl⟩,?_⟩;(try simp -implicitDefEqProofs only [EV,forall_const,implies_true,Nat.reduceAdd,Nat.reduceEqDiff,Nat.reduceBEq,Nat.reduceLeDiff,Nat.reduceSub,Nat.reduceMul,Int.reduceEq,Int.reduceLT,Int.reduceLE,Int.reduceSub,Int.reduceAdd,Int.reduceToNat,reduceCtorEq,Int.reduceNeg,TF3,TF4,TF9,TF127,TF196,TF198,edC,hi,hds]);apply z;clear z K)
     refine AWp.condF rfl (AWp.skip (u2 _ _ ?_))
     clear u2 K2
     (refine lV q6ux fun K z=>?_;refine cl ?_;apply z;clear z K;try simp only [thenA,blockA,if_true])
     exact⟨(),trivial,sS,by simp [ble,bget,hi,hds]⟩
 intro _ _
 rw [List.take_length]
 refine sK fun K2 u2=>?_
 (refine sQ q6ux fun K z=>?_;simp -implicitDefEqProofs only [EV,forall_const,implies_true,Nat.reduceAdd,Nat.reduceEqDiff,Nat.reduceBEq,Nat.reduceLeDiff,Nat.reduceSub,Nat.reduceMul,Int.reduceEq,Int.reduceLT,Int.reduceLE,Int.reduceSub,Int.reduceAdd,Int.reduceToNat,reduceCtorEq,Int.reduceNeg,TF3,TF4,TF9,TF127,TF196,TF198,Int.lt_irrefl,edR_len];apply z;clear z K)
 refine AWp.stopK rfl ?_
 simp only [thenA,blockA,if_true]
 refine u1 _ _ ?_
 clear u2 K2 u1 K1
 refine sR q6ux ?_
 rw [show expE l=l.filter (expB l) from rfl]
 exact aR
theorem ok_Is19 (p:Prog)(h:p.Sm)(hlist:∀ d,d∈p.decls→(listE d.body).length≤sm)(hl:deAl p.decls≤72000):CallOK prog 31 [prV p] (boolV (isMono p)):=by
 have h1:=ok_Edges18 p h hlist hl
 have hlen:(edgesP p).length≤1000000000000:=by
  have:=fold_len (g:=Decl.al) declE_len p.decls []
  have h2:deAl p.decls*deAl p.decls≤72000*72000:=Nat.mul_le_mul hl hl
  unfold deAl at *
  unfold edgesP
  simp only [List.length_nil] at this
  omega
 have h2:=ok_Exp19 (edgesP p) hlen
 unfold isMono
 generalize edgesP p=l at *
 generalize expE l=x at *
 by_cases hx:x.length=0
 ·have hx2:((x.length:Nat):Int)=0:=by omega
  rw [decide_eq_true hx]
  refine cB func31 ?_
  refine sR [0,1,2] ?_
  (refine sQ [0,1,2] fun K z=>?_;simp -implicitDefEqProofs only [EV,forall_const,implies_true,Nat.reduceAdd,Nat.reduceEqDiff,Nat.reduceBEq,Nat.reduceLeDiff,Nat.reduceSub,Nat.reduceMul,Int.reduceEq,Int.reduceLT,Int.reduceLE,Int.reduceSub,Int.reduceAdd,Int.reduceToNat,reduceCtorEq,Int.reduceNeg,TF3,TF4,TF9,TF30,hx2,edR_len,TF127];refine⟨_,.inl ⟨_,rfl,h1,rfl⟩,?_⟩;(try simp -implicitDefEqProofs only [EV,forall_const,implies_true,Nat.reduceAdd,Nat.reduceEqDiff,Nat.reduceBEq,Nat.reduceLeDiff,Nat.reduceSub,Nat.reduceMul,Int.reduceEq,Int.reduceLT,Int.reduceLE,Int.reduceSub,Int.reduceAdd,Int.reduceToNat,reduceCtorEq,Int.reduceNeg,TF3,TF4,TF9,TF30,hx2,edR_len,TF127]);refine⟨_,.inl ⟨_,rfl,h2,rfl⟩,?_⟩;(try simp -implicitDefEqProofs only [EV,forall_const,implies_true,Nat.reduceAdd,Nat.reduceEqDiff,Nat.reduceBEq,Nat.reduceLeDiff,Nat.reduceSub,Nat.reduceMul,Int.reduceEq,Int.reduceLT,Int.reduceLE,Int.reduceSub,Int.reduceAdd,Int.reduceToNat,reduceCtorEq,Int.reduceNeg,TF3,TF4,TF9,TF30,hx2,edR_len,TF127]);apply z;clear z K)
  exact aR
 ·have hx2:¬ ((x.length:Nat):Int)=0:=by omega
  rw [decide_eq_false hx]
  refine cB func31 ?_
  refine sR [0,1,2] ?_
  (refine sQ [0,1,2] fun K z=>?_;simp -implicitDefEqProofs only [EV,forall_const,implies_true,Nat.reduceAdd,Nat.reduceEqDiff,Nat.reduceBEq,Nat.reduceLeDiff,Nat.reduceSub,Nat.reduceMul,Int.reduceEq,Int.reduceLT,Int.reduceLE,Int.reduceSub,Int.reduceAdd,Int.reduceToNat,reduceCtorEq,Int.reduceNeg,TF3,TF4,TF9,TF30,hx2,edR_len,TF127];refine⟨_,.inl ⟨_,rfl,h1,rfl⟩,?_⟩;(try simp -implicitDefEqProofs only [EV,forall_const,implies_true,Nat.reduceAdd,Nat.reduceEqDiff,Nat.reduceBEq,Nat.reduceLeDiff,Nat.reduceSub,Nat.reduceMul,Int.reduceEq,Int.reduceLT,Int.reduceLE,Int.reduceSub,Int.reduceAdd,Int.reduceToNat,reduceCtorEq,Int.reduceNeg,TF3,TF4,TF9,TF30,hx2,edR_len,TF127]);refine⟨_,.inl ⟨_,rfl,h2,rfl⟩,?_⟩;(try simp -implicitDefEqProofs only [EV,forall_const,implies_true,Nat.reduceAdd,Nat.reduceEqDiff,Nat.reduceBEq,Nat.reduceLeDiff,Nat.reduceSub,Nat.reduceMul,Int.reduceEq,Int.reduceLT,Int.reduceLE,Int.reduceSub,Int.reduceAdd,Int.reduceToNat,reduceCtorEq,Int.reduceNeg,TF3,TF4,TF9,TF30,hx2,edR_len,TF127]);apply z;clear z K)
  exact aR
end Go.Abs
