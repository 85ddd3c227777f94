/- castingsref18: sig, Decl, Edges; castingsref19: has, Reach, Leads, Expansive, Is -/
import Derived.Test.YtfjaahliphbklaaGreatDoorJW13
import Derived.Test.YtfjaahliphbklaaGreatDoorJW14
import Derived.Test.YtfjaahliphbklaaGreatDoorJU06
namespace Go.Abs
set_option maxHeartbeats 1000000
set_option linter.unusedSimpArgs false
set_option linter.unusedVariables false
open Go Go.Proofs Tryz
set_option maxRecDepth 100000
set_option maxHeartbeats 4000000
abbrev G5r (s:Sig):List SV:=[.d (.str s.name),.d (.slice (foR s.formals)),.d (.slice (paR s.params)),.d (.str s.result.name),.d (.slice (tyR s.result.args)),.d (.int .i64 s.result.pos),.d (.int .i64 s.pos)]
abbrev E6j:List Nat:=[0,1,2,5,6,7,8,13,37]
theorem C9c (s:List VarT)(hs:s.length≤10*sm)(l:List EdgeT)(x:Sig)(hf:x.formals.length≤sm)(hp:x.params.length≤sm)(hl:l.length+x.al*x.al≤1000000000000):A0a prog 180 [B3h l,vrV s,siV x] (B3h (E3y s l x)):=by
 have hR1:∃ R1,x.formals.foldl (fun l f=>A3v s false f.bound.name 0 l f.bound.args) l=R1:=⟨_,rfl⟩;obtain⟨R1,hR1⟩:=hR1;have hR2:∃ R2,x.params.foldl (fun l p=>A3v s false p.type.name 0 l p.type.args) R1=R2:=⟨_,rfl⟩;obtain⟨R2,hR2⟩:=hR2;have e0:E3y s l x=A3v s false x.result.name 0 R2 x.result.args:=by unfold E3y;rw [hR1,hR2]
 rw [e0];unfold Sig.al at hl;obtain⟨B,hB⟩:∃ B,B=D2w x.params+Ty.tlenL x.result.args:=⟨_,rfl⟩;obtain⟨C,hC⟩:∃ C,C=Ty.tlenL x.result.args:=⟨_,rfl⟩;refine cB func180 ?_;refine sR E6j ?_;refine kR E6j fun K1 u1=>?_;refine AWp.bb (AWp.ii x.formals (X:=List EdgeT) (fun j z=>[(0,B3h z),(1,vrV s),(5,.box 5 0),(7,A0g j)]) (fun j z=>[(5,.cells (G5r x))])
  (fun j z=>(x.formals.drop j).foldl (fun l f=>A3v s false f.bound.name 0 l f.bound.args) z=R1∧z.length+(E4o (x.formals.drop j)+B)*(E4o (x.formals.drop j)+B)≤1000000000000) l
  ⟨hR1,by rw [List.drop_zero,hB];rw [Nat.add_assoc] at hl;exact hl⟩ sS sB ?_ ?_)
 rotate_left
 ·intro j z d hd hmem dp tk hlt hI;obtain⟨hI,hz⟩:=hI;have hj:=(List.getElem?_eq_some_iff.1 hd).1;rw [dp,List.foldl_cons] at hI;have e1:E4o (x.formals.drop j)+B=Ty.tlenL d.bound.args+(E4o (x.formals.drop (j+1))+B):=by rw [dp];simp only [E4o,List.map_cons,List.sum_cons];omega
  rw [e1] at hz;have hlen:=A4g s d.bound.args false d.bound.name 0 z;have h1:=A7f hz hlen;have h2:=A9i (Ty.tlenL d.bound.args) (E4o (x.formals.drop (j+1))+B);have hc:=B1x s hs false d.bound.name d.bound.args z (by omega);generalize A3v s false d.bound.name 0 z d.bound.args=z2 at *;refine kR1 hlt E6j fun K2 u2=>?_;refine gI u2 ?_;clear u2 K2;refine sK fun K2 u2=>?_;refine AWp.bb ?_
  (refine lG E6j [] 16 [] fun K z=>?_;refine ev ?_;refine ci (A0v hd) ?_;refine ci (A0v hd) ?_;refine cc hc ?_;apply z;clear z K;try simp only [A0c,A0e])
  refine u2 _ _ ?_;clear u2 K2;refine lT E6j ?_;exact⟨z2,⟨hI,h1⟩,sS,by simp [ble,A0h]⟩
 intro z hI;obtain⟨hI,hz⟩:=hI;rw [List.drop_length] at hI hz;rw [List.foldl_nil] at hI;subst hI;have hz2:z.length+(D2w x.params+C)*(D2w x.params+C)≤1000000000000:=by
  have:E4o []+B=D2w x.params+C:=by rw [hB,hC];simp [E4o]
  rw [this] at hz;exact hz
 refine kR1 Int.lt_irrefl E6j fun K2 u2=>?_;refine AWp.ss rfl ?_;simp only [TB];refine u1 _ _ ?_;clear u2 K2 u1 K1;refine kR E6j fun K1 u1=>?_;refine AWp.bb (AWp.ii x.params (X:=List EdgeT) (fun j z=>[(0,B3h z),(1,vrV s),(5,.box 5 0),(8,A0g j)]) (fun j z=>[(5,.cells (G5r x))])
  (fun j z=>(x.params.drop j).foldl (fun l p=>A3v s false p.type.name 0 l p.type.args) z=R2∧z.length+(D2w (x.params.drop j)+C)*(D2w (x.params.drop j)+C)≤1000000000000) z
  ⟨hR2,by rw [List.drop_zero];exact hz2⟩ sS sB ?_ ?_)
 rotate_left
 ·intro j z d hd hmem dp tk hlt hI;obtain⟨hI,hz⟩:=hI;have hj:=(List.getElem?_eq_some_iff.1 hd).1;rw [dp,List.foldl_cons] at hI;have e1:D2w (x.params.drop j)+C=Ty.tlenL d.type.args+(D2w (x.params.drop (j+1))+C):=by rw [dp];simp only [D2w,List.map_cons,List.sum_cons];omega
  rw [e1] at hz;have hlen:=A4g s d.type.args false d.type.name 0 z;have h1:=A7f hz hlen;have h2:=A9i (Ty.tlenL d.type.args) (D2w (x.params.drop (j+1))+C);have hc:=B1x s hs false d.type.name d.type.args z (by omega);generalize A3v s false d.type.name 0 z d.type.args=z2 at *;refine kR1 hlt E6j fun K2 u2=>?_;refine gI u2 ?_;clear u2 K2;refine sK fun K2 u2=>?_;refine AWp.bb ?_
  (refine lG E6j [] 16 [] fun K z=>?_;refine ev ?_;refine ci (A0r hd) ?_;refine ci (A0r hd) ?_;refine cc hc ?_;apply z;clear z K;try simp only [A0c,A0e])
  refine u2 _ _ ?_;clear u2 K2;refine lT E6j ?_;exact⟨z2,⟨hI,h1⟩,sS,by simp [ble,A0h]⟩
 intro z hI;obtain⟨hI,hz⟩:=hI;rw [List.drop_length] at hI hz;rw [List.foldl_nil] at hI;subst hI;have hz3:z.length+Ty.tlenL x.result.args*Ty.tlenL x.result.args≤1000000000000:=by
  have:D2w []+C=Ty.tlenL x.result.args:=by rw [hC];simp [D2w]
  rw [this] at hz;exact hz
 have hc:=B1x s hs false x.result.name x.result.args z hz3;generalize A3v s false x.result.name 0 z x.result.args=z2 at *;refine kR1 Int.lt_irrefl E6j fun K2 u2=>?_;refine AWp.ss rfl ?_;simp only [TB];refine u1 _ _ ?_;clear u2 K2 u1 K1;refine sC hc E6j ?_;exact aR
abbrev C4c:List Nat:=[0,1,3,4,5,6,7,8,9,12,37,87]
theorem E9m (l:List EdgeT)(d:Decl)(hd:d.Sm)(hlist:(A4p d.body).length≤sm)(hl:l.length+d.al*d.al≤1000000000000):A0a prog 122 [B3h l,deV d] (B3h (D8v l d)):=by
 have hvl:=hd.vars.1;have hfl:=hd.formals.1;have hsl:=hd.sigs.1;have hgl:=hd.sig.formals.1;rw [E1z];unfold Decl.al at hl;by_cases hk:d.kind=3
 ·rw [if_pos hk] at hl ⊢;have hv1:=B6q [] false d.name d.vars (by simp) hvl;have hn:=A1u d.sig.formals hgl;rw [show d.sig.formals.map (·.name)=A0d d.sig.formals from rfl] at hn;have hv1l:=B6t [] false d.name d.vars;have hfn:(A0d d.sig.formals).length≤sm:=by simpa [A0d] using hgl
  generalize A8s [] false d.name d.vars=s1 at *;simp only [List.length_nil,Nat.zero_add] at hv1l;have hv2:=B6q s1 true d.sig.name (A0d d.sig.formals) (by unfold sm at *;omega) hfn;have hv2l:=B6t s1 true d.sig.name (A0d d.sig.formals);generalize A8s s1 true d.sig.name (A0d d.sig.formals)=s at *;have hs:s.length≤10*sm:=by unfold sm at *;omega
  have hsq:=A9i d.sig.al (B7w (A4p d.body));have hg:=C9c s hs l d.sig hgl hd.sig.params.1 (by omega);have hgl2:=B2w s l d.sig;have hLi:=E1e d.body hlist;have hz:=A7f hl hgl2;generalize E3y s l d.sig=z0 at *;have hR:∃ R,(A4p d.body).foldl (exE s) z0=R:=⟨_,rfl⟩;obtain⟨R,hR⟩:=hR;rw [hR];generalize A4p d.body=es at *;refine cB func122 ?_;refine sR C4c ?_;refine kR1 hk C4c fun K1 u1=>?_;refine AWp.tt rfl ?_
  (refine sG C4c [] 12 [] fun K z=>?_;refine ev ?_;refine cc hv1 ?_;refine cc hn ?_;refine cc hv2 ?_;apply z;clear z K)
  refine sC hg C4c ?_;refine sC hLi C4c ?_;refine kR C4c fun K2 u2=>?_;refine AWp.bb (AWp.ii es (X:=List EdgeT) (fun j z=>[(0,B3h z),(5,vrV s),(6,.d (.slice (exR es))),(7,A0g j)]) (fun j z=>[])
   (fun j z=>(es.drop j).foldl (exE s) z=R∧z.length+B7w (es.drop j)*B7w (es.drop j)≤1000000000000) z0 ⟨hR,hz⟩ sS (by simp [ble]) ?_ ?_)
  rotate_left
  ·intro j z e he hmem dp tk hlt hI;obtain⟨hI,hz⟩:=hI;have hj:=(List.getElem?_eq_some_iff.1 he).1;rw [dp,List.foldl_cons] at hI;have e1:B7w (es.drop j)=F6e e+B7w (es.drop (j+1)):=by rw [dp];simp only [B7w,List.map_cons,List.sum_cons]
   rw [e1] at hz;have h1:=A7f hz (E6w s z e);have h2:=A9i (F6e e) (B7w (es.drop (j+1)));have h3:=A9i (Ty.tlenL e.type.args) (Ty.tlenL e.targs);have h4:=A4g s e.type.args false e.type.name 0 z;have hc1:=B1x s hs false e.type.name e.type.args z (by unfold F6e at *;omega);unfold exE at hI h1;unfold F6e at *;generalize A3v s false e.type.name 0 z e.type.args=z1 at *;have hc2:=B1x s hs true e.name e.targs z1 (by omega);generalize A3v s true e.name 0 z1 e.targs=z2 at *;refine kR1 hlt C4c fun K3 u3=>?_;refine gI u3 ?_;clear u3 K3;refine sK fun K3 u3=>?_;refine AWp.bb ?_
   (refine sG C4c [] 14 [] fun K z=>?_;refine ev ?_;refine ci (A1h he) ?_;refine ci (A1h he) ?_;refine cc hc1 ?_;apply z;clear z K)
   (refine lG C4c [] 12 [] fun K z=>?_;refine ev ?_;refine ci (A1h he) ?_;refine ci (A1h he) ?_;refine cc hc2 ?_;apply z;clear z K;try simp only [A0c,A0e])
   refine u3 _ _ ?_;clear u3 K3;refine lT C4c ?_;exact⟨z2,⟨hI,h1⟩,sS,by simp [ble]⟩
  intro z hI;obtain⟨hI,_⟩:=hI;rw [List.drop_length,List.foldl_nil] at hI;subst hI;refine kR1 Int.lt_irrefl C4c fun K3 u3=>?_;refine AWp.ss rfl ?_;simp only [TB];refine u2 _ _ ?_;clear u3 K3 u2 K2;refine sR C4c ?_;exact aR
 ·rw [if_neg hk] at hl ⊢;have hn:=A1u d.formals hfl;rw [show d.formals.map (·.name)=A0d d.formals from rfl] at hn;have hfn:(A0d d.formals).length≤sm:=by simpa [A0d] using hfl
  have hv1:=B6q [] false d.name (A0d d.formals) (by simp) hfn;have hv1l:=B6t [] false d.name (A0d d.formals);simp only [List.length_nil,Nat.zero_add] at hv1l;generalize A8s [] false d.name (A0d d.formals)=s at *;have hs:s.length≤10*sm:=by unfold sm at *;omega
  have hal:=E1g d;have hsq:=A9i (E4o d.formals+D2w d.fields) (F5u d.sigs);have hg:=C9c s hs l (D4u d) hfl hd.fields.1 (by rw [hal];omega);have hgl2:=B2w s l (D4u d);rw [hal] at hgl2;have hz:=A7f hl hgl2;generalize E3y s l (D4u d)=z0 at *;unfold D4u at hg;have hR:∃ R,d.sigs.foldl (sgE s) z0=R:=⟨_,rfl⟩;obtain⟨R,hR⟩:=hR;rw [hR];refine cB func122 ?_;refine sR C4c ?_;refine kR1 hk C4c fun K1 u1=>?_;refine AWp.ff rfl (AWp.kk (u1 _ _ ?_));clear u1 K1
  (refine sG C4c [] 5 [] fun K z=>?_;refine ev ?_;refine cc hn ?_;refine cc hv1 ?_;apply z;clear z K)
  refine sC hg C4c ?_;refine kR C4c fun K2 u2=>?_;refine AWp.bb (AWp.ii d.sigs (X:=List EdgeT) (fun j z=>[(0,B3h z),(3,.box 3 0),(8,vrV s),(9,A0g j)]) (fun j z=>[(3,.cells (deS d))])
   (fun j z=>(d.sigs.drop j).foldl (sgE s) z=R∧z.length+F5u (d.sigs.drop j)*F5u (d.sigs.drop j)≤1000000000000) z0 ⟨hR,hz⟩ sS sB ?_ ?_)
  rotate_left
  ·intro j z x hx hmem dp tk hlt hI;obtain⟨hI,hz⟩:=hI;have hj:=(List.getElem?_eq_some_iff.1 hx).1;rw [dp,List.foldl_cons] at hI;have e1:F5u (d.sigs.drop j)=x.al+F5u (d.sigs.drop (j+1)):=by rw [dp];simp only [F5u,List.map_cons,List.sum_cons]
   rw [e1] at hz;have hxs:=hd.sigs.2 x hmem;have hn:=A1u x.formals hxs.formals.1;rw [show x.formals.map (·.name)=A0d x.formals from rfl] at hn;have hfn:(A0d x.formals).length≤sm:=by simpa [A0d] using hxs.formals.1
   have hv2:=B6q s true x.name (A0d x.formals) hs hfn;have hv2l:=B6t s true x.name (A0d x.formals);unfold sgE at hI;have h1:=A7f hz (B2w (A8s s true x.name (A0d x.formals)) z x);have h2:=A9i x.al (F5u (d.sigs.drop (j+1)));have hc:=C9c (A8s s true x.name (A0d x.formals)) (by rw [hv2l];unfold sm at *;omega) z x hxs.formals.1 hxs.params.1 (by omega);generalize A8s s true x.name (A0d x.formals)=s2 at *;generalize E3y s2 z x=z2 at *;refine kR1 hlt C4c fun K3 u3=>?_;refine gI u3 ?_;clear u3 K3;refine sK fun K3 u3=>?_;refine AWp.bb ?_
   (refine lG C4c [] 21 [] fun K z=>?_;refine ev ?_;refine ci (A0n hx) ?_;refine ci (A0n hx) ?_;refine cc hn ?_;refine cc hv2 ?_;refine ci (A0n hx) ?_;refine cc hc ?_;apply z;clear z K;try simp only [A0c,A0e])
   refine u3 _ _ ?_;clear u3 K3;refine lT C4c ?_;exact⟨z2,⟨hI,h1⟩,sS,by simp [ble,A0h]⟩
  intro z hI;obtain⟨hI,_⟩:=hI;rw [List.drop_length,List.foldl_nil] at hI;subst hI;refine kR1 Int.lt_irrefl C4c fun K3 u3=>?_;refine AWp.ss rfl ?_;simp only [TB];refine u2 _ _ ?_;clear u3 K3 u2 K2;refine sR C4c ?_;exact aR
abbrev F7w:List Nat:=[0,1,2,3,4,9]
theorem E2e (p:Prog)(h:p.Sm)(hlist:∀ d,d∈p.decls→(A4p d.body).length≤sm)(hl:D3w p.decls≤72000):A0a prog 50 [prV p] (B3h (C3c p)):=by
 have hpl:=h.decls.1;have hR:∃ R,p.decls.foldl D8v []=R:=⟨_,rfl⟩;obtain⟨R,hR⟩:=hR;unfold C3c;rw [hR];have hz0:([]:List EdgeT).length+D3w p.decls*D3w p.decls≤1000000000000:=by have:D3w p.decls*D3w p.decls≤72000*72000:=Nat.mul_le_mul hl hl;simp only [List.length_nil];omega
 refine cB func50 ?_;refine sR F7w ?_;refine sR F7w ?_;refine kR F7w fun K1 u1=>?_;refine AWp.bb (AWp.ii p.decls (X:=List EdgeT) (fun j z=>[(1,.box 1 0),(3,B3h z),(4,A0g j)]) (fun j z=>[(1,.cells ((prC p).map .d))])
  (fun j z=>(p.decls.drop j).foldl D8v z=R∧z.length+D3w (p.decls.drop j)*D3w (p.decls.drop j)≤1000000000000) [] ⟨hR,hz0⟩ (by simp [sle,vle,A0k,edR]) (by simp [ble,A0h,prC]) ?_ ?_)
 rotate_left
 ·intro j z d hd hmem dp tk hlt hI;obtain⟨hI,hz⟩:=hI;have hj:=(List.getElem?_eq_some_iff.1 hd).1;rw [dp,List.foldl_cons] at hI;have e1:D3w (p.decls.drop j)=d.al+D3w (p.decls.drop (j+1)):=by rw [dp];simp only [D3w,List.map_cons,List.sum_cons]
  rw [e1] at hz;have h1:=A7f hz (D2o z d);have h2:=A9i d.al (D3w (p.decls.drop (j+1)));have hc:=E9m z d (h.decls.2 d hmem) (hlist d hmem) (by omega);generalize D8v z d=z2 at *;refine kR1 hlt F7w fun K2 u2=>?_;refine gI u2 ?_;clear u2 K2;refine sK fun K2 u2=>?_;refine AWp.bb ?_
  (refine lV F7w fun K z=>?_;refine ci (A0t hd) ?_;refine cc hc ?_;apply z;clear z K;try simp only [A0c,A0e])
  refine u2 _ _ ?_;clear u2 K2;refine lT F7w ?_;exact⟨z2,⟨hI,h1⟩,sS,by simp [ble,A0h,prC]⟩
 intro z hI;obtain⟨hI,_⟩:=hI;rw [List.drop_length,List.foldl_nil] at hI;subst hI;refine kR1 Int.lt_irrefl F7w fun K2 u2=>?_;refine AWp.ss rfl ?_;simp only [TB];refine u1 _ _ ?_;clear u2 K2 u1 K1;refine sR F7w ?_;exact aR
abbrev F4d:List Nat:=[0,1,3,4,5,9,17]
theorem C9o (l:List NodeT)(n:NodeT)(hl:l.length≤1000000000000):A0a prog 177 [.d (.slice (noR l)),noV n] (A0m (decide (n∈l))):=by
 refine cB func177 ?_;refine sR F4d ?_;refine kR F4d fun K1 u1=>?_;refine AWp.bb (AWp.ii l (X:=Unit) (fun j _=>[(0,.d (.slice (noR l))),(3,.box 3 0),(5,A0g j)]) (fun j _=>[(3,.cells (noS n))])
  (fun j _=>decide (n∈l)=decide (n∈l.drop j)) () rfl sS sB ?_ ?_)
 rotate_left
 ·intro j _ d hd hmem dp tk hlt hI;have hj:=(List.getElem?_eq_some_iff.1 hd).1;rw [dp] at hI;refine sK fun K2 u2=>?_
  (refine sQ F4d fun K z=>?_;simp -implicitDefEqProofs only [EV,Nat.reduceEqDiff,reduceCtorEq,C4i,hlt,A7m];apply z;clear z K)
  refine gI u2 ?_;clear u2 K2;refine sK fun K2 u2=>?_;refine AWp.bb ?_;by_cases hn:d=n
  ·subst hn;rw [decide_eq_true hmem]
   (refine sG F4d [] 5 [] fun K z=>?_;refine ev ?_;refine⟨by omega,_,F0t hd,rfl,?_⟩;(try simp -implicitDefEqProofs only [EV,Nat.reduceAdd,Nat.reduceEqDiff,reduceCtorEq,A6n,noC]);refine⟨_,A8v d d rfl rfl,?_⟩;(try refine ev ?_);apply z;clear z K)
   refine AWp.tt rfl ?_;refine sR F4d ?_;exact aR
  ·(refine sG F4d [] 5 [] fun K z=>?_;refine ev ?_;refine⟨by omega,_,F0t hd,rfl,?_⟩;(try simp -implicitDefEqProofs only [EV,Nat.reduceAdd,Nat.reduceEqDiff,reduceCtorEq,A6n,noC]);refine⟨_,A8v d n rfl rfl,?_⟩;(try refine ev1 hn ?_);apply z;clear z K)
   refine AWp.ff rfl (AWp.kk (u2 _ _ ?_));clear u2 K2
   (refine lV F4d fun K z=>?_;refine cl ?_;apply z;clear z K;try simp only [A0c,])
   exact⟨(),by rw [hI];simp [Ne.symm hn],sS,by simp [ble,A0h]⟩
 intro _ hI;rw [List.drop_length] at hI;rw [hI,show decide (n∈([]:List NodeT))=false by simp] at u1;refine sK fun K2 u2=>?_
 (refine sQ F4d fun K z=>?_;simp -implicitDefEqProofs only [EV,Nat.reduceEqDiff,reduceCtorEq,C4i,Int.lt_irrefl,A7m];apply z;clear z K)
 refine AWp.ss rfl ?_;simp only [TB];refine u1 _ _ ?_;refine sR F4d ?_;exact aR
theorem C0x {α:Type} [DecidableEq α]:∀ {out m:List α},out.Nodup→(∀ x,x∈out→x∈m)→out.length≤m.length
 | [],_,_,_=>by simp
 | x::xs,m,h,hs=>by rw [List.nodup_cons] at h;have hx:=hs x (by simp);have h1:=C0x (m:=m.erase x) h.2 fun y hy=>(List.mem_erase_of_ne (by rintro rfl;exact h.1 hy)).2 (hs y (by simp [hy]));rw [List.length_erase_of_mem hx] at h1;have:=List.length_pos_of_mem hx;rw [List.length_cons];omega
structure OutOK (l:List EdgeT)(out:List NodeT):Prop where
 nd:out.Nodup
 sub:∀ x,x∈out→x∈l.map (·.dst)
theorem OutOK.len {l:List EdgeT} {out:List NodeT} (h:OutOK l out):out.length≤l.length:=by
 have:=C0x h.nd h.sub
 rwa [List.length_map] at this
theorem OutOK.step {l:List EdgeT} {out:List NodeT} (h:OutOK l out)(n:NodeT) {e:EdgeT} (he:e∈l):OutOK l (A6f n out e):=by
 unfold A6f;split
 ·rename_i hc;refine⟨?_,fun x hx=>?_⟩
  ·rw [List.nodup_append];exact⟨h.nd,by simp,fun a ha b hb=>by simp only [List.mem_cons,List.not_mem_nil,or_false] at hb;rintro rfl;exact hc.2 (hb ▸ ha)⟩
  ·rcases List.mem_append.1 hx with hx | hx
   ·exact h.sub x hx
   ·simp only [List.mem_cons,List.not_mem_nil,or_false] at hx;subst hx;exact List.mem_map.2 ⟨e,he,rfl⟩
 ·exact h
theorem F2a (n:NodeT)(out:List NodeT)(e:EdgeT):out.length≤(A6f n out e).length:=by unfold A6f;split <;> simp
theorem E9y (n:NodeT):∀ (l:List EdgeT)(out:List NodeT),out.length≤(l.foldl (A6f n) out).length
 | [],_=>by simp
 | e::l,out=>by rw [List.foldl_cons];exact Nat.le_trans (F2a n out e) (E9y n l _)
abbrev C5f:List Nat:=[0,1,3,4,5,6,7,11,17,45]
theorem E3q (l:List EdgeT)(n:NodeT)(hl:l.length≤1000000000000):A0a prog 178 [B3h l,noV n] (.d (.slice (noR (B9e l n)))):=by
 have hR:∃ R,B9e l n=R:=⟨_,rfl⟩;obtain⟨R,hR⟩:=hR;rw [hR];unfold B9e at hR;refine cB func178 ?_;refine sR C5f ?_;refine sR C5f ?_;refine AWp.pp 5 3 5 rfl ?_;refine kR C5f fun K1 u1=>?_;refine AWp.bb (AWp.loop (X:=Nat × Int × List NodeT) (fun z=>[(0,B3h l),(3,.box 3 0),(5,.acc 5),(6,A0g z.2.1)]) (fun z=>[(3,.cells (noS n)),(5,.rows 3 (noR z.2.2))])
  (fun z=>B8w l n z.1 z.2.1 z.2.2=R∧OutOK l z.2.2∧(z.2.1=(z.2.2.length:Int)∨l.length+3≤z.1+z.2.2.length)) (fun z=>z.1) (l.length+3,-1,[])
  ⟨hR,⟨by simp,by simp⟩,.inr (by simp)⟩ sS (by simp [ble,A0h,noR]) ?_)
 rintro⟨k,c,out⟩ ⟨hI,hO,hF⟩;simp only at hI hO hF ⊢;have hol:=hO.len;by_cases hc:c=(out.length:Int)
 ·have hRo:R=out:=by
   cases k with
   | zero=>rw [B8w] at hI;exact hI.symm
   | succ k=>rw [B8w,if_pos hc] at hI;exact hI.symm
  subst hRo;refine sK fun K2 u2=>?_
  (refine sQ C5f fun K z=>?_;simp -implicitDefEqProofs only [EV,Nat.reduceEqDiff,reduceCtorEq,C4i,hc,A7m,];apply z;clear z K)
  refine AWp.ss rfl ?_;simp only [TB];refine u1 _ _ ?_;clear u2 K2 u1 K1;refine sR C5f ?_;exact aR
 have hF2:=hF.resolve_left hc;cases k with
 | zero=>omega
 | succ k =>
 rw [B8w,if_neg hc] at hI;refine sK fun K2 u2=>?_
 (refine sQ C5f fun K z=>?_;simp -implicitDefEqProofs only [EV,Nat.reduceEqDiff,reduceCtorEq,C4i,hc,A7m,];apply z;clear z K)
 refine gI u2 ?_;clear u2 K2;refine AWp.bb ?_
 (refine sQ C5f fun K z=>?_;simp -implicitDefEqProofs only [EV,Nat.reduceEqDiff,reduceCtorEq,C4i,A7m];apply z;clear z K)
 refine sR C5f ?_;refine AWp.bb (AWp.ii l (X:=List NodeT) (fun j z=>[(0,B3h l),(3,.box 3 0),(5,.acc 5),(6,A0g out.length),(7,A0g j)]) (fun j z=>[(3,.cells (noS n)),(5,.rows 3 (noR z))])
  (fun j z=>(l.drop j).foldl (A6f n) z=l.foldl (A6f n) out∧OutOK l z) out ⟨rfl,hO⟩ sS sB ?_ ?_)
 rotate_left
 ·intro j z e he hmem dp tk hlt hz;obtain⟨hz,hzO⟩:=hz;have hj:=(List.getElem?_eq_some_iff.1 he).1;have hzl:=hzO.len;have hz2O:=hzO.step n hmem;have hz2l:=hz2O.len;rw [dp,List.foldl_cons] at hz;have hh1:=C9o z e.src (by omega);have hh2:=C9o z e.dst (by omega);refine sK fun K2 u2=>?_
  (refine sQ C5f fun K z=>?_;simp -implicitDefEqProofs only [EV,Nat.reduceEqDiff,reduceCtorEq,B3c,hlt,A3c];apply z;clear z K)
  refine gI u2 ?_;clear u2 K2;refine sK fun K2 u2=>?_;refine AWp.bb ?_;have skip:A6f n z e=z→∀ sl bx,sle sl [(0,B3h l),(3,.box 3 0),(5,.acc 5),(6,A0g out.length),(7,A0g j)]→ble bx [(3,.cells (noS n)),(5,.rows 3 (noR z))]→K2 sl bx:=by
   intro hr sl bx s1 s2;rw [hr] at hz;refine u2 _ _ (AWp.ww s1 s2 ?_);clear u2 K2
   (refine lV C5f fun K z=>?_;refine cl ?_;apply z;clear z K;try simp only [A0c,])
   exact⟨z,⟨hz,hzO⟩,sS,by simp [ble,A0h]⟩
  by_cases h1:e.src=n∨e.src∈z
  ·by_cases h2:e.dst∈z
   ·rw [decide_eq_true h2] at hh2;have hr:A6f n z e=z:=by unfold A6f;rw [if_neg (fun h=>h.2 h2)]
    by_cases h3:e.src=n
    ·(refine sG C5f [] 23 [] fun K z=>?_;refine ev ?_;refine⟨by omega,_,A1k he,rfl,?_⟩;(try simp -implicitDefEqProofs only [EV,Nat.reduceAdd,Nat.reduceEqDiff,Nat.reduceLeDiff,reduceCtorEq,A6n,edC,h3]);refine⟨_,A8v n n rfl rfl,?_⟩;(try refine ev ?_);refine⟨by omega,_,A1k he,rfl,?_⟩;(try simp -implicitDefEqProofs only [EV,Nat.reduceAdd,Nat.reduceEqDiff,Nat.reduceLeDiff,reduceCtorEq,edC,h3]);refine⟨_,.inr ⟨_,rfl,hh2,rfl⟩,?_⟩;(try refine ev ?_);apply z;clear z K)
     refine AWp.ff rfl (AWp.kk ?_);exact skip hr _ _ sS sB
    ·rw [decide_eq_true (h1.resolve_left h3)] at hh1
     (refine sG C5f [] 23 [] fun K z=>?_;refine ev ?_;refine⟨by omega,_,A1k he,rfl,?_⟩;(try simp -implicitDefEqProofs only [EV,Nat.reduceAdd,Nat.reduceEqDiff,Nat.reduceLeDiff,reduceCtorEq,A6n,edC]);refine⟨_,A8v e.src n rfl rfl,?_⟩;(try refine ev1 h3 ?_);refine⟨by omega,_,A1k he,rfl,?_⟩;(try simp -implicitDefEqProofs only [EV,Nat.reduceAdd,Nat.reduceEqDiff,Nat.reduceLeDiff,reduceCtorEq,edC]);refine⟨_,.inr ⟨_,rfl,hh1,rfl⟩,?_⟩;(try refine ev ?_);refine⟨by omega,_,A1k he,rfl,?_⟩;(try simp -implicitDefEqProofs only [EV,Nat.reduceAdd,Nat.reduceEqDiff,Nat.reduceLeDiff,reduceCtorEq,edC]);refine⟨_,.inr ⟨_,rfl,hh2,rfl⟩,?_⟩;(try refine ev ?_);apply z;clear z K)
     refine AWp.ff rfl (AWp.kk ?_);exact skip hr _ _ sS sB
   ·rw [decide_eq_false h2] at hh2;have hr:A6f n z e=z++[e.dst]:=by unfold A6f;rw [if_pos ⟨h1,h2⟩]
    rw [hr] at hz hz2O hz2l;rw [List.length_append] at hz2l;simp only [List.length_cons,List.length_nil] at hz2l;by_cases h3:e.src=n
    ·(refine sG C5f [] 23 [] fun K z=>?_;refine ev ?_;refine⟨by omega,_,A1k he,rfl,?_⟩;(try simp -implicitDefEqProofs only [EV,Nat.reduceAdd,Nat.reduceEqDiff,Nat.reduceLeDiff,reduceCtorEq,A6n,edC,h3]);refine⟨_,A8v n n rfl rfl,?_⟩;(try refine ev ?_);refine⟨by omega,_,A1k he,rfl,?_⟩;(try simp -implicitDefEqProofs only [EV,Nat.reduceAdd,Nat.reduceEqDiff,Nat.reduceLeDiff,reduceCtorEq,edC,h3]);refine⟨_,.inr ⟨_,rfl,hh2,rfl⟩,?_⟩;(try refine ev ?_);apply z;clear z K)
     refine AWp.tt rfl ?_
     (refine lV C5f fun K z=>?_;refine⟨by omega,_,A1k he,rfl,?_⟩;(try simp -implicitDefEqProofs only [EV,Nat.reduceAdd,Nat.reduceEqDiff,Nat.reduceBEq,Nat.reduceLeDiff,Nat.reduceMul,reduceCtorEq,A6n,C4i,edC,A7m]);refine⟨by simp,by (try simp only [A7m]);unfold lim;omega,?_⟩;(try simp -implicitDefEqProofs only [EV,forall_const,implies_true,Nat.reduceAdd,Nat.reduceEqDiff,Nat.reduceBEq,Nat.reduceLeDiff,Nat.reduceSub,Nat.reduceMul,Int.reduceEq,Int.reduceLT,Int.reduceLE,Int.reduceSub,Int.reduceAdd,Int.reduceToNat,reduceCtorEq,Int.reduceNeg,TF3,TF4,TF9,B3c,A6n,A5m,C4i,edC,A7m]);apply z;clear z K;try simp only [A0c,A0e])
     refine u2 _ _ ?_;clear skip u2 K2
     (refine lV C5f fun K z=>?_;refine cl ?_;apply z;clear z K;try simp only [A0c,])
     exact⟨z++[e.dst],⟨hz,hz2O⟩,sS,by simp [ble,A0h,noR,noC]⟩
    ·rw [decide_eq_true (h1.resolve_left h3)] at hh1
     (refine sG C5f [] 23 [] fun K z=>?_;refine ev ?_;refine⟨by omega,_,A1k he,rfl,?_⟩;(try simp -implicitDefEqProofs only [EV,Nat.reduceAdd,Nat.reduceEqDiff,Nat.reduceLeDiff,reduceCtorEq,A6n,edC]);refine⟨_,A8v e.src n rfl rfl,?_⟩;(try refine ev1 h3 ?_);refine⟨by omega,_,A1k he,rfl,?_⟩;(try simp -implicitDefEqProofs only [EV,Nat.reduceAdd,Nat.reduceEqDiff,Nat.reduceLeDiff,reduceCtorEq,edC]);refine⟨_,.inr ⟨_,rfl,hh1,rfl⟩,?_⟩;(try refine ev ?_);refine⟨by omega,_,A1k he,rfl,?_⟩;(try simp -implicitDefEqProofs only [EV,Nat.reduceAdd,Nat.reduceEqDiff,Nat.reduceLeDiff,reduceCtorEq,edC]);refine⟨_,.inr ⟨_,rfl,hh2,rfl⟩,?_⟩;(try refine ev ?_);apply z;clear z K)
     refine AWp.tt rfl ?_
     (refine lV C5f fun K z=>?_;refine⟨by omega,_,A1k he,rfl,?_⟩;(try simp -implicitDefEqProofs only [EV,Nat.reduceAdd,Nat.reduceEqDiff,Nat.reduceBEq,Nat.reduceLeDiff,Nat.reduceMul,reduceCtorEq,A6n,C4i,edC,A7m]);refine⟨by simp,by (try simp only [A7m]);unfold lim;omega,?_⟩;(try simp -implicitDefEqProofs only [EV,forall_const,implies_true,Nat.reduceAdd,Nat.reduceEqDiff,Nat.reduceBEq,Nat.reduceLeDiff,Nat.reduceSub,Nat.reduceMul,Int.reduceEq,Int.reduceLT,Int.reduceLE,Int.reduceSub,Int.reduceAdd,Int.reduceToNat,reduceCtorEq,Int.reduceNeg,TF3,TF4,TF9,B3c,A6n,A5m,C4i,edC,A7m]);apply z;clear z K;try simp only [A0c,A0e])
     refine u2 _ _ ?_;clear skip u2 K2
     (refine lV C5f fun K z=>?_;refine cl ?_;apply z;clear z K;try simp only [A0c,])
     exact⟨z++[e.dst],⟨hz,hz2O⟩,sS,by simp [ble,A0h,noR,noC]⟩
  ·have hr:A6f n z e=z:=by unfold A6f;rw [if_neg (fun h=>h1 h.1)]
   have h3:¬ e.src=n:=fun h=>h1 (.inl h);rw [decide_eq_false (fun h=>h1 (.inr h))] at hh1
   (refine sG C5f [] 23 [] fun K z=>?_;refine ev ?_;refine⟨by omega,_,A1k he,rfl,?_⟩;(try simp -implicitDefEqProofs only [EV,Nat.reduceAdd,Nat.reduceEqDiff,Nat.reduceLeDiff,reduceCtorEq,A6n,edC]);refine⟨_,A8v e.src n rfl rfl,?_⟩;(try refine ev1 h3 ?_);refine⟨by omega,_,A1k he,rfl,?_⟩;(try simp -implicitDefEqProofs only [EV,Nat.reduceAdd,Nat.reduceEqDiff,Nat.reduceLeDiff,reduceCtorEq,edC]);refine⟨_,.inr ⟨_,rfl,hh1,rfl⟩,?_⟩;(try refine ev ?_);apply z;clear z K)
   refine AWp.ff rfl (AWp.kk ?_);exact skip hr _ _ sS sB
 intro z hz;obtain⟨hz,hzO⟩:=hz;rw [List.drop_length,List.foldl_nil] at hz;have hge:=E9y n l out;rw [← hz] at hI hge;refine sK fun K2 u2=>?_
 (refine sQ C5f fun K z=>?_;simp -implicitDefEqProofs only [EV,Nat.reduceEqDiff,reduceCtorEq,B3c,Int.lt_irrefl,A3c];apply z;clear z K)
 refine AWp.ss rfl ?_;simp only [TB];refine⟨(k,(out.length:Int),z),⟨hI,hzO,?_⟩,by simp only;omega,sS,by simp [ble,A0h]⟩;simp only;by_cases h:z.length=out.length
 ·exact .inl (by omega)
 ·exact .inr (by omega)
theorem E5f (l:List EdgeT)(a b:NodeT)(hl:l.length≤1000000000000)(hr:(B9e l a).length≤1000000000000):A0a prog 121 [B3h l,noV a,noV b] (A0m (D3p l a b)):=by
 have h1:=E3q l a hl;have h2:=C9o (B9e l a) b hr;unfold D3p;generalize B9e l a=z at *;refine cB func121 ?_;refine sR [0,1,2,4,5,6] ?_
 (refine sG [0,1,2,4,5,6] [] 4 [] fun K z=>?_;refine ev ?_;refine cc h1 ?_;refine cc h2 ?_;apply z;clear z K)
 exact aR
theorem E6r (n:NodeT)(l:List EdgeT):∀ (m:List EdgeT)(out:List NodeT),(∀ e,e∈m→e∈l)→OutOK l out→OutOK l (m.foldl (A6f n) out)
 | [],_,_,h=>h
 | e::m,out,hm,h=>by rw [List.foldl_cons];exact E6r n l m _ (fun x hx=>hm x (by simp [hx])) (h.step n (hm e (by simp)))
theorem D4b (l:List EdgeT)(n:NodeT):∀ (k:Nat)(c:Int)(out:List NodeT),OutOK l out→OutOK l (B8w l n k c out)
 | 0,_,_,h=>h
 | k+1,c,out,h=>by
  rw [B8w];split
  ·exact h
  ·exact D4b l n k _ _ (E6r n l l out (fun _ h=>h) h)
theorem E3g (l:List EdgeT)(n:NodeT):(B9e l n).length≤l.length:=(D4b l n _ _ _ ⟨by simp,by simp⟩).len
def F8w (l:List EdgeT)(e:EdgeT):Bool:=e.ins && (decide (e.dst=e.src) || D3p l e.dst e.src)
abbrev D5n:List Nat:=[0,2,3,4,8,42]
theorem F3z (l:List EdgeT)(hl:l.length≤1000000000000):A0a prog 49 [B3h l] (B3h (G4n l)):=by
 refine cB func49 ?_;refine sR D5n ?_;refine sR D5n ?_;refine AWp.pp 3 7 3 rfl ?_;refine kR D5n fun K1 u1=>?_;refine AWp.bb (AWp.ii l (X:=Unit) (fun j _=>[(0,B3h l),(3,.acc 3),(4,A0g j)]) (fun j _=>[(3,.rows 7 (edR ((l.take j).filter (F8w l))))])
  (fun _ _=>True) () trivial sS (by simp [ble,A0h,edR]) ?_ ?_)
 rotate_left
 ·intro j _ e he hmem dp tk hlt _;have hj:=(List.getElem?_eq_some_iff.1 he).1;have hL:=E5f l e.dst e.src hl (Nat.le_trans (E3g l e.dst) hl);have e2:edR ((l.take (j+1)).filter (F8w l))=edR ((l.take j).filter (F8w l))++(if F8w l e=true then [edC e] else []):=by
   rw [List.take_succ_eq_append_getElem hj,(List.getElem?_eq_some_iff.1 he).2,List.filter_append];simp only [edR,List.map_append,List.filter_cons,List.filter_nil];split <;> simp
  have e3:(edR ((l.take j).filter (F8w l))).length≤j:=by rw [A3c];exact Nat.le_trans (List.length_filter_le _ _) (by rw [List.length_take];omega)
  rw [e2];generalize edR ((l.take j).filter (F8w l))=PR at *;unfold F8w;generalize D3p l e.dst e.src=lb at *;refine sK fun K2 u2=>?_
  (refine sQ D5n fun K z=>?_;simp -implicitDefEqProofs only [EV,Nat.reduceEqDiff,reduceCtorEq,B3c,hlt,A3c];apply z;clear z K)
  refine gI u2 ?_;clear u2 K2;refine sK fun K2 u2=>?_;refine AWp.bb ?_;cases hi:e.ins with
  | false =>
   simp only [Bool.false_and,Bool.false_eq_true,if_false,List.append_nil]
   (refine sG D5n [] 29 [] fun K z=>?_;refine ev ?_;refine⟨by omega,_,A1k he,rfl,?_⟩;(try simp -implicitDefEqProofs only [EV,Nat.reduceEqDiff,reduceCtorEq,edC,hi]);apply z;clear z K)
   refine AWp.ff rfl (AWp.kk (u2 _ _ ?_));clear u2 K2
   (refine lV D5n fun K z=>?_;refine cl ?_;apply z;clear z K;try simp only [A0c,])
   exact⟨(),trivial,sS,by simp [ble,A0h,hi]⟩
  | true =>
   by_cases hds:e.dst=e.src
   ·simp only [Bool.true_and,decide_eq_true hds,Bool.true_or,if_true]
    (refine sG D5n [] 29 [] fun K z=>?_;refine ev ?_;refine⟨by omega,_,A1k he,rfl,?_⟩;(try simp -implicitDefEqProofs only [EV,Nat.reduceAdd,Nat.reduceEqDiff,reduceCtorEq,B3c,A6n,A5m,edC,hi,hds]);refine⟨by omega,_,A1k he,rfl,?_⟩;(try simp -implicitDefEqProofs only [EV,Nat.reduceAdd,Nat.reduceEqDiff,Nat.reduceLeDiff,reduceCtorEq,B3c,A6n,A5m,edC,hi,hds]);refine⟨by omega,_,A1k he,rfl,?_⟩;(try simp -implicitDefEqProofs only [EV,Nat.reduceAdd,Nat.reduceEqDiff,Nat.reduceLeDiff,reduceCtorEq,edC,hi,hds]);refine⟨_,A8v e.src e.src rfl rfl,?_⟩;(try refine ev ?_);apply z;clear z K)
    refine AWp.tt rfl ?_
    (refine lV D5n fun K z=>?_;refine⟨by omega,_,A1k he,rfl,?_⟩;(try simp -implicitDefEqProofs only [EV,Nat.reduceAdd,Nat.reduceEqDiff,Nat.reduceBEq,Nat.reduceLeDiff,Nat.reduceMul,reduceCtorEq,B3c,A5m,edC]);refine⟨by simp,by unfold lim;omega,?_⟩;(try simp -implicitDefEqProofs only [EV,forall_const,implies_true,Nat.reduceAdd,Nat.reduceEqDiff,Nat.reduceBEq,Nat.reduceLeDiff,Nat.reduceSub,Nat.reduceMul,Int.reduceEq,Int.reduceLT,Int.reduceLE,Int.reduceSub,Int.reduceAdd,Int.reduceToNat,reduceCtorEq,Int.reduceNeg,TF3,TF4,TF9,B3c,A6n,A5m,edC]);apply z;clear z K;try simp only [A0c,A0e])
    refine u2 _ _ ?_;clear u2 K2
    (refine lV D5n fun K z=>?_;refine cl ?_;apply z;clear z K;try simp only [A0c,])
    exact⟨(),trivial,sS,by simp [ble,A0h,hi,hds,edC]⟩
   ·cases lb with
    | true =>
     simp only [Bool.true_and,Bool.or_true,if_true]
     (refine sG D5n [] 29 [] fun K z=>?_;refine ev ?_;refine⟨by omega,_,A1k he,rfl,?_⟩;(try simp -implicitDefEqProofs only [EV,Nat.reduceAdd,Nat.reduceEqDiff,reduceCtorEq,B3c,A6n,A5m,edC,hi]);refine⟨by omega,_,A1k he,rfl,?_⟩;(try simp -implicitDefEqProofs only [EV,Nat.reduceAdd,Nat.reduceEqDiff,Nat.reduceLeDiff,reduceCtorEq,B3c,A6n,A5m,edC,hi]);refine⟨by omega,_,A1k he,rfl,?_⟩;(try simp -implicitDefEqProofs only [EV,Nat.reduceAdd,Nat.reduceEqDiff,Nat.reduceLeDiff,reduceCtorEq,edC,hi]);refine⟨_,A8v e.dst e.src rfl rfl,?_⟩;(try refine ev1 hds ?_);refine⟨by omega,_,A1k he,rfl,?_⟩;(try simp -implicitDefEqProofs only [EV,Nat.reduceAdd,Nat.reduceEqDiff,Nat.reduceLeDiff,reduceCtorEq,B3c,A6n,A5m,edC,hi]);refine⟨by omega,_,A1k he,rfl,?_⟩;(try simp -implicitDefEqProofs only [EV,Nat.reduceAdd,Nat.reduceEqDiff,Nat.reduceLeDiff,reduceCtorEq,edC,hi]);refine cc hL ?_;apply z;clear z K)
     refine AWp.tt rfl ?_
     (refine lV D5n fun K z=>?_;refine⟨by omega,_,A1k he,rfl,?_⟩;(try simp -implicitDefEqProofs only [EV,Nat.reduceAdd,Nat.reduceEqDiff,Nat.reduceBEq,Nat.reduceLeDiff,Nat.reduceMul,reduceCtorEq,B3c,A5m,edC]);refine⟨by simp,by unfold lim;omega,?_⟩;(try simp -implicitDefEqProofs only [EV,forall_const,implies_true,Nat.reduceAdd,Nat.reduceEqDiff,Nat.reduceBEq,Nat.reduceLeDiff,Nat.reduceSub,Nat.reduceMul,Int.reduceEq,Int.reduceLT,Int.reduceLE,Int.reduceSub,Int.reduceAdd,Int.reduceToNat,reduceCtorEq,Int.reduceNeg,TF3,TF4,TF9,B3c,A6n,A5m,edC]);apply z;clear z K;try simp only [A0c,A0e])
     refine u2 _ _ ?_;clear u2 K2
     (refine lV D5n fun K z=>?_;refine cl ?_;apply z;clear z K;try simp only [A0c,])
     exact⟨(),trivial,sS,by simp [ble,A0h,hi,hds,edC]⟩
    | false =>
     simp only [Bool.true_and,decide_eq_false hds,Bool.or_false,Bool.false_eq_true,if_false,List.append_nil]
     (refine sG D5n [] 29 [] fun K z=>?_;refine ev ?_;refine⟨by omega,_,A1k he,rfl,?_⟩;(try simp -implicitDefEqProofs only [EV,Nat.reduceAdd,Nat.reduceEqDiff,reduceCtorEq,B3c,A6n,A5m,edC,hi]);refine⟨by omega,_,A1k he,rfl,?_⟩;(try simp -implicitDefEqProofs only [EV,Nat.reduceAdd,Nat.reduceEqDiff,Nat.reduceLeDiff,reduceCtorEq,B3c,A6n,A5m,edC,hi]);refine⟨by omega,_,A1k he,rfl,?_⟩;(try simp -implicitDefEqProofs only [EV,Nat.reduceAdd,Nat.reduceEqDiff,Nat.reduceLeDiff,reduceCtorEq,edC,hi]);refine⟨_,A8v e.dst e.src rfl rfl,?_⟩;(try refine ev1 hds ?_);refine⟨by omega,_,A1k he,rfl,?_⟩;(try simp -implicitDefEqProofs only [EV,Nat.reduceAdd,Nat.reduceEqDiff,Nat.reduceLeDiff,reduceCtorEq,B3c,A6n,A5m,edC,hi]);refine⟨by omega,_,A1k he,rfl,?_⟩;(try simp -implicitDefEqProofs only [EV,Nat.reduceAdd,Nat.reduceEqDiff,Nat.reduceLeDiff,reduceCtorEq,edC,hi]);refine cc hL ?_;apply z;clear z K)
     refine AWp.ff rfl (AWp.kk (u2 _ _ ?_));clear u2 K2
     (refine lV D5n fun K z=>?_;refine cl ?_;apply z;clear z K;try simp only [A0c,])
     exact⟨(),trivial,sS,by simp [ble,A0h,hi,hds]⟩
 intro _ _;rw [List.take_length];refine sK fun K2 u2=>?_
 (refine sQ D5n fun K z=>?_;simp -implicitDefEqProofs only [EV,Nat.reduceEqDiff,reduceCtorEq,B3c,Int.lt_irrefl,A3c];apply z;clear z K)
 refine AWp.ss rfl ?_;simp only [TB];refine u1 _ _ ?_;clear u2 K2 u1 K1;refine sR D5n ?_;rw [show G4n l=l.filter (F8w l) from rfl];exact aR
theorem F9g (p:Prog)(h:p.Sm)(hlist:∀ d,d∈p.decls→(A4p d.body).length≤sm)(hl:D3w p.decls≤72000):A0a prog 18 [prV p] (A0m (E0n p)):=by
 have h1:=E2e p h hlist hl;have hlen:(C3c p).length≤1000000000000:=by have:=B2u (g:=Decl.al) D2o p.decls [];have h2:D3w p.decls*D3w p.decls≤72000*72000:=Nat.mul_le_mul hl hl;unfold D3w at *;unfold C3c;simp only [List.length_nil] at this;omega
 have h2:=F3z (C3c p) hlen;unfold E0n;generalize C3c p=l at *;generalize G4n l=x at *;by_cases hx:x.length=0
 ·have hx2:((x.length:Nat):Int)=0:=by omega
  rw [decide_eq_true hx];refine cB func18 ?_;refine sR [0,1,2] ?_
  (refine sV [0,1,2] fun K z=>?_;refine cc h1 ?_;refine⟨_,.inl ⟨_,rfl,h2,rfl⟩,?_⟩;(try simp -implicitDefEqProofs only [EV,Nat.reduceEqDiff,reduceCtorEq,hx2,A3c,B3c]);apply z;clear z K)
  exact aR
 ·have hx2:¬ ((x.length:Nat):Int)=0:=by omega
  rw [decide_eq_false hx];refine cB func18 ?_;refine sR [0,1,2] ?_
  (refine sV [0,1,2] fun K z=>?_;refine cc h1 ?_;refine⟨_,.inl ⟨_,rfl,h2,rfl⟩,?_⟩;(try simp -implicitDefEqProofs only [EV,Nat.reduceEqDiff,reduceCtorEq,hx2,A3c,B3c]);apply z;clear z K)
  exact aR
set_option maxHeartbeats 1000000
open Go Go.Proofs Go.Sort Tryz
set_option maxHeartbeats 4000000
abbrev G5f (ts:List Ty)(cs:List CallT):List D:=[.slice (tyR ts),.slice (caR cs)]
abbrev F1i (ts:List Ty)(cs:List CallT):SV:=.agg [.d (.slice (tyR ts)),.d (.slice (caR cs))]
def plF (l:List Param):List Param:=l.map fun f=>⟨f.name,plT f.type,0⟩
def headD (k:Int)(nm:Str)(fs:List Param)(ss:List Sig):Decl:=⟨k,nm,[],fs,ss,[],[],D6a,ex0,0⟩
def C4b (nm:Str)(s:Sig):Decl:=⟨3,nm,[],[],[],[114],[],B7u s,.mk 3 [] F7v [] [] 0,0⟩
def D1p (M:CallT→Option Decl)(p:Prog)(calls:List CallT)(x:Ty):List Decl:=if A1w p x 1=true then headD 1 x.mg (plF (A1c p x)) []::(calls.filterMap M++(A3o p [] x).map (C4b x.mg)) else []
def dcR:Option Decl→SV
 | none=>.tuple [deV default,A0m false]
 | some d=>.tuple [deV d,A0m true]
abbrev deH (nm:Str)(x:SV):List SV:=[.d (.int .i64 1),.d (.str nm),.d .nil,x,.d .nil,.d (.str []),.d .nil,.d (.str []),.d .nil,.d .nil,.d (.str []),.d .nil,.d (.int .i64 0),.d (.int .i64 0),.d (.int .i64 0),.d (.str []),.d (.str []),.d .nil,.d (.int .i64 0),.d .nil,.d .nil,.d (.int .i64 0),.d (.int .i64 0)]
theorem E0w {l:List Param} {j:Nat} {d:Param} (h:l[j]? = some d):paR (plF (l.take (j+1)))=paR (plF (l.take j))++[paC ⟨d.name,plT d.type,0⟩]:=by have hj:=(List.getElem?_eq_some_iff.1 h).1;rw [List.take_succ_eq_append_getElem hj,(List.getElem?_eq_some_iff.1 h).2];simp [plF,paR]
theorem C6y {p:Prog} (ht:∀ d,d∈p.decls→d.Tl)(hr:p.right=true)(hs:p.Sm) {x:Ty} (hx:∀ u,u∈x.args→u.Ni 12000):∀ f,f∈A1c p x→f.type.Ni 360000000:=by
 intro f hf;unfold A1c at hf;split at hf
 ·rename_i hi;obtain⟨d,hd,_⟩:=A3n (by decide) hi;rw [hd,Option.getD_some] at hf;unfold B4q at hf;obtain⟨y,hy,rfl⟩:=List.mem_map.1 hf;have hdm:=A3d hd;simp only [Prog.right,Bool.and_eq_true,List.all_eq_true] at hr;have h:=hr.1 d hdm;simp only [Decl.right,A4z,Bool.and_eq_true,List.all_eq_true] at h;have hy2:=h.2.2.1 y hy;have hyn:y.type.Ni 120000:=⟨Ty.right_Mg ((hs.decls.2 d hdm).fields.2 y hy).type hy2.2,(ht d hdm).fields y hy⟩;exact Ty.Ni.subst (B:=120000) (M:=12000) (by decide) hx hyn
 ·simp at hf
abbrev B2f:List Nat:=[0,1,2,5,6,7,8,9,11,12,14,15,16,18,26,30,31,32,33,49,50,51,52,53,62,70,71,72,73,901]
theorem C2h (p:Prog)(h:p.Sm)(ht:∀ d,d∈p.decls→d.Tl)(hr:p.right=true)(M:CallT→Option Decl)(calls:List CallT)(hcl:calls.length≤sm)
  (hM:∀ c,c∈calls→A0a prog 74 [.dptr (B0u p) 0,caV c] (dcR (M c))) (x:Ty) (hx:x.Sm) (hxn:x.Ni 12000) :
  A1p prog 27 [.dptr (B0u p) 0,.d (.slice (caR calls)),tyV x] [] (.acc 49) [(49,.rows 23 (deR (D1p M p calls x)))]:=by
 have hF:=E3w p h x hx;unfold D1p;cases hi:A1w p x 1 with
 | false =>rw [hi] at hF;rw [if_neg (by simp),show deR []=[] from rfl];refine bB func27 ?_;refine sR B2f ?_;refine sC hF B2f ?_;refine kR B2f fun K1 u1=>?_;refine tI ?_;refine sR B2f ?_;refine AWp.pp 49 23 6 rfl ?_;exact AWp.ret ⟨_,by rw [results27];rfl,.inl rfl,by simp [ble,A0h]⟩
 | true =>
 rw [hi] at hF;rw [if_pos rfl];have hT:=A8f x hxn.mg (by have:=hxn.len;omega);have hfn:=C6y ht hr h hxn.args;have hfl:(A1c p x).length≤sm:=A7g h x;have hS:=D3z p h [] (by simp) (by simp) x hx;have hsl:=A3h h [] x;have hsn:=B2e h ht hr hx hxn.args;generalize x.mg=nm at *;generalize A1c p x=fs at *;generalize A3o p [] x=ss at *;refine bB func27 ?_;refine sR B2f ?_;refine sC hF B2f ?_;refine kR B2f fun K1 u1=>?_;refine kI u1 ?_;clear u1 K1;refine sC hT B2f ?_;refine AWp.promoteBox 901 5 9 3 rfl rfl (by decide) ?_;refine kR B2f fun K1 u1=>?_;refine AWp.bb (AWp.ii fs (X:=Unit) (fun j _=>[(0,.dptr (B0u p) 0),(1,.d (.slice (caR calls))),(5,.box 5 0),(9,.box 9 0),(30,.d (.slice (paR fs))),(31,A0g fs.length),(32,A0g j)])
  (fun j _=>[(5,.cells (tyS x)),(9,.cells (deH nm (.acc 901))),(901,.rows 5 (paR (plF (fs.take j))))])
  (fun _ _=>True) () trivial sS (by simp [ble,A0h,paR,plF]) ?_ ?_)
 rotate_left
 ·intro j _ d hd hmem dp tk hlt _;have hj:=(List.getElem?_eq_some_iff.1 hd).1;have hdn:=hfn d hmem;have hdp:=B2b d.type hdn.mg (by have:=hdn.len;omega);have e3:(paR (plF (fs.take j))).length=j:=by simp only [paR,plF,List.length_map,List.length_take];omega
  rw [E0w hd];generalize paR (plF (fs.take j))=PR at *;refine sR1 hlt B2f ?_;refine AWp.goOn rfl ?_;refine sK fun K2 u2=>?_;refine AWp.bb ?_
  (refine sV B2f fun K z=>?_;refine ci (A0r hd) ?_;apply z;clear z K)
  (refine lG B2f [] 9 [] fun K z=>?_;refine ev ?_;refine⟨_,.inl ⟨_,rfl,hdp,rfl⟩,?_⟩;(try refine ev1 e3 ?_);refine⟨by simp,by (try simp only [e3]);unfold lim sm at *;omega,?_⟩;(try refine ev1 e3 ?_);apply z;clear z K;try simp only [A0c,A0e])
  refine u2 _ _ ?_;clear u2 K2;refine lT B2f ?_;exact⟨(),trivial,sS,by simp [ble,A0h,paC]⟩
 intro _ _;rw [List.take_length];refine sR1 Int.lt_irrefl B2f ?_;refine AWp.stop rfl ?_;simp only [TB];refine u1 _ _ ?_;clear u1 K1
 (refine AWp.publish 901 rfl (wk [(0,.dptr (B0u p) 0),(1,.d (.slice (caR calls))),(5,.box 5 0),(9,.box 9 0)] [(5,.cells (tyS x)),(9,.cells (deH nm (.d (.slice (paR (plF fs))))))] ?_))
 (refine AWp.seqR B2f [49] (by decide +kernel) fun K z=>?_;refine ev ?_;apply z;clear z K)
 refine kR B2f fun K1 u1=>?_;refine AWp.bb (AWp.ii calls (X:=Unit) (fun j _=>[(0,.dptr (B0u p) 0),(5,.box 5 0),(9,.box 9 0),(12,.acc 49),(50,.d (.slice (caR calls))),(51,A0g calls.length),(52,A0g j)])
  (fun j _=>[(5,.cells (tyS x)),(9,.cells (deH nm (.d (.slice (paR (plF fs)))))),(49,.rows 23 (deR (headD 1 nm (plF fs) []::(calls.take j).filterMap M)))])
  (fun _ _=>True) () trivial (by simp [sle,vle,A0k,A1a]) ⟨rfl,rfl,rfl,trivial⟩ ?_ ?_)
 rotate_left
 ·intro j _ c hc hmem dp tk hlt _;have hj:=(List.getElem?_eq_some_iff.1 hc).1;have hm:=hM c hmem;have e2:deR (headD 1 nm (plF fs) []::(calls.take (j+1)).filterMap M)=deR (headD 1 nm (plF fs) []::(calls.take j).filterMap M)++deR (M c).toList:=by
   rw [List.take_succ_eq_append_getElem hj,(List.getElem?_eq_some_iff.1 hc).2,List.filterMap_append];cases hmc:M c <;> simp [deR,hmc]
  have e3:(deR (headD 1 nm (plF fs) []::(calls.take j).filterMap M)).length≤j+1:=by simp only [deR,List.length_map,List.length_cons];have:=List.length_filterMap_le M (calls.take j);rw [List.length_take] at this;omega
  rw [e2];generalize deR (headD 1 nm (plF fs) []::(calls.take j).filterMap M)=PR at *;cases hmc:M c with
  | none =>
   rw [hmc] at hm;unfold dcR at hm;refine sR1 hlt B2f ?_;refine AWp.goOn rfl ?_;refine sK fun K2 u2=>?_;refine AWp.bb ?_
   (refine sV B2f fun K z=>?_;refine⟨by omega,_,A1s hc,rfl,?_⟩;(try simp -implicitDefEqProofs only [EV,Nat.reduceAdd,Nat.reduceEqDiff,Nat.reduceBEq,Nat.reduceLeDiff,reduceCtorEq,F8m,caC]);apply z;clear z K)
   refine sC hm B2f ?_;refine sR B2f ?_;refine AWp.ff rfl (AWp.kk (u2 _ _ ?_));clear u2 K2;refine lT B2f ?_;exact⟨(),trivial,sS,by simp [ble,A0h,deR]⟩
  | some d =>
   rw [hmc] at hm;unfold dcR at hm;refine sR1 hlt B2f ?_;refine AWp.goOn rfl ?_;refine sK fun K2 u2=>?_;refine AWp.bb ?_
   (refine sV B2f fun K z=>?_;refine⟨by omega,_,A1s hc,rfl,?_⟩;(try simp -implicitDefEqProofs only [EV,Nat.reduceAdd,Nat.reduceEqDiff,Nat.reduceBEq,Nat.reduceLeDiff,reduceCtorEq,F8m,caC]);apply z;clear z K)
   refine sC hm B2f ?_;refine sR B2f ?_;refine AWp.tt rfl ?_
   (refine lV B2f fun K z=>?_;refine⟨by simp,by unfold lim sm at *;omega,?_⟩;(try refine ev ?_);apply z;clear z K;try simp only [A0c,A0e])
   refine u2 _ _ ?_;clear u2 K2;refine lT B2f ?_;exact⟨(),trivial,sS,by simp [ble,A0h,deR,deC]⟩
 intro _ _;rw [List.take_length];have hcfl:=List.length_filterMap_le M calls;refine sR1 Int.lt_irrefl B2f ?_;refine AWp.stop rfl ?_;simp only [TB];refine u1 _ _ ?_;clear u1 K1;refine kC hS B2f fun K1 u1=>?_;refine AWp.bb (AWp.ii ss (X:=Unit) (fun j _=>[(9,.box 9 0),(12,.acc 49),(70,.d (.slice (siR ss))),(71,A0g ss.length),(72,A0g j)])
  (fun j _=>[(9,.cells (deH nm (.d (.slice (paR (plF fs)))))),(49,.rows 23 (deR (headD 1 nm (plF fs) []::(calls.filterMap M++(ss.take j).map (C4b nm)))))])
  (fun _ _=>True) () trivial sS (by simp [ble,A0h,deR]) ?_ ?_)
 rotate_left
 ·intro j _ s hs hmem dp tk hlt _;have hj:=(List.getElem?_eq_some_iff.1 hs).1;have hsd:=hsn s hmem;have hdu:=C3b s (Sig.Ni.dum ⟨hsd.sm,⟨hsd.formals.1,fun f hf=>⟨(hsd.formals.2 f hf).mg,by have:=(hsd.formals.2 f hf).len;omega⟩⟩,⟨hsd.params.1,fun f hf=>⟨(hsd.params.2 f hf).mg,by have:=(hsd.params.2 f hf).len;omega⟩⟩,⟨hsd.result.mg,by have:=hsd.result.len;omega⟩⟩);have htp:=F2e;have e2:deR (headD 1 nm (plF fs) []::(calls.filterMap M++(ss.take (j+1)).map (C4b nm)))=deR (headD 1 nm (plF fs) []::(calls.filterMap M++(ss.take j).map (C4b nm)))++[deC (C4b nm s)]:=by
   rw [List.take_succ_eq_append_getElem hj,(List.getElem?_eq_some_iff.1 hs).2];simp [deR]
  have e3:(deR (headD 1 nm (plF fs) []::(calls.filterMap M++(ss.take j).map (C4b nm)))).length≤2*sm+1:=by simp only [deR,List.length_map,List.length_cons,List.length_append,List.length_take];omega
  rw [e2];generalize deR (headD 1 nm (plF fs) []::(calls.filterMap M++(ss.take j).map (C4b nm)))=PR at *;unfold C4b;generalize B7u s=g at *;refine sR1 hlt B2f ?_;refine AWp.goOn rfl ?_;refine sK fun K2 u2=>?_;refine AWp.bb ?_
  (refine sV B2f fun K z=>?_;refine ci (A0n hs) ?_;apply z;clear z K)
  (refine lG B2f [] 9 [] fun K z=>?_;refine ev ?_;refine cc hdu ?_;refine cc htp ?_;refine⟨by simp,by unfold lim sm at *;omega,?_⟩;(try refine ev ?_);apply z;clear z K;try simp only [A0c,A0e])
  refine u2 _ _ ?_;clear u2 K2;refine lT B2f ?_;exact⟨(),trivial,sS,⟨rfl,rfl,trivial⟩⟩
 intro _ _;rw [List.take_length];refine sR1 Int.lt_irrefl B2f ?_;refine AWp.stop rfl ?_;simp only [TB];refine u1 _ _ ?_;clear u1 K1;refine sR B2f ?_;exact AWp.ret ⟨_,by rw [results27];rfl,.inl rfl,by simp [ble,A0h]⟩
abbrev G4g:List Nat:=[0,1,2,5,6,7,8,9,11,12,13,15,19,23,27,28,29,30,39,50,51,52,53]
theorem B5x (p:Prog)(h:p.Sm)(calls:List CallT)(x:Ty)(hx:x.Sm)(hi:A1w p x 2=false):A0a prog 28 [.dptr (B0u p) 0,.d (.slice (caR calls)),tyV x] (.d (.slice [])):=by
 have hS:=B2i p h x hx;rw [hi] at hS;refine cB func28 ?_;refine sR G4g ?_
 (refine AWp.seqR G4g [19] (by decide +kernel) fun K z=>?_;refine ev ?_;refine⟨_,_,_,_,_,rfl,hS,?_⟩;(try refine ev ?_);apply z;clear z K)
 refine kR G4g fun K1 u1=>?_;refine tI ?_;refine sR G4g ?_;exact aR
theorem D6w {sl:SL} {bx:A0b} {dst:Option Nat} {x:Operand} {tys:List TypeId} (hx:opnd sl x=.d .nil) :
  OpB prog sl bx dst (.call ⟨.value (.func 67),[x,.func 68].toArray,tys.toArray⟩) (.tuple []) bx []:=by
 intro o ho _ C S w β a hi ha;have hE:A1q prog 67:=(A1q.of func67 rfl (by decide));have hx1:=ha x (mC ho);rw [hx] at hx1;have hv:a.eval x=.slice none 0 0:=by have h1:=hx1.inv_d;generalize a.eval x=v at h1;cases h1;rfl
 have hargsEq:([x,.func 68].toArray.map a.eval)++(#[]:Array Value) = #[.slice none 0 0,.func (.func 68) #[] #[]]:=by apply Array.ext';rw [Array.toList_append,Array.toList_map];show [a.eval x,Value.func (.func 68) #[] #[]]++[]=_;rw [hv];rfl
 refine Or.inl ?_;unfold Oper.wp;rw [A3f hE ho (show a.eval (.func 67)=.func (.func 67) #[] #[] from rfl),Oper.upon_enter,hargsEq];refine (AnyF.slices_SortFunc_none sortC _ _ _ w).mono ?_;rintro e w' ⟨rfl,rfl⟩;exact⟨_,S,β,rfl,hi,SExt.refl S _,.tuple [] [] rfl (by simp),fun _ _=>rfl⟩
abbrev G5h:List Nat:=[0,1,4,5,6,7,10,15,28,35,49]
theorem D7r:A0a prog 69 [.d (.slice []),.clo 70 []] (.d (.slice [])):=by refine cB func69 ?_;refine sR G5h ?_;refine kR G5h fun K1 u1=>?_;refine tI ?_;refine sR G5h ?_;exact aR
abbrev G0o:List Nat:=[0,1,2,3,4,5,6,7,8,10,14,15,16,17,24]
theorem D8a (p:Prog)(h:p.Sm)(ts:List Ty)(x:Ty):A0a prog 26 [prV p,F1i ts [],tyV x] (.d (.slice [])):=by
 have hn:=D4z p h;have hc:=D7r;refine cB func26 ?_;refine sR G0o ?_;refine sC hn G0o ?_;refine sR G0o ?_;refine kR G0o fun K1 u1=>?_;refine AWp.bb (AWp.loop (X:=Unit) (fun _=>[(8,.d .nil),(15,A0g 0),(16,A0g 0)]) (fun _=>[]) (fun _=>True) (fun _=>0) () trivial (by simp [sle,vle,A0k,caR]) (by simp [ble]) ?_);intro _ _;refine sR1 Int.lt_irrefl G0o ?_;refine AWp.stop rfl ?_;simp only [TB];refine u1 _ _ ?_;clear u1 K1
 (refine AWp.seqR G0o [800038] (by decide +kernel) fun K z=>?_;refine ev ?_;refine⟨_,_,_,D6w rfl,?_⟩;(try refine ev ?_);apply z;clear z K)
 refine sC hc G0o ?_;exact aR
abbrev G4h:List Nat:=[0,1,2,3,4,5,6,7,8,18]
theorem F2n (p:Prog)(h:p.Sm)(ht:∀ d,d∈p.decls→d.Tl)(hr:p.right=true)(ts:List Ty)(x:Ty)(hx:x.Sm)(hxn:x.Ni 12000)(hi:A1w p x 2=false) :
  A0a prog 11 [prV p,F1i ts [],tyV x] (.d (.slice (deR (D1p (fun _=>none) p [] x)))):=by
 have hn:=D4z p h;have hm:=D8a p h ts x;have hs:=C2h p h ht hr (fun _=>none) [] (by simp) (by simp) x hx hxn;have hio:=B5x p h [] x hx hi;have hl:(deR (D1p (fun _=>none) p [] x)).length≤sm+1:=by
  have:=A3h h [] x;simp only [deR,List.length_map];unfold D1p;split
  ·simp only [List.filterMap_nil,List.nil_append,List.length_cons,List.length_map];omega
  ·simp
 generalize D1p (fun _=>none) p [] x=ds at *;have hl2:ds.length≤sm+1:=by rw [← B0n];exact hl
 refine cB func11 ?_;refine sR G4h ?_;refine sC hn G4h ?_;refine sC hm G4h ?_
 (refine sG G4h [18] 7 [⟨[],[],[],[]⟩,⟨[],[],[],[]⟩,⟨[],[],[],[]⟩,⟨[18],[18],[],[]⟩,⟨[],[],[18],[18]⟩,⟨[],[],[18],[18]⟩,⟨[],[],[18],[18]⟩] fun K z=>?_;refine ev ?_;refine⟨_,_,_,_,_,rfl,hs,?_⟩;(try refine ev ?_);refine cc hio ?_;refine⟨by simp,by unfold lim sm at *;omega,?_⟩;(try refine ev ?_);apply z;clear z K)
 exact aR
set_option maxHeartbeats 1000000
open Go Go.Proofs Tryz
set_option maxHeartbeats 4000000
abbrev mnS (e:Ex):List SV:=[.d (.int .i64 e.kind),.d (.str e.name),.d (.str e.type.name),.d (.slice (tyR e.type.args)),.d (.int .i64 e.type.pos),.d (.slice (tyR e.targs)),.d (.slice (exR e.kids)),.d (.int .i64 e.pos)]
theorem F2b (p:Prog)(ts:List Ty)(cs:List CallT)(x:Ty)(ds:List Decl)(e:Ex)(rs:List (List D))(hT:A0a prog 11 [prV p,F1i ts cs,tyV x] (.d (.slice (deR ds))))(hl:rs.length+ds.length≤100000000000) :
  A1p prog 23 [tyV x,.box 1000000 0,.dptr (prC p) 0,.dptr (G5f ts cs) 0] [(1000000,.cells (.acc 7::mnS e)),(7,.rows 23 rs)] (.tuple []) [(1000000,.cells (.acc 7::mnS e)),(7,.rows 23 (rs++deR ds))]:=by
 have hdl:(deR ds).length=ds.length:=B0n ds;have hdr:=D0e ds;generalize deR ds=DR at *;refine bB func23 ?_;refine sR [0,1,2,3,4,7,1000000] ?_
 (refine lG [0,1,2,3,4,7,1000000] [] 6 [] fun K z=>?_;refine ev ?_;refine cc hT ?_;refine⟨hdr,by unfold lim;omega,?_⟩;(try refine ev ?_);apply z;clear z K;try simp only [TB])
 exact⟨_,by rw [results23];rfl,.inr rfl,by simp [ble,A0h]⟩
theorem E8f {P:Program} {o:Oper} {ρ:Rho} {bx:A0b} {f:FuncId} {fo:Operand} {args:Array Operand} {tys:Array TypeId} (ho:o.op=.call { callee:=.value fo,args:=args,argTypes:=tys }) {caps args':List SV} {r:SV} {k q sz:Nat} {cs cs':List SV} {rs rs':List (List D)}
  (hc:A1p P f args' [(1000000,.cells (.acc 7::cs)),(7,.rows sz rs)] r [(1000000,.cells (.acc 7::cs')),(7,.rows sz rs')]) (hf:ρ fo=.clo f caps) (hargs:C1f k 1000000 (args.toList.map ρ++caps)=some args') (h7:SV.hasAny 7 args'=false)
  (hb:A0h bx k=some (.cells (.acc q::cs))) (hq:A0h bx q=some (.rows sz rs)) (hkq:k≠q) (hq6:q < 1000000) (hcc:SV.closedAll cs=true) (hcc':SV.closedAll cs'=true)
  (hno:(bx.all fun kc=>kc.1 == k || !kc.2.has q)=true) (hreal:(bx.all fun kc=>kc.2.real)=true) (hr:r.closed=true) :
  OpT P o ρ bx r ((k,.cells (.acc q::cs'))::(q,.rows sz rs')::A0o k (A0o q bx)) [q] :=
 D3d ho hf (A0j hb) (A0j hq) hkq hq6 hcc hcc' (fun k' c' h hk=>by have:=List.all_eq_true.1 hno (k',c') h;simpa [hk] using this) (fun k' c' h=>List.all_eq_true.1 hreal (k',c') h) hargs h7 hc hr
def B4x:Decl:=headD 1 G4q [] []
abbrev F3b:List Nat:=[0,1,2,3,4,5,6,8,11,18,19,20,21]
theorem C3d (p:Prog)(hp:p.Sm)(ts:List Ty)(hts:ts.length≤sm)(cs:List CallT)(typ:Ty→List Decl)(mt:Ty→Ty)(mm:Str→List Ty→Str)(hM:MOK mt mm p.main)
  (hT:∀ x,x∈ts→A0a prog 11 [prV p,F1i ts cs,tyV x] (.d (.slice (deR (typ x))))) (hl:((B4x::ts.flatMap typ).length)≤100000000000) :
  A0a prog 9 [prV p,F1i ts cs] (prV ⟨B4x::ts.flatMap typ,B4s mt mm p.main⟩):=by
 have htop:=F7y;have hme:=E0d mt mm p.main hp.main hM;show A0a prog 9 [prV p,F1i ts cs] (.agg [.d (.slice (deR (B4x::ts.flatMap typ))),.d (.int .i64 (B4s mt mm p.main).kind),.d (.str (B4s mt mm p.main).name),.d (.str (B4s mt mm p.main).type.name),.d (.slice (tyR (B4s mt mm p.main).type.args)),.d (.int .i64 (B4s mt mm p.main).type.pos),.d (.slice (tyR (B4s mt mm p.main).targs)),.d (.slice (exR (B4s mt mm p.main).kids)),.d (.int .i64 (B4s mt mm p.main).pos)]);generalize B4s mt mm p.main=e at *;refine cB func9 ?_;refine sR F3b ?_
 (refine sG F3b [11] 8 [⟨[],[],[5],[5]⟩,⟨[],[],[5],[5]⟩,⟨[11],[11],[5],[5]⟩,⟨[],[],[5,11],[5,11]⟩,⟨[],[],[5,11],[5,11]⟩,⟨[],[],[5,11],[5,11]⟩,⟨[],[],[5],[5]⟩,⟨[5],[5],[11],[11]⟩] fun K z=>?_;refine ev ?_;refine cc htop ?_;refine cc hme ?_;apply z;clear z K)
 (refine AWp.zz 2 rfl rfl ?_;refine AWp.zz 3 rfl rfl (wk [(2,.dptr (prC p) 0),(3,.dptr (G5f ts cs) 0),(4,.box 4 0),(5,.box 5 0)] [(4,.cells [.d .nil,.d (.int .i64 0),.d (.str []),.d (.str []),.d .nil,.d (.int .i64 0),.d .nil,.d .nil,.d (.int .i64 0)]),(5,.cells (.acc 11::mnS e)),(11,.rows 23 (deR [B4x]))] ?_))
 refine sR F3b ?_;refine kR F3b fun K1 u1=>?_;refine AWp.bb (AWp.ii ts (X:=Unit) (fun j _=>[(4,.box 4 0),(5,.box 5 0),(6,.clo 23 [.box 5 0,.dptr (prC p) 0,.dptr (G5f ts cs) 0]),(18,A3s ts),(19,A0g ts.length),(20,A0g j)])
  (fun j _=>[(4,.cells [.d .nil,.d (.int .i64 0),.d (.str []),.d (.str []),.d .nil,.d (.int .i64 0),.d .nil,.d .nil,.d (.int .i64 0)]),(5,.cells (.acc 11::mnS e)),(11,.rows 23 (deR (B4x::(ts.take j).flatMap typ)))])
  (fun _ _=>True) () trivial (by simp [sle,vle,A0k,prC]) sB ?_ ?_)
 rotate_left
 ·intro j _ x hx hmem dp tk hlt _;have hj:=(List.getElem?_eq_some_iff.1 hx).1;have e2:deR (B4x::(ts.take (j+1)).flatMap typ)=deR (B4x::(ts.take j).flatMap typ)++deR (typ x):=by
   rw [List.take_succ_eq_append_getElem hj,(List.getElem?_eq_some_iff.1 hx).2,List.flatMap_append];simp [deR]
  have e3:(deR (B4x::(ts.take j).flatMap typ)).length+(typ x).length≤100000000000:=by
   have h1:ts.flatMap typ=(ts.take (j+1)).flatMap typ++(ts.drop (j+1)).flatMap typ:=by rw [← List.flatMap_append,List.take_append_drop]
   have h2:(ts.take (j+1)).flatMap typ=(ts.take j).flatMap typ++typ x:=by rw [List.take_succ_eq_append_getElem hj,(List.getElem?_eq_some_iff.1 hx).2,List.flatMap_append];simp
   rw [h1,h2] at hl;simp only [List.length_cons,List.length_append] at hl;rw [B0n,List.length_cons];omega
  have hc:=F2b p ts cs x (typ x) e _ (hT x hmem) e3;rw [e2];generalize deR (B4x::(ts.take j).flatMap typ)=PR at *;generalize deR (typ x)=DR at *;refine sR1 hlt F3b ?_;refine AWp.goOn rfl ?_;refine sK fun K2 u2=>?_;refine AWp.bb ?_
  (refine sV F3b fun K z=>?_;refine ci (A0w hx) ?_;apply z;clear z K)
  (refine AWp.lastR F3b [800026] (by decide +kernel) fun K z=>?_;refine ev ?_;refine⟨_,_,_,fun o ho _=>E8f (k:=5) (q:=11) ho hc rfl rfl rfl rfl rfl (by decide) (by decide) rfl rfl rfl rfl rfl,?_⟩;(try refine ev ?_);apply z;clear z K;try simp only [A0c,A0e])
  refine u2 _ _ ?_;clear u2 K2;refine lT F3b ?_;exact⟨(),trivial,by simp [sle,vle,A0k,prC],by simp [ble,A0h]⟩
 intro _ _;rw [List.take_length];refine sR1 Int.lt_irrefl F3b ?_;refine AWp.stop rfl ?_;simp only [TB];refine u1 _ _ ?_;clear u1 K1
 (refine AWp.publish 11 rfl (wk [(4,.box 4 0),(5,.box 5 0)] [(4,.cells [.d .nil,.d (.int .i64 0),.d (.str []),.d (.str []),.d .nil,.d (.int .i64 0),.d .nil,.d .nil,.d (.int .i64 0)]),(5,.cells (.d (.slice (deR (B4x::ts.flatMap typ)))::mnS e))] ?_))
 refine sR F3b ?_;exact aR
def E6b (p:Prog):Bool:=decide (p.count≤600) && (p.right && (!(E8c p true).bad && E0n p))
abbrev D7i:List Nat:=[0,1,2,18]
theorem F0v (p:Prog):A0a prog 6 [prV p] (A0g (if E6b p=true then 1 else 0)):=by
 have hf:=F5e p;unfold E6b;by_cases g1:p.count≤600;rotate_left
 ·rw [decide_eq_false g1] at hf ⊢;rw [Bool.false_and,if_neg (by simp)];refine cB func6 ?_;refine sR D7i ?_;refine kC hf D7i fun K1 u1=>?_;refine kI u1 ?_;refine sR D7i ?_;exact aR
 rw [decide_eq_true g1] at hf ⊢;rw [Bool.true_and];have hfit:=Prog.count_Fit p g1;have hle:=Prog.count_Le p g1;have hr:=E2u p hfit.sm (Prog.count_Nn p g1);have hP:=D4i p hfit true;have hI:=F9g p hfit.sm (fun d hd=>by have:=(hle.decls d hd).body.list;unfold sm;omega) (Prog.count_al p g1);generalize p.right=b1 at *;generalize E0n p=b3 at *;generalize E8c p true=r at *;obtain⟨q,b2,lg⟩:=r;cases b1 with
 | false =>
  rw [Bool.false_and,if_neg (by simp)];refine cB func6 ?_;refine sR D7i ?_;refine sK fun K1 u1=>?_
  (refine sV D7i fun K z=>?_;refine cc hf ?_;refine cc hr ?_;apply z;clear z K)
  refine kI u1 ?_;refine sR D7i ?_;exact aR
 | true =>
 cases b2 with
 | true =>
  rw [show (true && (!(Res.mk q true lg).bad && b3))=false from rfl,if_neg (by simp)];refine cB func6 ?_;refine sR D7i ?_;refine sK fun K1 u1=>?_
  (refine sV D7i fun K z=>?_;refine cc hf ?_;refine cc hr ?_;refine cc hP ?_;apply z;clear z K)
  refine kI u1 ?_;refine sR D7i ?_;exact aR
 | false =>
 rw [show (true && (!(Res.mk q false lg).bad && b3))=b3 from rfl];cases b3 with
 | false =>
  rw [if_neg (by simp)];refine cB func6 ?_;refine sR D7i ?_;refine sK fun K1 u1=>?_
  (refine sV D7i fun K z=>?_;refine cc hf ?_;refine cc hr ?_;refine cc hP ?_;refine cc hI ?_;apply z;clear z K)
  refine kI u1 ?_;refine sR D7i ?_;exact aR
 | true =>
  rw [if_pos rfl];refine cB func6 ?_;refine sR D7i ?_;refine sK fun K1 u1=>?_
  (refine sV D7i fun K z=>?_;refine cc hf ?_;refine cc hr ?_;refine cc hP ?_;refine cc hI ?_;apply z;clear z K)
  refine tI ?_;refine sR D7i ?_;exact aR
def t23:Ty:=.mk [84] [] 0
def l23:Ex:=.mk 3 [] t23 [] [] 0
def p23:Prog:=⟨[{ (default:Decl) with kind:=1,name:=[84] }],l23⟩
def s23:Sig:=⟨[109],[],[],t23,0⟩
def c23:CallT:=⟨t23,[109],[]⟩
theorem E8n:p23.count≤600:=by decide +kernel
theorem D5b:p23.right=true:=by decide +kernel
theorem F0c:t23.Sm:=.mk _ _ _ (by decide) (by simp) (by simp)
theorem C6u:t23.Ni 12000:=⟨.nam _ _ _ (by decide +kernel) (by decide) (by simp) (by simp),by decide +kernel⟩
theorem G3k:A3o p23 [] t23=[]:=by have:C7a p23 [] t23=[]:=rfl;unfold A3o;rw [this];simp [A7a]
theorem G4t:D1p (fun _=>none) p23 [] t23=[headD 1 [84] [] []]:=by unfold D1p;rw [G3k];rfl
theorem G5e:MOK (fun t=>.mk t.mg [] t.pos) mgM p23.main:=.mk _ _ _ _ _ _ (fun _=>C2e t23 C6u.mg (by have:=C6u.len;omega)) (fun h=>absurd h (by decide)) (by simp)
theorem G3o:B4s (fun t=>.mk t.mg [] t.pos) mgM p23.main=l23:=by rfl
theorem G4u:B7u s23=⟨[109,95,83,84,95,69],[],[],F7v,0⟩:=by unfold B7u;rw [show E6g s23=[109,95,83,84,95,69] by decide +kernel]
abbrev F4a:List Nat:=[0,1,2,3,4,5,7,33]
theorem C5o:A0a prog 5 [] (A0m true):=by
 have hfit:=Prog.count_Fit p23 E8n;have htl:=Prog.count_Tl p23 E8n;have hty:=F2n p23 hfit.sm htl D5b [t23] t23 F0c C6u (by rfl);rw [G4t] at hty;have hpr:=C3d p23 hfit.sm [t23] (by simp [sm]) [] (fun _=>[headD 1 [84] [] []]) _ _ G5e (fun x hx=>by simp only [List.mem_cons,List.not_mem_nil,or_false] at hx;subst hx;exact hty) (by simp)
 rw [G3o] at hpr;obtain⟨DL,hDL⟩:∃ DL,DL=B4x::[t23].flatMap (fun _=>[headD 1 [84] [] []]):=⟨_,rfl⟩;have hl:((DL.length:Nat):Int)=2:=by rw [hDL];rfl
 have h0:DL[0]? = some B4x:=by rw [hDL];rfl
 have h1:DL[1]? = some (headD 1 [84] [] []):=by rw [hDL];rfl
 rw [← hDL] at hpr;have hdu:=C3b s23 (Sig.Ni.dum ⟨⟨by decide,by simp [s23],by simp [s23],F0c⟩,by simp [s23],by simp [s23],⟨C6u.mg,by have:=C6u.len;show t23.tlen≤_;omega⟩⟩);rw [G4u] at hdu;have hsg:=G0i p23 hfit.sm htl D5b c23 ⟨⟨F0c,by decide,by simp [c23]⟩,C6u,by simp [c23],by simp [c23,Ty.tlenL]⟩;rw [show A6g p23 c23=none by unfold A6g;rw [show c23.on=t23 from rfl,G3k];rfl] at hsg;clear hDL;unfold sgR at hsg;have n0:B4x.name=[84,111,112,95,84]:=rfl;have n1:(headD 1 [84] [] []).name=[84]:=rfl;have n2:l23.type.name=[84]:=rfl;have n3:F7v.name=[84,111,112,95,84]:=rfl;have n4:((1:Nat):Int)=1:=rfl;refine cB func5 ?_;refine sR F4a ?_;refine sR F4a ?_;refine sR F4a ?_;refine sR F4a ?_;refine sC hpr F4a ?_;refine sC hdu F4a ?_;refine sC hsg F4a ?_;refine kR1 hl F4a fun K1 u1=>?_;refine kI u1 ?_;clear u1 K1
 (refine sQ F4a fun K z=>?_;refine ev2 n2 n3 ?_;refine⟨_,A0t h0,rfl,?_⟩;(try refine ev1 n0 ?_);refine⟨_,A0t h1,rfl,?_⟩;(try refine ev1 n1 ?_);refine⟨_,.inl ⟨_,rfl,hty,rfl⟩,?_⟩;(try refine ev1 n4 ?_);apply z;clear z K)
 exact aR
theorem E9j (t:Ty):(plT t).Lm:=.mk _ _ _ (by simp) (by simp)
theorem F0e {l:List Sig} {c:CallT} {s:Sig} (hl:∀ x,x∈l→x.params.length≤2000)(h:G0c l c=some s):s.Lm:=by
 unfold G0c at h;split at h
 ·cases h
 ·rename_i hn;obtain⟨y,hy,hyl⟩:=A9e hn;rw [hy,Option.getD_some] at h;split at h
  ·cases h;refine⟨⟨by simp [B9m],by simp [B9m]⟩,⟨by have:=hl y hyl;simp only [B9m,B0e,List.length_map];unfold sm;omega,fun f hf=>?_⟩,E9j _⟩;unfold B9m A8w at hf;obtain⟨i,x,_,_,rfl⟩:=A6w hf;exact E9j _
  ·cases h
theorem D7h {α:Type} {p:α→α→Bool} (h:∀ x,p x x=true):∀ l:List α,eqL p l l=true
 | []=>rfl
 | x::l=>by rw [eqL,h x,D7h h l];rfl
theorem C4t (s:Sig):A6i s s=true:=by unfold A6i;rw [D7h (fun x=>by simp [A7x,A5i]),D7h (fun x=>by simp [A7s,A5i]),A5i];simp
end Go.Abs
