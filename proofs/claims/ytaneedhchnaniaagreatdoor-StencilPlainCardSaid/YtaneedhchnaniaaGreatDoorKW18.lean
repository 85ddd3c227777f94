/- castingsref18: sig, Decl, Edges; castingsref19: has, Reach, Leads, Expansive, Is -/
import Derived.Test.YtaneedhchnaniaaGreatDoorKW13
import Derived.Test.YtaneedhchnaniaaGreatDoorKW14
import Derived.Test.YtaneedhchnaniaaGreatDoorKU06
namespace Go.Abs
set_option maxHeartbeats 4000000
set_option linter.all false
open Go Go.Proofs Tryz
set_option maxRecDepth 100000
abbrev D5s (s:A5):List SV:=[.d (.str s.name),.d (.slice (Az s.A1)),.d (.slice (B5 s.params)),.d (.str s.result.name),.d (.slice (Aq s.result.args)),.d (.int .i64 s.result.pos),.d (.int .i64 s.pos)]
abbrev Tt:List Nat:=[0,1,2,5,6,7,8,13,37]
theorem C1h (s:List Gx)(hs:s.length≤10*sm)(l:List Bk)(x:A5)(hf:x.A1.length≤sm)(hp:x.params.length≤sm)(hl:l.length+x.al*x.al≤1000000000000):Ac prog 232 [Gm l,Q5 s,Cx x] (Gm (S6 s l x)):=by
 have O:∃R1,x.A1.foldl (fun l f=>Ga s false f.bound.name 0 l f.bound.args) l=R1:=⟨_,rfl⟩;obtain⟨R1,O⟩:=O;have R:∃R2,x.params.foldl (fun l p=>Ga s false p.type.name 0 l p.type.args) R1=R2:=⟨_,rfl⟩;obtain⟨R2,R⟩:=R;have e0:S6 s l x=Ga s false x.result.name 0 R2 x.result.args:=by unfold S6;rw [O,R]
 rw [e0];unfold A5.al at hl;obtain⟨B,hB⟩:∃B,B=Nr x.params+Ty.C9 x.result.args:=⟨_,rfl⟩;obtain⟨C,hC⟩:∃C,C=Ty.C9 x.result.args:=⟨_,rfl⟩;refine cB func232 ?_;refine sR Tt ?_;refine kR Tt fun K1 u1=>?_;refine A0.bb (A0.ii x.A1 (X:=List Bk) (fun j z=>[(0,Gm z),(1,Q5 s),(5,.box 5 0),(7,A9 j)]) (fun j z=>[(5,.cells (D5s x))])
  (fun j z=>(x.A1.drop j).foldl (fun l f=>Ga s false f.bound.name 0 l f.bound.args) z=R1∧z.length+(Sk (x.A1.drop j)+B)*(Sk (x.A1.drop j)+B)≤1000000000000) l
  ⟨O,by rw [Y7,hB];rw [Mh] at hl;exact hl⟩ sS sB ?_ ?_)
 rotate_left
 ·intro j z d hd W V tk U E;obtain⟨E,I⟩:=E;have hj:=(Ay.1 hd).1;rw [V,Li] at E;have e1:Sk (x.A1.drop j)+B=Ty.C9 d.bound.args+(Sk (x.A1.drop (j+1))+B):=by rw [V];simp only [Sk,Cz,Kr];omega
  rw [e1] at I;have J:=Wh s d.bound.args false d.bound.name 0 z;have h1:=A3s I J;have h2:=Sn (Ty.C9 d.bound.args) (Sk (x.A1.drop (j+1))+B);have Z:=B0b s hs false d.bound.name d.bound.args z (by omega);generalize Ga s false d.bound.name 0 z d.bound.args=z2 at *;refine Ai U Tt fun L u2=>?_;refine gI u2 ?_;clear u2 L;refine sK fun L u2=>?_;refine A0.bb ?_
  (refine lG Tt [] 16 [] fun K z=>?_;refine ev ?_;refine ci (Ep hd) ?_;refine ci (Ep hd) ?_;refine cc Z ?_;apply z;clear z K;try simp only [A4,Aa])
  refine u2 _ _ ?_;clear u2 L;refine lT Tt ?_;exact⟨z2,⟨E,h1⟩,sS,by simp [ble,A7]⟩
 intro z E;obtain⟨E,I⟩:=E;rw [D6] at E I;rw [Tu] at E;subst E;have a1:z.length+(Nr x.params+C)*(Nr x.params+C)≤1000000000000:=by
  have:Sk []+B=Nr x.params+C:=by rw [hB,hC];simp [Sk]
  rw [this] at I;exact I
 refine Ai B4 Tt fun L u2=>?_;refine A0.ss rfl ?_;simp only [A4,Aa,Af];refine u1 _ _ ?_;clear u2 L u1 K1;refine kR Tt fun K1 u1=>?_;refine A0.bb (A0.ii x.params (X:=List Bk) (fun j z=>[(0,Gm z),(1,Q5 s),(5,.box 5 0),(8,A9 j)]) (fun j z=>[(5,.cells (D5s x))])
  (fun j z=>(x.params.drop j).foldl (fun l p=>Ga s false p.type.name 0 l p.type.args) z=R2∧z.length+(Nr (x.params.drop j)+C)*(Nr (x.params.drop j)+C)≤1000000000000) z
  ⟨R,by rw [Y7];exact a1⟩ sS sB ?_ ?_)
 rotate_left
 ·intro j z d hd W V tk U E;obtain⟨E,I⟩:=E;have hj:=(Ay.1 hd).1;rw [V,Li] at E;have e1:Nr (x.params.drop j)+C=Ty.C9 d.type.args+(Nr (x.params.drop (j+1))+C):=by rw [V];simp only [Nr,Cz,Kr];omega
  rw [e1] at I;have J:=Wh s d.type.args false d.type.name 0 z;have h1:=A3s I J;have h2:=Sn (Ty.C9 d.type.args) (Nr (x.params.drop (j+1))+C);have Z:=B0b s hs false d.type.name d.type.args z (by omega);generalize Ga s false d.type.name 0 z d.type.args=z2 at *;refine Ai U Tt fun L u2=>?_;refine gI u2 ?_;clear u2 L;refine sK fun L u2=>?_;refine A0.bb ?_
  (refine lG Tt [] 16 [] fun K z=>?_;refine ev ?_;refine ci (E7 hd) ?_;refine ci (E7 hd) ?_;refine cc Z ?_;apply z;clear z K;try simp only [A4,Aa])
  refine u2 _ _ ?_;clear u2 L;refine lT Tt ?_;exact⟨z2,⟨E,h1⟩,sS,by simp [ble,A7]⟩
 intro z E;obtain⟨E,I⟩:=E;rw [D6] at E I;rw [Tu] at E;subst E;have a0:z.length+Ty.C9 x.result.args*Ty.C9 x.result.args≤1000000000000:=by
  have:Nr []+C=Ty.C9 x.result.args:=by rw [hC];simp [Nr]
  rw [this] at I;exact I
 have Z:=B0b s hs false x.result.name x.result.args z a0;generalize Ga s false x.result.name 0 z x.result.args=z2 at *;refine Ai B4 Tt fun L u2=>?_;refine A0.ss rfl ?_;simp only [A4,Aa,Af];refine u1 _ _ ?_;clear u2 L u1 K1;refine sC Z Tt ?_;exact aR
abbrev Kb:List Nat:=[0,1,3,4,5,6,7,8,9,12,37,87]
theorem G5f (l:List Bk)(d:Decl)(hd:d.Sm)(a5:(Bb d.body).length≤sm)(hl:l.length+d.al*d.al≤1000000000000):Ac prog 160 [Gm l,Iy d] (Gm (A3o l d)):=by
 have ab:=hd.vars.1;have a2:=hd.A1.1;have ad:=hd.sigs.1;have a3:=hd.sig.A1.1;rw [C8m];unfold Decl.al at hl;by_cases hk:d.kind=3
 ·rw [A8 hk] at hl ⊢;have a4:=B7s [] false d.name d.vars (by simp) ab;have hn:=To d.sig.A1 a3;rw [show d.sig.A1.map (·.name)=Ad d.sig.A1 from rfl] at hn;have O:=B6i [] false d.name d.vars;have U:(Ad d.sig.A1).length≤sm:=by simpa [Ad] using a3
  generalize Kj [] false d.name d.vars=s1 at *;simp only [Ch,I2] at O;have a6:=B7s s1 true d.sig.name (Ad d.sig.A1) (by unfold sm at *;omega) U;have a0:=B6i s1 true d.sig.name (Ad d.sig.A1);generalize Kj s1 true d.sig.name (Ad d.sig.A1)=s at *;have hs:s.length≤10*sm:=by unfold sm at *;omega
  have a9:=Sn d.sig.al (T1 (Bb d.body));have hg:=C1h s hs l d.sig a3 hd.sig.params.1 (by omega);have J:=A5r s l d.sig;have aa:=B7q d.body a5;have Z:=A3s hl J;generalize S6 s l d.sig=z0 at *;have V:∃R,(Bb d.body).foldl (exE s) z0=R:=⟨_,rfl⟩;obtain⟨R,V⟩:=V;rw [V];generalize Bb d.body=es at *;refine cB func160 ?_;refine sR Kb ?_;refine Ai hk Kb fun K1 u1=>?_;refine A0.tt rfl ?_
  (refine sG Kb [] 12 [] fun K z=>?_;refine ev ?_;refine cc a4 ?_;refine cc hn ?_;refine cc a6 ?_;apply z;clear z K)
  refine sC hg Kb ?_;refine sC aa Kb ?_;refine kR Kb fun K2 u2=>?_;refine A0.bb (A0.ii es (X:=List Bk) (fun j z=>[(0,Gm z),(5,Q5 s),(6,.d (.slice (Db es))),(7,A9 j)]) (fun j z=>[])
   (fun j z=>(es.drop j).foldl (exE s) z=R∧z.length+T1 (es.drop j)*T1 (es.drop j)≤1000000000000) z0 ⟨V,Z⟩ sS (by simp [ble]) ?_ ?_)
  rotate_left
  ·intro j z e he a1 dp tk a7 E;obtain⟨E,Z⟩:=E;have hj:=(Ay.1 he).1;rw [dp,Li] at E;have e1:T1 (es.drop j)=Yz e+T1 (es.drop (j+1)):=by rw [dp];simp only [T1,Cz,Kr]
   rw [e1] at Z;have h1:=A3s Z (D5v s z e);have h2:=Sn (Yz e) (T1 (es.drop (j+1)));have h3:=Sn (Ty.C9 e.type.args) (Ty.C9 e.targs);have h4:=Wh s e.type.args false e.type.name 0 z;have ac:=B0b s hs false e.type.name e.type.args z (by unfold Yz at *;omega);unfold exE at E h1;unfold Yz at *;generalize Ga s false e.type.name 0 z e.type.args=z1 at *;have a':=B0b s hs true e.name e.targs z1 (by omega);generalize Ga s true e.name 0 z1 e.targs=z2 at *;refine Ai a7 Kb fun L I=>?_;refine gI I ?_;clear I L;refine sK fun L I=>?_;refine A0.bb ?_
   (refine sG Kb [] 14 [] fun K z=>?_;refine ev ?_;refine ci (Ed he) ?_;refine ci (Ed he) ?_;refine cc ac ?_;apply z;clear z K)
   (refine lG Kb [] 12 [] fun K z=>?_;refine ev ?_;refine ci (Ed he) ?_;refine ci (Ed he) ?_;refine cc a' ?_;apply z;clear z K;try simp only [A4,Aa])
   refine I _ _ ?_;clear I L;refine lT Kb ?_;exact⟨z2,⟨E,h1⟩,sS,by simp [ble]⟩
  intro z E;obtain⟨E,_⟩:=E;rw [D6,Tu] at E;subst E;refine Ai B4 Kb fun L I=>?_;refine A0.ss rfl ?_;simp only [A4,Aa,Af];refine u2 _ _ ?_;clear I L u2 K2;refine sR Kb ?_;exact aR
 ·rw [A6 hk] at hl ⊢;have hn:=To d.A1 a2;rw [show d.A1.map (·.name)=Ad d.A1 from rfl] at hn;have U:(Ad d.A1).length≤sm:=by simpa [Ad] using a2
  have a4:=B7s [] false d.name (Ad d.A1) (by simp) U;have O:=B6i [] false d.name (Ad d.A1);simp only [Ch,I2] at O;generalize Kj [] false d.name (Ad d.A1)=s at *;have hs:s.length≤10*sm:=by unfold sm at *;omega
  have a8:=D9n d;have a9:=Sn (Sk d.A1+Nr d.fields) (Zh d.sigs);have hg:=C1h s hs l (A1j d) a2 hd.fields.1 (by rw [a8];omega);have J:=A5r s l (A1j d);rw [a8] at J;have Z:=A3s hl J;generalize S6 s l (A1j d)=z0 at *;unfold A1j at hg;have V:∃R,d.sigs.foldl (sgE s) z0=R:=⟨_,rfl⟩;obtain⟨R,V⟩:=V;rw [V];refine cB func160 ?_;refine sR Kb ?_;refine Ai hk Kb fun K1 u1=>?_;refine A0.ff rfl (A0.kk (u1 _ _ ?_));clear u1 K1
  (refine sG Kb [] 5 [] fun K z=>?_;refine ev ?_;refine cc hn ?_;refine cc a4 ?_;apply z;clear z K)
  refine sC hg Kb ?_;refine kR Kb fun K2 u2=>?_;refine A0.bb (A0.ii d.sigs (X:=List Bk) (fun j z=>[(0,Gm z),(3,.box 3 0),(8,Q5 s),(9,A9 j)]) (fun j z=>[(3,.cells (Vk d))])
   (fun j z=>(d.sigs.drop j).foldl (sgE s) z=R∧z.length+Zh (d.sigs.drop j)*Zh (d.sigs.drop j)≤1000000000000) z0 ⟨V,Z⟩ sS sB ?_ ?_)
  rotate_left
  ·intro j z x hx a1 dp tk a7 E;obtain⟨E,Z⟩:=E;have hj:=(Ay.1 hx).1;rw [dp,Li] at E;have e1:Zh (d.sigs.drop j)=x.al+Zh (d.sigs.drop (j+1)):=by rw [dp];simp only [Zh,Cz,Kr]
   rw [e1] at Z;have W:=hd.sigs.2 x a1;have hn:=To x.A1 W.A1.1;rw [show x.A1.map (·.name)=Ad x.A1 from rfl] at hn;have U:(Ad x.A1).length≤sm:=by simpa [Ad] using W.A1.1
   have a6:=B7s s true x.name (Ad x.A1) hs U;have a0:=B6i s true x.name (Ad x.A1);unfold sgE at E;have h1:=A3s Z (A5r (Kj s true x.name (Ad x.A1)) z x);have h2:=Sn x.al (Zh (d.sigs.drop (j+1)));have hc:=C1h (Kj s true x.name (Ad x.A1)) (by rw [a0];unfold sm at *;omega) z x W.A1.1 W.params.1 (by omega);generalize Kj s true x.name (Ad x.A1)=s2 at *;generalize S6 s2 z x=z2 at *;refine Ai a7 Kb fun L I=>?_;refine gI I ?_;clear I L;refine sK fun L I=>?_;refine A0.bb ?_
   (refine lG Kb [] 21 [] fun K z=>?_;refine ev ?_;refine ci (E1 hx) ?_;refine ci (E1 hx) ?_;refine cc hn ?_;refine cc a6 ?_;refine ci (E1 hx) ?_;refine cc hc ?_;apply z;clear z K;try simp only [A4,Aa])
   refine I _ _ ?_;clear I L;refine lT Kb ?_;exact⟨z2,⟨E,h1⟩,sS,by simp [ble,A7]⟩
  intro z E;obtain⟨E,_⟩:=E;rw [D6,Tu] at E;subst E;refine Ai B4 Kb fun L I=>?_;refine A0.ss rfl ?_;simp only [A4,Aa,Af];refine u2 _ _ ?_;clear I L u2 K2;refine sR Kb ?_;exact aR
abbrev A0v:List Nat:=[0,1,2,3,4,9]
theorem E6d (p:Prog)(h:p.Sm)(J:∀d,d∈p.decls→(Bb d.body).length≤sm)(W:N7 p.decls≤72000):Ac prog 81 [Cv p] (Gm (A5b p)):=by
 have a0:=h.decls.1;have O:∃R,p.decls.foldl A3o []=R:=⟨_,rfl⟩;obtain⟨R,O⟩:=O;unfold A5b;rw [O];have U:([]:List Bk).length+N7 p.decls*N7 p.decls≤1000000000000:=by have:N7 p.decls*N7 p.decls≤72000*72000:=Nat.mul_le_mul W W;simp only [Ch];omega
 refine cB func81 ?_;refine sR A0v ?_;refine sR A0v ?_;refine kR A0v fun K1 u1=>?_;refine A0.bb (A0.ii p.decls (X:=List Bk) (fun j z=>[(1,.box 1 0),(3,Gm z),(4,A9 j)]) (fun j z=>[(1,.cells ((Aj p).map .d))])
  (fun j z=>(p.decls.drop j).foldl A3o z=R∧z.length+N7 (p.decls.drop j)*N7 (p.decls.drop j)≤1000000000000) [] ⟨O,U⟩ (by simp [sle,Aw,Ae,Kw]) (by simp [ble,A7,Aj]) ?_ ?_)
 rotate_left
 ·intro j z d hd I Z tk V E;obtain⟨E,hz⟩:=E;have hj:=(Ay.1 hd).1;rw [Z,Li] at E;have e1:N7 (p.decls.drop j)=d.al+N7 (p.decls.drop (j+1)):=by rw [Z];simp only [N7,Cz,Kr]
  rw [e1] at hz;have h1:=A3s hz (D2o z d);have h2:=Sn d.al (N7 (p.decls.drop (j+1)));have hc:=G5f z d (h.decls.2 d I) (J d I) (by omega);generalize A3o z d=z2 at *;refine Ai V A0v fun L u2=>?_;refine gI u2 ?_;clear u2 L;refine sK fun L u2=>?_;refine A0.bb ?_
  (refine lV A0v fun K z=>?_;refine ci (E2 hd) ?_;refine cc hc ?_;apply z;clear z K;try simp only [A4,Aa])
  refine u2 _ _ ?_;clear u2 L;refine lT A0v ?_;exact⟨z2,⟨E,h1⟩,sS,by simp [ble,A7,Aj]⟩
 intro z E;obtain⟨E,_⟩:=E;rw [D6,Tu] at E;subst E;refine Ai B4 A0v fun L u2=>?_;refine A0.ss rfl ?_;simp only [A4,Aa,Af];refine u1 _ _ ?_;clear u2 L u1 K1;refine sR A0v ?_;exact aR
abbrev Zy:List Nat:=[0,1,3,4,5,9,17]
theorem C3r (l:List E0)(n:E0)(U:l.length≤1000000000000):Ac prog 229 [.d (.slice (Uh l)),Ux n] (B0 (decide (n∈l))):=by
 refine cB func229 ?_;refine sR Zy ?_;refine kR Zy fun Z u1=>?_;refine A0.bb (A0.ii l (X:=Unit) (fun j _=>[(0,.d (.slice (Uh l))),(3,.box 3 0),(5,A9 j)]) (fun j _=>[(3,.cells (Z8 n))])
  (fun j _=>decide (n∈l)=decide (n∈l.drop j)) () rfl sS sB ?_ ?_)
 rotate_left
 ·intro j _ d hd I R V O E;have W:=(Ay.1 hd).1;rw [R] at E;refine sK fun J u2=>?_
  (refine sQ Zy fun K z=>?_;simp -implicitDefEqProofs only [EV,Nat.reduceEqDiff,reduceCtorEq,A1i,O,A0g];apply z;clear z K)
  refine gI u2 ?_;clear u2 J;refine sK fun J u2=>?_;refine A0.bb ?_;by_cases L:d=n
  ·subst L;rw [Bn I]
   (refine sG Zy [] 5 [] fun K z=>?_;refine ev ?_;refine⟨by omega,_,E0f hd,rfl,?_⟩;(try simp -implicitDefEqProofs only [EV,Nat.reduceAdd,Nat.reduceEqDiff,reduceCtorEq,M8,noC]);refine⟨_,Wu d d rfl rfl,?_⟩;(try refine ev ?_);apply z;clear z K)
   refine A0.tt rfl ?_;refine sR Zy ?_;exact aR
  ·(refine sG Zy [] 5 [] fun K z=>?_;refine ev ?_;refine⟨by omega,_,E0f hd,rfl,?_⟩;(try simp -implicitDefEqProofs only [EV,Nat.reduceAdd,Nat.reduceEqDiff,reduceCtorEq,M8,noC]);refine⟨_,Wu d n rfl rfl,?_⟩;(try refine An L ?_);apply z;clear z K)
   refine A0.ff rfl (A0.kk (u2 _ _ ?_));clear u2 J
   (refine lV Zy fun K z=>?_;refine cl ?_;apply z;clear z K;try simp only [A4,])
   exact⟨(),by rw [E];simp [Pp L],sS,by simp [ble,A7]⟩
 intro _ E;rw [D6] at E;rw [E,show decide (n∈([]:List E0))=false by simp] at u1;refine sK fun J u2=>?_
 (refine sQ Zy fun K z=>?_;simp -implicitDefEqProofs only [EV,Nat.reduceEqDiff,reduceCtorEq,A1i,B4,A0g];apply z;clear z K)
 refine A0.ss rfl ?_;simp only [A4,Aa,Af];refine u1 _ _ ?_;refine sR Zy ?_;exact aR
theorem C6q {α:Type} [DecidableEq α]:∀{out m:List α},out.Nodup→(∀x,x∈out→x∈m)→out.length≤m.length
 |[],_,_,_=>by simp
 |x::xs,m,h,hs=>by rw [Ys] at h;have I:=hs x (by simp);have J:=C6q (m:=m.erase x) h.2 fun y E=>(List.mem_erase_of_ne (by rintro rfl;exact h.1 E)).2 (hs y (by simp [E]));rw [List.length_erase_of_mem I] at J;have:=List.length_pos_of_mem I;rw [Bg];omega
structure W6 (l:List Bk)(out:List E0):Prop where
 nd:out.Nodup
 sub:∀x,x∈out→x∈l.map (·.dst)
theorem W6.len {l:List Bk} {out:List E0} (h:W6 l out):out.length≤l.length:=by
 have:=C6q h.nd h.sub
 rwa [B6] at this
theorem W6.step {l:List Bk} {out:List E0} (h:W6 l out)(n:E0) {e:Bk} (I:e∈l):W6 l (P9 n out e):=by
 unfold P9;split
 ·rename_i L;refine⟨?_,fun x hx=>?_⟩
  ·rw [At2];exact⟨h.nd,by simp,fun a J b E=>by simp only [As,Dt,Du] at E;rintro rfl;exact L.2 (E ▸ J)⟩
  ·rcases Bw.1 hx with hx| hx
   ·exact h.sub x hx
   ·simp only [As,Dt,Du] at hx;subst hx;exact Ax.2 ⟨e,I,rfl⟩
 ·exact h
theorem G0s (n:E0)(out:List E0)(e:Bk):out.length≤(P9 n out e).length:=by unfold P9;split <;> simp
theorem D4j (n:E0):∀(l:List Bk)(out:List E0),out.length≤(l.foldl (P9 n) out).length
 |[],_=>by simp
 |e::l,out=>by rw [Li];exact Dk (G0s n out e) (D4j n l _)
abbrev Lh:List Nat:=[0,1,3,4,5,6,7,11,17,45]
theorem E6o (l:List Bk)(n:E0)(hl:l.length≤1000000000000):Ac prog 230 [Gm l,Ux n] (.d (.slice (Uh (A1e l n)))):=by
 have hR:∃R,A1e l n=R:=⟨_,rfl⟩;obtain⟨R,hR⟩:=hR;rw [hR];unfold A1e at hR;refine cB func230 ?_;refine sR Lh ?_;refine sR Lh ?_;refine A0.pp 5 3 5 rfl ?_;refine kR Lh fun K1 u1=>?_;refine A0.bb (A0.loop (X:=Nat × Int × List E0) (fun z=>[(0,Gm l),(3,.box 3 0),(5,.acc 5),(6,A9 z.2.1)]) (fun z=>[(3,.cells (Z8 n)),(5,.rows 3 (Uh z.2.2))])
  (fun z=>A1p l n z.1 z.2.1 z.2.2=R∧W6 l z.2.2∧(z.2.1=(z.2.2.length:Int)∨l.length+3≤z.1+z.2.2.length)) (fun z=>z.1) (l.length+3,-1,[])
  ⟨hR,⟨by simp,by simp⟩,.inr (by simp)⟩ sS (by simp [ble,A7,Uh]) ?_)
 rintro⟨k,c,out⟩ ⟨hI,hO,hF⟩;simp only at hI hO hF ⊢;have a5:=hO.len;by_cases hc:c=(out.length:Int)
 ·have a1:R=out:=by
   cases k with
   |zero=>rw [A1p] at hI;exact hI.symm
   |succ k=>rw [A1p,A8 hc] at hI;exact hI.symm
  subst a1;refine sK fun Z u2=>?_
  (refine sQ Lh fun K z=>?_;simp -implicitDefEqProofs only [EV,Nat.reduceEqDiff,reduceCtorEq,A1i,hc,A0g,];apply z;clear z K)
  refine A0.ss rfl ?_;simp only [A4,Aa,Af];refine u1 _ _ ?_;clear u2 Z u1 K1;refine sR Lh ?_;exact aR
 have a4:=hF.resolve_left hc;cases k with
 |zero=>omega
 |succ k =>
 rw [A1p,A6 hc] at hI;refine sK fun Z u2=>?_
 (refine sQ Lh fun K z=>?_;simp -implicitDefEqProofs only [EV,Nat.reduceEqDiff,reduceCtorEq,A1i,hc,A0g,];apply z;clear z K)
 refine gI u2 ?_;clear u2 Z;refine A0.bb ?_
 (refine sQ Lh fun K z=>?_;simp -implicitDefEqProofs only [EV,Nat.reduceEqDiff,reduceCtorEq,A1i,A0g];apply z;clear z K)
 refine sR Lh ?_;refine A0.bb (A0.ii l (X:=List E0) (fun j z=>[(0,Gm l),(3,.box 3 0),(5,.acc 5),(6,A9 out.length),(7,A9 j)]) (fun j z=>[(3,.cells (Z8 n)),(5,.rows 3 (Uh z))])
  (fun j z=>(l.drop j).foldl (P9 n) z=l.foldl (P9 n) out∧W6 l z) out ⟨rfl,hO⟩ sS sB ?_ ?_)
 rotate_left
 ·intro j z e E a0 dp tk a3 O;obtain⟨O,U⟩:=O;have hj:=(Ay.1 E).1;have a6:=U.len;have I:=U.step n a0;have V:=I.len;rw [dp,Li] at O;have L:=C3r z e.src (by omega);have J:=C3r z e.dst (by omega);refine sK fun Z u2=>?_
  (refine sQ Lh fun K z=>?_;simp -implicitDefEqProofs only [EV,Nat.reduceEqDiff,reduceCtorEq,I5,a3,P1];apply z;clear z K)
  refine gI u2 ?_;clear u2 Z;refine sK fun Z u2=>?_;refine A0.bb ?_;have skip:P9 n z e=z→∀sl bx,sle sl [(0,Gm l),(3,.box 3 0),(5,.acc 5),(6,A9 out.length),(7,A9 j)]→ble bx [(3,.cells (Z8 n)),(5,.rows 3 (Uh z))]→Z sl bx:=by
   intro hr sl bx s1 s2;rw [hr] at O;refine u2 _ _ (A0.ww s1 s2 ?_);clear u2 Z
   (refine lV Lh fun K z=>?_;refine cl ?_;apply z;clear z K;try simp only [A4,])
   exact⟨z,⟨O,U⟩,sS,by simp [ble,A7]⟩
  by_cases h1:e.src=n∨e.src∈z
  ·by_cases h2:e.dst∈z
   ·rw [Bn h2] at J;have hr:P9 n z e=z:=by unfold P9;rw [A6 (fun h=>h.2 h2)]
    by_cases W:e.src=n
    ·(refine sG Lh [] 23 [] fun K z=>?_;refine ev ?_;refine⟨by omega,_,G7 E,rfl,?_⟩;(try simp -implicitDefEqProofs only [EV,Nat.reduceAdd,Nat.reduceEqDiff,Nat.reduceLeDiff,reduceCtorEq,M8,Er,W]);refine⟨_,Wu n n rfl rfl,?_⟩;(try refine ev ?_);refine⟨by omega,_,G7 E,rfl,?_⟩;(try simp -implicitDefEqProofs only [EV,Nat.reduceAdd,Nat.reduceEqDiff,Nat.reduceLeDiff,reduceCtorEq,Er,W]);refine⟨_,.inr ⟨_,rfl,J,rfl⟩,?_⟩;(try refine ev ?_);apply z;clear z K)
     refine A0.ff rfl (A0.kk ?_);exact skip hr _ _ sS sB
    ·rw [Bn (h1.resolve_left W)] at L
     (refine sG Lh [] 23 [] fun K z=>?_;refine ev ?_;refine⟨by omega,_,G7 E,rfl,?_⟩;(try simp -implicitDefEqProofs only [EV,Nat.reduceAdd,Nat.reduceEqDiff,Nat.reduceLeDiff,reduceCtorEq,M8,Er]);refine⟨_,Wu e.src n rfl rfl,?_⟩;(try refine An W ?_);refine⟨by omega,_,G7 E,rfl,?_⟩;(try simp -implicitDefEqProofs only [EV,Nat.reduceAdd,Nat.reduceEqDiff,Nat.reduceLeDiff,reduceCtorEq,Er]);refine⟨_,.inr ⟨_,rfl,L,rfl⟩,?_⟩;(try refine ev ?_);refine⟨by omega,_,G7 E,rfl,?_⟩;(try simp -implicitDefEqProofs only [EV,Nat.reduceAdd,Nat.reduceEqDiff,Nat.reduceLeDiff,reduceCtorEq,Er]);refine⟨_,.inr ⟨_,rfl,J,rfl⟩,?_⟩;(try refine ev ?_);apply z;clear z K)
     refine A0.ff rfl (A0.kk ?_);exact skip hr _ _ sS sB
   ·rw [Ci h2] at J;have hr:P9 n z e=z++[e.dst]:=by unfold P9;rw [A8 ⟨h1,h2⟩]
    rw [hr] at O I V;rw [B3] at V;simp only [Bg,Ch] at V;by_cases W:e.src=n
    ·(refine sG Lh [] 23 [] fun K z=>?_;refine ev ?_;refine⟨by omega,_,G7 E,rfl,?_⟩;(try simp -implicitDefEqProofs only [EV,Nat.reduceAdd,Nat.reduceEqDiff,Nat.reduceLeDiff,reduceCtorEq,M8,Er,W]);refine⟨_,Wu n n rfl rfl,?_⟩;(try refine ev ?_);refine⟨by omega,_,G7 E,rfl,?_⟩;(try simp -implicitDefEqProofs only [EV,Nat.reduceAdd,Nat.reduceEqDiff,Nat.reduceLeDiff,reduceCtorEq,Er,W]);refine⟨_,.inr ⟨_,rfl,J,rfl⟩,?_⟩;(try refine ev ?_);apply z;clear z K)
     refine A0.tt rfl ?_
     (refine lV Lh fun K z=>?_;refine⟨by omega,_,G7 E,rfl,?_⟩;(try simp -implicitDefEqProofs only [EV,Nat.reduceAdd,Nat.reduceEqDiff,Nat.reduceBEq,Nat.reduceLeDiff,Nat.reduceMul,reduceCtorEq,M8,A1i,Er,A0g]);refine⟨by simp,by (try simp only [A0g]);unfold lim;omega,?_⟩;apply z;clear z K;try simp only [A4,Aa])
     refine u2 _ _ ?_;clear skip u2 Z
     (refine lV Lh fun K z=>?_;refine cl ?_;apply z;clear z K;try simp only [A4,])
     exact⟨z++[e.dst],⟨O,I⟩,sS,by simp [ble,A7,Uh,noC]⟩
    ·rw [Bn (h1.resolve_left W)] at L
     (refine sG Lh [] 23 [] fun K z=>?_;refine ev ?_;refine⟨by omega,_,G7 E,rfl,?_⟩;(try simp -implicitDefEqProofs only [EV,Nat.reduceAdd,Nat.reduceEqDiff,Nat.reduceLeDiff,reduceCtorEq,M8,Er]);refine⟨_,Wu e.src n rfl rfl,?_⟩;(try refine An W ?_);refine⟨by omega,_,G7 E,rfl,?_⟩;(try simp -implicitDefEqProofs only [EV,Nat.reduceAdd,Nat.reduceEqDiff,Nat.reduceLeDiff,reduceCtorEq,Er]);refine⟨_,.inr ⟨_,rfl,L,rfl⟩,?_⟩;(try refine ev ?_);refine⟨by omega,_,G7 E,rfl,?_⟩;(try simp -implicitDefEqProofs only [EV,Nat.reduceAdd,Nat.reduceEqDiff,Nat.reduceLeDiff,reduceCtorEq,Er]);refine⟨_,.inr ⟨_,rfl,J,rfl⟩,?_⟩;(try refine ev ?_);apply z;clear z K)
     refine A0.tt rfl ?_
     (refine lV Lh fun K z=>?_;refine⟨by omega,_,G7 E,rfl,?_⟩;(try simp -implicitDefEqProofs only [EV,Nat.reduceAdd,Nat.reduceEqDiff,Nat.reduceBEq,Nat.reduceLeDiff,Nat.reduceMul,reduceCtorEq,M8,A1i,Er,A0g]);refine⟨by simp,by (try simp only [A0g]);unfold lim;omega,?_⟩;apply z;clear z K;try simp only [A4,Aa])
     refine u2 _ _ ?_;clear skip u2 Z
     (refine lV Lh fun K z=>?_;refine cl ?_;apply z;clear z K;try simp only [A4,])
     exact⟨z++[e.dst],⟨O,I⟩,sS,by simp [ble,A7,Uh,noC]⟩
  ·have hr:P9 n z e=z:=by unfold P9;rw [A6 (fun h=>h1 h.1)]
   have W:¬e.src=n:=fun h=>h1 (.inl h);rw [Ci (fun h=>h1 (.inr h))] at L
   (refine sG Lh [] 23 [] fun K z=>?_;refine ev ?_;refine⟨by omega,_,G7 E,rfl,?_⟩;(try simp -implicitDefEqProofs only [EV,Nat.reduceAdd,Nat.reduceEqDiff,Nat.reduceLeDiff,reduceCtorEq,M8,Er]);refine⟨_,Wu e.src n rfl rfl,?_⟩;(try refine An W ?_);refine⟨by omega,_,G7 E,rfl,?_⟩;(try simp -implicitDefEqProofs only [EV,Nat.reduceAdd,Nat.reduceEqDiff,Nat.reduceLeDiff,reduceCtorEq,Er]);refine⟨_,.inr ⟨_,rfl,L,rfl⟩,?_⟩;(try refine ev ?_);apply z;clear z K)
   refine A0.ff rfl (A0.kk ?_);exact skip hr _ _ sS sB
 intro z O;obtain⟨O,U⟩:=O;rw [D6,Tu] at O;have a2:=D4j n l out;rw [←O] at hI a2;refine sK fun Z u2=>?_
 (refine sQ Lh fun K z=>?_;simp -implicitDefEqProofs only [EV,Nat.reduceEqDiff,reduceCtorEq,I5,B4,P1];apply z;clear z K)
 refine A0.ss rfl ?_;simp only [A4,Aa,Af];refine⟨(k,(out.length:Int),z),⟨hI,U,?_⟩,by simp only;omega,sS,by simp [ble,A7]⟩;simp only;by_cases h:z.length=out.length
 ·exact .inl (by omega)
 ·exact .inr (by omega)
theorem E3r (l:List Bk)(a b:E0)(E:l.length≤1000000000000)(hr:(A1e l a).length≤1000000000000):Ac prog 159 [Gm l,Ux a,Ux b] (B0 (A9m l a b)):=by
 have J:=E6o l a E;have I:=C3r (A1e l a) b hr;unfold A9m;generalize A1e l a=z at *;refine cB func159 ?_;refine sR [0,1,2,4,5,6] ?_
 (refine sG [0,1,2,4,5,6] [] 4 [] fun K z=>?_;refine ev ?_;refine cc J ?_;refine cc I ?_;apply z;clear z K)
 exact aR
theorem D3t (n:E0)(l:List Bk):∀(m:List Bk)(out:List E0),(∀e,e∈m→e∈l)→W6 l out→W6 l (m.foldl (P9 n) out)
 |[],_,_,h=>h
 |e::m,out,E,h=>by rw [Li];exact D3t n l m _ (fun x I=>E x (by simp [I])) (h.step n (E e (by simp)))
theorem E2y (l:List Bk)(n:E0):∀(k:Nat)(c:Int)(out:List E0),W6 l out→W6 l (A1p l n k c out)
 | 0,_,_,h=>h
 |k+1,c,out,h=>by
  rw [A1p];split
  ·exact h
  ·exact E2y l n k _ _ (D3t n l l out (fun _ h=>h) h)
theorem F7a (l:List Bk)(n:E0):(A1e l n).length≤l.length:=(E2y l n _ _ _ ⟨by simp,by simp⟩).len
def A1v (l:List Bk)(e:Bk):Bool:=e.ins && (decide (e.dst=e.src) ||A9m l e.dst e.src)
abbrev P6:List Nat:=[0,2,3,4,8,42]
theorem F3d (l:List Bk)(R:l.length≤1000000000000):Ac prog 80 [Gm l] (Gm (B4u l)):=by
 refine cB func80 ?_;refine sR P6 ?_;refine sR P6 ?_;refine A0.pp 3 7 3 rfl ?_;refine kR P6 fun K1 u1=>?_;refine A0.bb (A0.ii l (X:=Unit) (fun j _=>[(0,Gm l),(3,.acc 3),(4,A9 j)]) (fun j _=>[(3,.rows 7 (Kw ((l.take j).filter (A1v l))))])
  (fun _ _=>True) () trivial sS (by simp [ble,A7,Kw]) ?_ ?_)
 rotate_left
 ·intro j _ e J V dp tk O _;have Z:=(Ay.1 J).1;have U:=E3r l e.dst e.src R (Dk (F7a l e.dst) R);have W:Kw ((l.take (j+1)).filter (A1v l))=Kw ((l.take j).filter (A1v l))++(if A1v l e=true then [Er e] else []):=by
   rw [L5 Z,(Ay.1 J).2,Ap4];simp only [Kw,Fz,Au3,Av5];split <;> simp
  have e3:(Kw ((l.take j).filter (A1v l))).length≤j:=by rw [P1];exact Dk (Ak8 _ _) (by rw [Cw];omega)
  rw [W];generalize Kw ((l.take j).filter (A1v l))=PR at *;unfold A1v;generalize A9m l e.dst e.src=lb at *;refine sK fun L u2=>?_
  (refine sQ P6 fun K z=>?_;simp -implicitDefEqProofs only [EV,Nat.reduceEqDiff,reduceCtorEq,I5,O,P1];apply z;clear z K)
  refine gI u2 ?_;clear u2 L;refine sK fun L u2=>?_;refine A0.bb ?_;cases I:e.ins with
  |false =>
   simp only [Bv,Hh,Et,Ge]
   (refine sG P6 [] 29 [] fun K z=>?_;refine ev ?_;refine⟨by omega,_,G7 J,rfl,?_⟩;(try simp -implicitDefEqProofs only [EV,Nat.reduceEqDiff,reduceCtorEq,Er,I]);apply z;clear z K)
   refine A0.ff rfl (A0.kk (u2 _ _ ?_));clear u2 L
   (refine lV P6 fun K z=>?_;refine cl ?_;apply z;clear z K;try simp only [A4,])
   exact⟨(),trivial,sS,by simp [ble,A7,I]⟩
  |true =>
   by_cases E:e.dst=e.src
   ·simp only [Ca,Bn E,Tp,Af]
    (refine sG P6 [] 29 [] fun K z=>?_;refine ev ?_;refine⟨by omega,_,G7 J,rfl,?_⟩;(try simp -implicitDefEqProofs only [EV,Nat.reduceAdd,Nat.reduceEqDiff,reduceCtorEq,I5,M8,Mb,Er,I,E]);refine⟨by omega,_,G7 J,rfl,?_⟩;(try simp -implicitDefEqProofs only [EV,Nat.reduceAdd,Nat.reduceEqDiff,Nat.reduceLeDiff,reduceCtorEq,I5,M8,Mb,Er,I,E]);refine⟨by omega,_,G7 J,rfl,?_⟩;(try simp -implicitDefEqProofs only [EV,Nat.reduceAdd,Nat.reduceEqDiff,Nat.reduceLeDiff,reduceCtorEq,Er,I,E]);refine⟨_,Wu e.src e.src rfl rfl,?_⟩;(try refine ev ?_);apply z;clear z K)
    refine A0.tt rfl ?_
    (refine lV P6 fun K z=>?_;refine⟨by omega,_,G7 J,rfl,?_⟩;(try simp -implicitDefEqProofs only [EV,Nat.reduceAdd,Nat.reduceEqDiff,Nat.reduceBEq,Nat.reduceLeDiff,Nat.reduceMul,reduceCtorEq,I5,Mb,Er]);refine⟨by simp,by unfold lim;omega,?_⟩;apply z;clear z K;try simp only [A4,Aa])
    refine u2 _ _ ?_;clear u2 L
    (refine lV P6 fun K z=>?_;refine cl ?_;apply z;clear z K;try simp only [A4,])
    exact⟨(),trivial,sS,by simp [ble,A7,I,E,Er]⟩
   ·cases lb with
    |true =>
     simp only [Ca,Bool.or_true,Af]
     (refine sG P6 [] 29 [] fun K z=>?_;refine ev ?_;refine⟨by omega,_,G7 J,rfl,?_⟩;(try simp -implicitDefEqProofs only [EV,Nat.reduceAdd,Nat.reduceEqDiff,reduceCtorEq,I5,M8,Mb,Er,I]);refine⟨by omega,_,G7 J,rfl,?_⟩;(try simp -implicitDefEqProofs only [EV,Nat.reduceAdd,Nat.reduceEqDiff,Nat.reduceLeDiff,reduceCtorEq,I5,M8,Mb,Er,I]);refine⟨by omega,_,G7 J,rfl,?_⟩;(try simp -implicitDefEqProofs only [EV,Nat.reduceAdd,Nat.reduceEqDiff,Nat.reduceLeDiff,reduceCtorEq,Er,I]);refine⟨_,Wu e.dst e.src rfl rfl,?_⟩;(try refine An E ?_);refine⟨by omega,_,G7 J,rfl,?_⟩;(try simp -implicitDefEqProofs only [EV,Nat.reduceAdd,Nat.reduceEqDiff,Nat.reduceLeDiff,reduceCtorEq,I5,M8,Mb,Er,I]);refine⟨by omega,_,G7 J,rfl,?_⟩;(try simp -implicitDefEqProofs only [EV,Nat.reduceAdd,Nat.reduceEqDiff,Nat.reduceLeDiff,reduceCtorEq,Er,I]);refine cc U ?_;apply z;clear z K)
     refine A0.tt rfl ?_
     (refine lV P6 fun K z=>?_;refine⟨by omega,_,G7 J,rfl,?_⟩;(try simp -implicitDefEqProofs only [EV,Nat.reduceAdd,Nat.reduceEqDiff,Nat.reduceBEq,Nat.reduceLeDiff,Nat.reduceMul,reduceCtorEq,I5,Mb,Er]);refine⟨by simp,by unfold lim;omega,?_⟩;apply z;clear z K;try simp only [A4,Aa])
     refine u2 _ _ ?_;clear u2 L
     (refine lV P6 fun K z=>?_;refine cl ?_;apply z;clear z K;try simp only [A4,])
     exact⟨(),trivial,sS,by simp [ble,A7,I,E,Er]⟩
    |false =>
     simp only [Ca,Ci E,As6,Hh,Et,Ge]
     (refine sG P6 [] 29 [] fun K z=>?_;refine ev ?_;refine⟨by omega,_,G7 J,rfl,?_⟩;(try simp -implicitDefEqProofs only [EV,Nat.reduceAdd,Nat.reduceEqDiff,reduceCtorEq,I5,M8,Mb,Er,I]);refine⟨by omega,_,G7 J,rfl,?_⟩;(try simp -implicitDefEqProofs only [EV,Nat.reduceAdd,Nat.reduceEqDiff,Nat.reduceLeDiff,reduceCtorEq,I5,M8,Mb,Er,I]);refine⟨by omega,_,G7 J,rfl,?_⟩;(try simp -implicitDefEqProofs only [EV,Nat.reduceAdd,Nat.reduceEqDiff,Nat.reduceLeDiff,reduceCtorEq,Er,I]);refine⟨_,Wu e.dst e.src rfl rfl,?_⟩;(try refine An E ?_);refine⟨by omega,_,G7 J,rfl,?_⟩;(try simp -implicitDefEqProofs only [EV,Nat.reduceAdd,Nat.reduceEqDiff,Nat.reduceLeDiff,reduceCtorEq,I5,M8,Mb,Er,I]);refine⟨by omega,_,G7 J,rfl,?_⟩;(try simp -implicitDefEqProofs only [EV,Nat.reduceAdd,Nat.reduceEqDiff,Nat.reduceLeDiff,reduceCtorEq,Er,I]);refine cc U ?_;apply z;clear z K)
     refine A0.ff rfl (A0.kk (u2 _ _ ?_));clear u2 L
     (refine lV P6 fun K z=>?_;refine cl ?_;apply z;clear z K;try simp only [A4,])
     exact⟨(),trivial,sS,by simp [ble,A7,I,E]⟩
 intro _ _;rw [Cs];refine sK fun L u2=>?_
 (refine sQ P6 fun K z=>?_;simp -implicitDefEqProofs only [EV,Nat.reduceEqDiff,reduceCtorEq,I5,B4,P1];apply z;clear z K)
 refine A0.ss rfl ?_;simp only [A4,Aa,Af];refine u1 _ _ ?_;clear u2 L u1 K1;refine sR P6 ?_;rw [show B4u l=l.filter (A1v l) from rfl];exact aR
theorem F5o (p:Prog)(h:p.Sm)(I:∀d,d∈p.decls→(Bb d.body).length≤sm)(L:N7 p.decls≤72000):Ac prog 37 [Cv p] (B0 (B3v p)):=by
 have U:=E6d p h I L;have J:(A5b p).length≤1000000000000:=by have:=A7b (g:=Decl.al) D2o p.decls [];have O:N7 p.decls*N7 p.decls≤72000*72000:=Nat.mul_le_mul L L;unfold N7 at *;unfold A5b;simp only [Ch] at this;omega
 have O:=F3d (A5b p) J;unfold B3v;generalize A5b p=l at *;generalize B4u l=x at *;by_cases R:x.length=0
 ·have E:((x.length:Nat):Int)=0:=by omega
  rw [Bn R];refine cB func37 ?_;refine sR [0,1,2] ?_
  (refine sV [0,1,2] fun K z=>?_;refine cc U ?_;refine⟨_,.inl ⟨_,rfl,O,rfl⟩,?_⟩;(try simp -implicitDefEqProofs only [EV,Nat.reduceEqDiff,reduceCtorEq,E,P1,I5]);apply z;clear z K)
  exact aR
 ·have E:¬((x.length:Nat):Int)=0:=by omega
  rw [Ci R];refine cB func37 ?_;refine sR [0,1,2] ?_
  (refine sV [0,1,2] fun K z=>?_;refine cc U ?_;refine⟨_,.inl ⟨_,rfl,O,rfl⟩,?_⟩;(try simp -implicitDefEqProofs only [EV,Nat.reduceEqDiff,reduceCtorEq,E,P1,I5]);apply z;clear z K)
  exact aR
open Go Go.Proofs Go.Sort Tryz
abbrev B9k (E:List Ty)(cs:List Au):List D:=[.slice (Aq E),.slice (Dn cs)]
abbrev Vw (E:List Ty)(cs:List Au):SV:=.agg [.d (.slice (Aq E)),.d (.slice (Dn cs))]
def Ix (l:List Param):List Param:=l.map fun f=>⟨f.name,R7 f.type,0⟩
def headD (k:Int)(E:A3)(fs:List Param)(ss:List A5):Decl:=⟨k,E,[],fs,ss,[],[],Kd,Tj,0⟩
def A0b (E:A3)(s:A5):Decl:=⟨3,E,[],[],[],[114],[],Jd s,.mk 3 [] Xe [] [] 0,0⟩
def Pk (M:Au→Option Decl)(p:Prog)(calls:List Au)(x:Ty):List Decl:=if Bz p x 1=true then headD 1 x.mg (Ix (C5 p x)) []::(calls.filterMap M++(Cb p [] x).map (A0b x.mg)) else []
def Yk:Option Decl→SV
 |none=>.tuple [Iy default,B0 false]
 |some d=>.tuple [Iy d,B0 true]
abbrev deH (E:A3)(x:SV):List SV:=[.d (.int .i64 1),.d (.str E),.d .nil,x,.d .nil,.d (.str []),.d .nil,.d (.str []),.d .nil,.d .nil,.d (.str []),.d .nil,.d (.int .i64 0),.d (.int .i64 0),.d (.int .i64 0),.d (.str []),.d (.str []),.d .nil,.d (.int .i64 0),.d .nil,.d .nil,.d (.int .i64 0),.d (.int .i64 0)]
theorem F1s {l:List Param} {j:Nat} {d:Param} (h:l[j]? = some d):B5 (Ix (l.take (j+1)))=B5 (Ix (l.take j))++[Gc ⟨d.name,R7 d.type,0⟩]:=by have E:=(Ay.1 h).1;rw [L5 E,(Ay.1 h).2];simp [Ix,B5]
theorem E4g {p:Prog} (ht:∀d,d∈p.decls→d.Tl)(hr:p.right=true)(hs:p.Sm) {x:Ty} (R:∀u,u∈x.args→u.Ni 12000):∀f,f∈C5 p x→f.type.Ni 360000000:=by
 intro f I;unfold C5 at I;split at I
 ·rename_i U;obtain⟨d,hd,_⟩:=Lo (by decide) U;rw [hd,Dc] at I;unfold fieldsD at I;obtain⟨y,J,rfl⟩:=Ax.1 I;have E:=Nh hd;simp only [Prog.right,B1,Cf] at hr;have h:=hr.1 d E;simp only [Decl.right,Lx,B1,Cf] at h;have L:=h.2.2.1 y J;have O:y.type.Ni 120000:=⟨Ty.A3w ((hs.decls.2 d E).fields.2 y J).type L.2,(ht d E).fields y J⟩;exact Ty.Ni.subst (B:=120000) (M:=12000) (by decide) R O
 ·simp at I
abbrev G6:List Nat:=[0,1,2,5,6,7,8,9,11,12,14,15,16,18,26,30,31,32,33,49,50,51,52,53,62,70,71,72,73,901]
theorem D2w (p:Prog)(h:p.Sm)(ht:∀d,d∈p.decls→d.Tl)(hr:p.right=true)(M:Au→Option Decl)(calls:List Au)(a7:calls.length≤sm)
  (hM:∀c,c∈calls→Ac prog 139 [.Ag (Fu p) 0,N6 c] (Yk (M c))) (x:Ty) (hx:x.Sm) (L:x.Ni 12000) :
  Cd prog 74 [.Ag (Fu p) 0,.d (.slice (Dn calls)),Be x] [] (.acc 49) [(49,.rows 23 (Bu (Pk M p calls x)))]:=by
 have hF:=E9q p h x hx;unfold Pk;cases hi:Bz p x 1 with
 |false =>rw [hi] at hF;rw [A6 (by simp),show Bu []=[] from rfl];refine bB func74 ?_;refine sR G6 ?_;refine sC hF G6 ?_;refine kR G6 fun R u1=>?_;refine tI ?_;refine sR G6 ?_;refine A0.pp 49 23 6 rfl ?_;exact A0.ret ⟨_,by rw [results74];rfl,.inl rfl,by simp [ble,A7]⟩
 |true =>
 rw [hi] at hF;rw [A8 rfl];have hT:=A2d x L.mg (by have:=L.len;omega);have a3:=E4g ht hr h L.args;have a6:(C5 p x).length≤sm:=C1w h x;have hS:=A8u p h [] (by simp) (by simp) x hx;have a8:=W3 h [] x;have a2:=A6e h ht hr hx L.args;generalize x.mg=nm at *;generalize C5 p x=fs at *;generalize Cb p [] x=ss at *;refine bB func74 ?_;refine sR G6 ?_;refine sC hF G6 ?_;refine kR G6 fun R u1=>?_;refine kI u1 ?_;clear u1 R;refine sC hT G6 ?_;refine A0.No 901 5 9 3 rfl rfl (by decide) ?_;refine kR G6 fun R u1=>?_;refine A0.bb (A0.ii fs (X:=Unit) (fun j _=>[(0,.Ag (Fu p) 0),(1,.d (.slice (Dn calls))),(5,.box 5 0),(9,.box 9 0),(30,.d (.slice (B5 fs))),(31,A9 fs.length),(32,A9 j)])
  (fun j _=>[(5,.cells (Rw x)),(9,.cells (deH nm (.acc 901))),(901,.rows 5 (B5 (Ix (fs.take j))))])
  (fun _ _=>True) () trivial sS (by simp [ble,A7,B5,Ix]) ?_ ?_)
 rotate_left
 ·intro j _ d hd I dp tk J _;have hj:=(Ay.1 hd).1;have W:=a3 d I;have a0:=B1i d.type W.mg (by have:=W.len;omega);have e3:(B5 (Ix (fs.take j))).length=j:=by simp only [B5,Ix,B6,Cw];omega
  rw [F1s hd];generalize B5 (Ix (fs.take j))=PR at *;refine Ah J G6 ?_;refine A0.E5 rfl ?_;refine sK fun U u2=>?_;refine A0.bb ?_
  (refine sV G6 fun K z=>?_;refine ci (E7 hd) ?_;apply z;clear z K)
  (refine lG G6 [] 9 [] fun K z=>?_;refine ev ?_;refine⟨_,.inl ⟨_,rfl,a0,rfl⟩,?_⟩;(try refine An e3 ?_);refine⟨by simp,by (try simp only [e3]);unfold lim sm at *;omega,?_⟩;(try refine An e3 ?_);apply z;clear z K;try simp only [A4,Aa])
  refine u2 _ _ ?_;clear u2 U;refine lT G6 ?_;exact⟨(),trivial,sS,by simp [ble,A7,Gc]⟩
 intro _ _;rw [Cs];refine Ah B4 G6 ?_;refine A0.stop rfl ?_;simp only [A4,Aa,Af];refine u1 _ _ ?_;clear u1 R
 (refine A0.Kx 901 rfl (wk [(0,.Ag (Fu p) 0),(1,.d (.slice (Dn calls))),(5,.box 5 0),(9,.box 9 0)] [(5,.cells (Rw x)),(9,.cells (deH nm (.d (.slice (B5 (Ix fs))))))] ?_))
 (refine A0.F6 G6 [49] (by decide +kernel) fun K z=>?_;refine ev ?_;apply z;clear z K)
 refine kR G6 fun R u1=>?_;refine A0.bb (A0.ii calls (X:=Unit) (fun j _=>[(0,.Ag (Fu p) 0),(5,.box 5 0),(9,.box 9 0),(12,.acc 49),(50,.d (.slice (Dn calls))),(51,A9 calls.length),(52,A9 j)])
  (fun j _=>[(5,.cells (Rw x)),(9,.cells (deH nm (.d (.slice (B5 (Ix fs)))))),(49,.rows 23 (Bu (headD 1 nm (Ix fs) []::(calls.take j).filterMap M)))])
  (fun _ _=>True) () trivial (by simp [sle,Aw,Ae,Jx]) ⟨rfl,rfl,rfl,trivial⟩ ?_ ?_)
 rotate_left
 ·intro j _ c hc I dp tk J _;have hj:=(Ay.1 hc).1;have V:=hM c I;have e2:Bu (headD 1 nm (Ix fs) []::(calls.take (j+1)).filterMap M)=Bu (headD 1 nm (Ix fs) []::(calls.take j).filterMap M)++Bu (M c).toList:=by
   rw [L5 hj,(Ay.1 hc).2,List.filterMap_append];cases O:M c <;> simp [Bu,O]
  have e3:(Bu (headD 1 nm (Ix fs) []::(calls.take j).filterMap M)).length≤j+1:=by simp only [Bu,B6,Bg];have:=Ak1 M (calls.take j);rw [Cw] at this;omega
  rw [e2];generalize Bu (headD 1 nm (Ix fs) []::(calls.take j).filterMap M)=PR at *;cases O:M c with
  |none =>
   rw [O] at V;unfold Yk at V;refine Ah J G6 ?_;refine A0.E5 rfl ?_;refine sK fun U u2=>?_;refine A0.bb ?_
   (refine sV G6 fun K z=>?_;refine⟨by omega,_,Qd hc,rfl,?_⟩;(try simp -implicitDefEqProofs only [EV,Nat.reduceAdd,Nat.reduceEqDiff,Nat.reduceBEq,Nat.reduceLeDiff,reduceCtorEq,A2a,H5]);apply z;clear z K)
   refine sC V G6 ?_;refine sR G6 ?_;refine A0.ff rfl (A0.kk (u2 _ _ ?_));clear u2 U;refine lT G6 ?_;exact⟨(),trivial,sS,by simp [ble,A7,Bu]⟩
  |some d =>
   rw [O] at V;unfold Yk at V;refine Ah J G6 ?_;refine A0.E5 rfl ?_;refine sK fun U u2=>?_;refine A0.bb ?_
   (refine sV G6 fun K z=>?_;refine⟨by omega,_,Qd hc,rfl,?_⟩;(try simp -implicitDefEqProofs only [EV,Nat.reduceAdd,Nat.reduceEqDiff,Nat.reduceBEq,Nat.reduceLeDiff,reduceCtorEq,A2a,H5]);apply z;clear z K)
   refine sC V G6 ?_;refine sR G6 ?_;refine A0.tt rfl ?_
   (refine lV G6 fun K z=>?_;refine⟨by simp,by unfold lim sm at *;omega,?_⟩;(try refine ev ?_);apply z;clear z K;try simp only [A4,Aa])
   refine u2 _ _ ?_;clear u2 U;refine lT G6 ?_;exact⟨(),trivial,sS,by simp [ble,A7,Bu,Bc]⟩
 intro _ _;rw [Cs];have a5:=Ak1 M calls;refine Ah B4 G6 ?_;refine A0.stop rfl ?_;simp only [A4,Aa,Af];refine u1 _ _ ?_;clear u1 R;refine kC hS G6 fun R u1=>?_;refine A0.bb (A0.ii ss (X:=Unit) (fun j _=>[(9,.box 9 0),(12,.acc 49),(70,.d (.slice (B9 ss))),(71,A9 ss.length),(72,A9 j)])
  (fun j _=>[(9,.cells (deH nm (.d (.slice (B5 (Ix fs)))))),(49,.rows 23 (Bu (headD 1 nm (Ix fs) []::(calls.filterMap M++(ss.take j).map (A0b nm)))))])
  (fun _ _=>True) () trivial sS (by simp [ble,A7,Bu]) ?_ ?_)
 rotate_left
 ·intro j _ s hs I dp tk J _;have hj:=(Ay.1 hs).1;have E:=a2 s I;have a1:=B9s s (A5.Ni.dum ⟨E.sm,⟨E.A1.1,fun f Z=>⟨(E.A1.2 f Z).mg,by have:=(E.A1.2 f Z).len;omega⟩⟩,⟨E.params.1,fun f Z=>⟨(E.params.2 f Z).mg,by have:=(E.params.2 f Z).len;omega⟩⟩,⟨E.result.mg,by have:=E.result.len;omega⟩⟩);have a4:=E0b;have e2:Bu (headD 1 nm (Ix fs) []::(calls.filterMap M++(ss.take (j+1)).map (A0b nm)))=Bu (headD 1 nm (Ix fs) []::(calls.filterMap M++(ss.take j).map (A0b nm)))++[Bc (A0b nm s)]:=by
   rw [L5 hj,(Ay.1 hs).2];simp [Bu]
  have e3:(Bu (headD 1 nm (Ix fs) []::(calls.filterMap M++(ss.take j).map (A0b nm)))).length≤2*sm+1:=by simp only [Bu,B6,Bg,B3,Cw];omega
  rw [e2];generalize Bu (headD 1 nm (Ix fs) []::(calls.filterMap M++(ss.take j).map (A0b nm)))=PR at *;unfold A0b;generalize Jd s=g at *;refine Ah J G6 ?_;refine A0.E5 rfl ?_;refine sK fun U u2=>?_;refine A0.bb ?_
  (refine sV G6 fun K z=>?_;refine ci (E1 hs) ?_;apply z;clear z K)
  (refine lG G6 [] 9 [] fun K z=>?_;refine ev ?_;refine cc a1 ?_;refine cc a4 ?_;refine⟨by simp,by unfold lim sm at *;omega,?_⟩;(try refine ev ?_);apply z;clear z K;try simp only [A4,Aa])
  refine u2 _ _ ?_;clear u2 U;refine lT G6 ?_;exact⟨(),trivial,sS,⟨rfl,rfl,trivial⟩⟩
 intro _ _;rw [Cs];refine Ah B4 G6 ?_;refine A0.stop rfl ?_;simp only [A4,Aa,Af];refine u1 _ _ ?_;clear u1 R;refine sR G6 ?_;exact A0.ret ⟨_,by rw [results74];rfl,.inl rfl,by simp [ble,A7]⟩
abbrev B5m:List Nat:=[0,1,2,5,6,7,8,9,11,12,13,15,19,23,27,28,29,30,39,50,51,52,53]
theorem D2p (p:Prog)(h:p.Sm)(calls:List Au)(x:Ty)(I:x.Sm)(J:Bz p x 2=false):Ac prog 75 [.Ag (Fu p) 0,.d (.slice (Dn calls)),Be x] (.d (.slice [])):=by
 have E:=B3d p h x I;rw [J] at E;refine cB func75 ?_;refine sR B5m ?_
 (refine A0.F6 B5m [19] (by decide +kernel) fun K z=>?_;refine ev ?_;refine⟨_,_,_,_,_,rfl,E,?_⟩;(try refine ev ?_);apply z;clear z K)
 refine kR B5m fun L u1=>?_;refine tI ?_;refine sR B5m ?_;exact aR
theorem G4e {sl:SL} {bx:Ab} {dst:Option Nat} {x:Operand} {Co:List TypeId} (U:Ao sl x=.d .nil) :
  OpB prog sl bx dst (.call ⟨.value (.func 66),[x,.func 8].toArray,Co.toArray⟩) (.tuple []) bx []:=by
 intro o J _ C S w β a V R;have O:Enters prog 66:=(Enters.of func66 rfl (by decide));have I:=R x (mC J);rw [U] at I;have W:a.eval x=.slice none 0 0:=by have L:=I.Gp;generalize a.eval x=v at L;cases L;rfl
 have E:([x,.func 8].toArray.map a.eval)++(#[]:Array Value) = #[.slice none 0 0,.func (.func 8) #[] #[]]:=by apply I6;rw [Aq1,Ao9];show [a.eval x,Value.func (.func 8) #[] #[]]++[]=_;rw [W];rfl
 refine He ?_;unfold Oper.wp;rw [Rn O J (show a.eval (.func 66)=.func (.func 66) #[] #[] from rfl),R0,E];refine (AnyF.slices_SortFunc_none C3i _ _ _ w).mono ?_;rintro e w' ⟨rfl,rfl⟩;exact⟨_,S,β,rfl,V,Bo.refl S _,.tuple [] [] rfl (by simp),fun _ _=>rfl⟩
abbrev C1y:List Nat:=[0,1,4,5,6,7,10,15,28,35,49]
theorem F2p:Ac prog 67 [.d (.slice []),.Bf 68 []] (.d (.slice [])):=by refine cB func67 ?_;refine sR C1y ?_;refine kR C1y fun E u1=>?_;refine tI ?_;refine sR C1y ?_;exact aR
abbrev A4t:List Nat:=[0,1,2,3,4,5,6,7,8,10,14,15,16,17,24]
theorem F8r (p:Prog)(h:p.Sm)(L:List Ty)(x:Ty):Ac prog 21 [Cv p,Vw L [],Be x] (.d (.slice [])):=by
 have E:=A9d p h;have I:=F2p;refine cB func21 ?_;refine sR A4t ?_;refine sC E A4t ?_;refine sR A4t ?_;refine kR A4t fun J u1=>?_;refine A0.bb (A0.loop (X:=Unit) (fun _=>[(8,.d .nil),(15,A9 0),(16,A9 0)]) (fun _=>[]) (fun _=>True) (fun _=>0) () trivial (by simp [sle,Aw,Ae,Dn]) (by simp [ble]) ?_);intro _ _;refine Ah B4 A4t ?_;refine A0.stop rfl ?_;simp only [A4,Aa,Af];refine u1 _ _ ?_;clear u1 J
 (refine A0.F6 A4t [800038] (by decide +kernel) fun K z=>?_;refine ev ?_;refine⟨_,_,_,G4e rfl,?_⟩;(try refine ev ?_);apply z;clear z K)
 refine sC I A4t ?_;exact aR
abbrev B4z:List Nat:=[0,1,2,3,4,5,6,7,8,18]
theorem F0g (p:Prog)(h:p.Sm)(ht:∀d,d∈p.decls→d.Tl)(hr:p.right=true)(L:List Ty)(x:Ty)(J:x.Sm)(E:x.Ni 12000)(R:Bz p x 2=false) :
  Ac prog 34 [Cv p,Vw L [],Be x] (.d (.slice (Bu (Pk (fun _=>none) p [] x)))):=by
 have V:=A9d p h;have W:=F8r p h L x;have hs:=D2w p h ht hr (fun _=>none) [] (by simp) (by simp) x J E;have I:=D2p p h [] x J R;have O:(Bu (Pk (fun _=>none) p [] x)).length≤sm+1:=by
  have:=W3 h [] x;simp only [Bu,B6];unfold Pk;split
  ·simp only [List.filterMap_nil,Wa,Bg,B6];omega
  ·simp
 generalize Pk (fun _=>none) p [] x=ds at *;have U:ds.length≤sm+1:=by rw [←B8u];exact O
 refine cB func34 ?_;refine sR B4z ?_;refine sC V B4z ?_;refine sC W B4z ?_
 (refine sG B4z [18] 7 [⟨[],[],[],[]⟩,⟨[],[],[],[]⟩,⟨[],[],[],[]⟩,⟨[18],[18],[],[]⟩,⟨[],[],[18],[18]⟩,⟨[],[],[18],[18]⟩,⟨[],[],[18],[18]⟩] fun K z=>?_;refine ev ?_;refine⟨_,_,_,_,_,rfl,hs,?_⟩;(try refine ev ?_);refine cc I ?_;refine⟨by simp,by unfold lim sm at *;omega,?_⟩;(try refine ev ?_);apply z;clear z K)
 exact aR
open Go Go.Proofs Tryz
abbrev mnS (e:Ex):List SV:=[.d (.int .i64 e.kind),.d (.str e.name),.d (.str e.type.name),.d (.slice (Aq e.type.args)),.d (.int .i64 e.type.pos),.d (.slice (Aq e.targs)),.d (.slice (Db e.kids)),.d (.int .i64 e.pos)]
theorem E9x (p:Prog)(I:List Ty)(cs:List Au)(x:Ty)(ds:List Decl)(e:Ex)(rs:List (List D))(hT:Ac prog 34 [Cv p,Vw I cs,Be x] (.d (.slice (Bu ds))))(L:rs.length+ds.length≤100000000000) :
  Cd prog 41 [Be x,.box 1000000 0,.Ag (Aj p) 0,.Ag (B9k I cs) 0] [(1000000,.cells (.acc 7::mnS e)),(7,.rows 23 rs)] (.tuple []) [(1000000,.cells (.acc 7::mnS e)),(7,.rows 23 (rs++Bu ds))]:=by
 have J:(Bu ds).length=ds.length:=B8u ds;have E:=C7d ds;generalize Bu ds=DR at *;refine bB func41 ?_;refine sR [0,1,2,3,4,7,1000000] ?_
 (refine lG [0,1,2,3,4,7,1000000] [] 6 [] fun K z=>?_;refine ev ?_;refine cc hT ?_;refine⟨E,by unfold lim;omega,?_⟩;(try refine ev ?_);apply z;clear z K;try simp only [A4,Aa,Af])
 exact⟨_,by rw [results41];rfl,.inr rfl,by simp [ble,A7]⟩
theorem E8p {P:Program} {o:Oper} {ρ:Hq} {bx:Ab} {f:FuncId} {fo:Operand} {args:Array Operand} {Co:Array TypeId} (ho:o.op=.call { callee:=.value fo,args:=args,argTypes:=Co }) {caps E:List SV} {r:SV} {k q sz:Nat} {cs cs':List SV} {rs O:List (List D)}
  (hc:Cd P f E [(1000000,.cells (.acc 7::cs)),(7,.rows sz rs)] r [(1000000,.cells (.acc 7::cs')),(7,.rows sz O)]) (hf:ρ fo=.Bf f caps) (J:W0 k 1000000 (args.toList.map ρ++caps)=some E) (h7:SV.Hi 7 E=false)
  (hb:A7 bx k=some (.cells (.acc q::cs))) (hq:A7 bx q=some (.rows sz rs)) (U:k≠q) (a0:q < 1000000) (V:SV.Jb cs=true) (L:SV.Jb cs'=true)
  (Z:(bx.all fun R=>R.1 == k || !R.2.has q)=true) (I:(bx.all fun R=>R.2.real)=true) (hr:r.closed=true) :
  Bt P o ρ bx r ((k,.cells (.acc q::cs'))::(q,.rows sz O)::C3 k (C3 q bx)) [q] :=
 G3d ho hf (G0 hb) (G0 hq) U a0 V L (fun W c' h hk=>by have:=Cf.1 Z (W,c') h;simpa [hk] using this) (fun W c' h=>Cf.1 I (W,c') h) J h7 hc hr
def Ki:Decl:=headD 1 B0n [] []
abbrev Wm:List Nat:=[0,1,2,3,4,5,6,8,11,18,19,20,21]
theorem D3r (p:Prog)(hp:p.Sm)(E:List Ty)(Z:E.length≤sm)(cs:List Au)(Gi:Ty→List Decl)(mt:Ty→Ty)(I:A3→List Ty→A3)(hM:Rx mt I p.main)
  (hT:∀x,x∈E→Ac prog 34 [Cv p,Vw E cs,Be x] (.d (.slice (Bu (Gi x))))) (V:((Ki::E.flatMap Gi).length)≤100000000000) :
  Ac prog 14 [Cv p,Vw E cs] (Cv ⟨Ki::E.flatMap Gi,Hc mt I p.main⟩):=by
 have J:=E0y;have R:=D5n mt I p.main hp.main hM;show Ac prog 14 [Cv p,Vw E cs] (.agg [.d (.slice (Bu (Ki::E.flatMap Gi))),.d (.int .i64 (Hc mt I p.main).kind),.d (.str (Hc mt I p.main).name),.d (.str (Hc mt I p.main).type.name),.d (.slice (Aq (Hc mt I p.main).type.args)),.d (.int .i64 (Hc mt I p.main).type.pos),.d (.slice (Aq (Hc mt I p.main).targs)),.d (.slice (Db (Hc mt I p.main).kids)),.d (.int .i64 (Hc mt I p.main).pos)]);generalize Hc mt I p.main=e at *;refine cB func14 ?_;refine sR Wm ?_
 (refine sG Wm [11] 8 [⟨[],[],[5],[5]⟩,⟨[],[],[5],[5]⟩,⟨[11],[11],[5],[5]⟩,⟨[],[],[5,11],[5,11]⟩,⟨[],[],[5,11],[5,11]⟩,⟨[],[],[5,11],[5,11]⟩,⟨[],[],[5],[5]⟩,⟨[5],[5],[11],[11]⟩] fun K z=>?_;refine ev ?_;refine cc J ?_;refine cc R ?_;apply z;clear z K)
 (refine A0.zz 2 rfl rfl ?_;refine A0.zz 3 rfl rfl (wk [(2,.Ag (Aj p) 0),(3,.Ag (B9k E cs) 0),(4,.box 4 0),(5,.box 5 0)] [(4,.cells [.d .nil,.d (.int .i64 0),.d (.str []),.d (.str []),.d .nil,.d (.int .i64 0),.d .nil,.d .nil,.d (.int .i64 0)]),(5,.cells (.acc 11::mnS e)),(11,.rows 23 (Bu [Ki]))] ?_))
 refine sR Wm ?_;refine kR Wm fun K1 u1=>?_;refine A0.bb (A0.ii E (X:=Unit) (fun j _=>[(4,.box 4 0),(5,.box 5 0),(6,.Bf 41 [.box 5 0,.Ag (Aj p) 0,.Ag (B9k E cs) 0]),(18,Cg E),(19,A9 E.length),(20,A9 j)])
  (fun j _=>[(4,.cells [.d .nil,.d (.int .i64 0),.d (.str []),.d (.str []),.d .nil,.d (.int .i64 0),.d .nil,.d .nil,.d (.int .i64 0)]),(5,.cells (.acc 11::mnS e)),(11,.rows 23 (Bu (Ki::(E.take j).flatMap Gi)))])
  (fun _ _=>True) () trivial (by simp [sle,Aw,Ae,Aj]) sB ?_ ?_)
 rotate_left
 ·intro j _ x O L dp tk U _;have W:=(Ay.1 O).1;have e2:Bu (Ki::(E.take (j+1)).flatMap Gi)=Bu (Ki::(E.take j).flatMap Gi)++Bu (Gi x):=by
   rw [L5 W,(Ay.1 O).2,Aq2];simp [Bu]
  have e3:(Bu (Ki::(E.take j).flatMap Gi)).length+(Gi x).length≤100000000000:=by
   have h1:E.flatMap Gi=(E.take (j+1)).flatMap Gi++(E.drop (j+1)).flatMap Gi:=by rw [←Aq2,Sw]
   have h2:(E.take (j+1)).flatMap Gi=(E.take j).flatMap Gi++Gi x:=by rw [L5 W,(Ay.1 O).2,Aq2];simp
   rw [h1,h2] at V;simp only [Bg,B3] at V;rw [B8u,Bg];omega
  have hc:=E9x p E cs x (Gi x) e _ (hT x L) e3;rw [e2];generalize Bu (Ki::(E.take j).flatMap Gi)=PR at *;generalize Bu (Gi x)=DR at *;refine Ah U Wm ?_;refine A0.E5 rfl ?_;refine sK fun K2 u2=>?_;refine A0.bb ?_
  (refine sV Wm fun K z=>?_;refine ci (F5 O) ?_;apply z;clear z K)
  (refine A0.A0q Wm [800026] (by decide +kernel) fun K z=>?_;refine ev ?_;refine⟨_,_,_,fun o ho _=>E8p (k:=5) (q:=11) ho hc rfl rfl rfl rfl rfl (by decide) (by decide) rfl rfl rfl rfl rfl,?_⟩;(try refine ev ?_);apply z;clear z K;try simp only [A4,Aa])
  refine u2 _ _ ?_;clear u2 K2;refine lT Wm ?_;exact⟨(),trivial,by simp [sle,Aw,Ae,Aj],by simp [ble,A7]⟩
 intro _ _;rw [Cs];refine Ah B4 Wm ?_;refine A0.stop rfl ?_;simp only [A4,Aa,Af];refine u1 _ _ ?_;clear u1 K1
 (refine A0.Kx 11 rfl (wk [(4,.box 4 0),(5,.box 5 0)] [(4,.cells [.d .nil,.d (.int .i64 0),.d (.str []),.d (.str []),.d .nil,.d (.int .i64 0),.d .nil,.d .nil,.d (.int .i64 0)]),(5,.cells (.d (.slice (Bu (Ki::E.flatMap Gi)))::mnS e))] ?_))
 refine sR Wm ?_;exact aR
def B7a (p:Prog):Bool:=decide (p.count≤600) && (p.right && (!(A4o p true).bad && B3v p))
abbrev Qj:List Nat:=[0,1,2,18]
theorem E5o (p:Prog):Ac prog 12 [Cv p] (A9 (if B7a p=true then 1 else 0)):=by
 have I:=E8k p;unfold B7a;by_cases J:p.count≤600;rotate_left
 ·rw [Ci J] at I ⊢;rw [Bv,A6 (by simp)];refine cB func12 ?_;refine sR Qj ?_;refine kC I Qj fun L u1=>?_;refine kI u1 ?_;refine sR Qj ?_;exact aR
 rw [Bn J] at I ⊢;rw [Ca];have E:=Prog.Zp p J;have O:=Prog.Ti p J;have hr:=G4t p E.sm (Prog.Np p J);have R:=F0v p E true;have U:=F5o p E.sm (fun d hd=>by have:=(O.decls d hd).body.list;unfold sm;omega) (Prog.A8t p J);generalize p.right=b1 at *;generalize B3v p=b3 at *;generalize A4o p true=r at *;obtain⟨q,V,lg⟩:=r;cases b1 with
 |false =>
  rw [Bv,A6 (by simp)];refine cB func12 ?_;refine sR Qj ?_;refine sK fun L u1=>?_
  (refine sV Qj fun K z=>?_;refine cc I ?_;refine cc hr ?_;apply z;clear z K)
  refine kI u1 ?_;refine sR Qj ?_;exact aR
 |true =>
 cases V with
 |true =>
  rw [show (true && (!(Ey.mk q true lg).bad && b3))=false from rfl,A6 (by simp)];refine cB func12 ?_;refine sR Qj ?_;refine sK fun L u1=>?_
  (refine sV Qj fun K z=>?_;refine cc I ?_;refine cc hr ?_;refine cc R ?_;apply z;clear z K)
  refine kI u1 ?_;refine sR Qj ?_;exact aR
 |false =>
 rw [show (true && (!(Ey.mk q false lg).bad && b3))=b3 from rfl];cases b3 with
 |false =>
  rw [A6 (by simp)];refine cB func12 ?_;refine sR Qj ?_;refine sK fun L u1=>?_
  (refine sV Qj fun K z=>?_;refine cc I ?_;refine cc hr ?_;refine cc R ?_;refine cc U ?_;apply z;clear z K)
  refine kI u1 ?_;refine sR Qj ?_;exact aR
 |true =>
  rw [A8 rfl];refine cB func12 ?_;refine sR Qj ?_;refine sK fun L u1=>?_
  (refine sV Qj fun K z=>?_;refine cc I ?_;refine cc hr ?_;refine cc R ?_;refine cc U ?_;apply z;clear z K)
  refine tI ?_;refine sR Qj ?_;exact aR
def t23:Ty:=.mk [84] [] 0
def l23:Ex:=.mk 3 [] t23 [] [] 0
def Si:Prog:=⟨[{ (default:Decl) with kind:=1,name:=[84] }],l23⟩
def s23:A5:=⟨[109],[],[],t23,0⟩
def c23:Au:=⟨t23,[109],[]⟩
theorem D2m:Si.count≤600:=by decide +kernel
theorem D9z:Si.right=true:=by decide +kernel
theorem C0d:t23.Sm:=.mk _ _ _ (by decide) (by simp) (by simp)
theorem A8e:t23.Ni 12000:=⟨.Uk _ _ _ (by decide +kernel) (by decide) (by simp) (by simp),by decide +kernel⟩
theorem D1m:Cb Si [] t23=[]:=by have:De Si [] t23=[]:=rfl;unfold Cb;rw [this];simp [Pz]
theorem G4p:Pk (fun _=>none) Si [] t23=[headD 1 [84] [] []]:=by unfold Pk;rw [D1m];rfl
theorem E9b:Rx (fun t=>.mk t.mg [] t.pos) G3 Si.main:=.mk _ _ _ _ _ _ (fun _=>B9n t23 A8e.mg (by have:=A8e.len;omega)) (fun h=>absurd h (by decide)) (by simp)
theorem F2d:Hc (fun t=>.mk t.mg [] t.pos) G3 Si.main=l23:=by rfl
theorem F8i:Jd s23=⟨[109,95,83,84,95,69],[],[],Xe,0⟩:=by unfold Jd;rw [show Wp s23=[109,95,83,84,95,69] by decide +kernel]
abbrev Zj:List Nat:=[0,1,2,3,4,5,7,33]
theorem F8d:Ac prog 11 [] (B0 true):=by
 have I:=Prog.Zp Si D2m;have R:=Prog.R5 Si D2m;have J:=F0g Si I.sm R D9z [t23] t23 C0d A8e (by rfl);rw [G4p] at J;have L:=D3r Si I.sm [t23] (by simp [sm]) [] (fun _=>[headD 1 [84] [] []]) _ _ E9b (fun x W=>by simp only [As,Dt,Du] at W;subst W;exact J) (by simp)
 rw [F2d] at L;obtain⟨U,E⟩:∃U,U=Ki::[t23].flatMap (fun _=>[headD 1 [84] [] []]):=⟨_,rfl⟩;have Z:((U.length:Nat):Int)=2:=by rw [E];rfl
 have h0:U[0]? = some Ki:=by rw [E];rfl
 have h1:U[1]? = some (headD 1 [84] [] []):=by rw [E];rfl
 rw [←E] at L;have V:=B9s s23 (A5.Ni.dum ⟨⟨by decide,by simp [s23],by simp [s23],C0d⟩,by simp [s23],by simp [s23],⟨A8e.mg,by have:=A8e.len;show t23.Dr≤_;omega⟩⟩);rw [F8i] at V;have O:=G5z Si I.sm R D9z c23 ⟨⟨C0d,by decide,by simp [c23]⟩,A8e,by simp [c23],by simp [c23,Ty.C9]⟩;rw [show Fk Si c23=none by unfold Fk;rw [show c23.on=t23 from rfl,D1m];rfl] at O;clear E;unfold Xu at O;have n0:Ki.name=[84,111,112,95,84]:=rfl;have n1:(headD 1 [84] [] []).name=[84]:=rfl;have n2:l23.type.name=[84]:=rfl;have n3:Xe.name=[84,111,112,95,84]:=rfl;have n4:((1:Nat):Int)=1:=rfl;refine cB func11 ?_;refine sR Zj ?_;refine sR Zj ?_;refine sR Zj ?_;refine sR Zj ?_;refine sC L Zj ?_;refine sC V Zj ?_;refine sC O Zj ?_;refine Ai Z Zj fun K1 u1=>?_;refine kI u1 ?_;clear u1 K1
 (refine sQ Zj fun K z=>?_;refine Gj n2 n3 ?_;refine⟨_,E2 h0,rfl,?_⟩;(try refine An n0 ?_);refine⟨_,E2 h1,rfl,?_⟩;(try refine An n1 ?_);refine⟨_,.inl ⟨_,rfl,J,rfl⟩,?_⟩;(try refine An n4 ?_);apply z;clear z K)
 exact aR
end Go.Abs
