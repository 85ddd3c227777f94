/- several texts in one -/
import Derived.Test.YtaneedhchnaniaaGreatDoorKSB
namespace Go.Abs
set_option maxRecDepth 100000
set_option maxHeartbeats 1000000
set_option linter.all false
open Go Go.Proofs Tryz
mutual
theorem Ty.F4:∀(t:Ty)(k:Int),k+1≤t.count k
 |.mk n a _,k=>by simp only [Ty.count];have:=Ty.Jr a (k+1+((n.length / 50:Nat):Int));omega
theorem Ty.Jr:∀(l:List Ty)(k:Int),k≤Ty.C4 l k
 |[],k=>by simp [Ty.C4]
 |t::E,k=>by
  simp only [Ty.C4];split
  ·have J:=Ty.F4 t k;have I:=Ty.Jr E (t.count k);omega
  ·omega
end
mutual
theorem Ty.Gv:∀(t:Ty)(k:Int),0≤k→t.count k≤2000→t.Sm
 |.mk n a p,k,I,h=>by simp only [Ty.count] at h;have O:=Ty.Jr a (k+1+((n.length / 50:Nat):Int));have E:=Ty.A6t a (k+1+((n.length / 50:Nat):Int)) (by omega) h;exact .mk n a p (by unfold sm;omega) (by unfold sm;omega) E.2
theorem Ty.A6t:∀(l:List Ty)(k:Int),0≤k→Ty.C4 l k≤2000→(k+l.length≤2000∧∀t,t∈l→t.Sm)
 |[],k,I,h=>by simp [Ty.C4] at h ⊢;omega
 |t::J,k,I,h=>by
  simp only [Ty.C4] at h;split at h
  ·have O:=Ty.F4 t k;have E:=Ty.A6t J (t.count k) (by omega) h;have L:=Ty.Gv t k I (by have:=Ty.Jr J (t.count k);omega);refine⟨by simp only [Bg];omega,?_⟩;intro u hu;simp only [As] at hu;rcases hu with rfl| hu
   ·exact L
   ·exact E.2 u hu
  ·omega
end
mutual
theorem Ex.F4:∀(t:Ex)(k:Int),k+1≤t.count k
 |.mk _ n t a ks _,k=>by simp only [Ex.count];have I:=Ty.F4 t (k+((n.length / 50:Nat):Int));have E:=Ty.Jr a (t.count (k+((n.length / 50:Nat):Int)));have L:=Ex.Jr ks (Ty.C4 a (t.count (k+((n.length / 50:Nat):Int))));omega
theorem Ex.Jr:∀(l:List Ex)(k:Int),k≤Ex.C4 l k
 |[],k=>by simp [Ex.C4]
 |t::J,k=>by
  simp only [Ex.C4];split
  ·have I:=Ex.F4 t k;have E:=Ex.Jr J (t.count k);omega
  ·omega
end
mutual
theorem Ex.Gv:∀(t:Ex)(k:Int),0≤k→t.count k≤2000→t.Sm
 |.mk U n t a ks p,k,E,h=>by simp only [Ex.count] at h;have W:=Ty.F4 t (k+((n.length / 50:Nat):Int));have I:=Ty.Jr a (t.count (k+((n.length / 50:Nat):Int)));have J:=Ex.Jr ks (Ty.C4 a (t.count (k+((n.length / 50:Nat):Int))));have R:=Ty.Gv t (k+((n.length / 50:Nat):Int)) (by omega) (by omega);have V:=Ty.A6t a (t.count (k+((n.length / 50:Nat):Int))) (by omega) (by omega);have O:=Ex.A6t ks (Ty.C4 a (t.count (k+((n.length / 50:Nat):Int)))) (by omega) h;exact .mk U n t a ks p (by unfold sm;omega) R (by unfold sm;omega) V.2 (by unfold sm;omega) O.2
theorem Ex.A6t:∀(l:List Ex)(k:Int),0≤k→Ex.C4 l k≤2000→(k+l.length≤2000∧∀t,t∈l→t.Sm)
 |[],k,E,h=>by simp [Ex.C4] at h ⊢;omega
 |t::L,k,E,h=>by
  simp only [Ex.C4] at h;split at h
  ·have W:=Ex.F4 t k;have I:=Ex.A6t L (t.count k) (by omega) h;have J:=Ex.Gv t k E (by have:=Ex.Jr L (t.count k);omega);refine⟨by simp only [Bg];omega,?_⟩;intro u hu;simp only [As] at hu;rcases hu with rfl| hu
   ·exact J
   ·exact I.2 u hu
  ·omega
end
abbrev N3 {α:Type} (F:List α→Int→Int)(Sm:α→Prop):Prop:=∀(l:List α)(k:Int),(k≤F l k)∧(0≤k→F l k≤2000→k+l.length≤2000∧∀t,t∈l→Sm t)
theorem Ly {α:Type} (F:List α→Int→Int)(g:α→Int→Int)(Sm:α→Prop)(J:∀k,F [] k=k)(L:∀x xs k,F (x::xs) k=if k≤2000 then F xs (g x k) else k)
  (E:∀x k,k+1≤g x k) (I:∀x k,0≤k→g x k≤2000→Sm x):∀(l:List α) (k:Int),(k≤F l k)∧(0≤k→F l k≤2000→k+l.length≤2000∧∀t,t∈l→Sm t)
 |[],k=>by rw [J];exact⟨Int.le_refl _,fun J h=>⟨by simp;omega,by simp⟩⟩
 |t::O,k=>by
  rw [L];obtain⟨i1,W⟩:=Ly F g Sm J L E I O (g t k);have Z:=E t k;split
  ·refine⟨by omega,fun U h=>?_⟩;obtain⟨j1,V⟩:=W (by omega) h;have R:=I t k U (by omega);refine⟨by simp only [Bg];omega,?_⟩;intro u hu;simp only [As] at hu;rcases hu with rfl| hu
   ·exact R
   ·exact V u hu
  ·exact⟨Int.le_refl _,fun _ h=>by omega⟩
theorem B1r:N3 C7 Ak.Sm:=Ly C7 (fun f n=>f.bound.count (n+1+((f.name.length / 50:Nat):Int))) Ak.Sm (fun _=>rfl) (fun _ _ _=>rfl)
 (fun x k=>by have:=Ty.F4 x.bound (k+1+((x.name.length / 50:Nat):Int));omega)
 (fun x k E h=>by have:=Ty.F4 x.bound (k+1+((x.name.length / 50:Nat):Int));exact⟨by unfold sm;omega,Ty.Gv _ _ (by omega) h⟩)
theorem B1o:N3 D5 Param.Sm:=Ly D5 (fun f n=>f.type.count (n+1+((f.name.length / 50:Nat):Int))) Param.Sm (fun _=>rfl) (fun _ _ _=>rfl)
 (fun x k=>by have:=Ty.F4 x.type (k+1+((x.name.length / 50:Nat):Int));omega)
 (fun x k E h=>by have:=Ty.F4 x.type (k+1+((x.name.length / 50:Nat):Int));exact⟨by unfold sm;omega,Ty.Gv _ _ (by omega) h⟩)
theorem A2t:N3 Ii (fun v=>v.length≤sm):=Ly Ii (fun v n=>n+1+((v.length / 50:Nat):Int)) (fun v=>v.length≤sm) (fun _=>rfl) (fun _ _ _=>rfl) (fun x k=>by omega) (fun x k E h=>by unfold sm;omega)
theorem A5.Gv (s:A5)(n:Int):n+1≤s.count n∧(0≤n→s.count n≤2000→s.Sm):=by unfold A5.count;obtain⟨V,E⟩:=B1r s.A1 (n+((s.name.length / 50:Nat):Int));obtain⟨O,I⟩:=B1o s.params (C7 s.A1 (n+((s.name.length / 50:Nat):Int)));have Z:=Ty.F4 s.result (D5 s.params (C7 s.A1 (n+((s.name.length / 50:Nat):Int))));refine⟨by omega,fun U h=>?_⟩;obtain⟨W,J⟩:=E (by omega) (by omega);obtain⟨R,L⟩:=I (by omega) (by omega);exact⟨by unfold sm;omega,⟨by unfold sm;omega,J⟩,⟨by unfold sm;omega,L⟩,Ty.Gv _ _ (by omega) h⟩
theorem B9z:N3 Eh A5.Sm:=Ly Eh A5.count A5.Sm (fun _=>rfl) (fun _ _ _=>rfl) (fun x k=>(A5.Gv x k).1) (fun x k=>(A5.Gv x k).2)
theorem Decl.Gv (d:Decl)(n:Int):n+1≤d.count n∧(0≤n→d.count n≤2000→d.Sm):=by
 unfold Decl.count;generalize Z:n+1+((d.name.length / 50:Nat):Int)+((d.recv.length / 50:Nat):Int)=m;obtain⟨a1,V⟩:=B1r d.A1 m;obtain⟨b1,I⟩:=B1o d.fields (C7 d.A1 m);obtain⟨c1,E⟩:=B9z d.sigs (D5 d.fields (C7 d.A1 m));obtain⟨e1,J⟩:=A2t d.vars (Eh d.sigs (D5 d.fields (C7 d.A1 m)));generalize hz:Ii d.vars (Eh d.sigs (D5 d.fields (C7 d.A1 m)))=z at *;unfold Decl.Ry;obtain⟨f1,f2⟩:=A5.Gv d.sig z;have g1:=Ex.F4 d.body (d.sig.count z);refine⟨by split <;> omega,fun h0 h=>?_⟩;split at h
 ·obtain⟨a3,U⟩:=V (by omega) (by omega);obtain⟨W,R⟩:=I (by omega) (by omega);obtain⟨c3,L⟩:=E (by omega) (by omega);obtain⟨e3,O⟩:=J (by omega) (by omega);exact⟨by unfold sm;omega,⟨by unfold sm;omega,U⟩,⟨by unfold sm;omega,R⟩,⟨by unfold sm;omega,L⟩,by unfold sm;omega,⟨by unfold sm;omega,O⟩,f2 (by omega) (by omega),Ex.Gv _ _ (by omega) h⟩
 ·omega
theorem C3k:N3 Ik Decl.Sm:=Ly Ik Decl.count Decl.Sm (fun _=>rfl) (fun _ _ _=>rfl) (fun x k=>(Decl.Gv x k).1) (fun x k=>(Decl.Gv x k).2)
theorem Prog.Gv (p:Prog)(h:p.count≤600):p.Sm∧p.decls.length≤2000:=by unfold Prog.count at h;have O:=Ex.F4 p.main 0;obtain⟨J,E⟩:=C3k p.decls (p.main.count 0);obtain⟨L,I⟩:=E (by omega) (by omega);exact⟨⟨⟨by unfold sm;omega,I⟩,Ex.Gv p.main 0 (by omega) (by omega)⟩,by omega⟩
def Gw (a b:A3):D:=.agg [.str a,.str b]
def isStr (P:Program)(t:TypeId):Bool:=match P.underlying t with| some .string=>true| _=>false
def C2u (P:Program)(E:TypeId):Bool:=match P.underlying E with
 |some (.struct fs)=>match fs.toList with
  |[f1,f2]=>f1.offset == 0 && f2.offset == 1 && isStr P f1.type && isStr P f2.type && P.cellsOf f1.type == 1 && P.cellsOf f2.type == 1 && P.cellsOf E == 2 && fs.all (·.name != "_") && Nat.ble 1 P.types.size
  |_=>false
 |_=>false
theorem D5a {P:Program} {t:TypeId} (h:isStr P t=true):P.underlying t=some .string:=by unfold isStr at h;split at h <;> simp_all
theorem B2p {P:Program} {J:TypeId} (h:C2u P J=true)(a b:A3)(O:a.length≤lim)(hb:b.length≤lim):Fq P J (Gw a b):=by
 unfold C2u at h;split at h
 ·rename_i fs I;split at h
  ·rename_i f1 f2 E;simp only [B1,Ug,Nat.ble_eq] at h;obtain⟨⟨⟨⟨⟨⟨⟨⟨V,o2⟩,u1⟩,u2⟩,c1⟩,Z⟩,L⟩,W⟩,a0⟩:=h;obtain⟨d,hd⟩:∃d,P.types.size+1=d+2:=⟨P.types.size - 1,by omega⟩;refine⟨rfl,?_,?_⟩
   ·simp [Gw,D.kv,Value.formed,I,L]
   ·rw [hd];have R:∀s:A3,s.length≤lim→P.keyLits (d+1) f1.type [.string ⟨s.toArray⟩]=some [.string s]:=fun s hs=>by
     simp [Program.keyLits,D5a u1,ByteArray.size];unfold lim at hs;unfold maxLen;omega
    have U:∀s:A3,s.length≤lim→P.keyLits (d+1) f2.type [.string ⟨s.toArray⟩]=some [.string s]:=fun s hs=>by simp [Program.keyLits,D5a u2,ByteArray.size];unfold lim at hs;unfold maxLen;omega
    unfold Program.keyLits;rw [I];simp only [Gw,D.kv,Value.cells,Cz,Hr,D.lit,Lit.value,Bg,Ch,L,W,and_self,Af,E,Av8,List.mapM_nil,V,o2,c1,Z,
     Y7,Am7,Wk,Ar9,R a O,U b hb]
    rfl
  ·simp at h
 ·simp at h
theorem B1p:C2u prog 157=true:=by kernel_rfl
def M5 (d:Decl):Option D:=if d.kind=1∨d.kind=2 then some (Gw d.name []) else if d.kind=3 then some (Gw d.name (46::d.sig.name)) else none
def W9 (m:List (D × D))(i:Nat)(d:Decl):List (D × D):=match M5 d with
 |none=>m
 |some k=>if (G1 k.lits m 0).isSome=true then m else Y6 k (.int .i64 i) m
def Z5:List Decl→Nat→List (D × D)→List (D × D)
 |[],_,m=>m
 |d::ds,i,m=>Z5 ds (i+1) (W9 m i d)
def Qm (p:Prog):List (D × D):=Z5 p.decls 0 []
def Fu (p:Prog):List D:=Aj p++[.map (Qm p)]
theorem E2o {P:Program} {E:TypeId} {m:List (D × D)} {k v:D} (h:∀kv,kv∈m→Fq P E kv.1)(I:Fq P E k):∀kv,kv∈Y6 k v m→Fq P E kv.1:=by
 intro kv hkv;unfold Y6 at hkv;split at hkv
 ·rcases Ar8 hkv with hkv| rfl
  ·exact h kv hkv
  ·exact I
 ·rcases Bw.1 hkv with hkv| hkv
  ·exact h kv hkv
  ·simp only [As,Dt,Du] at hkv;subst hkv;exact I
abbrev Kg:List Nat:=[0,1,2,3,4,5,6,8,11,13,18,19,20,21,29,30,33,50]
theorem A9d (p:Prog)(h:p.Sm):Ac prog 55 [Cv p] (.Ag (Fu p) 0):=by
 refine cB func55 ?_;refine sR Kg ?_;refine sC (E0k p h) Kg ?_;have a9:=h.decls.1;refine sK fun K1 a4=>?_;have a7:∀sl bx,sle sl [(3,.box 13 0)]→ble bx [(13,.cells ((Aj p).map .d++[.mp 11])),(11,.map (Qm p))]→K1 sl bx:=by intro sl bx h1 h2;refine a4 _ _ (A0.ww h1 h2 ?_);clear a4 K1;refine A0.E7y 11 rfl ?_;refine A0.ww (sl':=[(3,.box 13 0)]) (bx':=[(13,.cells ((Fu p).map .d))]) (by simp [Ky,SV.sub,sle,Aw,Ae]) (by simp [Jg,Ar.sub,SV.Kq,SV.sub,ble,A7,C3,Fu,Aj]) ?_;refine A0.zz 13 rfl rfl ?_;refine A0.ww (sl':=[(3,.Ag (Fu p) 0)]) (bx':=[]) (by simp [Ky,SV.sub,sle,Aw,Ae];rfl) trivial ?_;refine sR Kg ?_;exact aR
 refine sR Kg ?_;refine A0.bb (A0.loop (X:=Nat × List (D × D)) (fun x=>[(20,A9 x.1),(19,A9 p.decls.length),(18,.d (.slice (Bu p.decls))),(3,.box 13 0)])
  (fun x=>[(13,.cells ((Aj p).map .d++[.mp 11])),(11,.map x.2)])
  (fun x=>x.1≤p.decls.length∧(∀kv,kv∈x.2→Fq prog 157 kv.1)∧Z5 (p.decls.drop x.1) x.1 x.2=Qm p) (fun x=>p.decls.length - x.1) (0,[]) ?_ ?_ ?_ ?_)
 ·exact⟨by simp,by simp,rfl⟩
 ·exact sS
 ·exact (by simp [ble,A7,Aj])
 rintro⟨j,m⟩ ⟨hj,hm,R⟩;simp only at hj hm R;by_cases a5:(j:Int) < (p.decls.length:Int)
 ·have W:j < p.decls.length:=by omega
  have hy:p.decls[j]? = some p.decls[j]:=Ba W;have a2:p.decls[j]∈p.decls:=F7 W;have dp:p.decls.drop j=p.decls[j]::p.decls.drop (j+1):=Fy W;generalize p.decls[j]=y at *;rw [dp,Z5] at R;refine Ah a5 Kg ?_;refine sK fun K2 I=>?_;refine A0.tt rfl (A0.kk (I _ _ ?_));clear I K2;refine sK fun K2 I=>?_;have O:∀sl bx m',sle sl [(20,A9 j),(19,A9 p.decls.length),(18,.d (.slice (Bu p.decls))),(3,.box 13 0)]→ble bx [(13,.cells ((Aj p).map .d++[.mp 11])),(11,.map m')] →
    (∀kv,kv∈m'→Fq prog 157 kv.1)→m'=W9 m j y→K2 sl bx:=by
   rintro sl bx m' h1 h2 h3 rfl;refine I _ _ (A0.ww h1 h2 ?_);clear I K2 h1 h2
   (refine lQ Kg fun K E=>?_;refine ev ?_)
   refine⟨by unfold B7;unfold sm at *;omega,?_⟩
   (apply E;clear E K;try simp only [A4,])
   exact⟨(j+1,W9 m j y),⟨by simp only;omega,h3,R⟩,by simp only;omega,by simp [sle,Aw,Ae],(by simp [ble,A7,Aj])⟩
  clear I;refine A0.bb ?_
  (refine sQ Kg fun K E=>?_;refine ev ?_)
  refine⟨by omega,Bc y,E2 hy,rfl,?_⟩;refine ev ?_
  (apply E;clear E K)
  refine sR Kg ?_;have a8:y.name.length≤lim:=Dk (h.decls.2 y a2).name (by unfold sm lim;omega);refine sK fun K3 a3=>?_;have V:∀sl bx (Yy:A3),sle sl [(4,A9 j),(6,.box 6 0),(20,A9 j),(19,A9 p.decls.length),(18,.d (.slice (Bu p.decls))),(3,.box 13 0)] →
    ble bx [(13,.cells ((Aj p).map .d++[.mp 11])),(11,.map m),(6,.cells [.d (.str y.name),.d (.str Yy)])]→M5 y=some (Gw y.name Yy)→Yy.length≤lim→K3 sl bx:=by
   intro sl bx Yy h1 h2 a1 a6;refine a3 _ _ (A0.ww h1 h2 ?_);clear a3 K3 h1 h2;have U:=B2p B1p y.name Yy a8 a6
   (refine sG Kg [] 10 [] fun K E=>?_;refine ev ?_)
   refine⟨hm,U,?_⟩
   (apply E;clear E K)
   by_cases hs:(G1 (D.agg [D.str y.name,D.str Yy]).lits m 0).isSome=true
   ·have ht:W9 m j y=m:=by simp only [W9,a1];exact A8 hs
    rw [hs];refine sR Kg ?_;refine A0.ff rfl (A0.kk ?_);simp only [A4,Aa];exact O _ _ m sS (by simp [ble,A7,Aj]) hm ht.symm
   ·have ht:W9 m j y=Y6 (Gw y.name Yy) (.int .i64 j) m:=by simp only [W9,a1];exact A6 hs
    rw [Au1] at hs;rw [hs];refine sR Kg ?_;refine A0.tt rfl ?_
    (refine lG Kg [] 6 [] fun K E=>?_;refine ev ?_)
    refine⟨hm,U,?_⟩
    (apply E;clear E K;try simp only [A4,Aa])
    exact O _ _ _ sS (by simp [ble,A7,Aj];rfl) (E2o hm U) ht.symm
  refine sR Kg ?_;refine A0.bb ?_;refine sK fun K4 J=>?_;by_cases L:y.kind=1
  ·refine Ah L Kg ?_;refine A0.tt rfl (A0.kk (J _ _ ?_));clear J K4;refine A0.tt rfl (A0.kk ?_);simp only [A4,Aa];exact V _ _ [] sS (by simp [ble,A7,Aj]) (by simp [M5,L]) (by simp)
  ·by_cases a0:y.kind=2
   ·refine Ah L Kg ?_;refine A0.ff rfl ?_
    (refine lQ Kg fun K E=>?_;refine An a0 ?_)
    (apply E;clear E K;try simp only [A4,])
    refine J _ _ ?_;clear J K4;refine A0.tt rfl (A0.kk ?_);simp only [A4,Aa];exact V _ _ [] sS (by simp [ble,A7,Aj]) (by simp [M5,a0]) (by simp)
   ·refine Ah L Kg ?_;refine A0.ff rfl ?_
    (refine lQ Kg fun K E=>?_;refine An a0 ?_)
    (apply E;clear E K;try simp only [A4,])
    refine J _ _ ?_;clear J K4;refine A0.ff rfl ?_;by_cases Z:y.kind=3
    ·refine Ah Z Kg ?_;refine A0.tt rfl ?_;have aa:=(h.decls.2 y a2).sig.name;have a':(ByteArray.mk #[46]).size≤lim:=by decide
     (refine lQ Kg fun K E=>?_;refine ev ?_)
     refine⟨by unfold sm lim at *;first| omega| (simp;omega),?_⟩
     (apply E;clear E K;try simp only [A4,Aa])
     exact V _ _ (46::y.sig.name) sS (by simp [ble,A7,Aj]) (by simp [M5,Z]) (by simp only [Bg];unfold sm lim at *;omega)
    ·refine Ah Z Kg ?_;refine A0.ff rfl (A0.xx ?_);simp only [A4,Aa];rw [A6 (by decide)];exact O _ _ m sS (by simp [ble,A7,Aj]) hm (by simp [W9,M5,L,a0,Z])
 ·refine Ah a5 Kg ?_;refine sK fun K2 I=>?_;refine A0.ff rfl (A0.xx ?_);simp only [A4,Aa,Af];rw [Ig (by omega),Z5] at R;exact a7 _ _ sS (by rw [←R];exact (by simp [ble,A7,Aj]))
def Nj (l:List Lit)(m:List (D × D)):Option D:=(G1 l m 0).map (·.2)
theorem B9q (l:List Lit):∀(m:List (D × D))(i:Nat),(G1 l m i).map (·.2)=Nj l m
 |[],i=>rfl
 |kv::r,i=>by
  unfold Nj;simp only [G1];split
  ·rfl
  ·rw [B9q l r (i+1),B9q l r (0+1)]
theorem C1b (l:List Lit)(k v:D)(m:List (D × D)):Nj l ((k,v)::m)=if l=k.lits then some v else Nj l m:=by
 unfold Nj;simp only [G1];split
 ·rfl
 ·exact B9q l m 1
theorem E1p (l:List Lit)(k v:D):∀m:List (D × D),Nj l (m++[(k,v)])=match Nj l m with| some x=>some x| none=>if l=k.lits then some v else none
 |[]=>by rw [Wa,C1b];rfl
 |(I,E)::m=>by rw [S9,C1b,C1b,E1p l k v m];split <;> rfl
def Td (l:List Lit):List Decl→Nat→Option D
 |[],_=>none
 |d::ds,i=>match M5 d with
  |some k=>if l=k.lits then some (.int .i64 i) else Td l ds (i+1)
  |none=>Td l ds (i+1)
theorem C2z (l:List Lit):∀(ds:List Decl)(i:Nat)(m:List (D × D)),Nj l (Z5 ds i m)=match Nj l m with| some x=>some x| none=>Td l ds i
 |[],i,m=>by simp only [Z5,Td];cases Nj l m <;> rfl
 |d::ds,i,m=>by
  simp only [Z5,Td];rw [C2z l ds (i+1)];unfold W9;cases O:M5 d with
  |none=>rfl
  |some k =>
   simp only;by_cases hs:(G1 k.lits m 0).isSome=true
   ·rw [A8 hs];cases I:Nj l m with
    |some x=>rfl
    |none =>simp only;rw [A6];rintro rfl;unfold Nj at I;cases J:G1 k.lits m 0 <;> simp [J] at hs I
   ·rw [A6 hs];have L:G1 k.lits m 0=none:=by cases J:G1 k.lits m 0 <;> simp [J] at hs ⊢
    unfold Y6;rw [L];simp only;rw [E1p];cases I:Nj l m with
    |some x=>rfl
    |none =>
     simp only;by_cases E:l=k.lits
     ·rw [A8 E,A8 E]
     ·rw [A6 E,A6 E]
def A2p (p:Prog)(k:D):Option Decl:=p.decls.find? fun d=>match M5 d with| some E=>decide (k.lits=E.lits)| none=>false
theorem D3u (l:List Lit):∀(ds:List Decl)(i:Nat),(Td l ds i=none∧(ds.find? fun d=>match M5 d with| some I=>decide (l=I.lits)| none=>false)=none) ∨
  ∃j d,ds[j]? = some d∧Td l ds i=some (.int .i64 ((i+j:Nat):Int))∧(ds.find? fun d=>match M5 d with| some I=>decide (l=I.lits)| none=>false)=some d
 |[],i=>.inl ⟨rfl,rfl⟩
 |d::ds,i=>by
  simp only [Td,Av3];have U:=D3u l ds (i+1);cases V:M5 d with
  |none =>
   simp only;rcases U with h| ⟨j,L,O,E,J⟩
   ·exact .inl h
   ·exact .inr ⟨j+1,L,by simpa using O,by rw [E];congr 3;omega,J⟩
  |some k =>
   simp only;by_cases R:l=k.lits
   ·simp only [R,Af,Tq];exact .inr ⟨0,d,rfl,by simp,rfl⟩
   ·simp only [R,Et,Aq6];rcases U with h| ⟨j,L,O,E,J⟩
    ·exact .inl h
    ·exact .inr ⟨j+1,L,by simpa using O,by rw [E];congr 3;omega,J⟩
instance:Inhabited Prog:=⟨⟨[],default⟩⟩
theorem D7a (p:Prog)(h:p.Sm):∀kv,kv∈Qm p→Fq prog 157 kv.1:=by
 have go:∀(ds:List Decl) (i:Nat) (m:List (D × D)),(∀d,d∈ds→d.Sm)→(∀kv,kv∈m→Fq prog 157 kv.1)→∀kv,kv∈Z5 ds i m→Fq prog 157 kv.1:=by
  intro ds
  induction ds with
  |nil=>intro i m _ h;exact h
  |cons d ds O =>
   intro i m hd J;refine O (i+1) _ (fun x L=>hd x (by simp [L])) ?_;have I:=hd d (by simp);unfold W9;cases E:M5 d with
   |none=>exact J
   |some k =>
    simp only;split
    ·exact J
    ·refine E2o J ?_;unfold M5 at E;have U:=I.name;have R:=I.sig.name;split at E
     ·simp only [Av] at E;subst E;exact B2p B1p _ _ (by unfold sm lim at *;omega) (by simp)
     ·split at E
      ·simp only [Av] at E;subst E;exact B2p B1p _ _ (by unfold sm lim at *;omega) (by simp only [Bg];unfold sm lim at *;omega)
      ·simp at E
 exact go p.decls 0 [] h.decls.2 (by simp)
abbrev q2y:List Nat:=[0,1,3,4,5,6,7,9,21]
theorem D6g (p:Prog)(h:p.Sm)(a b:A3):Ac prog 254 [.Ag (Fu p) 0,.agg [.d (.str a),.d (.str b)]]
  (.tuple [Iy ((A2p p (Gw a b)).getD default),B0 (A2p p (Gw a b)).isSome]):=by
 refine Cd.bd (Enters.of func254 rfl (by decide)) fun U=>?_;have J:=U.2.1;simp only [SV.bd,SV.Sy] at J;have hk:=B2p B1p a b (U0 J.1) (U0 J.2.1);have E:Nj (Gw a b).lits (Qm p)=Td (Gw a b).lits p.decls 0:=by unfold Qm;rw [C2z];rfl
 unfold Nj at E;refine cB func254 ?_;refine sR q2y ?_;refine kR q2y fun V I=>?_;refine A0.ff rfl (A0.kk (I _ _ ?_));clear I V
 (refine sG q2y [] 10 [] fun K L=>?_;simp -implicitDefEqProofs only [EV,Nat.reduceAdd,Nat.reduceEqDiff,reduceCtorEq,C3d,B4y,B9o,Fu])
 refine⟨D7a p h,hk,?_⟩
 (apply L;clear L K)
 refine sK fun V I=>?_;rcases D3u (Gw a b).lits p.decls 0 with ⟨W,O⟩| ⟨j,d,W,O,h3⟩
 ·rw [W] at E;have hn:G1 (D.agg [D.str a,D.str b]).lits (Qm p) 0=none:=by simpa [Gw] using E
  have R:A2p p (Gw a b)=none:=O;rw [hn];refine sR q2y ?_;refine A0.tt rfl ?_;refine sR q2y ?_;rw [R];exact aR
 ·rw [O] at E;obtain⟨q,Z⟩:∃q,G1 (D.agg [D.str a,D.str b]).lits (Qm p) 0=some (q,.int .i64 ((0+j:Nat):Int)):=by
   cases hf:G1 (D.agg [D.str a,D.str b]).lits (Qm p) 0 with
   |none=>rw [show (Gw a b).lits=(D.agg [D.str a,D.str b]).lits from rfl,hf] at E;simp at E
   |some qd =>rw [show (Gw a b).lits=(D.agg [D.str a,D.str b]).lits from rfl,hf] at E;obtain⟨q,d'⟩:=qd;simp only [E8,Av] at E;exact⟨q,by rw [E]⟩
  have hl:Tw (D.agg [D.str a,D.str b]) (Qm p) (SV.d (D.int IntKind.i64 0))=A9 j:=by simp only [Tw,Z,ofD,I2]
  have R:A2p p (Gw a b)=some d:=h3;rw [hl,Z];refine sR q2y ?_;refine A0.ff rfl (A0.kk (I _ _ ?_));clear I V
  (refine sQ q2y fun K L=>?_;refine ev ?_)
  refine⟨by omega,Bc d,E2 W,rfl,?_⟩;refine ev ?_
  (apply L;clear L K)
  rw [R];exact aR
theorem F6a (p:Prog)(E:A3):A2p p (Gw E [])=p.decls.find? (fun d=>d.Iu E):=by
 unfold A2p
 congr 1
 funext d;unfold M5 Decl.Iu;by_cases h1:d.kind=1∨d.kind=2
 ·rw [A8 h1];rcases h1 with h1| h1 <;> simp [h1,Gw,D.lits,D.lit,eq_comm]
 ·rw [A6 h1];have I:¬d.kind=1:=fun h=>h1 (.inl h);have L:¬d.kind=2:=fun h=>h1 (.inr h);by_cases J:d.kind=3 <;> simp [I,L,J,Gw,D.lits,D.lit]
mutual
def Ty.names:Ty→List A3
 |.mk n a _=>n::Ty.J2 a
def Ty.J2:List Ty→List A3
 |[]=>[]
 |t::E=>t.names++Ty.J2 E
end
theorem Ty.A8o (t:Ty):t.names=t.name::Ty.J2 t.args:=by cases t;rfl
theorem Ty.C1u:∀(a b:List Ty),Ty.J2 (a++b)=Ty.J2 a++Ty.J2 b
 |[],b=>rfl
 |t::E,b=>by simp only [S9,Ty.J2,Ty.C1u E b,Pg]
mutual
theorem Ty.D2a:∀(t:Ty)(k:Int),t.count k≤2000→k+t.names.length≤t.count k
 |.mk n a p,k,h=>by simp only [Ty.count] at h ⊢;have:=Ty.C7a a _ h;simp only [Ty.names,Bg];omega
theorem Ty.C7a:∀(l:List Ty)(k:Int),Ty.C4 l k≤2000→k+(Ty.J2 l).length≤Ty.C4 l k
 |[],k,_=>by simp [Ty.C4,Ty.J2]
 |t::I,k,h=>by
  simp only [Ty.C4] at h ⊢;split at h
  ·rename_i E;rw [A8 E];have L:=Ty.C7a I _ h;have J:=Ty.D2a t k (by omega);simp only [Ty.J2,B3];omega
  ·omega
end
def Ty.Nn (t:Ty):Prop:=t.names.length≤2000
theorem Ty.Np {t:Ty} {k:Int} (E:0≤k)(h:t.count k≤2000):t.Nn:=by have:=Ty.D2a t k h;unfold Ty.Nn;omega
theorem Ty.A9f:∀{l:List Ty} {k:Int},0≤k→Ty.C4 l k≤2000→∀t,t∈l→t.Nn
 |[],_,_,_=>by simp
 |x::l,k,E,h=>by
  simp only [Ty.C4] at h;split at h
  ·have J:=Ty.F4 x k;have I:=Ty.Jr l (x.count k);intro t ht;simp only [As] at ht;rcases ht with rfl| ht
   ·exact Ty.Np E (by omega)
   ·exact Ty.A9f (by omega) h t ht
  ·omega
inductive Ex.Nn:Ex→Prop where
 |mk (k:Int) (n:A3) (t:Ty) (a:List Ty) (ks:List Ex) (p:Int):t.Nn→(∀t,t∈a→t.Nn)→(∀e,e∈ks→Ex.Nn e)→Ex.Nn (.mk k n t a ks p)
theorem Ex.Nn.type {e:Ex} (h:e.Nn):e.type.Nn:=by cases h;assumption
theorem Ex.Nn.targs {e:Ex} (h:e.Nn):∀t,t∈e.targs→t.Nn:=by cases h;assumption
theorem Ex.Nn.kids {e:Ex} (h:e.Nn):∀t,t∈e.kids→t.Nn:=by cases h;assumption
mutual
theorem Ex.Np:∀(t:Ex)(k:Int),0≤k→t.count k≤2000→t.Nn
 |.mk O n t a ks p,k,E,h=>by simp only [Ex.count] at h;have R:=Ty.F4 t (k+((n.length / 50:Nat):Int));have I:=Ty.Jr a (t.count (k+((n.length / 50:Nat):Int)));have J:=Ex.Jr ks (Ty.C4 a (t.count (k+((n.length / 50:Nat):Int))));exact .mk O n t a ks p (Ty.Np (k:=k+((n.length / 50:Nat):Int)) (by omega) (by omega)) (Ty.A9f (k:=t.count (k+((n.length / 50:Nat):Int))) (by omega) (by omega)) (Ex.A9f ks _ (by omega) h)
theorem Ex.A9f:∀(l:List Ex)(k:Int),0≤k→Ex.C4 l k≤2000→∀t,t∈l→t.Nn
 |[],k,E,h=>by simp
 |t::L,k,E,h=>by
  simp only [Ex.C4] at h;split at h
  ·have R:=Ex.F4 t k;have U:=Ex.Jr L (t.count k);have I:=Ex.A9f L (t.count k) (by omega) h;have J:=Ex.Np t k E (by omega);intro u hu;simp only [As] at hu;rcases hu with rfl| hu
   ·exact J
   ·exact I u hu
  ·omega
end
structure A5.Nn (s:A5):Prop where
 B6t:s.A1.length≤2000
 A1:∀f,f∈s.A1→f.bound.Nn
 params:∀f,f∈s.params→f.type.Nn
 result:s.result.Nn
structure Decl.Nn (d:Decl):Prop where
 B6t:d.A1.length≤2000
 E8e:d.vars.length≤2000
 A1:∀f,f∈d.A1→f.bound.Nn
 fields:∀f,f∈d.fields→f.type.Nn
 sigs:∀s,s∈d.sigs→s.Nn
 sig:d.sig.Nn
 body:d.body.Nn
structure Prog.Nn (p:Prog):Prop where
 decls:∀d,d∈p.decls→d.Nn
 main:p.main.Nn
theorem A4v:N3 C7 (fun f=>f.bound.Nn):=Ly C7 (fun f n=>f.bound.count (n+1+((f.name.length / 50:Nat):Int))) (fun f=>f.bound.Nn) (fun _=>rfl) (fun _ _ _=>rfl)
 (fun x k=>by have:=Ty.F4 x.bound (k+1+((x.name.length / 50:Nat):Int));omega)
 (fun x k E h=>Ty.Np (by omega) h)
theorem A4q:N3 D5 (fun f=>f.type.Nn):=Ly D5 (fun f n=>f.type.count (n+1+((f.name.length / 50:Nat):Int))) (fun f=>f.type.Nn) (fun _=>rfl) (fun _ _ _=>rfl)
 (fun x k=>by have:=Ty.F4 x.type (k+1+((x.name.length / 50:Nat):Int));omega)
 (fun x k E h=>Ty.Np (by omega) h)
theorem A5.Np (s:A5)(n:Int)(L:0≤n)(h:s.count n≤2000):s.Nn:=by unfold A5.count at h;obtain⟨O,E⟩:=A4v s.A1 (n+((s.name.length / 50:Nat):Int));obtain⟨J,I⟩:=A4q s.params (C7 s.A1 (n+((s.name.length / 50:Nat):Int)));have U:=Ty.F4 s.result (D5 s.params (C7 s.A1 (n+((s.name.length / 50:Nat):Int))));have R:=(E (by omega) (by omega)).1;exact⟨by omega,(E (by omega) (by omega)).2,(I (by omega) (by omega)).2,Ty.Np (by omega) h⟩
theorem D8i:N3 Eh A5.Nn:=Ly Eh A5.count A5.Nn (fun _=>rfl) (fun _ _ _=>rfl) (fun x k=>(A5.Gv x k).1) (fun x k E h=>A5.Np x k E h)
theorem Decl.Np (d:Decl)(n:Int)(V:0≤n)(h:d.count n≤2000):d.Nn:=by
 unfold Decl.count at h;generalize W:n+1+((d.name.length / 50:Nat):Int)+((d.recv.length / 50:Nat):Int)=m at h;obtain⟨Z,E⟩:=A4v d.A1 m;obtain⟨R,L⟩:=A4q d.fields (C7 d.A1 m);obtain⟨c1,J⟩:=D8i d.sigs (D5 d.fields (C7 d.A1 m));obtain⟨U,I⟩:=A2t d.vars (Eh d.sigs (D5 d.fields (C7 d.A1 m)));generalize hz:Ii d.vars (Eh d.sigs (D5 d.fields (C7 d.A1 m)))=z at *;unfold Decl.Ry at h;obtain⟨f1,_⟩:=A5.Gv d.sig z;have g1:=Ex.F4 d.body (d.sig.count z);split at h
 ·have a3:=(E (by omega) (by omega)).1;have O:=(I (by omega) (by omega)).1;exact⟨by omega,by omega,(E (by omega) (by omega)).2,(L (by omega) (by omega)).2,(J (by omega) (by omega)).2,A5.Np d.sig z (by omega) (by omega),Ex.Np d.body (d.sig.count z) (by omega) h⟩
 ·omega
theorem E4j:N3 Ik Decl.Nn:=Ly Ik Decl.count Decl.Nn (fun _=>rfl) (fun _ _ _=>rfl) (fun x k=>(Decl.Gv x k).1) (fun x k E h=>Decl.Np x k E h)
theorem Prog.Np (p:Prog)(h:p.count≤600):p.Nn:=by unfold Prog.count at h;have J:=Ex.F4 p.main 0;obtain⟨I,E⟩:=E4j p.decls (p.main.count 0);exact⟨(E (by omega) (by omega)).2,Ex.Np p.main 0 (by omega) (by omega)⟩
def letter (n:Int):Prop:=(97≤n∧n≤122)∨(65≤n∧n≤90)
instance (n:Int):Decidable (letter n):=by unfold letter;infer_instance
def blank (n:Int):Prop:=n=9∨n=10∨n=13∨n=32
instance (n:Int):Decidable (blank n):=by unfold blank;infer_instance
def cls (n:Int):Int:=if letter n then 1 else if 48≤n∧n≤57 then 2 else if n=95 then 3 else if blank n then 4 else 0
abbrev Ir:List Nat:=[0,2,16,22,24,38]
theorem D0v (n:Int):Ac prog 171 [.d (.int .u8 n)] (A9 (cls n)):=by
 refine cB func171 ?_;refine sR Ir ?_;refine sK fun R E=>?_;have Z:∀sl bx,sle sl [(0,.d (.int .u8 n))]→¬letter n→R sl bx:=by
  intro sl bx V n1;refine E _ _ (A0.ww (bx':=[]) V trivial ?_);clear E R;refine sK fun R E=>?_;have r2:∀sl bx,sle sl [(0,.d (.int .u8 n))]→¬(48≤n∧n≤57)→R sl bx:=by
   intro sl bx V n2;refine E _ _ (A0.ww (bx':=[]) V trivial ?_);clear E R;refine sK fun R E=>?_;by_cases W:n=95
   ·have U:cls n=3:=by unfold cls;rw [A6 n1,A6 n2,A8 W]
    rw [U];refine Ah W Ir ?_;refine tI ?_;refine sR Ir ?_;exact aR
   refine Ah W Ir ?_;refine A0.ff rfl (A0.kk (E _ _ ?_));clear E R;have hb:cls n=if blank n then 4 else 0:=by unfold cls;rw [A6 n1,A6 n2,A6 W]
   rw [hb];refine sK fun R E=>?_;by_cases I:n=9
   ·rw [A8 (show blank n from .inl I)];refine Ah I Ir ?_;refine tI ?_;refine sR Ir ?_;exact aR
   by_cases J:n=10
   ·rw [A8 (show blank n from .inr (.inl J))];refine Ah J Ir ?_;refine tI ?_;refine sR Ir ?_;exact aR
   by_cases L:n=13
   ·rw [A8 (show blank n from .inr (.inr (.inl L)))];refine Ah L Ir ?_;refine tI ?_;refine sR Ir ?_;exact aR
   by_cases O:n=32
   ·rw [A8 (show blank n from .inr (.inr (.inr O)))];refine Ah O Ir ?_;refine tI ?_;refine sR Ir ?_;exact aR
   rw [A6 (show ¬blank n from fun h=>by unfold blank at h;omega)] at E ⊢;refine sR4 I J L O Ir ?_;refine kI E ?_;refine sR Ir ?_;exact aR
  by_cases I:48≤n
  ·by_cases J:n≤57
   ·have U:cls n=2:=by unfold cls;rw [A6 n1,A8 ⟨I,J⟩]
    rw [U];refine En I J Ir ?_;refine tI ?_;refine sR Ir ?_;exact aR
   ·refine En I J Ir ?_;exact A0.ff rfl (A0.kk (r2 _ _ sS (fun h=>J h.2)))
  ·refine Ah I Ir ?_;exact A0.ff rfl (A0.kk (r2 _ _ sS (fun h=>I h.1)))
 by_cases I:97≤n
 ·by_cases J:n≤122
  ·have U:cls n=1:=by unfold cls;rw [A8 (show letter n from .inl ⟨I,J⟩)]
   rw [U];refine En I J Ir ?_;refine tI ?_;refine sR Ir ?_;exact aR
  ·have L:65≤n:=by omega
   have O:¬n≤90:=by omega
   refine sR4 I J L O Ir ?_;exact A0.ff rfl (A0.kk (Z _ _ sS (fun h=>by unfold letter at h;omega)))
 ·by_cases L:65≤n
  ·by_cases O:n≤90
   ·have U:cls n=1:=by unfold cls;rw [A8 (show letter n from .inr ⟨L,O⟩)]
    rw [U];refine sR3 I L O Ir ?_;refine tI ?_;refine sR Ir ?_;exact aR
   ·refine sR3 I L O Ir ?_;exact A0.ff rfl (A0.kk (Z _ _ sS (fun h=>by unfold letter at h;omega)))
  ·refine En I L Ir ?_;exact A0.ff rfl (A0.kk (Z _ _ sS (fun h=>by unfold letter at h;omega)))
def A7x (s:A3):Bool:=decide (s=[112,97,99,107,97,103,101]∨s=[109,97,105,110]∨s=[116,121,112,101]∨s=[115,116,114,117,99,116]∨s=[105,110,116,101,114,102,97,99,101]∨s=[102,117,110,99]∨s=[114,101,116,117,114,110])
abbrev Su:List Nat:=[0,2,16]
theorem G3w (s:A3):Ac prog 172 [C8 s] (B0 (A7x s)):=by
 unfold A7x;refine cB func172 ?_;refine sR Su ?_;refine sK fun K1 I=>?_;by_cases V:s=[112,97,99,107,97,103,101]
 ·have E:decide (s=[112,97,99,107,97,103,101])=true:=Bn V;rw [Bn (.inl V)];refine Ah E Su ?_;refine tI ?_;refine sR Su ?_;exact aR
 have E:decide (s=[112,97,99,107,97,103,101])=false:=Ci V;by_cases U:s=[109,97,105,110]
 ·have J:decide (s=[109,97,105,110])=true:=Bn U;rw [Bn (.inr (.inl U))];refine En E J Su ?_;refine tI ?_;refine sR Su ?_;exact aR
 have J:decide (s=[109,97,105,110])=false:=Ci U;by_cases W:s=[116,121,112,101]
 ·have L:decide (s=[116,121,112,101])=true:=Bn W;rw [Bn (.inr (.inr (.inl W)))];refine sR3 E J L Su ?_;refine tI ?_;refine sR Su ?_;exact aR
 have L:decide (s=[116,121,112,101])=false:=Ci W;by_cases a4:s=[115,116,114,117,99,116]
 ·have b4:decide (s=[115,116,114,117,99,116])=true:=Bn a4;rw [Bn (.inr (.inr (.inr (.inl a4))))];refine sR4 E J L b4 Su ?_;refine tI ?_;refine sR Su ?_;exact aR
 have b4:decide (s=[115,116,114,117,99,116])=false:=Ci a4;refine sR4 E J L b4 Su ?_;refine kI I ?_;clear I K1;by_cases O:s=[105,110,116,101,114,102,97,99,101]
 ·have Z:decide (s=[105,110,116,101,114,102,97,99,101])=true:=Bn O;rw [Bn (.inr (.inr (.inr (.inr (.inl O)))))];refine Ah Z Su ?_;exact aR
 have Z:decide (s=[105,110,116,101,114,102,97,99,101])=false:=Ci O;by_cases R:s=[102,117,110,99]
 ·have b6:decide (s=[102,117,110,99])=true:=Bn R;rw [Bn (.inr (.inr (.inr (.inr (.inr (.inl R))))))];refine En Z b6 Su ?_;exact aR
 have b6:decide (s=[102,117,110,99])=false:=Ci R;have e:decide (s=[112,97,99,107,97,103,101]∨s=[109,97,105,110]∨s=[116,121,112,101]∨s=[115,116,114,117,99,116]∨s=[105,110,116,101,114,102,97,99,101]∨s=[102,117,110,99]∨s=[114,101,116,117,114,110])=decide (s=[114,101,116,117,114,110]):=by simp [V,U,W,a4,O,R]
 rw [e];refine En Z b6 Su ?_;exact aR
def I0 (c:UInt8):Bool:=!(decide (cls c.toNat=0) ||decide (cls c.toNat=4))
def isName (s:A3):Bool:=match s with
 |[]=>false
 |c::_=>decide (cls c.toNat=1) && s.all I0 && !A7x s
abbrev N5:List Nat:=[0,2,3,4,13,17,29]
theorem Xz (s:A3):Ac prog 89 [C8 s] (B0 (isName s)):=by
 have a1:=G3w s;refine Cd.bd (Enters.of func89 rfl (by decide)) fun U=>?_;have a6:s.length≤lim:=by have:=U.1;simp only [SV.bd] at this;cases this;assumption
 clear U;refine cB func89 ?_;refine sR N5 ?_;cases s with
 |nil =>refine sK fun K1 E=>?_;have a2:((0:Nat):Int)=0:=rfl;refine Ah a2 N5 ?_;refine tI ?_;refine sR N5 ?_;exact aR
 |cons c cs =>
  have J:¬(((c::cs).length:Int)=0):=by simp only [Bg];omega
  have h0:(c::cs)[0]? = some c:=rfl;have hn:isName (c::cs)=(decide (cls c.toNat=1) && (c::cs).all I0 && !A7x (c::cs)):=rfl;rw [hn];clear hn;have R:=D0v c.toNat;generalize c::cs=s at *;refine sK fun K1 E=>?_;by_cases O:cls c.toNat=1
  ·(refine sQ N5 fun K z=>?_;refine An J ?_;refine⟨c,h0,?_⟩;(try refine Gj J O ?_);refine⟨_,.inl ⟨_,rfl,R,rfl⟩,?_⟩;(try refine An O ?_);apply z;clear z K)
   refine kI E ?_;clear E K1;rw [Bn O,Ca];refine kR N5 fun K1 E=>?_;refine A0.bb (A0.ii s (X:=Unit) (fun j _=>[(0,C8 s),(3,A9 j)]) (fun _ _=>[])
    (fun j _=>(s.drop j).all I0=s.all I0) () rfl sS sB ?_ ?_)
   ·intro _ L;rw [D6,Xv] at L;rw [←L,Ca] at E ⊢;refine Ai B4 N5 fun Z I=>?_;refine A0.ss rfl ?_;simp only [A4,Aa,Af];refine E _ _ ?_;refine sC a1 N5 ?_;exact aR
   ·intro j _ d hd a5 dp tk a3 L;rw [dp,Na] at L;refine Ai a3 N5 fun Z I=>?_;refine gI I ?_;clear I Z;refine sK fun Z I=>?_;refine A0.bb ?_
    (refine sV N5 fun K z=>?_;refine⟨by omega,d,hd,?_⟩;(try refine ev ?_);refine cc (D0v d.toNat) ?_;apply z;clear z K)
    by_cases W:cls d.toNat=0
    ·rw [←L];rw [show I0 d=false by simp [I0,W],Bv,Bv];refine Ah W N5 ?_;refine A0.tt rfl ?_;refine sR N5 ?_;exact aR
    by_cases V:cls d.toNat=4
    ·rw [←L];rw [show I0 d=false by simp [I0,V],Bv,Bv];refine Ah V N5 ?_;refine A0.tt rfl ?_;refine sR N5 ?_;exact aR
    rw [show I0 d=true by simp [I0,W,V],Ca] at L;refine En W V N5 ?_;refine A0.ff rfl (A0.kk (I _ _ ?_));clear I Z
    (refine lV N5 fun K z=>?_;refine⟨by first| (unfold B7;omega)| (simp only [B7,lim] at *;omega),?_⟩;(try refine ev ?_);apply z;clear z K;try simp only [A4,])
    exact⟨(),L,sS,sB⟩
  ·(refine sQ N5 fun K z=>?_;refine An J ?_;refine⟨c,h0,?_⟩;(try refine Gj J O ?_);refine⟨_,.inl ⟨_,rfl,R,rfl⟩,?_⟩;(try refine An O ?_);apply z;clear z K)
   refine tI ?_;refine sR N5 ?_;rw [Ci O,Bv,Bv];exact aR
theorem E0h:∀{l:List Ty} {t:Ty},t∈l→t.names.length≤(Ty.J2 l).length
 |[],_,h=>by simp at h
 |x::l,t,h=>by
  simp only [Ty.J2,B3];simp only [As] at h;rcases h with rfl| h
  ·omega
  ·have:=E0h h;omega
theorem C6h:∀l:List Ty,l.length≤(Ty.J2 l).length
 |[]=>by simp [Ty.J2]
 |x::l=>by have:=C6h l;simp only [Ty.J2,B3,Bg,Ty.A8o];omega
abbrev q4A:List Nat:=[0,1,2,3,4,7,12]
theorem E8f:∀t:Ty,t.names.length≤sm→Ac prog 177 [Be t] (Ct t.names):=by
 intro t
 induction t using Ty.induct with| _ t R=>?_
 intro hs;rw [Ty.A8o,Bg] at hs;rw [Ty.A8o];refine cB func177 ?_;refine sR q4A ?_
 (refine A0.zz 1 rfl rfl (wk [(1,.Ag (Bh t) 0)] [] ?_))
 (refine A0.F6 q4A [7] (by decide +kernel) fun K z=>?_;refine ev ?_;apply z;clear z K)
 refine kR q4A fun K1 L=>?_;refine A0.bb (A0.ii t.args (X:=Unit) (fun j _=>[(1,.Ag (Bh t) 0),(3,.acc 7),(4,A9 j)]) (fun j _=>[(7,.rows 1 (C6 (t.name::Ty.J2 (t.args.take j))))])
  (fun j _=>True) () trivial (by simp [sle,Aw,Ae,Bh]) (by simp [ble,A7,C6,Ty.J2]) ?_ ?_)
 ·intro _ _;rw [Cs];refine Ai B4 q4A fun J E=>?_;refine A0.ss rfl ?_;simp only [A4,Aa,Af];refine L _ _ ?_;refine sR q4A ?_;exact aR
 ·intro j _ d hd I dp V O hI;have W:=E0h I;have Z:=C6h t.args;rw [V,Ty.C1u];have U:(Ty.J2 (t.args.take j)).length≤(Ty.J2 t.args).length:=by
   conv=>rhs;rw [←Sw j t.args,Ty.C1u,B3]
   omega
  refine Ai O q4A fun J E=>?_;refine gI E ?_;clear E J;refine sK fun J E=>?_;refine A0.bb ?_
  (refine lV q4A fun K z=>?_;refine ci (F5 hd) ?_;refine cc (R d I (by omega)) ?_;refine⟨A4g _,by unfold lim sm at *;omega,?_⟩;(try refine ev ?_);apply z;clear z K;try simp only [A4,Aa])
  refine E _ _ ?_;clear E J;refine lT q4A ?_;exact⟨(),trivial,(by simp [sle,Aw,Ae,Bh,]),by simp [ble,A7,C6,Ty.J2]⟩
def Ty.right (t:Ty):Bool:=t.names.all isName
abbrev q5A:List Nat:=[0,1,2,3,4,10,18]
theorem B2g (t:Ty)(h:t.Nn):Ac prog 95 [Be t] (B0 t.right):=by
 have U:=E8f t (by unfold Ty.Nn at h;unfold sm;omega);have W:t.names.length≤2000:=h;unfold Ty.right;generalize t.names=l at *;refine cB func95 ?_;refine sR q5A ?_;refine sC U q5A ?_;refine kR q5A fun K1 L=>?_;refine A0.bb (A0.ii l (X:=Unit) (fun j _=>[(3,Ct l),(4,A9 j)]) (fun _ _=>[])
  (fun j _=>(l.drop j).all isName=l.all isName) () rfl sS sB ?_ ?_)
 ·intro _ I;rw [D6,Xv] at I;rw [←I] at L ⊢;refine Ai B4 q5A fun O E=>?_;refine A0.ss rfl ?_;simp only [A4,Aa,Af];refine L _ _ ?_;refine sR q5A ?_;exact aR
 ·intro j _ d hd V Z tk R I;rw [Z,Na] at I;refine Ai R q5A fun O E=>?_;refine gI E ?_;clear E O;refine sK fun O E=>?_;refine A0.bb ?_
  (refine sV q5A fun K z=>?_;refine ci (La hd) ?_;refine cc (Xz d) ?_;apply z;clear z K)
  refine A0.cond rfl (fun J=>?_) (fun J=>?_)
  ·refine sR q5A ?_;simp only [Jo] at J;rw [J,Bv] at I;rw [←I];exact aR
  simp only [S5] at J;rw [J,Ca] at I;refine A0.kk (E _ _ ?_);clear E O
  (refine lV q5A fun K z=>?_;refine cl ?_;apply z;clear z K;try simp only [A4,])
  exact⟨(),I,sS,sB⟩
def C5t (e:Ex):Prop:=(e.kind=1→e.kids=[])∧(e.kind=4∨e.kind=5→e.kids.length=1)
mutual
def Ex.One:Ex→Prop
 |.mk k n t a ks q=>C5t (.mk k n t a ks q)∧Ex.A2r ks
def Ex.A2r:List Ex→Prop
 |[]=>True
 |e::E=>e.One∧Ex.A2r E
end
theorem D4r:∀{l:List Ex},Ex.A2r l→∀e,e∈l→e.One
 |[],_=>by simp
 |x::l,h=>by
  rw [Ex.A2r] at h;intro e he;simp only [As] at he;rcases he with rfl| he
  ·exact h.1
  ·exact D4r h.2 e he
theorem Ex.One.out {e:Ex} (h:e.One):C5t e∧∀x,x∈e.kids→x.One:=by cases e with| mk k n t a ks q=>rw [Ex.One] at h;exact⟨h.1,D4r h.2⟩
def Ex.typed (e:Ex):Bool:=decide (e.kind=3) ||decide (e.kind=5)
def Ex.L2 (e:Ex):Bool:=if e.kind=1 then decide ((e.kids.length:Int)=0) else if e.kind=2 then decide ((e.kids.length:Int) ≥ 1) else if e.kind=3 then true else if e.kind=4∨e.kind=5 then decide ((e.kids.length:Int)=1) else false
def Ex.Rc (e:Ex):Bool:=if e.typed=true then e.type.right && decide (e.name=[]) && e.L2 else !e.type.right && decide (e.type.name=[]) && decide (e.type.args.length=0) && isName e.name && e.L2
def Ex.B2x (e:Ex):Bool:=e.targs.all fun t=>decide (e.kind=2) && t.right
mutual
def Ex.right:Ex→Bool
 |.mk k n t a ks q=>Ex.Vt ks && (Ex.B2x (.mk k n t a ks q) && Ex.Rc (.mk k n t a ks q))
def Ex.Vt:List Ex→Bool
 |[]=>true
 |e::E=>e.right && Ex.Vt E
end
theorem Ex.A2w (e:Ex):e.right=(Ex.Vt e.kids && (e.B2x && e.Rc)):=by cases e with| mk k n t a ks q=>rw [Ex.right];rfl
theorem A8f:∀{l:List Ex},Ex.Vt l=true→∀e,e∈l→e.right=true
 |[],_=>by simp
 |x::l,h=>by
  rw [Ex.Vt,B1] at h;intro e he;simp only [As] at he;rcases he with rfl| he
  ·exact h.1
  ·exact A8f h.2 e he
theorem Ex.D7p:∀e:Ex,e.right=true→e.One:=by
 intro e
 induction e using Ex.induct with| _ e U=>?_
 intro h;rw [Ex.A2w,B1,B1] at h;have J:e.L2=true:=by have:=h.2.2;unfold Ex.Rc at this;split at this <;> (simp only [B1] at this;exact this.2)
 have R:∀l:List Ex,(∀x,x∈l→x.One)→Ex.A2r l:=by
  intro l
  induction l with
  |nil=>intro _;trivial
  |cons x l L=>intro E;rw [Ex.A2r];exact⟨E x (by simp),L fun y O=>E y (by simp [O])⟩
 have I:=R e.kids fun x E=>U x E (A8f h.1 x E);cases e with| mk k n t a ks q =>
 rw [Ex.One];refine⟨⟨fun Z=>?_,fun W=>?_⟩,I⟩
 ·unfold Ex.L2 at J;rw [A8 Z,D8] at J;exact Rk (by omega)
 ·unfold Ex.L2 at J;rw [A6 (by omega),A6 (by omega)] at J;by_cases V:(Ex.mk k n t a ks q).kind=3
  ·omega
  ·rw [A6 V,A8 W,D8] at J;omega
abbrev Dw:List Nat:=[0,1,2,3,4,5,10,19,24,38,68,84,86,87,93,99,101]
set_option maxHeartbeats 4000000 in
theorem D7d:∀e:Ex,e.Nn→Ac prog 43 [Di e] (B0 e.right):=by
 intro e
 induction e using Ex.induct with| _ e ih=>?_
 intro hn;rw [Ex.A2w];have L:=B2g e.type hn.type;have a0:=Xz e.name;refine Cd.bd (Enters.of func43 rfl (by decide)) fun a4=>?_;have a1:=B9m a4.1;have a7:=a1.kids.1;have a6:=a1.targs.1;clear a4 a1;refine cB func43 ?_;refine sR Dw ?_
 (refine A0.zz 1 rfl rfl (wk [(1,.Ag (Ce e) 0)] [] ?_))
 refine kR Dw fun V I=>?_;refine A0.bb (A0.ii e.kids (X:=Unit) (fun j _=>[(1,.Ag (Ce e) 0),(3,A9 j)]) (fun _ _=>[])
  (fun j _=>Ex.Vt (e.kids.drop j)=Ex.Vt e.kids) () rfl (by simp [sle,Aw,Ae,Ce,]) sB ?_ ?_)
 ·intro _ J;rw [D6,Ex.Vt] at J;rw [←J,Ca] at I ⊢;clear J;refine Ai B4 Dw fun W E=>?_;refine A0.ss rfl ?_;simp only [A4,Aa,Af];refine I _ _ ?_;clear E W I V;refine kR Dw fun V I=>?_;refine A0.bb (A0.ii e.targs (X:=Unit) (fun j _=>[(1,.Ag (Ce e) 0),(4,A9 j)]) (fun _ _=>[])
   (fun j _=>((e.targs.drop j).all fun t=>decide (e.kind=2) && t.right)=e.B2x) () rfl (by simp [sle,Aw,Ae,Ce,]) sB ?_ ?_)
  ·intro _ J;rw [D6,Xv] at J;rw [←J,Ca] at I ⊢;clear J;refine Ai B4 Dw fun W E=>?_;refine A0.ss rfl ?_;simp only [A4,Aa,Af];refine I _ _ ?_;clear E W I V;refine sK fun V I=>?_;have rest:∀sl bx,sle sl [(1,.Ag (Ce e) 0),(5,B0 e.typed)]→V sl bx:=by
    intro sl bx R;refine I _ _ (A0.ww (bx':=[]) R trivial ?_);clear I V;refine sK fun V I=>?_;have rest:∀sl bx,sle sl [(1,.Ag (Ce e) 0),(5,B0 e.typed)]→e.typed=e.type.right→(e.typed=false→e.type.name=[]∧e.type.args.length=0)→V sl bx:=by
     intro sl bx R h1 h2;refine I _ _ (A0.ww (bx':=[]) R trivial ?_);clear I V;have hr:e.Rc=(if e.typed=true then decide (e.name=[]) && e.L2 else isName e.name && e.L2):=by
      unfold Ex.Rc;rcases Fg e.typed with ht| ht
      ·rw [A8 ht,A8 ht,←h1,ht,Ca]
      ·rw [A6 (by simp [ht]),A6 (by simp [ht]),←h1,ht,(h2 ht).1,(h2 ht).2];simp
     rw [hr];clear hr h1 h2;refine sK fun V I=>?_;have rest:∀sl bx,sle sl [(1,.Ag (Ce e) 0)]→(∀b,(if e.typed=true then decide (e.name=[]) && b else isName e.name && b)=b)→V sl bx:=by
      intro sl bx R h1;rw [h1] at *;refine I _ _ (A0.ww (bx':=[]) R trivial ?_);clear I V;refine kR Dw fun V I=>?_;unfold Ex.L2;refine A0.bb ?_;by_cases k1:e.kind=1
      ·rw [A8 k1];refine Ah k1 Dw ?_;refine A0.tt rfl ?_;refine sR Dw ?_;exact aR
      rw [A6 k1];refine Ah k1 Dw ?_;refine A0.ff rfl ?_;by_cases k2:e.kind=2
      ·rw [A8 k2];refine Ah k2 Dw ?_;refine A0.tt rfl ?_;refine sR Dw ?_;exact aR
      rw [A6 k2];refine Ah k2 Dw ?_;refine A0.ff rfl ?_;by_cases k3:e.kind=3
      ·rw [A8 k3];refine Ah k3 Dw ?_;refine A0.tt rfl ?_;refine sR Dw ?_;exact aR
      rw [A6 k3];refine Ah k3 Dw ?_;refine A0.ff rfl ?_;refine sK fun W E=>?_;by_cases k4:e.kind=4
      ·rw [A8 (.inl k4)] at E ⊢;refine Ah k4 Dw ?_;refine A0.tt rfl (A0.kk (E _ _ ?_));refine A0.tt rfl ?_;refine sR Dw ?_;exact aR
      by_cases k5:e.kind=5
      ·rw [A8 (.inr k5)] at E ⊢;refine Ah k4 Dw ?_;refine A0.ff rfl ?_
       (refine lQ Dw fun K z=>?_;refine An k5 ?_;apply z;clear z K;try simp only [A4,])
       refine E _ _ ?_;refine A0.tt rfl ?_;refine sR Dw ?_;exact aR
      have a5:e.L2=false:=by unfold Ex.L2;rw [A6 k1,A6 k2,A6 k3,A6 (by omega)]
      refine Ah k4 Dw ?_;refine A0.ff rfl ?_
      (refine lQ Dw fun K z=>?_;refine An k5 ?_;apply z;clear z K;try simp only [A4,])
      refine E _ _ ?_;refine A0.ff rfl (A0.kk ?_);simp only [A4,Aa];refine I _ _ ?_;refine sR Dw ?_;rw [a5];exact aR
     rcases Fg e.typed with ht| ht
     ·rw [ht] at R ⊢;rw [A8 rfl] at *;by_cases O:e.name=[]
      ·have bn:decide (e.name=[])=true:=Bn O
       (refine sQ Dw fun K z=>?_;simp -implicitDefEqProofs only [EV,Nat.reduceEqDiff,Nat.reduceLeDiff,reduceCtorEq,M3,Jj,T4,bn];apply z;clear z K)
       exact A0.ff rfl (A0.kk (rest _ _ (by simp [sle,Aw,Ae,Ce,]) (fun b=>by rw [A8 ht,Bn O,Ca])))
      ·have bn:decide (e.name=[])=false:=Ci O
       (refine sQ Dw fun K z=>?_;simp -implicitDefEqProofs only [EV,Nat.reduceEqDiff,Nat.reduceLeDiff,reduceCtorEq,M3,Jj,T4,bn];apply z;clear z K)
       refine tI ?_;refine sR Dw ?_;rw [Ci O,Bv];exact aR
     ·rw [ht] at R ⊢;rcases Fg (isName e.name) with hin| hin
      ·rw [hin] at a0;refine sC a0 Dw ?_;exact A0.ff rfl (A0.kk (rest _ _ (by simp [sle,Aw,Ae,Ce,]) (fun b=>by rw [A6 (by simp [ht]),hin,Ca])))
      ·rw [hin] at a0;refine sC a0 Dw ?_;refine tI ?_;refine sR Dw ?_;rw [A6 (by simp),hin,Bv];exact aR
    have hf:(e.typed≠e.type.right∨(e.typed=false∧¬(e.type.name=[]∧e.type.args.length=0)))→e.Rc=false:=by
     intro h;unfold Ex.Rc;rcases Fg e.typed with ht| ht
     ·rcases Fg e.type.right with hr| hr
      ·rw [ht,hr] at h;simp at h
      ·rw [ht,hr];rfl
     ·rcases Fg e.type.right with hr| hr
      ·rw [ht,hr];rfl
      ·rw [ht,hr] at h;simp at h;rw [ht,hr];simp;intro h1 h2;exact absurd h2 (h h1)
    have q1:(true == true)=true:=rfl;have q2:(true == false)=false:=rfl;have q3:(false == true)=false:=rfl;have q4:(false == false)=true:=rfl;rcases Fg e.typed with ht| ht
    ·rcases Fg e.type.right with hr| hr
     ·rw [hr] at L;rw [ht]
      (refine sV Dw fun K z=>?_;refine⟨_,.inl ⟨_,rfl,L,rfl⟩,?_⟩;(try refine An q1 ?_);apply z;clear z K)
      exact A0.ff rfl (A0.kk (rest _ _ (by rw [ht];exact (by simp [sle,Aw,Ae,Ce,])) (by rw [ht,hr]) (by rw [ht];simp)))
     ·rw [hr] at L;rw [hf (.inl (by rw [ht,hr];simp)),ht]
      (refine sV Dw fun K z=>?_;refine⟨_,.inl ⟨_,rfl,L,rfl⟩,?_⟩;(try refine An q2 ?_);apply z;clear z K)
      refine tI ?_;refine sR Dw ?_;exact aR
    ·rcases Fg e.type.right with hr| hr
     ·rw [hr] at L;rw [hf (.inl (by rw [ht,hr];simp)),ht]
      (refine sV Dw fun K z=>?_;refine⟨_,.inl ⟨_,rfl,L,rfl⟩,?_⟩;(try refine An q3 ?_);apply z;clear z K)
      refine tI ?_;refine sR Dw ?_;exact aR
     ·rw [hr] at L;by_cases O:e.type.name=[]
      ·have bn:decide (e.type.name=[])=true:=Bn O;by_cases a3:e.type.args.length=0
       ·have hg:¬(0 < (e.type.args.length:Int)):=by omega
        rw [ht]
        (refine sV Dw fun K z=>?_;refine⟨_,.inl ⟨_,rfl,L,rfl⟩,?_⟩;(try simp -implicitDefEqProofs only [EV,Nat.reduceAdd,Nat.reduceEqDiff,Nat.reduceLeDiff,reduceCtorEq,TF4,M3,Mr,I9,Jj,q4,T4,bn,hg]);apply z;clear z K)
        exact A0.ff rfl (A0.kk (rest _ _ (by rw [ht];exact (by simp [sle,Aw,Ae,Ce,])) (by rw [ht,hr]) (fun _=>⟨O,a3⟩)))
       ·have hg:0 < (e.type.args.length:Int):=by omega
        rw [hf (.inr ⟨ht,fun h=>a3 h.2⟩),ht]
        (refine sV Dw fun K z=>?_;refine⟨_,.inl ⟨_,rfl,L,rfl⟩,?_⟩;(try simp -implicitDefEqProofs only [EV,Nat.reduceAdd,Nat.reduceEqDiff,Nat.reduceLeDiff,reduceCtorEq,TF4,M3,Mr,I9,Jj,q4,T4,bn,hg]);apply z;clear z K)
        refine tI ?_;refine sR Dw ?_;exact aR
      ·have bn:decide (e.type.name=[])=false:=Ci O;rw [hf (.inr ⟨ht,fun h=>O h.1⟩),ht]
       (refine sV Dw fun K z=>?_;refine⟨_,.inl ⟨_,rfl,L,rfl⟩,?_⟩;(try simp -implicitDefEqProofs only [EV,Nat.reduceEqDiff,Nat.reduceLeDiff,reduceCtorEq,TF4,M3,I9,Jj,q4,T4,bn]);apply z;clear z K)
       refine tI ?_;refine sR Dw ?_;exact aR
   by_cases k3:e.kind=3
   ·have ht:e.typed=true:=by unfold Ex.typed;rw [Bn k3];rfl
    have d3:=Bn k3
    (refine lQ Dw fun K z=>?_;refine An d3 ?_;apply z;clear z K;try simp only [A4,])
    exact rest _ _ (by rw [ht];exact (by simp [sle,Aw,Ae,Ce,]))
   by_cases k5:e.kind=5
   ·have ht:e.typed=true:=by unfold Ex.typed;rw [Bn k5,Bool.or_true]
    have d5:=Bn k5
    (refine lQ Dw fun K z=>?_;refine Gj k3 d5 ?_;apply z;clear z K;try simp only [A4,])
    exact rest _ _ (by rw [ht];exact (by simp [sle,Aw,Ae,Ce,]))
   have ht:e.typed=false:=by unfold Ex.typed;rw [Ci k3,Ci k5];rfl
   (refine lQ Dw fun K z=>?_;refine Gj k3 k5 ?_;apply z;clear z K;try simp only [A4,])
   exact rest _ _ (by rw [ht];exact (by simp [sle,Aw,Ae,Ce,]))
  ·intro j _ d hd U dp tk a2 J;rw [dp,Na] at J;refine Ai a2 Dw fun W E=>?_;refine gI E ?_;clear E W;refine sK fun W E=>?_;refine A0.bb ?_;by_cases k2:e.kind=2
   ·rw [Bn k2,Ca] at J;have d2:=Bn k2
    (refine sQ Dw fun K z=>?_;simp -implicitDefEqProofs only [EV,Nat.reduceEqDiff,reduceCtorEq,Jw,Mr,I9,Jj,T4,d2];refine ci (F5 hd) ?_;refine cc (B2g d (hn.targs d U)) ?_;apply z;clear z K)
    refine A0.cond rfl (fun Z=>?_) (fun Z=>?_)
    ·refine sR Dw ?_;simp only [Jo] at Z;rw [Z,Bv] at J;rw [←J,Bv];exact aR
    simp only [S5] at Z;rw [Z,Ca] at J;refine A0.kk (E _ _ ?_);clear E W
    (refine lV Dw fun K z=>?_;refine⟨by first| (unfold B7;omega)| (simp only [B7,lim] at *;omega),?_⟩;(try refine ev ?_);apply z;clear z K;try simp only [A4,])
    exact⟨(),by rw [Bn k2];exact J,(by simp [sle,Aw,Ae,Ce,]),sB⟩
   ·rw [Ci k2,Bv,Bv] at J;rw [←J,Bv];refine Ah k2 Dw ?_;refine A0.tt rfl ?_;refine sR Dw ?_;exact aR
 ·intro j _ d hd U dp tk a2 J;rw [dp,Ex.Vt] at J;refine Ai a2 Dw fun W E=>?_;refine gI E ?_;clear E W;refine sK fun W E=>?_;refine A0.bb ?_
  (refine sV Dw fun K z=>?_;refine ci (Ed hd) ?_;refine cc (ih d U (hn.kids d U)) ?_;apply z;clear z K)
  refine A0.cond rfl (fun Z=>?_) (fun Z=>?_)
  ·refine sR Dw ?_;simp only [Jo] at Z;rw [Z,Bv] at J;rw [←J,Bv];exact aR
  simp only [S5] at Z;rw [Z,Ca] at J;refine A0.kk (E _ _ ?_);clear E W
  (refine lV Dw fun K z=>?_;refine⟨by first| (unfold B7;omega)| (simp only [B7,lim] at *;omega),?_⟩;(try refine ev ?_);apply z;clear z K;try simp only [A4,])
  exact⟨(),J,(by simp [sle,Aw,Ae,Ce,]),sB⟩
def Pv (l:List Ak):Bool:=l.all fun f=>isName f.name && f.bound.right
abbrev Wy:List Nat:=[0,2,3,7,25]
theorem D4x (l:List Ak)(hn:∀f,f∈l→f.bound.Nn):Ac prog 90 [.d (.slice (Az l))] (B0 (Pv l)):=by
 refine Cd.bd (Enters.of func90 rfl (by decide)) fun V=>?_;have a0:l.length≤lim:=by have:=V.1;simp only [SV.bd] at this;cases this with| slice _ h1 _=>simpa [Az] using h1
 clear V;refine cB func90 ?_;refine sR Wy ?_;refine kR Wy fun K1 R=>?_;refine A0.bb (A0.ii l (X:=Unit) (fun j _=>[(0,.d (.slice (Az l))),(3,A9 j)]) (fun _ _=>[])
  (fun j _=>Pv (l.drop j)=Pv l) () rfl sS sB ?_ ?_)
 ·intro _ L;rw [D6] at L;rw [←L] at R ⊢;refine Ai B4 Wy fun W I=>?_;refine A0.ss rfl ?_;simp only [A4,Aa,Af];refine R _ _ ?_;refine sR Wy ?_;exact aR
 ·intro j _ d hd U dp tk Z L;rw [dp] at L;unfold Pv at L;rw [Na] at L;have E:(isName d.name && d.bound.right && Pv (l.drop (j+1)))=Pv l:=L;clear L;refine Ai Z Wy fun W I=>?_;refine gI I ?_;clear I W;refine sK fun W I=>?_;refine A0.bb ?_;rcases Fg (isName d.name) with h1| h1
  ·have J:=Xz d.name;rw [h1] at J;rw [h1,Ca] at E
   (refine sV Wy fun K z=>?_;refine ci (Ep hd) ?_;refine cc J ?_;refine ci (Ep hd) ?_;refine cc (B2g d.bound (hn d U)) ?_;apply z;clear z K)
   refine A0.cond rfl (fun O=>?_) (fun O=>?_)
   ·refine sR Wy ?_;simp only [Jo] at O;rw [O,Bv] at E;rw [←E];exact aR
   simp only [S5] at O;rw [O,Ca] at E;refine A0.kk (I _ _ ?_);clear I W
   (refine lV Wy fun K z=>?_;refine⟨by first| (unfold B7;omega)| (simp only [B7,lim] at *;omega),?_⟩;(try refine ev ?_);apply z;clear z K;try simp only [A4,])
   exact⟨(),E,sS,sB⟩
  ·have J:=Xz d.name;rw [h1] at J;rw [h1,Bv,Bv] at E;rw [←E]
   (refine sV Wy fun K z=>?_;refine ci (Ep hd) ?_;refine cc J ?_;apply z;clear z K)
   refine A0.tt rfl ?_;refine sR Wy ?_;exact aR
def Lx (l:List Param):Bool:=l.all fun f=>isName f.name && f.type.right
abbrev Wt:List Nat:=[0,2,3,7,25]
theorem D3f (l:List Param)(hn:∀f,f∈l→f.type.Nn):Ac prog 91 [.d (.slice (B5 l))] (B0 (Lx l)):=by
 refine Cd.bd (Enters.of func91 rfl (by decide)) fun V=>?_;have a0:l.length≤lim:=by have:=V.1;simp only [SV.bd] at this;cases this with| slice _ h1 _=>simpa [B5] using h1
 clear V;refine cB func91 ?_;refine sR Wt ?_;refine kR Wt fun K1 R=>?_;refine A0.bb (A0.ii l (X:=Unit) (fun j _=>[(0,.d (.slice (B5 l))),(3,A9 j)]) (fun _ _=>[])
  (fun j _=>Lx (l.drop j)=Lx l) () rfl sS sB ?_ ?_)
 ·intro _ L;rw [D6] at L;rw [←L] at R ⊢;refine Ai B4 Wt fun W I=>?_;refine A0.ss rfl ?_;simp only [A4,Aa,Af];refine R _ _ ?_;refine sR Wt ?_;exact aR
 ·intro j _ d hd U dp tk Z L;rw [dp] at L;unfold Lx at L;rw [Na] at L;have E:(isName d.name && d.type.right && Lx (l.drop (j+1)))=Lx l:=L;clear L;refine Ai Z Wt fun W I=>?_;refine gI I ?_;clear I W;refine sK fun W I=>?_;refine A0.bb ?_;rcases Fg (isName d.name) with h1| h1
  ·have J:=Xz d.name;rw [h1] at J;rw [h1,Ca] at E
   (refine sV Wt fun K z=>?_;refine ci (E7 hd) ?_;refine cc J ?_;refine ci (E7 hd) ?_;refine cc (B2g d.type (hn d U)) ?_;apply z;clear z K)
   refine A0.cond rfl (fun O=>?_) (fun O=>?_)
   ·refine sR Wt ?_;simp only [Jo] at O;rw [O,Bv] at E;rw [←E];exact aR
   simp only [S5] at O;rw [O,Ca] at E;refine A0.kk (I _ _ ?_);clear I W
   (refine lV Wt fun K z=>?_;refine⟨by first| (unfold B7;omega)| (simp only [B7,lim] at *;omega),?_⟩;(try refine ev ?_);apply z;clear z K;try simp only [A4,])
   exact⟨(),E,sS,sB⟩
  ·have J:=Xz d.name;rw [h1] at J;rw [h1,Bv,Bv] at E;rw [←E]
   (refine sV Wt fun K z=>?_;refine ci (E7 hd) ?_;refine cc J ?_;apply z;clear z K)
   refine A0.tt rfl ?_;refine sR Wt ?_;exact aR
def A5.right (s:A5):Bool:=isName s.name && Pv s.A1 && Lx s.params && s.result.right
theorem D8d (s:A5)(J:s.Nn):Ac prog 92 [Cx s] (B0 s.right):=by
 have E:=Xz s.name;have I:=D4x s.A1 J.A1;have L:=D3f s.params J.params;have O:=B2g s.result J.result;unfold A5.right;generalize isName s.name=b1 at *;generalize Pv s.A1=b2 at *;generalize Lx s.params=b3 at *;generalize s.result.right=b4 at *;refine cB func92 ?_;refine sR [0,1,2] ?_;cases b1 with
 |false =>refine sC E [0,1,2] ?_;exact aR
 |true =>
  cases b2 with
  |false =>
   (refine sV [0,1,2] fun K z=>?_;refine cc E ?_;refine cc I ?_;apply z;clear z K)
   exact aR
  |true =>
   cases b3 with
   |false =>
    (refine sV [0,1,2] fun K z=>?_;refine cc E ?_;refine cc I ?_;refine cc L ?_;apply z;clear z K)
    exact aR
   |true =>
    (refine sV [0,1,2] fun K z=>?_;refine cc E ?_;refine cc I ?_;refine cc L ?_;refine cc O ?_;apply z;clear z K)
    exact aR
end Go.Abs
