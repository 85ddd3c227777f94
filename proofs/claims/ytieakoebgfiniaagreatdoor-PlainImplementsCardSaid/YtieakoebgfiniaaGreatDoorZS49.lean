/- several texts in one -/
import Derived.Test.YtieakoebgfiniaaGreatDoorZSB
set_option linter.all false
set_option maxHeartbeats 1000000
set_option maxRecDepth 100000
namespace Go.Abs
open Go Go.Proofs Tryz
mutual
theorem Ty.F6:∀(t:Ty)(k:Int),k+1<=t.count k
 |.mk n a _,k=>by simp only[Ty.count];have:=Ty.Kr a (k+1+((n.length / 50:Nat):Int));omega
theorem Ty.Kr:∀(l:List Ty)(k:Int),k<=Ty.Ce l k
 |[],k=>by simp[Ty.Ce]
 |t::E,k=>by
  simp only[Ty.Ce];split
  .have J:=Ty.F6 t k;have I:=Ty.Kr E (t.count k);omega
  .omega
end
mutual
theorem Ty.Gt:∀(t:Ty)(k:Int),0<=k->t.count k<=2000->t.Sm
 |.mk n a p,k,I,h=>by simp only[Ty.count]at h;have L:=Ty.Kr a (k+1+((n.length / 50:Nat):Int));have E:=Ty.B0k a (k+1+((n.length / 50:Nat):Int)) (by omega) h;exact .mk n a p (by unfold sm;omega) (by unfold sm;omega) E.2
theorem Ty.B0k:∀(l:List Ty)(k:Int),0<=k->Ty.Ce l k<=2000->(k+l.length<=2000/\∀t,t∈l->t.Sm)
 |[],k,I,h=>by simp[Ty.Ce]at h |-;omega
 |t::J,k,I,h=>by
  simp only[Ty.Ce]at h;split at h
  .have L:=Ty.F6 t k;have E:=Ty.B0k J (t.count k) (by omega) h;have O:=Ty.Gt t k I (by have:=Ty.Kr J (t.count k);omega);refine⟨by simp only[Bg];omega,?_⟩;intro u hu;simp only[B1]at hu;rcases hu with rfl|hu
   .exact O
   .exact E.2 u hu
  .omega
end
mutual
theorem Ex.F6:∀(t:Ex)(k:Int),k+1<=t.count k
 |.mk _ n t a ks _,k=>by simp only[Ex.count];have J:=Ty.F6 t (k+((n.length / 50:Nat):Int));have E:=Ty.Kr a (t.count (k+((n.length / 50:Nat):Int)));have L:=Ex.Kr ks (Ty.Ce a (t.count (k+((n.length / 50:Nat):Int))));omega
theorem Ex.Kr:∀(l:List Ex)(k:Int),k<=Ex.Ce l k
 |[],k=>by simp[Ex.Ce]
 |t::I,k=>by
  simp only[Ex.Ce];split
  .have J:=Ex.F6 t k;have E:=Ex.Kr I (t.count k);omega
  .omega
end
mutual
theorem Ex.Gt:∀(t:Ex)(k:Int),0<=k->t.count k<=2000->t.Sm
 |.mk Z n t a ks p,k,E,h=>by simp only[Ex.count]at h;have O:=Ty.F6 t (k+((n.length / 50:Nat):Int));have J:=Ty.Kr a (t.count (k+((n.length / 50:Nat):Int)));have L:=Ex.Kr ks (Ty.Ce a (t.count (k+((n.length / 50:Nat):Int))));have V:=Ty.Gt t (k+((n.length / 50:Nat):Int)) (by omega) (by omega);have U:=Ty.B0k a (t.count (k+((n.length / 50:Nat):Int))) (by omega) (by omega);have W:=Ex.B0k ks (Ty.Ce a (t.count (k+((n.length / 50:Nat):Int)))) (by omega) h;exact .mk Z n t a ks p (by unfold sm;omega) V (by unfold sm;omega) U.2 (by unfold sm;omega) W.2
theorem Ex.B0k:∀(l:List Ex)(k:Int),0<=k->Ex.Ce l k<=2000->(k+l.length<=2000/\∀t,t∈l->t.Sm)
 |[],k,E,h=>by simp[Ex.Ce]at h |-;omega
 |t::I,k,E,h=>by
  simp only[Ex.Ce]at h;split at h
  .have O:=Ex.F6 t k;have J:=Ex.B0k I (t.count k) (by omega) h;have L:=Ex.Gt t k E (by have:=Ex.Kr I (t.count k);omega);refine⟨by simp only[Bg];omega,?_⟩;intro u hu;simp only[B1]at hu;rcases hu with rfl|hu
   .exact L
   .exact J.2 u hu
  .omega
end
abbrev Nj{α:Type}(F:List α->Int->Int)(Sm:α->Prop):Prop:=∀(l:List α)(k:Int),(k<=F l k)/\(0<=k->F l k<=2000->k+l.length<=2000/\∀t,t∈l->Sm t)
def Mw{α:Type}(F:List α->Int->Int)(g:α->Int->Int)(Sm:α->Prop)(J:∀k,F [] k=k)(L:∀x xs k,F (x::xs) k=if k<=2000 then F xs (g x k)else k)
  (I:∀x k,k+1<=g x k)(E:∀x k,0<=k->g x k<=2000->Sm x):∀(l:List α) (k:Int),(k<=F l k)/\(0<=k->F l k<=2000->k+l.length<=2000/\∀t,t∈l->Sm t)
 |[],k=>by rw[J];exact⟨Int.le_refl _,λJ h=>⟨by simp;omega,by simp⟩⟩
 |t::U,k=>by
  rw[L];obtain⟨i1,W⟩:=Mw F g Sm J L I E U (g t k);have h2:=I t k;split
  .refine⟨by omega,λO h=>?_⟩;obtain⟨j1,Z⟩:=W (by omega) h;have V:=E t k O (by omega);refine⟨by simp only[Bg];omega,?_⟩;intro u hu;simp only[B1]at hu;rcases hu with rfl|hu
   .exact V
   .exact Z u hu
  .exact⟨Int.le_refl _,λ_ h=>by omega⟩
def B4h:Nj C5 Ah.Sm:=Mw C5 (λf n=>f.bound.count (n+1+((f.name.length / 50:Nat):Int))) Ah.Sm (λ_=>rfl) (λ_ _ _=>rfl)
 (λx k=>by have:=Ty.F6 x.bound (k+1+((x.name.length / 50:Nat):Int));omega)
 (λx k E h=>by have:=Ty.F6 x.bound (k+1+((x.name.length / 50:Nat):Int));exact⟨by unfold sm;omega,Ty.Gt _ _ (by omega) h⟩)
def B2s:Nj D2 Param.Sm:=Mw D2 (λf n=>f.type.count (n+1+((f.name.length / 50:Nat):Int))) Param.Sm (λ_=>rfl) (λ_ _ _=>rfl)
 (λx k=>by have:=Ty.F6 x.type (k+1+((x.name.length / 50:Nat):Int));omega)
 (λx k E h=>by have:=Ty.F6 x.type (k+1+((x.name.length / 50:Nat):Int));exact⟨by unfold sm;omega,Ty.Gt _ _ (by omega) h⟩)
def A2z:Nj Ix (λv=>v.length<=sm):=Mw Ix (λv n=>n+1+((v.length / 50:Nat):Int)) (λv=>v.length<=sm) (λ_=>rfl) (λ_ _ _=>rfl) (λx k=>by omega) (λx k E h=>by unfold sm;omega)
def A3.Gt(s:A3)(n:Int):n+1<=s.count n/\(0<=n->s.count n<=2000->s.Sm):=by unfold A3.count;obtain⟨V,J⟩:=B4h s.A1 (n+((s.name.length / 50:Nat):Int));obtain⟨W,E⟩:=B2s s.params (C5 s.A1 (n+((s.name.length / 50:Nat):Int)));have U:=Ty.F6 s.result (D2 s.params (C5 s.A1 (n+((s.name.length / 50:Nat):Int))));refine⟨by omega,λh0 h=>?_⟩;obtain⟨O,L⟩:=J (by omega) (by omega);obtain⟨Z,I⟩:=E (by omega) (by omega);exact⟨by unfold sm;omega,⟨by unfold sm;omega,L⟩,⟨by unfold sm;omega,I⟩,Ty.Gt _ _ (by omega) h⟩
def C3f:Nj En A3.Sm:=Mw En A3.count A3.Sm (λ_=>rfl) (λ_ _ _=>rfl) (λx k=>(A3.Gt x k).1) (λx k=>(A3.Gt x k).2)
def Decl.Gt(d:Decl)(n:Int):n+1<=d.count n/\(0<=n->d.count n<=2000->d.Sm):=by
 unfold Decl.count;generalize hm:n+1+((d.name.length / 50:Nat):Int)+((d.recv.length / 50:Nat):Int)=m;obtain⟨a1,W⟩:=B4h d.A1 m;obtain⟨b1,I⟩:=B2s d.fields (C5 d.A1 m);obtain⟨c1,L⟩:=C3f d.sigs (D2 d.fields (C5 d.A1 m));obtain⟨e1,J⟩:=A2z d.vars (En d.sigs (D2 d.fields (C5 d.A1 m)));generalize hz:Ix d.vars (En d.sigs (D2 d.fields (C5 d.A1 m)))=z at*;unfold Decl.S6;obtain⟨f1,f2⟩:=A3.Gt d.sig z;have g1:=Ex.F6 d.body (d.sig.count z);refine⟨by split <;> omega,λh0 h=>?_⟩;split at h
 .obtain⟨a3,O⟩:=W (by omega) (by omega);obtain⟨b3,V⟩:=I (by omega) (by omega);obtain⟨c3,U⟩:=L (by omega) (by omega);obtain⟨e3,E⟩:=J (by omega) (by omega);exact⟨by unfold sm;omega,⟨by unfold sm;omega,O⟩,⟨by unfold sm;omega,V⟩,⟨by unfold sm;omega,U⟩,by unfold sm;omega,⟨by unfold sm;omega,λv Z=>Cp (E v Z) (by decide)⟩,f2 (by omega) (by omega),Ex.Gt _ _ (by omega) h⟩
 .omega
def C9h:Nj J3 Decl.Sm:=Mw J3 Decl.count Decl.Sm (λ_=>rfl) (λ_ _ _=>rfl) (λx k=>(Decl.Gt x k).1) (λx k=>(Decl.Gt x k).2)
def Prog.Gt(p:Prog)(h:p.count<=600):p.Sm/\p.decls.length<=2000:=by unfold Prog.count at h;have L:=Ex.F6 p.main 0;obtain⟨O,I⟩:=C9h p.decls (p.main.count 0);obtain⟨J,E⟩:=I (by omega) (by omega);exact⟨⟨⟨by unfold sm;omega,E⟩,Ex.Gt p.main 0 (by omega) (by omega)⟩,by omega⟩
def Hg(a b:A2):D:=.agg [.str a,.str b]
def isStr(P:Program)(t:TypeId):Bool:=match P.underlying t with|some .string=>true|_=>false
def C1i(P:Program)(E:TypeId):Bool:=match P.underlying E with
 |some (.struct fs)=>match fs.toList with
  |[f1,f2]=>f1.offset ==0 && f2.offset ==1 && isStr P f1.type && isStr P f2.type && P.cellsOf f1.type ==1 && P.cellsOf f2.type ==1 && P.cellsOf E ==2 && fs.all (·.name != "_") && Nat.ble 1 P.types.size
  |_=>false
 |_=>false
def D9s{P:Program}{t:TypeId}(h:isStr P t=true):P.underlying t=some .string:=by unfold isStr at h;split at h <;> simp_all
def B3s{P:Program}{J:TypeId}(h:C1i P J=true)(a b:A2)(ha:a.length<=lim)(hb:b.length<=lim):E7 P J (Hg a b):=by
 unfold C1i at h;split at h
 .rename_i fs I;split at h
  .rename_i f1 f2 E;simp only[Bb,Vk,Nat.ble_eq]at h;obtain⟨⟨⟨⟨⟨⟨⟨⟨O,Z⟩,u1⟩,u2⟩,U⟩,c2⟩,L⟩,hn⟩,W⟩:=h;obtain⟨d,hd⟩:∃d,P.types.size+1=d+2:=⟨P.types.size - 1,by omega⟩;refine⟨rfl,?_,?_⟩
   .simp[Hg,D.kv,Value.formed,I,L]
   .rw[hd];have e1:∀s:A2,s.length<=lim->P.keyLits (d+1) f1.type [.string ⟨s.toArray⟩]=some [.string s]:=λs hs=>by
     simp[Program.keyLits,D9s u1,ByteArray.size];unfold lim at hs;unfold maxLen;omega
    have V:∀s:A2,s.length<=lim->P.keyLits (d+1) f2.type [.string ⟨s.toArray⟩]=some [.string s]:=λs hs=>by simp[Program.keyLits,D9s u2,ByteArray.size];unfold lim at hs;unfold maxLen;omega
    unfold Program.keyLits;rw[I];simp only[Hg,D.kv,Value.cells,Ck,G3,D.lit,Lit.value,Bg,Ca,L,hn,and_self,Af,E,List.mapM_cons,List.mapM_nil,O,Z,U,c2,
     Aq4,At1,Am1,At7,e1 a ha,V b hb]
    rfl
  .simp at h
 .simp at h
def B3p:C1i prog 148=true:=by kernel_rfl
def M6(d:Decl):Option D:=if d.kind=1\/d.kind=2 then some (Hg d.name [])else if d.kind=3 then some (Hg d.name (46::d.sig.name))else none
def Xs(m:List (D × D))(i:Nat)(d:Decl):List (D × D):=match M6 d with
 |none=>m
 |some k=>if(F9 k.lits m 0).isSome=true then m else Wf k (.int .i64 i) m
def A0f:List Decl->Nat->List (D × D)->List (D × D)
 |[],_,m=>m
 |d::ds,i,m=>A0f ds (i+1) (Xs m i d)
def Qo(p:Prog):List (D × D):=A0f p.decls 0 []
def Dh(p:Prog):List D:=Aj p++[.map (Qo p)]
def E0f{P:Program}{E:TypeId}{m:List (D × D)}{k v:D}(h:∀kv,kv∈m->E7 P E kv.1)(I:E7 P E k):∀kv,kv∈Wf k v m->E7 P E kv.1:=by
 intro kv hkv;unfold Wf at hkv;split at hkv
 .rcases At6 hkv with hkv|rfl
  .exact h kv hkv
  .exact I
 .rcases Bz.1 hkv with hkv|hkv
  .exact h kv hkv
  .simp only[B1,E5,Ea]at hkv;subst hkv;exact I
abbrev Kh:List Nat:=[0,1,2,3,4,5,6,8,11,13,18,19,20,21,29,30,33,50]
def C0p(p:Prog)(h:p.Sm):Aa prog 33 [Ct p] (.A9 (Dh p) 0):=by
 refine cB func33 ?_;refine sR Kh ?_;refine sC (D8q p h) Kh ?_;have aa:=h.decls.1;refine sK λK1 a4=>?_;have a8:∀sl bx,sle sl [(3,.box 13 0)]->ble bx [(13,.cells ((Aj p).map .d++[.mp 11])),(11,.map (Qo p))]->K1 sl bx:=by intro sl bx h1 h2;refine a4 _ _ (A0.ww h1 h2 ?_);clear a4 K1;refine A0.E5t 11 rfl<|A0.ww (sl':=[(3,.box 13 0)]) (bx':=[(13,.cells ((Dh p).map .d))]) (by simp[L7,SV.sub,sle,Ay,Ae]) (by simp[Jo,Aq.sub,SV.L8,SV.sub,ble,A7,Cd,Dh,Aj]) ?_;refine A0.zz 13 rfl rfl<|A0.ww (sl':=[(3,.A9 (Dh p) 0)]) (bx':=[]) (by simp[L7,SV.sub,sle,Ay,Ae];rfl) trivial ?_;refine sR Kh ?_;exact aR
 refine sR Kh ?_;refine A0.bb (A0.loop (X:=Nat × List (D × D)) (λx=>[(20,A5 x.1),(19,A5 p.decls.length),(18,.d (.slice (C1 p.decls))),(3,.box 13 0)])
  (λx=>[(13,.cells ((Aj p).map .d++[.mp 11])),(11,.map x.2)])
  (λx=>x.1<=p.decls.length/\(∀kv,kv∈x.2->E7 prog 148 kv.1)/\A0f (p.decls.drop x.1) x.1 x.2=Qo p) (λx=>p.decls.length - x.1) (0,[]) ?_ ?_ ?_ ?_)
 .exact⟨by simp,by simp,rfl⟩
 .exact sS
 .exact(by simp[ble,A7,Aj])
 rintro⟨j,m⟩ ⟨hj,hm,V⟩;simp only at hj hm V;by_cases a6:(j:Int)<(p.decls.length:Int)
 .have O:j<p.decls.length:=by omega
  have hy:p.decls[j]?=some p.decls[j]:=Bi O;have a3:p.decls[j]∈p.decls:=Fq O;have dp:p.decls.drop j=p.decls[j]::p.decls.drop (j+1):=Gb O;generalize p.decls[j]=y at*;rw[dp,A0f]at V;refine Ak a6 Kh ?_;refine sK λK2 I=>A0.tt rfl (A0.kk (I _ _ ?_));clear I K2;refine sK λK2 I=>?_;have Z:∀sl bx m',sle sl [(20,A5 j),(19,A5 p.decls.length),(18,.d (.slice (C1 p.decls))),(3,.box 13 0)]->ble bx [(13,.cells ((Aj p).map .d++[.mp 11])),(11,.map m')] ->
    (∀kv,kv∈m'->E7 prog 148 kv.1)->m'=Xs m j y->K2 sl bx:=by
   rintro sl bx m' h1 h2 h3 rfl;refine I _ _ (A0.ww h1 h2 ?_);clear I K2 h1 h2
   (refine lQ Kh λK E=>?_;refine ev ?_)
   refine⟨by unfold B4;unfold sm at*;omega,?_⟩
   (apply E;clear E K;try simp only[A4,])
   exact⟨(j+1,Xs m j y),⟨by simp only;omega,h3,V⟩,by simp only;omega,by simp[sle,Ay,Ae],(by simp[ble,A7,Aj])⟩
  clear I;refine A0.bb ?_
  (refine sQ Kh λK E=>?_;refine ev ?_)
  refine⟨by omega,Ar y,Dx hy,rfl,?_⟩;refine ev ?_
  (apply E;clear E K)
  refine sR Kh ?_;have a7:y.name.length<=lim:=Cp (h.decls.2 y a3).name (by unfold sm lim;omega);refine sK λK3 a5=>?_;have W:∀sl bx (mth:A2),sle sl [(4,A5 j),(6,.box 6 0),(20,A5 j),(19,A5 p.decls.length),(18,.d (.slice (C1 p.decls))),(3,.box 13 0)] ->
    ble bx [(13,.cells ((Aj p).map .d++[.mp 11])),(11,.map m),(6,.cells [.d (.str y.name),.d (.str mth)])]->M6 y=some (Hg y.name mth)->mth.length<=lim->K3 sl bx:=by
   intro sl bx mth h1 h2 a2 a9;refine a5 _ _ (A0.ww h1 h2 ?_);clear a5 K3 h1 h2;have U:=B3s B3p y.name mth a7 a9
   (refine sG Kh [] 10 [] λK E=>?_;refine ev ?_)
   refine⟨hm,U,?_⟩
   (apply E;clear E K)
   by_cases hs:(F9 (D.agg [D.str y.name,D.str mth]).lits m 0).isSome=true
   .have ht:Xs m j y=m:=by simp only[Xs,a2];exact A8 hs
    rw[hs];refine sR Kh ?_;refine A0.ff rfl (A0.kk ?_);simp only[A4,Ac];exact Z _ _ m sS (by simp[ble,A7,Aj]) hm ht.symm
   .have ht:Xs m j y=Wf (Hg y.name mth) (.int .i64 j) m:=by simp only[Xs,a2];exact A6 hs
    rw[As6]at hs;rw[hs];refine sR Kh ?_;refine A0.tt rfl ?_
    (refine lG Kh [] 6 [] λK E=>?_;refine ev ?_)
    refine⟨hm,U,?_⟩
    (apply E;clear E K;try simp only[A4,Ac])
    exact Z _ _ _ sS (by simp[ble,A7,Aj];rfl) (E0f hm U) ht.symm
  refine sR Kh<|A0.bb<|sK λK4 J=>?_;by_cases L:y.kind=1
  .refine Ak L Kh ?_;refine A0.tt rfl (A0.kk (J _ _ ?_));clear J K4;refine A0.tt rfl (A0.kk ?_);simp only[A4,Ac];exact W _ _ [] sS (by simp[ble,A7,Aj]) (by simp[M6,L]) (by simp)
  .by_cases a0:y.kind=2
   .refine Ak L Kh ?_;refine A0.ff rfl ?_
    (refine lQ Kh λK E=>?_;refine Ap a0 ?_)
    (apply E;clear E K;try simp only[A4,])
    refine J _ _ ?_;clear J K4;refine A0.tt rfl (A0.kk ?_);simp only[A4,Ac];exact W _ _ [] sS (by simp[ble,A7,Aj]) (by simp[M6,a0]) (by simp)
   .refine Ak L Kh ?_;refine A0.ff rfl ?_
    (refine lQ Kh λK E=>?_;refine Ap a0 ?_)
    (apply E;clear E K;try simp only[A4,])
    refine J _ _ ?_;clear J K4;refine A0.ff rfl ?_;by_cases a1:y.kind=3
    .refine Ak a1 Kh ?_;refine A0.tt rfl ?_;have ab:=(h.decls.2 y a3).sig.name;have a':(ByteArray.mk #[46]).size<=lim:=by decide
     (refine lQ Kh λK E=>?_;refine ev ?_)
     refine⟨by unfold sm lim at*;first|omega| (simp;omega),?_⟩
     (apply E;clear E K;try simp only[A4,Ac])
     exact W _ _ (46::y.sig.name) sS (by simp[ble,A7,Aj]) (by simp[M6,a1]) (by simp only[Bg];unfold sm lim at*;omega)
    .refine Ak a1 Kh ?_;refine A0.ff rfl (A0.xx ?_);simp only[A4,Ac];rw[A6 (by decide)];exact Z _ _ m sS (by simp[ble,A7,Aj]) hm (by simp[Xs,M6,L,a0,a1])
 .refine Ak a6 Kh ?_;refine sK λK2 I=>A0.ff rfl (A0.xx ?_);simp only[A4,Ac,Af];rw[Ib (by omega),A0f]at V;exact a8 _ _ sS (by rw[<-V];exact(by simp[ble,A7,Aj]))
def P6(l:List Lit)(m:List (D × D)):Option D:=(F9 l m 0).map (·.2)
def C8i(l:List Lit):∀(m:List (D × D))(i:Nat),(F9 l m i).map (·.2)=P6 l m
 |[],i=>rfl
 |kv::r,i=>by
  unfold P6;simp only[F9];split
  .rfl
  .rw[C8i l r (i+1),C8i l r (0+1)]
def C5o(l:List Lit)(k v:D)(m:List (D × D)):P6 l ((k,v)::m)=if l=k.lits then some v else P6 l m:=by
 unfold P6;simp only[F9];split
 .rfl
 .exact C8i l m 1
def D1g(l:List Lit)(k v:D):∀m:List (D × D),P6 l (m++[(k,v)])=match P6 l m with|some x=>some x|none=>if l=k.lits then some v else none
 |[]=>by rw[Vi,C5o];rfl
 |(I,E)::m=>by rw[Jq,C5o,C5o,D1g l k v m];split <;> rfl
def V3(l:List Lit):List Decl->Nat->Option D
 |[],_=>none
 |d::ds,i=>match M6 d with
  |some k=>if l=k.lits then some (.int .i64 i)else V3 l ds (i+1)
  |none=>V3 l ds (i+1)
def C7i(l:List Lit):∀(ds:List Decl)(i:Nat)(m:List (D × D)),P6 l (A0f ds i m)=match P6 l m with|some x=>some x|none=>V3 l ds i
 |[],i,m=>by simp only[A0f,V3];cases P6 l m <;> rfl
 |d::ds,i,m=>by
  simp only[A0f,V3];rw[C7i l ds (i+1)];unfold Xs;cases O:M6 d with
  |none=>rfl
  |some k =>
   simp only;by_cases hs:(F9 k.lits m 0).isSome=true
   .rw[A8 hs];cases J:P6 l m with
    |some x=>rfl
    |none =>simp only;rw[A6];rintro rfl;unfold P6 at J;cases I:F9 k.lits m 0 <;> simp[I]at hs J
   .rw[A6 hs];have L:F9 k.lits m 0=none:=by cases I:F9 k.lits m 0 <;> simp[I]at hs |-
    unfold Wf;rw[L];simp only;rw[D1g];cases J:P6 l m with
    |some x=>rfl
    |none =>
     simp only;by_cases E:l=k.lits
     .rw[A8 E,A8 E]
     .rw[A6 E,A6 E]
def A8u(p:Prog)(k:D):Option Decl:=p.decls.find? λd=>match M6 d with|some E=>decide (k.lits=E.lits)|none=>false
def E6i(l:List Lit):∀(ds:List Decl)(i:Nat),(V3 l ds i=none/\(ds.find? λd=>match M6 d with|some E=>decide (l=E.lits)|none=>false)=none) \/
  ∃j d,ds[j]?=some d/\V3 l ds i=some (.int .i64 ((i+j:Nat):Int))/\(ds.find? λd=>match M6 d with|some E=>decide (l=E.lits)|none=>false)=some d
 |[],i=>.inl ⟨rfl,rfl⟩
 |d::ds,i=>by
  simp only[V3,An2];have U:=E6i l ds (i+1);cases W:M6 d with
  |none =>
   simp only;rcases U with h|⟨j,I,J,L,O⟩
   .exact .inl h
   .exact .inr ⟨j+1,I,by simpa using J,by rw[L];congr 3;omega,O⟩
  |some k =>
   simp only;by_cases V:l=k.lits
   .simp only[V,Af,Va];exact .inr ⟨0,d,rfl,by simp,rfl⟩
   .simp only[V,Fx,Ar1];rcases U with h|⟨j,I,J,L,O⟩
    .exact .inl h
    .exact .inr ⟨j+1,I,by simpa using J,by rw[L];congr 3;omega,O⟩
instance:Inhabited Prog:=⟨⟨[],default⟩⟩
def D3a(p:Prog)(h:p.Sm):∀kv,kv∈Qo p->E7 prog 148 kv.1:=by
 have go:∀(ds:List Decl) (i:Nat) (m:List (D × D)),(∀d,d∈ds->d.Sm)->(∀kv,kv∈m->E7 prog 148 kv.1)->∀kv,kv∈A0f ds i m->E7 prog 148 kv.1:=by
  intro ds
  induction ds with
  |nil=>intro i m _ h;exact h
  |cons d ds O =>
   intro i m hd J;refine O (i+1) _ (λx L=>hd x (by simp[L])) ?_;have I:=hd d (by simp);unfold Xs;cases E:M6 d with
   |none=>exact J
   |some k =>
    simp only;split
    .exact J
    .refine E0f J ?_;unfold M6 at E;have U:=I.name;have V:=I.sig.name;split at E
     .simp only[B5]at E;subst E;exact B3s B3p _ _ (by unfold sm lim at*;omega) (by simp)
     .split at E
      .simp only[B5]at E;subst E;exact B3s B3p _ _ (by unfold sm lim at*;omega) (by simp only[Bg];unfold sm lim at*;omega)
      .simp at E
 exact go p.decls 0 [] h.decls.2 (by simp)
abbrev q2p:List Nat:=[0,1,3,4,5,6,7,9,21]
def C3s(p:Prog)(h:p.Sm)(a b:A2):Aa prog 253 [.A9 (Dh p) 0,.agg [.d (.str a),.d (.str b)]]
  (.tuple [Ia ((A8u p (Hg a b)).getD default),Aw (A8u p (Hg a b)).isSome]):=by
 refine C8.bd (Enters.of func253 rfl (by decide)) λW=>?_;have I:=W.2.1;simp only[SV.bd,SV.T1]at I;have hk:=B3s B3p a b (U6 I.1) (U6 I.2.1);have E:P6 (Hg a b).lits (Qo p)=V3 (Hg a b).lits p.decls 0:=by unfold Qo;rw[C7i];rfl
 unfold P6 at E;refine cB func253 ?_;refine sR q2p ?_;refine kR q2p λZ J=>?_;refine A0.ff rfl (A0.kk (J _ _ ?_));clear J Z
 (refine sG q2p [] 10 [] λK L=>?_;simp -implicitDefEqProofs only[EV,Nat.reduceAdd,Nat.reduceEqDiff,reduceCtorEq,C2b,B1q,B7x,Dh])
 refine⟨D3a p h,hk,?_⟩
 (apply L;clear L K)
 refine sK λZ J=>?_;rcases E6i (Hg a b).lits p.decls 0 with⟨U,V⟩|⟨j,d,U,V,h3⟩
 .rw[U]at E;have hn:F9 (D.agg [D.str a,D.str b]).lits (Qo p) 0=none:=by simpa [Hg]using E
  have O:A8u p (Hg a b)=none:=V;rw[hn];refine sR q2p ?_;refine A0.tt rfl<|sR q2p ?_;rw[O];exact aR
 .rw[V]at E;obtain⟨q,hq⟩:∃q,F9 (D.agg [D.str a,D.str b]).lits (Qo p) 0=some (q,.int .i64 ((0+j:Nat):Int)):=by
   cases hf:F9 (D.agg [D.str a,D.str b]).lits (Qo p) 0 with
   |none=>rw[show(Hg a b).lits=(D.agg [D.str a,D.str b]).lits from rfl,hf]at E;simp at E
   |some qd =>rw[show(Hg a b).lits=(D.agg [D.str a,D.str b]).lits from rfl,hf]at E;obtain⟨q,d'⟩:=qd;simp only[Ez,B5]at E;exact⟨q,by rw[E]⟩
  have hl:U5 (D.agg [D.str a,D.str b]) (Qo p) (SV.d (D.int IntKind.i64 0))=A5 j:=by simp only[U5,hq,ofD,Ky]
  have O:A8u p (Hg a b)=some d:=h3;rw[hl,hq];refine sR q2p ?_;refine A0.ff rfl (A0.kk (J _ _ ?_));clear J Z
  (refine sQ q2p λK L=>?_;refine ev ?_)
  refine⟨by omega,Ar d,Dx U,rfl,?_⟩;refine ev ?_
  (apply L;clear L K)
  rw[O];exact aR
def C5j(p:Prog)(nm:A2):A8u p (Hg nm [])=p.decls.find? (λd=>d.Fv nm):=by
 unfold A8u
 congr 1
 funext d;unfold M6 Decl.Fv;by_cases h1:d.kind=1\/d.kind=2
 .rw[A8 h1];rcases h1 with h1|h1 <;> simp[h1,Hg,D.lits,D.lit,eq_comm]
 .rw[A6 h1];have E:¬d.kind=1:=λh=>h1 (.inl h);have I:¬d.kind=2:=λh=>h1 (.inr h);by_cases J:d.kind=3 <;> simp[E,I,J,Hg,D.lits,D.lit]
def E8c(p:Prog)(h:p.Sm)(nm:A2):Aa prog 210 [.A9 (Dh p) 0,Bm nm] (A5 (kindOf p nm)):=by
 have I:=C3s p h nm [];rw[C5j]at I;have J:kindOf p nm=((p.decls.find? λd=>d.Fv nm).getD default).kind:=by unfold kindOf;cases p.decls.find? (λd=>d.Fv nm) <;> rfl
 refine cB func210 ?_;refine sR [0,1,4,5] ?_
 (refine sQ [0,1,4,5] λK E=>?_;simp -implicitDefEqProofs only[EV,Nat.reduceAdd,Nat.reduceEqDiff,Nat.reduceLeDiff,reduceCtorEq,B7x])
 generalize(p.decls.find? λd=>d.Fv nm).getD default=d at*;refine⟨_,.inl ⟨_,rfl,I,rfl⟩,?_⟩;refine ev ?_
 (apply E;clear E K)
 refine sR [0,1,4,5] ?_;rw[J];exact aR
mutual
def Ty.names:Ty->List A2
 |.mk n a _=>n::Ty.Dw a
def Ty.Dw:List Ty->List A2
 |[]=>[]
 |t::E=>t.names++Ty.Dw E
end
def Ty.Xf(t:Ty):t.names=t.name::Ty.Dw t.args:=by cases t;rfl
def Ty.A8o:∀(a b:List Ty),Ty.Dw (a++b)=Ty.Dw a++Ty.Dw b
 |[],b=>rfl
 |t::E,b=>by simp only[Jq,Ty.Dw,Ty.A8o E b,Ga]
mutual
theorem Ty.D1d:∀(t:Ty)(k:Int),t.count k<=2000->k+t.names.length<=t.count k
 |.mk n a p,k,h=>by
  simp only[Ty.count]at h |-;have:=Ty.D4j a _ h
  grind[Ty.names]
theorem Ty.D4j:∀(l:List Ty)(k:Int),Ty.Ce l k<=2000->k+(Ty.Dw l).length<=Ty.Ce l k
 |[],k,_=>by simp[Ty.Ce,Ty.Dw]
 |t::I,k,h=>by
  simp only[Ty.Ce]at h |-;split at h
  .rename_i E;rw[A8 E];have L:=Ty.D4j I _ h;have J:=Ty.D1d t k (by omega)
   grind[Ty.Dw]
  .omega
end
def Ty.Nn(t:Ty):Prop:=t.names.length<=2000
theorem Ty.Nw{t:Ty}{k:Int}(E:0<=k)(h:t.count k<=2000):t.Nn:=by have:=Ty.D1d t k h;unfold Ty.Nn;omega
def Ty.B5b:∀{l:List Ty} {k:Int},0<=k->Ty.Ce l k<=2000->∀t,t∈l->t.Nn
 |[],_,_,_=>by simp
 |x::l,k,I,h=>by
  simp only[Ty.Ce]at h;split at h
  .have J:=Ty.F6 x k;have E:=Ty.Kr l (x.count k);intro t ht;simp at ht;rcases ht with rfl|ht
   .grind[Ty.Nw]
   .exact Ty.B5b (by omega) h t ht
  .omega
inductive Ex.Nn:Ex->Prop where
 |mk (k:Int) (n:A2) (t:Ty) (a:List Ty) (ks:List Ex) (p:Int):t.Nn->(∀t,t∈a->t.Nn)->(∀e,e∈ks->Ex.Nn e)->Ex.Nn (.mk k n t a ks p)
def Ex.Nn.type{e:Ex}(h:e.Nn):e.type.Nn:=by cases h;assumption
def Ex.Nn.targs{e:Ex}(h:e.Nn):∀t,t∈e.targs->t.Nn:=by cases h;assumption
def Ex.Nn.kids{e:Ex}(h:e.Nn):∀t,t∈e.kids->t.Nn:=by cases h;assumption
mutual
theorem Ex.Nw:∀(t:Ex)(k:Int),0<=k->t.count k<=2000->t.Nn
 |.mk U n t a ks p,k,E,h=>by simp only[Ex.count]at h;have J:=Ty.F6 t (k+((n.length / 50:Nat):Int));have L:=Ty.Kr a (t.count (k+((n.length / 50:Nat):Int)));have O:=Ex.Kr ks (Ty.Ce a (t.count (k+((n.length / 50:Nat):Int))));exact .mk U n t a ks p (Ty.Nw (k:=k+((n.length / 50:Nat):Int)) (by omega) (by omega)) (Ty.B5b (k:=t.count (k+((n.length / 50:Nat):Int))) (by omega) (by omega)) (Ex.B5b ks _ (by omega) h)
theorem Ex.B5b:∀(l:List Ex)(k:Int),0<=k->Ex.Ce l k<=2000->∀t,t∈l->t.Nn
 |[],k,E,h=>by simp
 |t::I,k,E,h=>by
  simp only[Ex.Ce]at h;split at h
  .have J:=Ex.F6 t k;have V:=Ex.Kr I (t.count k);have L:=Ex.B5b I (t.count k) (by omega) h;have O:=Ex.Nw t k E (by omega)
   grind
  .omega
end
structure A3.Nn(s:A3):Prop where
 B6n:s.A1.length<=2000
 A1:∀f,f∈s.A1->f.bound.Nn
 params:∀f,f∈s.params->f.type.Nn
 result:s.result.Nn
structure Decl.Nn(d:Decl):Prop where
 B6n:d.A1.length<=2000
 G1i:d.vars.length<=2000
 A1:∀f,f∈d.A1->f.bound.Nn
 fields:∀f,f∈d.fields->f.type.Nn
 sigs:∀s,s∈d.sigs->s.Nn
 sig:d.sig.Nn
 body:d.body.Nn
structure Prog.Nn(p:Prog):Prop where
 decls:∀d,d∈p.decls->d.Nn
 main:p.main.Nn
def A5f:Nj C5 (λf=>f.bound.Nn):=Mw C5 (λf n=>f.bound.count (n+1+((f.name.length / 50:Nat):Int))) (λf=>f.bound.Nn) (λ_=>rfl) (λ_ _ _=>rfl)
 (λx k=>by have:=Ty.F6 x.bound (k+1+((x.name.length / 50:Nat):Int));omega)
 (λx k E h=>Ty.Nw (by omega) h)
def A4e:Nj D2 (λf=>f.type.Nn):=Mw D2 (λf n=>f.type.count (n+1+((f.name.length / 50:Nat):Int))) (λf=>f.type.Nn) (λ_=>rfl) (λ_ _ _=>rfl)
 (λx k=>by have:=Ty.F6 x.type (k+1+((x.name.length / 50:Nat):Int));omega)
 (λx k E h=>Ty.Nw (by omega) h)
theorem A3.Nw(s:A3)(n:Int)(V:0<=n)(h:s.count n<=2000):s.Nn:=by unfold A3.count at h;obtain⟨O,E⟩:=A5f s.A1 (n+((s.name.length / 50:Nat):Int));obtain⟨U,I⟩:=A4e s.params (C5 s.A1 (n+((s.name.length / 50:Nat):Int)));have L:=Ty.F6 s.result (D2 s.params (C5 s.A1 (n+((s.name.length / 50:Nat):Int))));have J:=(E (by omega) (by omega)).1;exact⟨by omega,(E (by omega) (by omega)).2,(I (by omega) (by omega)).2,Ty.Nw (by omega) h⟩
def E6t:Nj En A3.Nn:=Mw En A3.count A3.Nn (λ_=>rfl) (λ_ _ _=>rfl) (λx k=>(A3.Gt x k).1) (λx k E h=>A3.Nw x k E h)
theorem Decl.Nw(d:Decl)(n:Int)(h0:0<=n)(h:d.count n<=2000):d.Nn:=by
 unfold Decl.count at h;generalize U:n+1+((d.name.length / 50:Nat):Int)+((d.recv.length / 50:Nat):Int)=m at h;obtain⟨Z,E⟩:=A5f d.A1 m;obtain⟨b1,I⟩:=A4e d.fields (C5 d.A1 m);obtain⟨V,L⟩:=E6t d.sigs (D2 d.fields (C5 d.A1 m));obtain⟨e1,J⟩:=A2z d.vars (En d.sigs (D2 d.fields (C5 d.A1 m)));generalize hz:Ix d.vars (En d.sigs (D2 d.fields (C5 d.A1 m)))=z at*;unfold Decl.S6 at h;obtain⟨f1,_⟩:=A3.Gt d.sig z;have W:=Ex.F6 d.body (d.sig.count z);split at h
 .have O:=(E (by omega) (by omega)).1;have e3:=(J (by omega) (by omega)).1;exact⟨by omega,by omega,(E (by omega) (by omega)).2,(I (by omega) (by omega)).2,(L (by omega) (by omega)).2,A3.Nw d.sig z (by omega) (by omega),Ex.Nw d.body (d.sig.count z) (by omega) h⟩
 .omega
def E9j:Nj J3 Decl.Nn:=Mw J3 Decl.count Decl.Nn (λ_=>rfl) (λ_ _ _=>rfl) (λx k=>(Decl.Gt x k).1) (λx k E h=>Decl.Nw x k E h)
theorem Prog.Nw(p:Prog)(h:p.count<=600):p.Nn:=by unfold Prog.count at h;have J:=Ex.F6 p.main 0;obtain⟨I,E⟩:=E9j p.decls (p.main.count 0);exact⟨(E (by omega) (by omega)).2,Ex.Nw p.main 0 (by omega) (by omega)⟩
def letter(n:Int):Prop:=(97<=n/\n<=122)\/(65<=n/\n<=90)
instance (n:Int):Decidable (letter n):=by unfold letter;infer_instance
def blank(n:Int):Prop:=n=9\/n=10\/n=13\/n=32
instance (n:Int):Decidable (blank n):=by unfold blank;infer_instance
def cls(n:Int):Int:=if letter n then 1 else if 48<=n/\n<=57 then 2 else if n=95 then 3 else if blank n then 4 else 0
abbrev J8:List Nat:=[0,2,16,22,24,38]
def C8e(n:Int):Aa prog 89 [.d (.int .u8 n)] (A5 (cls n)):=by
 refine cB func89 ?_;refine sR J8<|sK λU E=>?_;have r1:∀sl bx,sle sl [(0,.d (.int .u8 n))]->¬letter n->U sl bx:=by
  intro sl bx V n1;refine E _ _ (A0.ww (bx':=[]) V trivial ?_);clear E U;refine sK λU E=>?_;have r2:∀sl bx,sle sl [(0,.d (.int .u8 n))]->¬(48<=n/\n<=57)->U sl bx:=by
   intro sl bx V n2;refine E _ _ (A0.ww (bx':=[]) V trivial ?_);clear E U;refine sK λU E=>?_;by_cases Z:n=95
   .have W:cls n=3:=by unfold cls;rw[A6 n1,A6 n2,A8 Z]
    rw[W];refine Ak Z J8 ?_;refine tI ?_;refine sR J8 ?_;exact aR
   refine Ak Z J8 ?_;refine A0.ff rfl (A0.kk (E _ _ ?_));clear E U;have hb:cls n=if blank n then 4 else 0:=by unfold cls;rw[A6 n1,A6 n2,A6 Z]
   rw[hb];refine sK λU E=>?_;by_cases I:n=9
   .rw[A8 (show blank n from .inl I)];refine Ak I J8 ?_;refine tI ?_;refine sR J8 ?_;exact aR
   by_cases J:n=10
   .rw[A8 (show blank n from .inr (.inl J))];refine Ak J J8 ?_;refine tI ?_;refine sR J8 ?_;exact aR
   by_cases L:n=13
   .rw[A8 (show blank n from .inr (.inr (.inl L)))];refine Ak L J8 ?_;refine tI ?_;refine sR J8 ?_;exact aR
   by_cases O:n=32
   .rw[A8 (show blank n from .inr (.inr (.inr O)))];refine Ak O J8 ?_;refine tI ?_;refine sR J8 ?_;exact aR
   rw[A6 (show ¬blank n from λh=>by unfold blank at h;omega)]at E |-;refine sR4 I J L O J8 ?_;refine kI E ?_;refine sR J8 ?_;exact aR
  by_cases I:48<=n
  .by_cases J:n<=57
   .have W:cls n=2:=by unfold cls;rw[A6 n1,A8 ⟨I,J⟩]
    rw[W];refine Ei I J J8 ?_;refine tI ?_;refine sR J8 ?_;exact aR
   .refine Ei I J J8 ?_;exact A0.ff rfl (A0.kk (r2 _ _ sS (λh=>J h.2)))
  .refine Ak I J8 ?_;exact A0.ff rfl (A0.kk (r2 _ _ sS (λh=>I h.1)))
 by_cases I:97<=n
 .by_cases J:n<=122
  .have W:cls n=1:=by unfold cls;rw[A8 (show letter n from .inl ⟨I,J⟩)]
   rw[W];refine Ei I J J8 ?_;refine tI ?_;refine sR J8 ?_;exact aR
  .have L:65<=n:=by omega
   have O:¬n<=90:=by omega
   refine sR4 I J L O J8 ?_;exact A0.ff rfl (A0.kk (r1 _ _ sS (λh=>by unfold letter at h;omega)))
 .by_cases L:65<=n
  .by_cases O:n<=90
   .have W:cls n=1:=by unfold cls;rw[A8 (show letter n from .inr ⟨L,O⟩)]
    rw[W];refine sR3 I L O J8 ?_;refine tI ?_;refine sR J8 ?_;exact aR
   .refine sR3 I L O J8 ?_;exact A0.ff rfl (A0.kk (r1 _ _ sS (λh=>by unfold letter at h;omega)))
  .refine Ei I L J8 ?_;exact A0.ff rfl (A0.kk (r1 _ _ sS (λh=>by unfold letter at h;omega)))
def A7y(s:A2):Bool:=decide (s=[112,97,99,107,97,103,101]\/s=[109,97,105,110]\/s=[116,121,112,101]\/s=[115,116,114,117,99,116]\/s=[105,110,116,101,114,102,97,99,101]\/s=[102,117,110,99]\/s=[114,101,116,117,114,110])
abbrev T8:List Nat:=[0,2,16]
def F7j(s:A2):Aa prog 184 [Bm s] (Aw (A7y s)):=by
 unfold A7y;refine cB func184 ?_;refine sR T8<|sK λK1 J=>?_;by_cases W:s=[112,97,99,107,97,103,101]
 .have E:decide (s=[112,97,99,107,97,103,101])=true:=Bj W;rw[Bj (.inl W)];refine Ak E T8 ?_;refine tI ?_;refine sR T8 ?_;exact aR
 have E:decide (s=[112,97,99,107,97,103,101])=false:=C9 W;by_cases a2:s=[109,97,105,110]
 .have I:decide (s=[109,97,105,110])=true:=Bj a2;rw[Bj (.inr (.inl a2))];refine Ei E I T8 ?_;refine tI ?_;refine sR T8 ?_;exact aR
 have I:decide (s=[109,97,105,110])=false:=C9 a2;by_cases L:s=[116,121,112,101]
 .have O:decide (s=[116,121,112,101])=true:=Bj L;rw[Bj (.inr (.inr (.inl L)))];refine sR3 E I O T8 ?_;refine tI ?_;refine sR T8 ?_;exact aR
 have O:decide (s=[116,121,112,101])=false:=C9 L;by_cases Z:s=[115,116,114,117,99,116]
 .have b4:decide (s=[115,116,114,117,99,116])=true:=Bj Z;rw[Bj (.inr (.inr (.inr (.inl Z))))];refine sR4 E I O b4 T8 ?_;refine tI ?_;refine sR T8 ?_;exact aR
 have b4:decide (s=[115,116,114,117,99,116])=false:=C9 Z;refine sR4 E I O b4 T8 ?_;refine kI J ?_;clear J K1;by_cases U:s=[105,110,116,101,114,102,97,99,101]
 .have V:decide (s=[105,110,116,101,114,102,97,99,101])=true:=Bj U;rw[Bj (.inr (.inr (.inr (.inr (.inl U)))))];refine Ak V T8 ?_;exact aR
 have V:decide (s=[105,110,116,101,114,102,97,99,101])=false:=C9 U;by_cases a6:s=[102,117,110,99]
 .have b6:decide (s=[102,117,110,99])=true:=Bj a6;rw[Bj (.inr (.inr (.inr (.inr (.inr (.inl a6))))))];refine Ei V b6 T8 ?_;exact aR
 have b6:decide (s=[102,117,110,99])=false:=C9 a6;have e:decide (s=[112,97,99,107,97,103,101]\/s=[109,97,105,110]\/s=[116,121,112,101]\/s=[115,116,114,117,99,116]\/s=[105,110,116,101,114,102,97,99,101]\/s=[102,117,110,99]\/s=[114,101,116,117,114,110])=decide (s=[114,101,116,117,114,110]):=by simp[W,a2,L,Z,U,a6]
 rw[e];refine Ei V b6 T8 ?_;exact aR
def I3(c:UInt8):Bool:=!(decide (cls c.toNat=0) ||decide (cls c.toNat=4))
def isName(s:A2):Bool:=match s with
 |[]=>false
 |c::_=>decide (cls c.toNat=1) && s.all I3 && !A7y s
abbrev Nz:List Nat:=[0,2,3,4,13,17,29]
def X3(s:A2):Aa prog 117 [Bm s] (Aw (isName s)):=by
 have a1:=F7j s;refine C8.bd (Enters.of func117 rfl (by decide)) λU=>?_;have a6:s.length<=lim:=by have:=U.1;simp only[SV.bd]at this;cases this;assumption
 clear U;refine cB func117 ?_;refine sR Nz ?_;cases s with
 |nil =>refine sK λK1 E=>?_;have a3:((0:Nat):Int)=0:=rfl;refine Ak a3 Nz ?_;refine tI ?_;refine sR Nz ?_;exact aR
 |cons c cs =>
  have J:¬(((c::cs).length:Int)=0):=by simp only[Bg];omega
  have h0:(c::cs)[0]?=some c:=rfl;have hn:isName (c::cs)=(decide (cls c.toNat=1) && (c::cs).all I3 && !A7y (c::cs)):=rfl;rw[hn];clear hn;have V:=C8e c.toNat;generalize c::cs=s at*;refine sK λK1 E=>?_;by_cases O:cls c.toNat=1
  ·(refine sQ Nz λK z=>?_;refine Ap J ?_;refine⟨c,h0,?_⟩;(try refine Fm J O ?_);refine⟨_,.inl ⟨_,rfl,V,rfl⟩,?_⟩;(try refine Ap O ?_);apply z;clear z K)
   refine kI E ?_;clear E K1;rw[Bj O,Cj];refine kR Nz λK1 E=>?_;refine A0.bb (A0.ii s (X:=Unit) (λj _=>[(0,Bm s),(3,A5 j)]) (λ_ _=>[])
    (λj _=>(s.drop j).all I3=s.all I3) () rfl sS sB ?_ ?_)
   .intro _ L;rw[Db,Ap8]at L;rw[<-L,Cj]at E |-;refine Ai B3 Nz λW I=>?_;refine A0.ss rfl ?_;simp only[A4,Ac,Af];refine E _ _<|sC a1 Nz ?_;exact aR
   .intro j _ d hd a5 dp tk a2 L;rw[dp,Qv]at L;refine Ai a2 Nz λW I=>?_;refine gI I ?_;clear I W;refine sK λW I=>A0.bb ?_
    (refine sV Nz λK z=>?_;refine⟨by omega,d,hd,?_⟩;(try refine ev ?_);refine cc (C8e d.toNat) ?_;apply z;clear z K)
    by_cases a0:cls d.toNat=0
    .rw[<-L];rw[show I3 d=false by simp[I3,a0],C3,C3];refine Ak a0 Nz ?_;refine A0.tt rfl<|sR Nz ?_;exact aR
    by_cases Z:cls d.toNat=4
    .rw[<-L];rw[show I3 d=false by simp[I3,Z],C3,C3];refine Ak Z Nz ?_;refine A0.tt rfl<|sR Nz ?_;exact aR
    rw[show I3 d=true by simp[I3,a0,Z],Cj]at L;refine Ei a0 Z Nz ?_;refine A0.ff rfl (A0.kk (I _ _ ?_));clear I W
    (refine lV Nz λK z=>?_;refine⟨by first| (unfold B4;omega)| (simp only[B4,lim]at*;omega),?_⟩;(try refine ev ?_);apply z;clear z K;try simp only[A4,])
    exact⟨(),L,sS,sB⟩
  ·(refine sQ Nz λK z=>?_;refine Ap J ?_;refine⟨c,h0,?_⟩;(try refine Fm J O ?_);refine⟨_,.inl ⟨_,rfl,V,rfl⟩,?_⟩;(try refine Ap O ?_);apply z;clear z K)
   refine tI ?_;refine sR Nz ?_;rw[C9 O,C3,C3];exact aR
def E2y:∀{l:List Ty} {t:Ty},t∈l->t.names.length<=(Ty.Dw l).length
 |[],_,h=>by simp at h
 |x::l,t,h=>by
  simp only[Ty.Dw,B6];simp only[B1]at h;rcases h with rfl|h
  .omega
  .have:=E2y h;omega
def D0v:∀l:List Ty,l.length<=(Ty.Dw l).length
 |[]=>by simp[Ty.Dw]
 |x::l=>by have:=D0v l;simp only[Ty.Dw,B6,Bg,Ty.Xf];omega
abbrev q4t:List Nat:=[0,1,2,3,4,7,12]
def G5y:∀t:Ty,t.names.length<=sm->Aa prog 189 [B7 t] (Cc t.names):=by
 intro t
 induction t using Ty.induct with|_ t W=>?_
 intro hs;rw[Ty.Xf,Bg]at hs;rw[Ty.Xf];refine cB func189 ?_;refine sR q4t ?_
 (refine A0.zz 1 rfl rfl (wk [(1,.A9 (Bo t) 0)] [] ?_))
 (refine A0.D7 q4t [7] (by decide +kernel) λK z=>?_;refine ev ?_;apply z;clear z K)
 refine kR q4t λK1 O=>?_;refine A0.bb (A0.ii t.args (X:=Unit) (λj _=>[(1,.A9 (Bo t) 0),(3,.acc 7),(4,A5 j)]) (λj _=>[(7,.rows 1 (Bq (t.name::Ty.Dw (t.args.take j))))])
  (λj _=>True) () trivial (by simp[sle,Ay,Ae,Bo]) (by simp[ble,A7,Bq,Ty.Dw]) ?_ ?_)
 .intro _ _;rw[Ci];refine Ai B3 q4t λJ E=>?_;refine A0.ss rfl ?_;simp only[A4,Ac,Af];refine O _ _<|sR q4t ?_;exact aR
 .intro j _ d hd I dp tk L hI;have Z:=E2y I;have V:=D0v t.args;rw[tk,Ty.A8o];have U:(Ty.Dw (t.args.take j)).length<=(Ty.Dw t.args).length:=by
   conv=>rhs;rw[<-Uz j t.args,Ty.A8o,B6]
   omega
  refine Ai L q4t λJ E=>?_;refine gI E ?_;clear E J;refine sK λJ E=>A0.bb ?_
  (refine lV q4t λK z=>?_;refine ci (Et hd) ?_;refine cc (W d I (by omega)) ?_;refine⟨A2e _,by unfold lim sm at*;omega,?_⟩;(try refine ev ?_);apply z;clear z K;try simp only[A4,Ac])
  refine E _ _ ?_;clear E J;refine lT q4t ?_;exact⟨(),trivial,(by simp[sle,Ay,Ae,Bo,]),by simp[ble,A7,Bq,Ty.Dw]⟩
def Ty.right(t:Ty):Bool:=t.names.all isName
abbrev Yy:List Nat:=[0,1,2,3,4,10,18]
def B4a(t:Ty)(h:t.Nn):Aa prog 123 [B7 t] (Aw t.right):=by
 have V:=G5y t (by unfold Ty.Nn at h;unfold sm;omega);have a0:t.names.length<=2000:=h;unfold Ty.right;generalize t.names=l at*;refine cB func123 ?_;refine sR Yy ?_;refine sC V Yy ?_;refine kR Yy λK1 L=>?_;refine A0.bb (A0.ii l (X:=Unit) (λj _=>[(3,Cc l),(4,A5 j)]) (λ_ _=>[])
  (λj _=>(l.drop j).all isName=l.all isName) () rfl sS sB ?_ ?_)
 .intro _ I;rw[Db,Ap8]at I;rw[<-I]at L |-;refine Ai B3 Yy λO E=>?_;refine A0.ss rfl ?_;simp only[A4,Ac,Af];refine L _ _<|sR Yy ?_;exact aR
 .intro j _ d hd W Z tk U I;rw[Z,Qv]at I;refine Ai U Yy λO E=>?_;refine gI E ?_;clear E O;refine sK λO E=>A0.bb ?_
  (refine sV Yy λK z=>?_;refine ci (Ko hd) ?_;refine cc (X3 d) ?_;apply z;clear z K)
  refine A0.cond rfl (λJ=>?_) (λJ=>?_)
  .refine sR Yy ?_;simp only[Js]at J;rw[J,C3]at I;rw[<-I];exact aR
  simp only[S7]at J;rw[J,Cj]at I;refine A0.kk (E _ _ ?_);clear E O
  (refine lV Yy λK z=>?_;refine cl ?_;apply z;clear z K;try simp only[A4,])
  exact⟨(),I,sS,sB⟩
def C4b(e:Ex):Prop:=(e.kind=1->e.kids=[])/\(e.kind=4\/e.kind=5->e.kids.length=1)
mutual
def Ex.One:Ex->Prop
 |.mk k n t a ks q=>C4b (.mk k n t a ks q)/\Ex.A1a ks
def Ex.A1a:List Ex->Prop
 |[]=>True
 |e::es=>e.One/\Ex.A1a es
end
def E3h:∀{l:List Ex},Ex.A1a l->∀e,e∈l->e.One
 |[],_=>by simp
 |x::l,h=>by
  rw[Ex.A1a]at h;intro e he;simp only[B1]at he;rcases he with rfl|he
  .exact h.1
  .exact E3h h.2 e he
def Ex.One.out{e:Ex}(h:e.One):C4b e/\∀x,x∈e.kids->x.One:=by cases e with|mk k n t a ks q=>rw[Ex.One]at h;exact⟨h.1,E3h h.2⟩
def Ex.typed(e:Ex):Bool:=decide (e.kind=3) ||decide (e.kind=5)
def Ex.Lb(e:Ex):Bool:=if e.kind=1 then decide ((e.kids.length:Int)=0)else if e.kind=2 then decide ((e.kids.length:Int) >= 1)else if e.kind=3 then true else if e.kind=4\/e.kind=5 then decide ((e.kids.length:Int)=1)else false
def Ex.Ry(e:Ex):Bool:=if e.typed=true then e.type.right && decide (e.name=[]) && e.Lb else !e.type.right && decide (e.type.name=[]) && decide (e.type.args.length=0) && isName e.name && e.Lb
def Ex.B3v(e:Ex):Bool:=e.targs.all λt=>decide (e.kind=2) && t.right
mutual
def Ex.right:Ex->Bool
 |.mk k n t a ks q=>Ex.W8 ks && (Ex.B3v (.mk k n t a ks q) && Ex.Ry (.mk k n t a ks q))
def Ex.W8:List Ex->Bool
 |[]=>true
 |e::es=>e.right && Ex.W8 es
end
def Ex.A2g(e:Ex):e.right=(Ex.W8 e.kids && (e.B3v && e.Ry)):=by cases e with|mk k n t a ks q=>rw[Ex.right];rfl
def A7a:∀{l:List Ex},Ex.W8 l=true->∀e,e∈l->e.right=true
 |[],_=>by simp
 |x::l,h=>by
  rw[Ex.W8,Bb]at h;intro e he;simp only[B1]at he;rcases he with rfl|he
  .exact h.1
  .exact A7a h.2 e he
theorem Ex.D8c:∀e:Ex,e.right=true->e.One:=by
 intro e
 induction e using Ex.induct with|_ e V=>?_
 intro h;rw[Ex.A2g,Bb,Bb]at h;have I:e.Lb=true:=by have:=h.2.2;unfold Ex.Ry at this;split at this <;> (simp only[Bb]at this;exact this.2)
 have hL:∀l:List Ex,(∀x,x∈l->x.One)->Ex.A1a l:=by
  intro l
  induction l with
  |nil=>intro _;trivial
  |cons x l L=>intro E;rw[Ex.A1a];exact⟨E x (by simp),L λy Z=>E y (by simp[Z])⟩
 have J:=hL e.kids λx E=>V x E (A7a h.1 x E);cases e with|mk k n t a ks q =>
 rw[Ex.One];refine⟨⟨λU=>?_,λO=>?_⟩,J⟩
 .unfold Ex.Lb at I;rw[A8 U,Dp]at I;exact Zp (by omega)
 .unfold Ex.Lb at I;rw[A6 (by omega),A6 (by omega)]at I;by_cases W:(Ex.mk k n t a ks q).kind=3
  .omega
  .rw[A6 W,A8 O,Dp]at I;omega
abbrev Dy:List Nat:=[0,1,2,3,4,5,10,19,24,38,68,84,86,87,93,99,101]
set_option maxHeartbeats 4000000 in
def E0g:∀e:Ex,e.Nn->Aa prog 50 [D3 e] (Aw e.right):=by
 intro e
 induction e using Ex.induct with|_ e ih=>?_
 intro hn;rw[Ex.A2g];have L:=B4a e.type hn.type;have a0:=X3 e.name;refine C8.bd (Enters.of func50 rfl (by decide)) λa3=>?_;have a1:=C1w a3.1;have a7:=a1.kids.1;have a6:=a1.targs.1;clear a3 a1;refine cB func50 ?_;refine sR Dy ?_
 (refine A0.zz 1 rfl rfl (wk [(1,.A9 (Cg e) 0)] [] ?_))
 refine kR Dy λW I=>?_;refine A0.bb (A0.ii e.kids (X:=Unit) (λj _=>[(1,.A9 (Cg e) 0),(3,A5 j)]) (λ_ _=>[])
  (λj _=>Ex.W8 (e.kids.drop j)=Ex.W8 e.kids) () rfl (by simp[sle,Ay,Ae,Cg,]) sB ?_ ?_)
 .intro _ J;rw[Db,Ex.W8]at J;rw[<-J,Cj]at I |-;clear J;refine Ai B3 Dy λZ E=>?_;refine A0.ss rfl ?_;simp only[A4,Ac,Af];refine I _ _ ?_;clear E Z I W;refine kR Dy λW I=>?_;refine A0.bb (A0.ii e.targs (X:=Unit) (λj _=>[(1,.A9 (Cg e) 0),(4,A5 j)]) (λ_ _=>[])
   (λj _=>((e.targs.drop j).all λt=>decide (e.kind=2) && t.right)=e.B3v) () rfl (by simp[sle,Ay,Ae,Cg,]) sB ?_ ?_)
  .intro _ J;rw[Db,Ap8]at J;rw[<-J,Cj]at I |-;clear J;refine Ai B3 Dy λZ E=>?_;refine A0.ss rfl ?_;simp only[A4,Ac,Af];refine I _ _ ?_;clear E Z I W;refine sK λW I=>?_;have rest:∀sl bx,sle sl [(1,.A9 (Cg e) 0),(5,Aw e.typed)]->W sl bx:=by
    intro sl bx U;refine I _ _ (A0.ww (bx':=[]) U trivial ?_);clear I W;refine sK λW I=>?_;have rest:∀sl bx,sle sl [(1,.A9 (Cg e) 0),(5,Aw e.typed)]->e.typed=e.type.right->(e.typed=false->e.type.name=[]/\e.type.args.length=0)->W sl bx:=by
     intro sl bx U h1 h2;refine I _ _ (A0.ww (bx':=[]) U trivial ?_);clear I W;have hr:e.Ry=(if e.typed=true then decide (e.name=[]) && e.Lb else isName e.name && e.Lb):=by
      unfold Ex.Ry;rcases Eu e.typed with ht|ht
      .rw[A8 ht,A8 ht,<-h1,ht,Cj]
      .rw[A6 (by simp[ht]),A6 (by simp[ht]),<-h1,ht,(h2 ht).1,(h2 ht).2];simp
     rw[hr];clear hr h1 h2;refine sK λW I=>?_;have rest:∀sl bx,sle sl [(1,.A9 (Cg e) 0)]->(∀b,(if e.typed=true then decide (e.name=[]) && b else isName e.name && b)=b)->W sl bx:=by
      intro sl bx U h1;rw[h1]at*;refine I _ _ (A0.ww (bx':=[]) U trivial ?_);clear I W;refine kR Dy λW I=>?_;unfold Ex.Lb;refine A0.bb ?_;by_cases k1:e.kind=1
      .rw[A8 k1];refine Ak k1 Dy ?_;refine A0.tt rfl<|sR Dy ?_;exact aR
      rw[A6 k1];refine Ak k1 Dy ?_;refine A0.ff rfl ?_;by_cases k2:e.kind=2
      .rw[A8 k2];refine Ak k2 Dy ?_;refine A0.tt rfl<|sR Dy ?_;exact aR
      rw[A6 k2];refine Ak k2 Dy ?_;refine A0.ff rfl ?_;by_cases k3:e.kind=3
      .rw[A8 k3];refine Ak k3 Dy ?_;refine A0.tt rfl<|sR Dy ?_;exact aR
      rw[A6 k3];refine Ak k3 Dy ?_;refine A0.ff rfl<|sK λZ E=>?_;by_cases k4:e.kind=4
      .rw[A8 (.inl k4)]at E |-;refine Ak k4 Dy ?_;refine A0.tt rfl (A0.kk (E _ _ ?_));refine A0.tt rfl<|sR Dy ?_;exact aR
      by_cases k5:e.kind=5
      .rw[A8 (.inr k5)]at E |-;refine Ak k4 Dy ?_;refine A0.ff rfl ?_
       (refine lQ Dy λK z=>?_;refine Ap k5 ?_;apply z;clear z K;try simp only[A4,])
       refine E _ _<|A0.tt rfl<|sR Dy ?_;exact aR
      have a5:e.Lb=false:=by unfold Ex.Lb;rw[A6 k1,A6 k2,A6 k3,A6 (by omega)]
      refine Ak k4 Dy ?_;refine A0.ff rfl ?_
      (refine lQ Dy λK z=>?_;refine Ap k5 ?_;apply z;clear z K;try simp only[A4,])
      refine E _ _<|A0.ff rfl (A0.kk ?_);simp only[A4,Ac];refine I _ _<|sR Dy ?_;rw[a5];exact aR
     rcases Eu e.typed with ht|ht
     .rw[ht]at U |-;rw[A8 rfl]at*;by_cases O:e.name=[]
      .have bn:decide (e.name=[])=true:=Bj O
       (refine sQ Dy λK z=>?_;simp -implicitDefEqProofs only[EV,Nat.reduceEqDiff,Nat.reduceLeDiff,reduceCtorEq,Ka,Iv,M5,bn];apply z;clear z K)
       exact A0.ff rfl (A0.kk (rest _ _ (by simp[sle,Ay,Ae,Cg,]) (λb=>by rw[A8 ht,Bj O,Cj])))
      .have bn:decide (e.name=[])=false:=C9 O
       (refine sQ Dy λK z=>?_;simp -implicitDefEqProofs only[EV,Nat.reduceEqDiff,Nat.reduceLeDiff,reduceCtorEq,Ka,Iv,M5,bn];apply z;clear z K)
       refine tI ?_;refine sR Dy ?_;rw[C9 O,C3];exact aR
     .rw[ht]at U |-;rcases Eu (isName e.name)with hin|hin
      .rw[hin]at a0;refine sC a0 Dy ?_;exact A0.ff rfl (A0.kk (rest _ _ (by simp[sle,Ay,Ae,Cg,]) (λb=>by rw[A6 (by simp[ht]),hin,Cj])))
      .rw[hin]at a0;refine sC a0 Dy ?_;refine tI ?_;refine sR Dy ?_;rw[A6 (by simp),hin,C3];exact aR
    have hf:(e.typed≠e.type.right\/(e.typed=false/\¬(e.type.name=[]/\e.type.args.length=0)))->e.Ry=false:=by
     intro h;unfold Ex.Ry;rcases Eu e.typed with ht|ht
     .rcases Eu e.type.right with hr|hr
      .rw[ht,hr]at h;simp at h
      .rw[ht,hr];rfl
     .rcases Eu e.type.right with hr|hr
      .rw[ht,hr];rfl
      .rw[ht,hr]at h;simp at h;rw[ht,hr];simp;intro h1 h2;exact absurd h2 (h h1)
    have q1:(true ==true)=true:=rfl;have q2:(true ==false)=false:=rfl;have q3:(false ==true)=false:=rfl;have q4:(false ==false)=true:=rfl;rcases Eu e.typed with ht|ht
    .rcases Eu e.type.right with hr|hr
     .rw[hr]at L;rw[ht]
      (refine sV Dy λK z=>?_;refine⟨_,.inl ⟨_,rfl,L,rfl⟩,?_⟩;(try refine Ap q1 ?_);apply z;clear z K)
      exact A0.ff rfl (A0.kk (rest _ _ (by rw[ht];exact(by simp[sle,Ay,Ae,Cg,])) (by rw[ht,hr]) (by rw[ht];simp)))
     .rw[hr]at L;rw[hf (.inl (by rw[ht,hr];simp)),ht]
      (refine sV Dy λK z=>?_;refine⟨_,.inl ⟨_,rfl,L,rfl⟩,?_⟩;(try refine Ap q2 ?_);apply z;clear z K)
      refine tI ?_;refine sR Dy ?_;exact aR
    .rcases Eu e.type.right with hr|hr
     .rw[hr]at L;rw[hf (.inl (by rw[ht,hr];simp)),ht]
      (refine sV Dy λK z=>?_;refine⟨_,.inl ⟨_,rfl,L,rfl⟩,?_⟩;(try refine Ap q3 ?_);apply z;clear z K)
      refine tI ?_;refine sR Dy ?_;exact aR
     .rw[hr]at L;by_cases O:e.type.name=[]
      .have bn:decide (e.type.name=[])=true:=Bj O;by_cases a4:e.type.args.length=0
       .have hg:¬(0<(e.type.args.length:Int)):=by omega
        rw[ht]
        (refine sV Dy λK z=>?_;refine⟨_,.inl ⟨_,rfl,L,rfl⟩,?_⟩;(try simp -implicitDefEqProofs only[EV,Nat.reduceAdd,Nat.reduceEqDiff,Nat.reduceLeDiff,reduceCtorEq,TF4,Ka,M1,Iw,Iv,q4,M5,bn,hg]);apply z;clear z K)
        exact A0.ff rfl (A0.kk (rest _ _ (by rw[ht];exact(by simp[sle,Ay,Ae,Cg,])) (by rw[ht,hr]) (λ_=>⟨O,a4⟩)))
       .have hg:0<(e.type.args.length:Int):=by omega
        rw[hf (.inr ⟨ht,λh=>a4 h.2⟩),ht]
        (refine sV Dy λK z=>?_;refine⟨_,.inl ⟨_,rfl,L,rfl⟩,?_⟩;(try simp -implicitDefEqProofs only[EV,Nat.reduceAdd,Nat.reduceEqDiff,Nat.reduceLeDiff,reduceCtorEq,TF4,Ka,M1,Iw,Iv,q4,M5,bn,hg]);apply z;clear z K)
        refine tI ?_;refine sR Dy ?_;exact aR
      .have bn:decide (e.type.name=[])=false:=C9 O;rw[hf (.inr ⟨ht,λh=>O h.1⟩),ht]
       (refine sV Dy λK z=>?_;refine⟨_,.inl ⟨_,rfl,L,rfl⟩,?_⟩;(try simp -implicitDefEqProofs only[EV,Nat.reduceEqDiff,Nat.reduceLeDiff,reduceCtorEq,TF4,Ka,Iw,Iv,q4,M5,bn]);apply z;clear z K)
       refine tI ?_;refine sR Dy ?_;exact aR
   by_cases k3:e.kind=3
   .have ht:e.typed=true:=by unfold Ex.typed;rw[Bj k3];rfl
    have d3:=Bj k3
    (refine lQ Dy λK z=>?_;refine Ap d3 ?_;apply z;clear z K;try simp only[A4,])
    exact rest _ _ (by rw[ht];exact(by simp[sle,Ay,Ae,Cg,]))
   by_cases k5:e.kind=5
   .have ht:e.typed=true:=by unfold Ex.typed;rw[Bj k5,Bool.or_true]
    have d5:=Bj k5
    (refine lQ Dy λK z=>?_;refine Fm k3 d5 ?_;apply z;clear z K;try simp only[A4,])
    exact rest _ _ (by rw[ht];exact(by simp[sle,Ay,Ae,Cg,]))
   have ht:e.typed=false:=by unfold Ex.typed;rw[C9 k3,C9 k5];rfl
   (refine lQ Dy λK z=>?_;refine Fm k3 k5 ?_;apply z;clear z K;try simp only[A4,])
   exact rest _ _ (by rw[ht];exact(by simp[sle,Ay,Ae,Cg,]))
  .intro j _ d hd V dp tk a2 J;rw[dp,Qv]at J;refine Ai a2 Dy λZ E=>?_;refine gI E ?_;clear E Z;refine sK λZ E=>A0.bb ?_;by_cases k2:e.kind=2
   .rw[Bj k2,Cj]at J;have d2:=Bj k2
    (refine sQ Dy λK z=>?_;simp -implicitDefEqProofs only[EV,Nat.reduceEqDiff,reduceCtorEq,Ih,M1,Iw,Iv,M5,d2];refine ci (Et hd) ?_;refine cc (B4a d (hn.targs d V)) ?_;apply z;clear z K)
    refine A0.cond rfl (λhc=>?_) (λhc=>?_)
    .refine sR Dy ?_;simp only[Js]at hc;rw[hc,C3]at J;rw[<-J,C3];exact aR
    simp only[S7]at hc;rw[hc,Cj]at J;refine A0.kk (E _ _ ?_);clear E Z
    (refine lV Dy λK z=>?_;refine⟨by first| (unfold B4;omega)| (simp only[B4,lim]at*;omega),?_⟩;(try refine ev ?_);apply z;clear z K;try simp only[A4,])
    exact⟨(),by rw[Bj k2];exact J,(by simp[sle,Ay,Ae,Cg,]),sB⟩
   .rw[C9 k2,C3,C3]at J;rw[<-J,C3];refine Ak k2 Dy ?_;refine A0.tt rfl<|sR Dy ?_;exact aR
 .intro j _ d hd V dp tk a2 J;rw[dp,Ex.W8]at J;refine Ai a2 Dy λZ E=>?_;refine gI E ?_;clear E Z;refine sK λZ E=>A0.bb ?_
  (refine sV Dy λK z=>?_;refine ci (G8 hd) ?_;refine cc (ih d V (hn.kids d V)) ?_;apply z;clear z K)
  refine A0.cond rfl (λhc=>?_) (λhc=>?_)
  .refine sR Dy ?_;simp only[Js]at hc;rw[hc,C3]at J;rw[<-J,C3];exact aR
  simp only[S7]at hc;rw[hc,Cj]at J;refine A0.kk (E _ _ ?_);clear E Z
  (refine lV Dy λK z=>?_;refine⟨by first| (unfold B4;omega)| (simp only[B4,lim]at*;omega),?_⟩;(try refine ev ?_);apply z;clear z K;try simp only[A4,])
  exact⟨(),J,(by simp[sle,Ay,Ae,Cg,]),sB⟩
def Pr(l:List Ah):Bool:=l.all λf=>isName f.name && f.bound.right
abbrev Y4:List Nat:=[0,2,3,7,25]
def E2v(l:List Ah)(hn:∀f,f∈l->f.bound.Nn):Aa prog 118 [.d (.slice (Ag l))] (Aw (Pr l)):=by
 refine C8.bd (Enters.of func118 rfl (by decide)) λV=>?_;have a1:l.length<=lim:=by have:=V.1;simp only[SV.bd]at this;cases this with|slice _ h1 _=>simpa [Ag]using h1
 clear V;refine cB func118 ?_;refine sR Y4 ?_;refine kR Y4 λK1 U=>?_;refine A0.bb (A0.ii l (X:=Unit) (λj _=>[(0,.d (.slice (Ag l))),(3,A5 j)]) (λ_ _=>[])
  (λj _=>Pr (l.drop j)=Pr l) () rfl sS sB ?_ ?_)
 .intro _ L;rw[Db]at L;rw[<-L]at U |-;refine Ai B3 Y4 λZ I=>?_;refine A0.ss rfl ?_;simp only[A4,Ac,Af];refine U _ _<|sR Y4 ?_;exact aR
 .intro j _ d hd W dp tk a0 L;rw[dp]at L;unfold Pr at L;rw[Qv]at L;have E:(isName d.name && d.bound.right && Pr (l.drop (j+1)))=Pr l:=L;clear L;refine Ai a0 Y4 λZ I=>?_;refine gI I ?_;clear I Z;refine sK λZ I=>A0.bb ?_;rcases Eu (isName d.name)with h1|h1
  .have J:=X3 d.name;rw[h1]at J;rw[h1,Cj]at E
   (refine sV Y4 λK z=>?_;refine ci (F4 hd) ?_;refine cc J ?_;refine ci (F4 hd) ?_;refine cc (B4a d.bound (hn d W)) ?_;apply z;clear z K)
   refine A0.cond rfl (λO=>?_) (λO=>?_)
   .refine sR Y4 ?_;simp only[Js]at O;rw[O,C3]at E;rw[<-E];exact aR
   simp only[S7]at O;rw[O,Cj]at E;refine A0.kk (I _ _ ?_);clear I Z
   (refine lV Y4 λK z=>?_;refine⟨by first| (unfold B4;omega)| (simp only[B4,lim]at*;omega),?_⟩;(try refine ev ?_);apply z;clear z K;try simp only[A4,])
   exact⟨(),E,sS,sB⟩
  .have J:=X3 d.name;rw[h1]at J;rw[h1,C3,C3]at E;rw[<-E]
   (refine sV Y4 λK z=>?_;refine ci (F4 hd) ?_;refine cc J ?_;apply z;clear z K)
   refine A0.tt rfl<|sR Y4 ?_;exact aR
def Mb(l:List Param):Bool:=l.all λf=>isName f.name && f.type.right
abbrev Y5:List Nat:=[0,2,3,7,25]
def E1v(l:List Param)(hn:∀f,f∈l->f.type.Nn):Aa prog 119 [.d (.slice (Av l))] (Aw (Mb l)):=by
 refine C8.bd (Enters.of func119 rfl (by decide)) λV=>?_;have a1:l.length<=lim:=by have:=V.1;simp only[SV.bd]at this;cases this with|slice _ h1 _=>simpa [Av]using h1
 clear V;refine cB func119 ?_;refine sR Y5 ?_;refine kR Y5 λK1 U=>?_;refine A0.bb (A0.ii l (X:=Unit) (λj _=>[(0,.d (.slice (Av l))),(3,A5 j)]) (λ_ _=>[])
  (λj _=>Mb (l.drop j)=Mb l) () rfl sS sB ?_ ?_)
 .intro _ L;rw[Db]at L;rw[<-L]at U |-;refine Ai B3 Y5 λZ I=>?_;refine A0.ss rfl ?_;simp only[A4,Ac,Af];refine U _ _<|sR Y5 ?_;exact aR
 .intro j _ d hd W dp tk a0 L;rw[dp]at L;unfold Mb at L;rw[Qv]at L;have E:(isName d.name && d.type.right && Mb (l.drop (j+1)))=Mb l:=L;clear L;refine Ai a0 Y5 λZ I=>?_;refine gI I ?_;clear I Z;refine sK λZ I=>A0.bb ?_;rcases Eu (isName d.name)with h1|h1
  .have J:=X3 d.name;rw[h1]at J;rw[h1,Cj]at E
   (refine sV Y5 λK z=>?_;refine ci (Du hd) ?_;refine cc J ?_;refine ci (Du hd) ?_;refine cc (B4a d.type (hn d W)) ?_;apply z;clear z K)
   refine A0.cond rfl (λO=>?_) (λO=>?_)
   .refine sR Y5 ?_;simp only[Js]at O;rw[O,C3]at E;rw[<-E];exact aR
   simp only[S7]at O;rw[O,Cj]at E;refine A0.kk (I _ _ ?_);clear I Z
   (refine lV Y5 λK z=>?_;refine⟨by first| (unfold B4;omega)| (simp only[B4,lim]at*;omega),?_⟩;(try refine ev ?_);apply z;clear z K;try simp only[A4,])
   exact⟨(),E,sS,sB⟩
  .have J:=X3 d.name;rw[h1]at J;rw[h1,C3,C3]at E;rw[<-E]
   (refine sV Y5 λK z=>?_;refine ci (Du hd) ?_;refine cc J ?_;apply z;clear z K)
   refine A0.tt rfl<|sR Y5 ?_;exact aR
def A3.right(s:A3):Bool:=isName s.name && Pr s.A1 && Mb s.params && s.result.right
def D9f(s:A3)(J:s.Nn):Aa prog 120 [Cy s] (Aw s.right):=by
 have E:=X3 s.name;have I:=E2v s.A1 J.A1;have L:=E1v s.params J.params;have O:=B4a s.result J.result;unfold A3.right;generalize isName s.name=b1 at*;generalize Pr s.A1=b2 at*;generalize Mb s.params=b3 at*;generalize s.result.right=b4 at*;refine cB func120 ?_;refine sR [0,1,2] ?_;cases b1 with
 |false =>refine sC E [0,1,2] ?_;exact aR
 |true =>
  cases b2 with
  |false =>
   (refine sV [0,1,2] λK z=>?_;refine cc E ?_;refine cc I ?_;apply z;clear z K)
   exact aR
  |true =>
   cases b3 with
   |false =>
    (refine sV [0,1,2] λK z=>?_;refine cc E ?_;refine cc I ?_;refine cc L ?_;apply z;clear z K)
    exact aR
   |true =>
    (refine sV [0,1,2] λK z=>?_;refine cc E ?_;refine cc I ?_;refine cc L ?_;refine cc O ?_;apply z;clear z K)
    exact aR
end Go.Abs
