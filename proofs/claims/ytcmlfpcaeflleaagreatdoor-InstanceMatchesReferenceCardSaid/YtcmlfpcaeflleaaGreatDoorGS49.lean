/- several texts in one -/
import Derived.Test.YtcmlfpcaeflleaaGreatDoorGSB
set_option linter.all false
set_option maxHeartbeats 1000000
set_option maxRecDepth 100000
namespace Go.Abs
open Go Go.Proofs Tryz
mutual
theorem Ty.F9:∀(t:Ty)(k:Int),k+1<=t.count k
 |.mk n a _,k=>by simp only[Ty.count];have:=Ty.L3 a (k+1+((n.length / 50:Nat):Int));omega
theorem Ty.L3:∀(l:List Ty)(k:Int),k<=Ty.Cj l k
 |[],k=>by simp[Ty.Cj]
 |t::ts,k=>by
  simp only[Ty.Cj];split
  .have I:=Ty.F9 t k;have E:=Ty.L3 ts (t.count k);omega
  .omega
end
mutual
theorem Ty.Gi:∀(t:Ty)(k:Int),0<=k->t.count k<=2000->t.Sm
 |.mk n a p,k,E,h=>by simp only[Ty.count]at h;have J:=Ty.L3 a (k+1+((n.length / 50:Nat):Int));have I:=Ty.B0a a (k+1+((n.length / 50:Nat):Int)) (by omega) h;exact .mk n a p (by unfold sm;omega) (by unfold sm;omega) I.2
theorem Ty.B0a:∀(l:List Ty)(k:Int),0<=k->Ty.Cj l k<=2000->(k+l.length<=2000/\∀t,t∈l->t.Sm)
 |[],k,E,h=>by simp[Ty.Cj]at h |-;omega
 |t::ts,k,E,h=>by
  simp only[Ty.Cj]at h;split at h
  .have J:=Ty.F9 t k;have I:=Ty.B0a ts (t.count k) (by omega) h;have L:=Ty.Gi t k E (by have:=Ty.L3 ts (t.count k);omega);refine⟨by simp only[C6];omega,?_⟩;intro u hu;simp only[Aw]at hu;rcases hu with rfl|hu
   .exact L
   .exact I.2 u hu
  .omega
end
mutual
theorem Ex.F9:∀(t:Ex)(k:Int),k+1<=t.count k
 |.mk _ n t a ks _,k=>by simp only[Ex.count];have I:=Ty.F9 t (k+((n.length / 50:Nat):Int));have E:=Ty.L3 a (t.count (k+((n.length / 50:Nat):Int)));have J:=Ex.L3 ks (Ty.Cj a (t.count (k+((n.length / 50:Nat):Int))));omega
theorem Ex.L3:∀(l:List Ex)(k:Int),k<=Ex.Cj l k
 |[],k=>by simp[Ex.Cj]
 |t::ts,k=>by
  simp only[Ex.Cj];split
  .have I:=Ex.F9 t k;have E:=Ex.L3 ts (t.count k);omega
  .omega
end
mutual
theorem Ex.Gi:∀(t:Ex)(k:Int),0<=k->t.count k<=2000->t.Sm
 |.mk U n t a ks p,k,E,h=>by simp only[Ex.count]at h;have M:=Ty.F9 t (k+((n.length / 50:Nat):Int));have J:=Ty.L3 a (t.count (k+((n.length / 50:Nat):Int)));have I:=Ex.L3 ks (Ty.Cj a (t.count (k+((n.length / 50:Nat):Int))));have O:=Ty.Gi t (k+((n.length / 50:Nat):Int)) (by omega) (by omega);have L:=Ty.B0a a (t.count (k+((n.length / 50:Nat):Int))) (by omega) (by omega);have V:=Ex.B0a ks (Ty.Cj a (t.count (k+((n.length / 50:Nat):Int)))) (by omega) h;exact .mk U n t a ks p (by unfold sm;omega) O (by unfold sm;omega) L.2 (by unfold sm;omega) V.2
theorem Ex.B0a:∀(l:List Ex)(k:Int),0<=k->Ex.Cj l k<=2000->(k+l.length<=2000/\∀t,t∈l->t.Sm)
 |[],k,E,h=>by simp[Ex.Cj]at h |-;omega
 |t::ts,k,E,h=>by
  simp only[Ex.Cj]at h;split at h
  .have M:=Ex.F9 t k;have J:=Ex.B0a ts (t.count k) (by omega) h;have I:=Ex.Gi t k E (by have:=Ex.L3 ts (t.count k);omega);refine⟨by simp only[C6];omega,?_⟩;intro u hu;simp only[Aw]at hu;rcases hu with rfl|hu
   .exact I
   .exact J.2 u hu
  .omega
end
abbrev P2{α:Type}(F:List α->Int->Int)(Sm:α->Prop):Prop:=∀(l:List α)(k:Int),(k<=F l k)/\(0<=k->F l k<=2000->k+l.length<=2000/\∀t,t∈l->Sm t)
def N8{α:Type}(F:List α->Int->Int)(g:α->Int->Int)(Sm:α->Prop)(J:∀k,F [] k=k)(L:∀x xs k,F (x::xs) k=if k<=2000 then F xs (g x k)else k)
  (E:∀x k,k+1<=g x k)(I:∀x k,0<=k->g x k<=2000->Sm x):∀(l:List α) (k:Int),(k<=F l k)/\(0<=k->F l k<=2000->k+l.length<=2000/\∀t,t∈l->Sm t)
 |[],k=>by rw[J];exact⟨Int.le_refl _,λJ h=>⟨by simp;omega,by simp⟩⟩
 |t::ts,k=>by
  rw[L];obtain⟨i1,O⟩:=N8 F g Sm J L E I ts (g t k);have Z:=E t k;split
  .refine⟨by omega,λM h=>?_⟩;obtain⟨W,V⟩:=O (by omega) h;have U:=I t k M (by omega);refine⟨by simp only[C6];omega,?_⟩;intro u hu;simp only[Aw]at hu;rcases hu with rfl|hu
   .exact U
   .exact V u hu
  .exact⟨Int.le_refl _,λ_ h=>by omega⟩
def B6r:P2 C8 Am.Sm:=N8 C8 (λf n=>f.bound.count (n+1+((f.name.length / 50:Nat):Int))) Am.Sm (λ_=>rfl) (λ_ _ _=>rfl)
 (λx k=>by have:=Ty.F9 x.bound (k+1+((x.name.length / 50:Nat):Int));omega)
 (λx k E h=>by have:=Ty.F9 x.bound (k+1+((x.name.length / 50:Nat):Int));exact⟨by unfold sm;omega,Ty.Gi _ _ (by omega) h⟩)
def B2w:P2 D6 Param.Sm:=N8 D6 (λf n=>f.type.count (n+1+((f.name.length / 50:Nat):Int))) Param.Sm (λ_=>rfl) (λ_ _ _=>rfl)
 (λx k=>by have:=Ty.F9 x.type (k+1+((x.name.length / 50:Nat):Int));omega)
 (λx k E h=>by have:=Ty.F9 x.type (k+1+((x.name.length / 50:Nat):Int));exact⟨by unfold sm;omega,Ty.Gi _ _ (by omega) h⟩)
def A2e:P2 Jc (λv=>v.length<=sm):=N8 Jc (λv n=>n+1+((v.length / 50:Nat):Int)) (λv=>v.length<=sm) (λ_=>rfl) (λ_ _ _=>rfl) (λx k=>by omega) (λx k E h=>by unfold sm;omega)
def A5.Gi(s:A5)(n:Int):n+1<=s.count n/\(0<=n->s.count n<=2000->s.Sm):=by unfold A5.count;obtain⟨Z,I⟩:=B6r s.A1 (n+((s.name.length / 50:Nat):Int));obtain⟨W,J⟩:=B2w s.params (C8 s.A1 (n+((s.name.length / 50:Nat):Int)));have V:=Ty.F9 s.result (D6 s.params (C8 s.A1 (n+((s.name.length / 50:Nat):Int))));refine⟨by omega,λM h=>?_⟩;obtain⟨O,L⟩:=I (by omega) (by omega);obtain⟨U,E⟩:=J (by omega) (by omega);exact⟨by unfold sm;omega,⟨by unfold sm;omega,L⟩,⟨by unfold sm;omega,E⟩,Ty.Gi _ _ (by omega) h⟩
def C7s:P2 Ec A5.Sm:=N8 Ec A5.count A5.Sm (λ_=>rfl) (λ_ _ _=>rfl) (λx k=>(A5.Gi x k).1) (λx k=>(A5.Gi x k).2)
def Decl.Gi(d:Decl)(n:Int):n+1<=d.count n/\(0<=n->d.count n<=2000->d.Sm):=by
 unfold Decl.count;generalize W:n+1+((d.name.length / 50:Nat):Int)+((d.recv.length / 50:Nat):Int)=m;obtain⟨a1,V⟩:=B6r d.A1 m;obtain⟨b1,I⟩:=B2w d.fields (C8 d.A1 m);obtain⟨c1,E⟩:=C7s d.sigs (D6 d.fields (C8 d.A1 m));obtain⟨e1,O⟩:=A2e d.vars (Ec d.sigs (D6 d.fields (C8 d.A1 m)));generalize hz:Jc d.vars (Ec d.sigs (D6 d.fields (C8 d.A1 m)))=z at*;unfold Decl.Ta;obtain⟨f1,f2⟩:=A5.Gi d.sig z;have g1:=Ex.F9 d.body (d.sig.count z);refine⟨by split <;> omega,λh0 h=>?_⟩;split at h
 .obtain⟨a3,J⟩:=V (by omega) (by omega);obtain⟨Z,U⟩:=I (by omega) (by omega);obtain⟨c3,L⟩:=E (by omega) (by omega);obtain⟨e3,M⟩:=O (by omega) (by omega);exact⟨by unfold sm;omega,⟨by unfold sm;omega,J⟩,⟨by unfold sm;omega,U⟩,⟨by unfold sm;omega,L⟩,by unfold sm;omega,⟨by unfold sm;omega,M⟩,f2 (by omega) (by omega),Ex.Gi _ _ (by omega) h⟩
 .omega
def C7x:P2 Im Decl.Sm:=N8 Im Decl.count Decl.Sm (λ_=>rfl) (λ_ _ _=>rfl) (λx k=>(Decl.Gi x k).1) (λx k=>(Decl.Gi x k).2)
def Prog.Gi(p:Prog)(h:p.count<=600):p.Sm/\p.decls.length<=2000:=by unfold Prog.count at h;have J:=Ex.F9 p.main 0;obtain⟨M,E⟩:=C7x p.decls (p.main.count 0);obtain⟨L,I⟩:=E (by omega) (by omega);exact⟨⟨⟨by unfold sm;omega,I⟩,Ex.Gi p.main 0 (by omega) (by omega)⟩,by omega⟩
def Hf(a b:A3):D:=.agg [.str a,.str b]
def isStr(P:Program)(t:TypeId):Bool:=match P.underlying t with|some .string=>true|_=>false
def C3v(P:Program)(E:TypeId):Bool:=match P.underlying E with
 |some (.struct fs)=>match fs.toList with
  |[f1,f2]=>f1.offset ==0 && f2.offset ==1 && isStr P f1.type && isStr P f2.type && P.cellsOf f1.type ==1 && P.cellsOf f2.type ==1 && P.cellsOf E ==2 && fs.all (·.name != "_") && Nat.ble 1 P.types.size
  |_=>false
 |_=>false
def C4j{P:Program}{t:TypeId}(h:isStr P t=true):P.underlying t=some .string:=by unfold isStr at h;split at h <;> simp_all
def B5s{P:Program}{I:TypeId}(h:C3v P I=true)(a b:A3)(M:a.length<=lim)(V:b.length<=lim):Et P I (Hf a b):=by
 unfold C3v at h;split at h
 .rename_i fs J;split at h
  .rename_i f1 f2 E;simp only[Bc,Tu,Nat.ble_eq]at h;obtain⟨⟨⟨⟨⟨⟨⟨⟨o1,O⟩,u1⟩,u2⟩,W⟩,Z⟩,ct⟩,L⟩,a0⟩:=h;obtain⟨d,U⟩:∃d,P.types.size+1=d+2:=⟨P.types.size - 1,by omega⟩;refine⟨rfl,?_,?_⟩
   .simp[Hf,D.kv,Value.formed,J,ct]
   .rw[U];have e1:∀s:A3,s.length<=lim->P.keyLits (d+1) f1.type [.string ⟨s.toArray⟩]=some [.string s]:=λs hs=>by
     simp[Program.keyLits,C4j u1,ByteArray.size];unfold lim at hs;unfold maxLen;omega
    have e2:∀s:A3,s.length<=lim->P.keyLits (d+1) f2.type [.string ⟨s.toArray⟩]=some [.string s]:=λs hs=>by simp[Program.keyLits,C4j u2,ByteArray.size];unfold lim at hs;unfold maxLen;omega
    unfold Program.keyLits;rw[J];simp only[Hf,D.kv,Value.cells,Ck,Hy,D.lit,Lit.value,C6,Dy,ct,L,and_self,Ae,E,Av2,List.mapM_nil,o1,O,W,Z,
     Ao7,Ap0,Ia,Ig,e1 a M,e2 b V]
    rfl
  .simp at h
 .simp at h
def B4c:C3v prog 134=true:=by kernel_rfl
def N1(d:Decl):Option D:=if d.kind=1\/d.kind=2 then some (Hf d.name [])else if d.kind=3 then some (Hf d.name (46::d.sig.name))else none
def Xu(m:List (D × D))(i:Nat)(d:Decl):List (D × D):=match N1 d with
 |none=>m
 |some k=>if(G1 k.lits m 0).isSome=true then m else Rj k (.int .i64 i) m
def A1q:List Decl->Nat->List (D × D)->List (D × D)
 |[],_,m=>m
 |d::ds,i,m=>A1q ds (i+1) (Xu m i d)
def R8(p:Prog):List (D × D):=A1q p.decls 0 []
def Ep(p:Prog):List D:=An p++[.map (R8 p)]
def D3r{P:Program}{E:TypeId}{m:List (D × D)}{k v:D}(h:∀kv,kv∈m->Et P E kv.1)(I:Et P E k):∀kv,kv∈Rj k v m->Et P E kv.1:=by
 intro kv hkv;unfold Rj at hkv;split at hkv
 .rcases Au1 hkv with hkv|rfl
  .exact h kv hkv
  .exact I
 .rcases D2.1 hkv with hkv|hkv
  .exact h kv hkv
  .simp only[Aw,Ej,Eh]at hkv;subst hkv;exact I
abbrev L8:List Nat:=[0,1,2,3,4,5,6,8,11,13,18,19,20,21,29,30,33,50]
def C7m(p:Prog)(h:p.Sm):Ac prog 31 [D7 p] (.Ah (Ep p) 0):=by
 refine cB func31 ?_;refine sR L8 ?_;refine sC (E0t p h) L8 ?_;have a9:=h.decls.1;refine sK λK1 a3=>?_;have a6:∀sl bx,sle sl [(3,.box 13 0)]->ble bx [(13,.cells ((An p).map .d++[.mp 11])),(11,.map (R8 p))]->K1 sl bx:=by intro sl bx h1 h2;refine a3 _ _ (A0.ww h1 h2 ?_);clear a3 K1;refine A0.C8f 11 rfl<|A0.ww (sl':=[(3,.box 13 0)]) (bx':=[(13,.cells ((Ep p).map .d))]) (by simp[Mk,SV.sub,sle,Ax,Ag]) (by simp[Lk,Ap.sub,SV.La,SV.sub,ble,A7,Ca,Ep,An]) ?_;refine A0.zz 13 rfl rfl<|A0.ww (sl':=[(3,.Ah (Ep p) 0)]) (bx':=[]) (by simp[Mk,SV.sub,sle,Ax,Ag];rfl) trivial ?_;refine sR L8 ?_;exact aR
 refine sR L8 ?_;refine A0.bb (A0.loop (X:=Nat × List (D × D)) (λx=>[(20,A8 x.1),(19,A8 p.decls.length),(18,.d (.slice (Ix p.decls))),(3,.box 13 0)])
  (λx=>[(13,.cells ((An p).map .d++[.mp 11])),(11,.map x.2)])
  (λx=>x.1<=p.decls.length/\(∀kv,kv∈x.2->Et prog 134 kv.1)/\A1q (p.decls.drop x.1) x.1 x.2=R8 p) (λx=>p.decls.length - x.1) (0,[]) ?_ ?_ ?_ ?_)
 .exact⟨by simp,by simp,rfl⟩
 .exact sS
 .exact(by simp[ble,A7,An])
 rintro⟨j,m⟩ ⟨hj,hm,M⟩;simp only at hj hm M;by_cases a5:(j:Int)<(p.decls.length:Int)
 .have O:j<p.decls.length:=by omega
  have hy:p.decls[j]?=some p.decls[j]:=B8 O;have a2:p.decls[j]∈p.decls:=Fa O;have dp:p.decls.drop j=p.decls[j]::p.decls.drop (j+1):=Ge O;generalize p.decls[j]=y at*;rw[dp,A1q]at M;refine Aq a5 L8 ?_;refine sK λK2 I=>A0.tt rfl (A0.kk (I _ _ ?_));clear I K2;refine sK λK2 I=>?_;have L:∀sl bx m',sle sl [(20,A8 j),(19,A8 p.decls.length),(18,.d (.slice (Ix p.decls))),(3,.box 13 0)]->ble bx [(13,.cells ((An p).map .d++[.mp 11])),(11,.map m')] ->
    (∀kv,kv∈m'->Et prog 134 kv.1)->m'=Xu m j y->K2 sl bx:=by
   rintro sl bx m' h1 h2 h3 rfl;refine I _ _ (A0.ww h1 h2 ?_);clear I K2 h1 h2
   (refine lQ L8 λK E=>?_;refine ev ?_)
   refine⟨by unfold Az;unfold sm at*;omega,?_⟩
   (apply E;clear E K;try simp only[A4,])
   exact⟨(j+1,Xu m j y),⟨by simp only;omega,h3,M⟩,by simp only;omega,by simp[sle,Ax,Ag],(by simp[ble,A7,An])⟩
  clear I;refine A0.bb ?_
  (refine sQ L8 λK E=>?_;refine ev ?_)
  refine⟨by omega,Bb y,Ev hy,rfl,?_⟩;refine ev ?_
  (apply E;clear E K)
  refine sR L8 ?_;have a7:y.name.length<=lim:=D3 (h.decls.2 y a2).name (by unfold sm lim;omega);refine sK λK3 a4=>?_;have V:∀sl bx (mth:A3),sle sl [(4,A8 j),(6,.box 6 0),(20,A8 j),(19,A8 p.decls.length),(18,.d (.slice (Ix p.decls))),(3,.box 13 0)] ->
    ble bx [(13,.cells ((An p).map .d++[.mp 11])),(11,.map m),(6,.cells [.d (.str y.name),.d (.str mth)])]->N1 y=some (Hf y.name mth)->mth.length<=lim->K3 sl bx:=by
   intro sl bx mth h1 h2 a1 a8;refine a4 _ _ (A0.ww h1 h2 ?_);clear a4 K3 h1 h2;have W:=B5s B4c y.name mth a7 a8
   (refine sG L8 [] 10 [] λK E=>?_;refine ev ?_)
   refine⟨hm,W,?_⟩
   (apply E;clear E K)
   by_cases hs:(G1 (D.agg [D.str y.name,D.str mth]).lits m 0).isSome=true
   .have ht:Xu m j y=m:=by simp only[Xu,a1];exact A9 hs
    rw[hs];refine sR L8 ?_;refine A0.ff rfl (A0.kk ?_);simp only[A4,Ab];exact L _ _ m sS (by simp[ble,A7,An]) hm ht.symm
   .have ht:Xu m j y=Rj (Hf y.name mth) (.int .i64 j) m:=by simp only[Xu,a1];exact A6 hs
    rw[Bool.not_eq_true]at hs;rw[hs];refine sR L8 ?_;refine A0.tt rfl ?_
    (refine lG L8 [] 6 [] λK E=>?_;refine ev ?_)
    refine⟨hm,W,?_⟩
    (apply E;clear E K;try simp only[A4,Ab])
    exact L _ _ _ sS (by simp[ble,A7,An];rfl) (D3r hm W) ht.symm
  refine sR L8<|A0.bb<|sK λK4 J=>?_;by_cases U:y.kind=1
  .refine Aq U L8 ?_;refine A0.tt rfl (A0.kk (J _ _ ?_));clear J K4;refine A0.tt rfl (A0.kk ?_);simp only[A4,Ab];exact V _ _ [] sS (by simp[ble,A7,An]) (by simp[N1,U]) (by simp)
  .by_cases Z:y.kind=2
   .refine Aq U L8 ?_;refine A0.ff rfl ?_
    (refine lQ L8 λK E=>?_;refine As Z ?_)
    (apply E;clear E K;try simp only[A4,])
    refine J _ _ ?_;clear J K4;refine A0.tt rfl (A0.kk ?_);simp only[A4,Ab];exact V _ _ [] sS (by simp[ble,A7,An]) (by simp[N1,Z]) (by simp)
   .refine Aq U L8 ?_;refine A0.ff rfl ?_
    (refine lQ L8 λK E=>?_;refine As Z ?_)
    (apply E;clear E K;try simp only[A4,])
    refine J _ _ ?_;clear J K4;refine A0.ff rfl ?_;by_cases a0:y.kind=3
    .refine Aq a0 L8 ?_;refine A0.tt rfl ?_;have aa:=(h.decls.2 y a2).sig.name;have a':(ByteArray.mk #[46]).size<=lim:=by decide
     (refine lQ L8 λK E=>?_;refine ev ?_)
     refine⟨by unfold sm lim at*;first|omega| (simp;omega),?_⟩
     (apply E;clear E K;try simp only[A4,Ab])
     exact V _ _ (46::y.sig.name) sS (by simp[ble,A7,An]) (by simp[N1,a0]) (by simp only[C6];unfold sm lim at*;omega)
    .refine Aq a0 L8 ?_;refine A0.ff rfl (A0.xx ?_);simp only[A4,Ab];rw[A6 (by decide)];exact L _ _ m sS (by simp[ble,A7,An]) hm (by simp[Xu,N1,U,Z,a0])
 .refine Aq a5 L8 ?_;refine sK λK2 I=>A0.ff rfl (A0.xx ?_);simp only[A4,Ab,Ae];rw[Jf (by omega),A1q]at M;exact a6 _ _ sS (by rw[<-M];exact(by simp[ble,A7,An]))
def Px(l:List Lit)(m:List (D × D)):Option D:=(G1 l m 0).map (·.2)
def C7f(l:List Lit):∀(m:List (D × D))(i:Nat),(G1 l m i).map (·.2)=Px l m
 |[],i=>rfl
 |kv::r,i=>by
  unfold Px;simp only[G1];split
  .rfl
  .rw[C7f l r (i+1),C7f l r (0+1)]
def C4h(l:List Lit)(k v:D)(m:List (D × D)):Px l ((k,v)::m)=if l=k.lits then some v else Px l m:=by
 unfold Px;simp only[G1];split
 .rfl
 .exact C7f l m 1
def E0n(l:List Lit)(k v:D):∀m:List (D × D),Px l (m++[(k,v)])=match Px l m with|some x=>some x|none=>if l=k.lits then some v else none
 |[]=>by rw[Vt,C4h];rfl
 |(E,I)::m=>by rw[Qp,C4h,C4h,E0n l k v m];split <;> rfl
def V5(l:List Lit):List Decl->Nat->Option D
 |[],_=>none
 |d::ds,i=>match N1 d with
  |some k=>if l=k.lits then some (.int .i64 i)else V5 l ds (i+1)
  |none=>V5 l ds (i+1)
def D0o(l:List Lit):∀(ds:List Decl)(i:Nat)(m:List (D × D)),Px l (A1q ds i m)=match Px l m with|some x=>some x|none=>V5 l ds i
 |[],i,m=>by simp only[A1q,V5];cases Px l m <;> rfl
 |d::ds,i,m=>by
  simp only[A1q,V5];rw[D0o l ds (i+1)];unfold Xu;cases M:N1 d with
  |none=>rfl
  |some k =>
   simp only;by_cases hs:(G1 k.lits m 0).isSome=true
   .rw[A9 hs];cases I:Px l m with
    |some x=>rfl
    |none =>simp only;rw[A6];rintro rfl;unfold Px at I;cases J:G1 k.lits m 0 <;> simp[J]at hs I
   .rw[A6 hs];have L:G1 k.lits m 0=none:=by cases J:G1 k.lits m 0 <;> simp[J]at hs |-
    unfold Rj;rw[L];simp only;rw[E0n];cases I:Px l m with
    |some x=>rfl
    |none =>
     simp only;by_cases E:l=k.lits
     .rw[A9 E,A9 E]
     .rw[A6 E,A6 E]
def A2f(p:Prog)(k:D):Option Decl:=p.decls.find? λd=>match N1 d with|some E=>decide (k.lits=E.lits)|none=>false
def E7f(l:List Lit):∀(ds:List Decl)(i:Nat),(V5 l ds i=none/\(ds.find? λd=>match N1 d with|some L=>decide (l=L.lits)|none=>false)=none) \/
  ∃j d,ds[j]?=some d/\V5 l ds i=some (.int .i64 ((i+j:Nat):Int))/\(ds.find? λd=>match N1 d with|some L=>decide (l=L.lits)|none=>false)=some d
 |[],i=>.inl ⟨rfl,rfl⟩
 |d::ds,i=>by
  simp only[V5,At8];have U:=E7f l ds (i+1);cases V:N1 d with
  |none =>
   simp only;rcases U with h|⟨j,M,E,J,I⟩
   .exact .inl h
   .exact .inr ⟨j+1,M,by simpa using E,by rw[J];congr 3;omega,I⟩
  |some k =>
   simp only;by_cases O:l=k.lits
   .simp only[O,Ae,X0];exact .inr ⟨0,d,rfl,by simp,rfl⟩
   .simp only[O,Fy,Ar8];rcases U with h|⟨j,M,E,J,I⟩
    .exact .inl h
    .exact .inr ⟨j+1,M,by simpa using E,by rw[J];congr 3;omega,I⟩
instance:Inhabited Prog:=⟨⟨[],default⟩⟩
def D3w(p:Prog)(h:p.Sm):∀kv,kv∈R8 p->Et prog 134 kv.1:=by
 have go:∀(ds:List Decl) (i:Nat) (m:List (D × D)),(∀d,d∈ds->d.Sm)->(∀kv,kv∈m->Et prog 134 kv.1)->∀kv,kv∈A1q ds i m->Et prog 134 kv.1:=by
  intro ds
  induction ds with
  |nil=>intro i m _ h;exact h
  |cons d ds O =>
   intro i m L J;refine O (i+1) _ (λx M=>L x (by simp[M])) ?_;have I:=L d (by simp);unfold Xu;cases E:N1 d with
   |none=>exact J
   |some k =>
    simp only;split
    .exact J
    .refine D3r J ?_;unfold N1 at E;have U:=I.name;have V:=I.sig.name;split at E
     .simp only[B4]at E;subst E;exact B5s B4c _ _ (by unfold sm lim at*;omega) (by simp)
     .split at E
      .simp only[B4]at E;subst E;exact B5s B4c _ _ (by unfold sm lim at*;omega) (by simp only[C6];unfold sm lim at*;omega)
      .simp at E
 exact go p.decls 0 [] h.decls.2 (by simp)
abbrev q2G:List Nat:=[0,1,3,4,5,6,7,9,21]
def B7d(p:Prog)(h:p.Sm)(a b:A3):Ac prog 211 [.Ah (Ep p) 0,.agg [.d (.str a),.d (.str b)]]
  (.tuple [Ma ((A2f p (Hf a b)).getD default),Ay (A2f p (Hf a b)).isSome]):=by
 refine Bj.bd (Enters.of func211 rfl (by decide)) λV=>?_;have J:=V.2.1;simp only[SV.bd,SV.U2]at J;have hk:=B5s B4c a b (V6 J.1) (V6 J.2.1);have E:Px (Hf a b).lits (R8 p)=V5 (Hf a b).lits p.decls 0:=by unfold R8;rw[D0o];rfl
 unfold Px at E;refine cB func211 ?_;refine sR q2G ?_;refine kR q2G λU I=>?_;refine A0.ff rfl (A0.kk (I _ _ ?_));clear I U
 (refine sG q2G [] 10 [] λK L=>?_;simp -implicitDefEqProofs only[EV,Nat.reduceAdd,Nat.reduceEqDiff,reduceCtorEq,C7c,C0i,B8r,Ep])
 refine⟨D3w p h,hk,?_⟩
 (apply L;clear L K)
 refine sK λU I=>?_;rcases E7f (Hf a b).lits p.decls 0 with⟨M,O⟩|⟨j,d,M,O,h3⟩
 .rw[M]at E;have hn:G1 (D.agg [D.str a,D.str b]).lits (R8 p) 0=none:=by simpa [Hf]using E
  have W:A2f p (Hf a b)=none:=O;rw[hn];refine sR q2G ?_;refine A0.tt rfl<|sR q2G ?_;rw[W];exact aR
 .rw[O]at E;obtain⟨q,hq⟩:∃q,G1 (D.agg [D.str a,D.str b]).lits (R8 p) 0=some (q,.int .i64 ((0+j:Nat):Int)):=by
   cases Z:G1 (D.agg [D.str a,D.str b]).lits (R8 p) 0 with
   |none=>rw[show(Hf a b).lits=(D.agg [D.str a,D.str b]).lits from rfl,Z]at E;simp at E
   |some qd =>rw[show(Hf a b).lits=(D.agg [D.str a,D.str b]).lits from rfl,Z]at E;obtain⟨q,d'⟩:=qd;simp only[Eu,B4]at E;exact⟨q,by rw[E]⟩
  have hl:Qg (D.agg [D.str a,D.str b]) (R8 p) (SV.d (D.int IntKind.i64 0))=A8 j:=by simp only[Qg,hq,Iq,Nd]
  have W:A2f p (Hf a b)=some d:=h3;rw[hl,hq];refine sR q2G ?_;refine A0.ff rfl (A0.kk (I _ _ ?_));clear I U
  (refine sQ q2G λK L=>?_;refine ev ?_)
  refine⟨by omega,Bb d,Ev M,rfl,?_⟩;refine ev ?_
  (apply L;clear L K)
  rw[W];exact aR
def C7i(p:Prog)(E:A3):A2f p (Hf E [])=p.decls.find? (λd=>d.Jx E):=by
 unfold A2f
 congr 1
 funext d;unfold N1 Decl.Jx;by_cases h1:d.kind=1\/d.kind=2
 .rw[A9 h1];rcases h1 with h1|h1 <;> simp[h1,Hf,D.lits,D.lit,eq_comm]
 .rw[A6 h1];have I:¬d.kind=1:=λh=>h1 (.inl h);have L:¬d.kind=2:=λh=>h1 (.inr h);by_cases J:d.kind=3 <;> simp[I,L,J,Hf,D.lits,D.lit]
def E9k(p:Prog)(h:p.Sm)(E:A3):Ac prog 284 [.Ah (Ep p) 0,D9 E] (A8 (kindOf p E)):=by
 have I:=B7d p h E [];rw[C7i]at I;have L:kindOf p E=((p.decls.find? λd=>d.Jx E).getD default).kind:=by unfold kindOf;cases p.decls.find? (λd=>d.Jx E) <;> rfl
 refine cB func284 ?_;refine sR [0,1,4,5] ?_
 (refine sQ [0,1,4,5] λK J=>?_;simp -implicitDefEqProofs only[EV,Nat.reduceAdd,Nat.reduceEqDiff,Nat.reduceLeDiff,reduceCtorEq,B8r])
 generalize(p.decls.find? λd=>d.Jx E).getD default=d at*;refine⟨_,.inl ⟨_,rfl,I,rfl⟩,?_⟩;refine ev ?_
 (apply J;clear J K)
 refine sR [0,1,4,5] ?_;rw[L];exact aR
mutual
def Ty.names:Ty->List A3
 |.mk n a _=>n::Ty.Lj a
def Ty.Lj:List Ty->List A3
 |[]=>[]
 |t::ts=>t.names++Ty.Lj ts
end
def Ty.C2h(t:Ty):t.names=t.name::Ty.Lj t.args:=by cases t;rfl
def Ty.D0x:∀(a b:List Ty),Ty.Lj (a++b)=Ty.Lj a++Ty.Lj b
 |[],b=>rfl
 |t::ts,b=>by simp only[Qp,Ty.Lj,Ty.D0x ts b,N6]
mutual
theorem Ty.E0a:∀(t:Ty)(k:Int),t.count k<=2000->k+t.names.length<=t.count k
 |.mk n a p,k,h=>by simp only[Ty.count]at h |-;have:=Ty.E4g a _ h;simp only[Ty.names,C6];omega
theorem Ty.E4g:∀(l:List Ty)(k:Int),Ty.Cj l k<=2000->k+(Ty.Lj l).length<=Ty.Cj l k
 |[],k,_=>by simp[Ty.Cj,Ty.Lj]
 |t::ts,k,h=>by
  simp only[Ty.Cj]at h |-;split at h
  .rename_i E;rw[A9 E];have J:=Ty.E4g ts _ h;have I:=Ty.E0a t k (by omega);simp only[Ty.Lj,Bz];omega
  .omega
end
def Ty.Nn(t:Ty):Prop:=t.names.length<=2000
def Ty.Q5{t:Ty}{k:Int}(E:0<=k)(h:t.count k<=2000):t.Nn:=by have:=Ty.E0a t k h;unfold Ty.Nn;omega
def Ty.B5k:∀{l:List Ty} {k:Int},0<=k->Ty.Cj l k<=2000->∀t,t∈l->t.Nn
 |[],_,_,_=>by simp
 |x::l,k,E,h=>by
  simp only[Ty.Cj]at h;split at h
  .have J:=Ty.F9 x k;have I:=Ty.L3 l (x.count k);intro t ht;simp only[Aw]at ht;rcases ht with rfl|ht
   .exact Ty.Q5 E (by omega)
   .exact Ty.B5k (by omega) h t ht
  .omega
inductive Ex.Nn:Ex->Prop where
 |mk (k:Int) (n:A3) (t:Ty) (a:List Ty) (ks:List Ex) (p:Int):t.Nn->(∀t,t∈a->t.Nn)->(∀e,e∈ks->Ex.Nn e)->Ex.Nn (.mk k n t a ks p)
def Ex.Nn.type{e:Ex}(h:e.Nn):e.type.Nn:=by cases h;assumption
def Ex.Nn.targs{e:Ex}(h:e.Nn):∀t,t∈e.targs->t.Nn:=by cases h;assumption
def Ex.Nn.kids{e:Ex}(h:e.Nn):∀t,t∈e.kids->t.Nn:=by cases h;assumption
mutual
theorem Ex.Q5:∀(t:Ex)(k:Int),0<=k->t.count k<=2000->t.Nn
 |.mk M n t a ks p,k,E,h=>by simp only[Ex.count]at h;have L:=Ty.F9 t (k+((n.length / 50:Nat):Int));have J:=Ty.L3 a (t.count (k+((n.length / 50:Nat):Int)));have I:=Ex.L3 ks (Ty.Cj a (t.count (k+((n.length / 50:Nat):Int))));exact .mk M n t a ks p (Ty.Q5 (k:=k+((n.length / 50:Nat):Int)) (by omega) (by omega)) (Ty.B5k (k:=t.count (k+((n.length / 50:Nat):Int))) (by omega) (by omega)) (Ex.B5k ks _ (by omega) h)
theorem Ex.B5k:∀(l:List Ex)(k:Int),0<=k->Ex.Cj l k<=2000->∀t,t∈l->t.Nn
 |[],k,E,h=>by simp
 |t::ts,k,E,h=>by
  simp only[Ex.Cj]at h;split at h
  .have L:=Ex.F9 t k;have O:=Ex.L3 ts (t.count k);have J:=Ex.B5k ts (t.count k) (by omega) h;have I:=Ex.Q5 t k E (by omega);intro u hu;simp only[Aw]at hu;rcases hu with rfl|hu
   .exact I
   .exact J u hu
  .omega
end
structure A5.Nn(s:A5):Prop where
 C0s:s.A1.length<=2000
 A1:∀f,f∈s.A1->f.bound.Nn
 params:∀f,f∈s.params->f.type.Nn
 result:s.result.Nn
structure Decl.Nn(d:Decl):Prop where
 C0s:d.A1.length<=2000
 F0e:d.vars.length<=2000
 A1:∀f,f∈d.A1->f.bound.Nn
 fields:∀f,f∈d.fields->f.type.Nn
 sigs:∀s,s∈d.sigs->s.Nn
 sig:d.sig.Nn
 body:d.body.Nn
structure Prog.Nn(p:Prog):Prop where
 decls:∀d,d∈p.decls->d.Nn
 main:p.main.Nn
def A6r:P2 C8 (λf=>f.bound.Nn):=N8 C8 (λf n=>f.bound.count (n+1+((f.name.length / 50:Nat):Int))) (λf=>f.bound.Nn) (λ_=>rfl) (λ_ _ _=>rfl)
 (λx k=>by have:=Ty.F9 x.bound (k+1+((x.name.length / 50:Nat):Int));omega)
 (λx k E h=>Ty.Q5 (by omega) h)
def A7p:P2 D6 (λf=>f.type.Nn):=N8 D6 (λf n=>f.type.count (n+1+((f.name.length / 50:Nat):Int))) (λf=>f.type.Nn) (λ_=>rfl) (λ_ _ _=>rfl)
 (λx k=>by have:=Ty.F9 x.type (k+1+((x.name.length / 50:Nat):Int));omega)
 (λx k E h=>Ty.Q5 (by omega) h)
def A5.Q5(s:A5)(n:Int)(J:0<=n)(h:s.count n<=2000):s.Nn:=by unfold A5.count at h;obtain⟨U,E⟩:=A6r s.A1 (n+((s.name.length / 50:Nat):Int));obtain⟨O,I⟩:=A7p s.params (C8 s.A1 (n+((s.name.length / 50:Nat):Int)));have M:=Ty.F9 s.result (D6 s.params (C8 s.A1 (n+((s.name.length / 50:Nat):Int))));have L:=(E (by omega) (by omega)).1;exact⟨by omega,(E (by omega) (by omega)).2,(I (by omega) (by omega)).2,Ty.Q5 (by omega) h⟩
def E0d:P2 Ec A5.Nn:=N8 Ec A5.count A5.Nn (λ_=>rfl) (λ_ _ _=>rfl) (λx k=>(A5.Gi x k).1) (λx k E h=>A5.Q5 x k E h)
def Decl.Q5(d:Decl)(n:Int)(M:0<=n)(h:d.count n<=2000):d.Nn:=by
 unfold Decl.count at h;generalize O:n+1+((d.name.length / 50:Nat):Int)+((d.recv.length / 50:Nat):Int)=m at h;obtain⟨a1,E⟩:=A6r d.A1 m;obtain⟨b1,L⟩:=A7p d.fields (C8 d.A1 m);obtain⟨W,I⟩:=E0d d.sigs (D6 d.fields (C8 d.A1 m));obtain⟨e1,J⟩:=A2e d.vars (Ec d.sigs (D6 d.fields (C8 d.A1 m)));generalize hz:Jc d.vars (Ec d.sigs (D6 d.fields (C8 d.A1 m)))=z at*;unfold Decl.Ta at h;obtain⟨f1,_⟩:=A5.Gi d.sig z;have U:=Ex.F9 d.body (d.sig.count z);split at h
 .have V:=(E (by omega) (by omega)).1;have Z:=(J (by omega) (by omega)).1;exact⟨by omega,by omega,(E (by omega) (by omega)).2,(L (by omega) (by omega)).2,(I (by omega) (by omega)).2,A5.Q5 d.sig z (by omega) (by omega),Ex.Q5 d.body (d.sig.count z) (by omega) h⟩
 .omega
def G6e:P2 Im Decl.Nn:=N8 Im Decl.count Decl.Nn (λ_=>rfl) (λ_ _ _=>rfl) (λx k=>(Decl.Gi x k).1) (λx k E h=>Decl.Q5 x k E h)
def Prog.Q5(p:Prog)(h:p.count<=600):p.Nn:=by unfold Prog.count at h;have I:=Ex.F9 p.main 0;obtain⟨J,E⟩:=G6e p.decls (p.main.count 0);exact⟨(E (by omega) (by omega)).2,Ex.Q5 p.main 0 (by omega) (by omega)⟩
def letter(n:Int):Prop:=(97<=n/\n<=122)\/(65<=n/\n<=90)
instance (n:Int):Decidable (letter n):=by unfold letter;infer_instance
def blank(n:Int):Prop:=n=9\/n=10\/n=13\/n=32
instance (n:Int):Decidable (blank n):=by unfold blank;infer_instance
def cls(n:Int):Int:=if letter n then 1 else if 48<=n/\n<=57 then 2 else if n=95 then 3 else if blank n then 4 else 0
abbrev Jv:List Nat:=[0,2,16,22,24,38]
def E2d(n:Int):Ac prog 171 [.d (.int .u8 n)] (A8 (cls n)):=by
 refine cB func171 ?_;refine sR Jv<|sK λO E=>?_;have r1:∀sl bx,sle sl [(0,.d (.int .u8 n))]->¬letter n->O sl bx:=by
  intro sl bx V Z;refine E _ _ (A0.ww (bx':=[]) V trivial ?_);clear E O;refine sK λO E=>?_;have r2:∀sl bx,sle sl [(0,.d (.int .u8 n))]->¬(48<=n/\n<=57)->O sl bx:=by
   intro sl bx V n2;refine E _ _ (A0.ww (bx':=[]) V trivial ?_);clear E O;refine sK λO E=>?_;by_cases W:n=95
   .have U:cls n=3:=by unfold cls;rw[A6 Z,A6 n2,A9 W]
    rw[U];refine Aq W Jv ?_;refine tI ?_;refine sR Jv ?_;exact aR
   refine Aq W Jv ?_;refine A0.ff rfl (A0.kk (E _ _ ?_));clear E O;have hb:cls n=if blank n then 4 else 0:=by unfold cls;rw[A6 Z,A6 n2,A6 W]
   rw[hb];refine sK λO E=>?_;by_cases I:n=9
   .rw[A9 (show blank n from .inl I)];refine Aq I Jv ?_;refine tI ?_;refine sR Jv ?_;exact aR
   by_cases J:n=10
   .rw[A9 (show blank n from .inr (.inl J))];refine Aq J Jv ?_;refine tI ?_;refine sR Jv ?_;exact aR
   by_cases L:n=13
   .rw[A9 (show blank n from .inr (.inr (.inl L)))];refine Aq L Jv ?_;refine tI ?_;refine sR Jv ?_;exact aR
   by_cases M:n=32
   .rw[A9 (show blank n from .inr (.inr (.inr M)))];refine Aq M Jv ?_;refine tI ?_;refine sR Jv ?_;exact aR
   rw[A6 (show ¬blank n from λh=>by unfold blank at h;omega)]at E |-;refine sR4 I J L M Jv ?_;refine kI E ?_;refine sR Jv ?_;exact aR
  by_cases I:48<=n
  .by_cases J:n<=57
   .have U:cls n=2:=by unfold cls;rw[A6 Z,A9 ⟨I,J⟩]
    rw[U];refine Fi I J Jv ?_;refine tI ?_;refine sR Jv ?_;exact aR
   .refine Fi I J Jv ?_;exact A0.ff rfl (A0.kk (r2 _ _ sS (λh=>J h.2)))
  .refine Aq I Jv ?_;exact A0.ff rfl (A0.kk (r2 _ _ sS (λh=>I h.1)))
 by_cases I:97<=n
 .by_cases J:n<=122
  .have U:cls n=1:=by unfold cls;rw[A9 (show letter n from .inl ⟨I,J⟩)]
   rw[U];refine Fi I J Jv ?_;refine tI ?_;refine sR Jv ?_;exact aR
  .have L:65<=n:=by omega
   have M:¬n<=90:=by omega
   refine sR4 I J L M Jv ?_;exact A0.ff rfl (A0.kk (r1 _ _ sS (λh=>by unfold letter at h;omega)))
 .by_cases L:65<=n
  .by_cases M:n<=90
   .have U:cls n=1:=by unfold cls;rw[A9 (show letter n from .inr ⟨L,M⟩)]
    rw[U];refine sR3 I L M Jv ?_;refine tI ?_;refine sR Jv ?_;exact aR
   .refine sR3 I L M Jv ?_;exact A0.ff rfl (A0.kk (r1 _ _ sS (λh=>by unfold letter at h;omega)))
  .refine Fi I L Jv ?_;exact A0.ff rfl (A0.kk (r1 _ _ sS (λh=>by unfold letter at h;omega)))
def D5k(s:A3):Bool:=decide (s=[112,97,99,107,97,103,101]\/s=[109,97,105,110]\/s=[116,121,112,101]\/s=[115,116,114,117,99,116]\/s=[105,110,116,101,114,102,97,99,101]\/s=[102,117,110,99]\/s=[114,101,116,117,114,110])
abbrev Uk:List Nat:=[0,2,16]
def G1o(s:A3):Ac prog 172 [D9 s] (Ay (D5k s)):=by
 unfold D5k;refine cB func172 ?_;refine sR Uk<|sK λK1 I=>?_;by_cases M:s=[112,97,99,107,97,103,101]
 .have E:decide (s=[112,97,99,107,97,103,101])=true:=Bo M;rw[Bo (.inl M)];refine Aq E Uk ?_;refine tI ?_;refine sR Uk ?_;exact aR
 have E:decide (s=[112,97,99,107,97,103,101])=false:=Ce M;by_cases V:s=[109,97,105,110]
 .have J:decide (s=[109,97,105,110])=true:=Bo V;rw[Bo (.inr (.inl V))];refine Fi E J Uk ?_;refine tI ?_;refine sR Uk ?_;exact aR
 have J:decide (s=[109,97,105,110])=false:=Ce V;by_cases O:s=[116,121,112,101]
 .have U:decide (s=[116,121,112,101])=true:=Bo O;rw[Bo (.inr (.inr (.inl O)))];refine sR3 E J U Uk ?_;refine tI ?_;refine sR Uk ?_;exact aR
 have U:decide (s=[116,121,112,101])=false:=Ce O;by_cases W:s=[115,116,114,117,99,116]
 .have b4:decide (s=[115,116,114,117,99,116])=true:=Bo W;rw[Bo (.inr (.inr (.inr (.inl W))))];refine sR4 E J U b4 Uk ?_;refine tI ?_;refine sR Uk ?_;exact aR
 have b4:decide (s=[115,116,114,117,99,116])=false:=Ce W;refine sR4 E J U b4 Uk ?_;refine kI I ?_;clear I K1;by_cases L:s=[105,110,116,101,114,102,97,99,101]
 .have Z:decide (s=[105,110,116,101,114,102,97,99,101])=true:=Bo L;rw[Bo (.inr (.inr (.inr (.inr (.inl L)))))];refine Aq Z Uk ?_;exact aR
 have Z:decide (s=[105,110,116,101,114,102,97,99,101])=false:=Ce L;by_cases a6:s=[102,117,110,99]
 .have b6:decide (s=[102,117,110,99])=true:=Bo a6;rw[Bo (.inr (.inr (.inr (.inr (.inr (.inl a6))))))];refine Fi Z b6 Uk ?_;exact aR
 have b6:decide (s=[102,117,110,99])=false:=Ce a6;have e:decide (s=[112,97,99,107,97,103,101]\/s=[109,97,105,110]\/s=[116,121,112,101]\/s=[115,116,114,117,99,116]\/s=[105,110,116,101,114,102,97,99,101]\/s=[102,117,110,99]\/s=[114,101,116,117,114,110])=decide (s=[114,101,116,117,114,110]):=by simp[M,V,O,W,L,a6]
 rw[e];refine Fi Z b6 Uk ?_;exact aR
def X1(c:UInt8):Bool:=!(decide (cls c.toNat=0) ||decide (cls c.toNat=4))
def isName(s:A3):Bool:=match s with
 |[]=>false
 |c::_=>decide (cls c.toNat=1) && s.all X1 && !D5k s
abbrev Py:List Nat:=[0,2,3,4,13,17,29]
def Z6(s:A3):Ac prog 111 [D9 s] (Ay (isName s)):=by
 have a1:=G1o s;refine Bj.bd (Enters.of func111 rfl (by decide)) λU=>?_;have a6:s.length<=lim:=by have:=U.1;simp only[SV.bd]at this;cases this;assumption
 clear U;refine cB func111 ?_;refine sR Py ?_;cases s with
 |nil =>refine sK λK1 E=>?_;have a3:((0:Nat):Int)=0:=rfl;refine Aq a3 Py ?_;refine tI ?_;refine sR Py ?_;exact aR
 |cons c cs =>
  have J:¬(((c::cs).length:Int)=0):=by simp only[C6];omega
  have h0:(c::cs)[0]?=some c:=rfl;have hn:isName (c::cs)=(decide (cls c.toNat=1) && (c::cs).all X1 && !D5k (c::cs)):=rfl;rw[hn];clear hn;have O:=E2d c.toNat;generalize c::cs=s at*;refine sK λK1 E=>?_;by_cases M:cls c.toNat=1
  ·(refine sQ Py λK z=>?_;refine As J ?_;refine⟨c,h0,?_⟩;(try refine Gv J M ?_);refine⟨_,.inl ⟨_,rfl,O,rfl⟩,?_⟩;(try refine As M ?_);apply z;clear z K)
   refine kI E ?_;clear E K1;rw[Bo M,Cr];refine kR Py λK1 E=>?_;refine A0.bb (A0.ii s (X:=Unit) (λj _=>[(0,D9 s),(3,A8 j)]) (λ_ _=>[])
    (λj _=>(s.drop j).all X1=s.all X1) () rfl sS sB ?_ ?_)
   .intro _ L;rw[De,Aq0]at L;rw[<-L,Cr]at E |-;refine Ai B3 Py λW I=>?_;refine A0.ss rfl ?_;simp only[A4,Ab,Ae];refine E _ _<|sC a1 Py ?_;exact aR
   .intro j _ d hd a5 dp tk a2 L;rw[dp,Ro]at L;refine Ai a2 Py λW I=>?_;refine gI I ?_;clear I W;refine sK λW I=>A0.bb ?_
    (refine sV Py λK z=>?_;refine⟨by omega,d,hd,?_⟩;(try refine ev ?_);refine cc (E2d d.toNat) ?_;apply z;clear z K)
    by_cases Z:cls d.toNat=0
    .rw[<-L];rw[show X1 d=false by simp[X1,Z],C9,C9];refine Aq Z Py ?_;refine A0.tt rfl<|sR Py ?_;exact aR
    by_cases V:cls d.toNat=4
    .rw[<-L];rw[show X1 d=false by simp[X1,V],C9,C9];refine Aq V Py ?_;refine A0.tt rfl<|sR Py ?_;exact aR
    rw[show X1 d=true by simp[X1,Z,V],Cr]at L;refine Fi Z V Py ?_;refine A0.ff rfl (A0.kk (I _ _ ?_));clear I W
    (refine lV Py λK z=>?_;refine⟨by first| (unfold Az;omega)| (simp only[Az,lim]at*;omega),?_⟩;(try refine ev ?_);apply z;clear z K;try simp only[A4,])
    exact⟨(),L,sS,sB⟩
  ·(refine sQ Py λK z=>?_;refine As J ?_;refine⟨c,h0,?_⟩;(try refine Gv J M ?_);refine⟨_,.inl ⟨_,rfl,O,rfl⟩,?_⟩;(try refine As M ?_);apply z;clear z K)
   refine tI ?_;refine sR Py ?_;rw[Ce M,C9,C9];exact aR
def D4x:∀{l:List Ty} {t:Ty},t∈l->t.names.length<=(Ty.Lj l).length
 |[],_,h=>by simp at h
 |x::l,t,h=>by
  simp only[Ty.Lj,Bz];simp only[Aw]at h;rcases h with rfl|h
  .omega
  .have:=D4x h;omega
def E3y:∀l:List Ty,l.length<=(Ty.Lj l).length
 |[]=>by simp[Ty.Lj]
 |x::l=>by have:=E3y l;simp only[Ty.Lj,Bz,C6,Ty.C2h];omega
abbrev q4I:List Nat:=[0,1,2,3,4,7,12]
def G9e:∀t:Ty,t.names.length<=sm->Ac prog 177 [B6 t] (Cy t.names):=by
 intro t
 induction t using Ty.induct with|_ t ih=>?_
 intro hs;rw[Ty.C2h,C6]at hs;rw[Ty.C2h];refine cB func177 ?_;refine sR q4I ?_
 (refine A0.zz 1 rfl rfl (wk [(1,.Ah (Be t) 0)] [] ?_))
 (refine A0.Ef q4I [7] (by decide +kernel) λK z=>?_;refine ev ?_;apply z;clear z K)
 refine kR q4I λK1 L=>?_;refine A0.bb (A0.ii t.args (X:=Unit) (λj _=>[(1,.Ah (Be t) 0),(3,.acc 7),(4,A8 j)]) (λj _=>[(7,.rows 1 (C5 (t.name::Ty.Lj (t.args.take j))))])
  (λj _=>True) () trivial (by simp[sle,Ax,Ag,Be]) (by simp[ble,A7,C5,Ty.Lj]) ?_ ?_)
 .intro _ _;rw[Dm];refine Ai B3 q4I λJ E=>?_;refine A0.ss rfl ?_;simp only[A4,Ab,Ae];refine L _ _<|sR q4I ?_;exact aR
 .intro j _ d V I dp Z M hI;have O:=D4x I;have U:=E3y t.args;rw[Z,Ty.D0x];have W:(Ty.Lj (t.args.take j)).length<=(Ty.Lj t.args).length:=by
   conv=>rhs;rw[<-Ak4 j t.args,Ty.D0x,Bz]
   omega
  refine Ai M q4I λJ E=>?_;refine gI E ?_;clear E J;refine sK λJ E=>A0.bb ?_
  (refine lV q4I λK z=>?_;refine ci (Dv V) ?_;refine cc (ih d I (by omega)) ?_;refine⟨A5n _,by unfold lim sm at*;omega,?_⟩;(try refine ev ?_);apply z;clear z K;try simp only[A4,Ab])
  refine E _ _ ?_;clear E J;refine lT q4I ?_;exact⟨(),trivial,(by simp[sle,Ax,Ag,Be,]),by simp[ble,A7,C5,Ty.Lj]⟩
def Ty.right(t:Ty):Bool:=t.names.all isName
abbrev q5I:List Nat:=[0,1,2,3,4,10,18]
def B4r(t:Ty)(h:t.Nn):Ac prog 117 [B6 t] (Ay t.right):=by
 have O:=G9e t (by unfold Ty.Nn at h;unfold sm;omega);have Z:t.names.length<=2000:=h;unfold Ty.right;generalize t.names=l at*;refine cB func117 ?_;refine sR q5I ?_;refine sC O q5I ?_;refine kR q5I λK1 J=>?_;refine A0.bb (A0.ii l (X:=Unit) (λj _=>[(3,Cy l),(4,A8 j)]) (λ_ _=>[])
  (λj _=>(l.drop j).all isName=l.all isName) () rfl sS sB ?_ ?_)
 .intro _ I;rw[De,Aq0]at I;rw[<-I]at J |-;refine Ai B3 q5I λM E=>?_;refine A0.ss rfl ?_;simp only[A4,Ab,Ae];refine J _ _<|sR q5I ?_;exact aR
 .intro j _ d W V dp tk U I;rw[dp,Ro]at I;refine Ai U q5I λM E=>?_;refine gI E ?_;clear E M;refine sK λM E=>A0.bb ?_
  (refine sV q5I λK z=>?_;refine ci (Ku W) ?_;refine cc (Z6 d) ?_;apply z;clear z K)
  refine A0.cond rfl (λL=>?_) (λL=>?_)
  .refine sR q5I ?_;simp only[M1]at L;rw[L,C9]at I;rw[<-I];exact aR
  simp only[S5]at L;rw[L,Cr]at I;refine A0.kk (E _ _ ?_);clear E M
  (refine lV q5I λK z=>?_;refine cl ?_;apply z;clear z K;try simp only[A4,])
  exact⟨(),I,sS,sB⟩
def D0a(e:Ex):Prop:=(e.kind=1->e.kids=[])/\(e.kind=4\/e.kind=5->e.kids.length=1)
mutual
def Ex.One:Ex->Prop
 |.mk k n t a ks q=>D0a (.mk k n t a ks q)/\Ex.A4z ks
def Ex.A4z:List Ex->Prop
 |[]=>True
 |e::es=>e.One/\Ex.A4z es
end
def E0m:∀{l:List Ex},Ex.A4z l->∀e,e∈l->e.One
 |[],_=>by simp
 |x::l,h=>by
  rw[Ex.A4z]at h;intro e he;simp only[Aw]at he;rcases he with rfl|he
  .exact h.1
  .exact E0m h.2 e he
def Ex.One.out{e:Ex}(h:e.One):D0a e/\∀x,x∈e.kids->x.One:=by cases e with|mk k n t a ks q=>rw[Ex.One]at h;exact⟨h.1,E0m h.2⟩
def Ex.typed(e:Ex):Bool:=decide (e.kind=3) ||decide (e.kind=5)
def Ex.Uj(e:Ex):Bool:=if e.kind=1 then decide ((e.kids.length:Int)=0)else if e.kind=2 then decide ((e.kids.length:Int) >= 1)else if e.kind=3 then true else if e.kind=4\/e.kind=5 then decide ((e.kids.length:Int)=1)else false
def Ex.Y3(e:Ex):Bool:=if e.typed=true then e.type.right && decide (e.name=[]) && e.Uj else !e.type.right && decide (e.type.name=[]) && decide (e.type.args.length=0) && isName e.name && e.Uj
def Ex.B7v(e:Ex):Bool:=e.targs.all λt=>decide (e.kind=2) && t.right
mutual
def Ex.right:Ex->Bool
 |.mk k n t a ks q=>Ex.A2b ks && (Ex.B7v (.mk k n t a ks q) && Ex.Y3 (.mk k n t a ks q))
def Ex.A2b:List Ex->Bool
 |[]=>true
 |e::es=>e.right && Ex.A2b es
end
def Ex.B9f(e:Ex):e.right=(Ex.A2b e.kids && (e.B7v && e.Y3)):=by cases e with|mk k n t a ks q=>rw[Ex.right];rfl
def B8e:∀{l:List Ex},Ex.A2b l=true->∀e,e∈l->e.right=true
 |[],_=>by simp
 |x::l,h=>by
  rw[Ex.A2b,Bc]at h;intro e he;simp only[Aw]at he;rcases he with rfl|he
  .exact h.1
  .exact B8e h.2 e he
def Ex.E5b:∀e:Ex,e.right=true->e.One:=by
 intro e
 induction e using Ex.induct with|_ e W=>?_
 intro h;rw[Ex.B9f,Bc,Bc]at h;have E:e.Uj=true:=by have:=h.2.2;unfold Ex.Y3 at this;split at this <;> (simp only[Bc]at this;exact this.2)
 have Z:∀l:List Ex,(∀x,x∈l->x.One)->Ex.A4z l:=by
  intro l
  induction l with
  |nil=>intro _;trivial
  |cons x l L=>intro J;rw[Ex.A4z];exact⟨J x (by simp),L λy V=>J y (by simp[V])⟩
 have I:=Z e.kids λx J=>W x J (B8e h.1 x J);cases e with|mk k n t a ks q =>
 rw[Ex.One];refine⟨⟨λO=>?_,λM=>?_⟩,I⟩
 .unfold Ex.Uj at E;rw[A9 O,Da]at E;exact Pa (by omega)
 .unfold Ex.Uj at E;rw[A6 (by omega),A6 (by omega)]at E;by_cases U:(Ex.mk k n t a ks q).kind=3
  .omega
  .rw[A6 U,A9 M,Da]at E;omega
abbrev E8:List Nat:=[0,1,2,3,4,5,10,19,24,38,68,84,86,87,93,99,101]
set_option maxHeartbeats 4000000 in
def D5o:∀e:Ex,e.Nn->Ac prog 67 [D0 e] (Ay e.right):=by
 intro e
 induction e using Ex.induct with|_ e ih=>?_
 intro hn;rw[Ex.B9f];have L:=B4r e.type hn.type;have a0:=Z6 e.name;refine Bj.bd (Enters.of func67 rfl (by decide)) λa3=>?_;have a1:=C6e a3.1;have a6:=a1.kids.1;have a7:=a1.targs.1;clear a3 a1;refine cB func67 ?_;refine sR E8 ?_
 (refine A0.zz 1 rfl rfl (wk [(1,.Ah (Bu e) 0)] [] ?_))
 refine kR E8 λV I=>?_;refine A0.bb (A0.ii e.kids (X:=Unit) (λj _=>[(1,.Ah (Bu e) 0),(3,A8 j)]) (λ_ _=>[])
  (λj _=>Ex.A2b (e.kids.drop j)=Ex.A2b e.kids) () rfl (by simp[sle,Ax,Ag,Bu,]) sB ?_ ?_)
 .intro _ J;rw[De,Ex.A2b]at J;rw[<-J,Cr]at I |-;clear J;refine Ai B3 E8 λW E=>?_;refine A0.ss rfl ?_;simp only[A4,Ab,Ae];refine I _ _ ?_;clear E W I V;refine kR E8 λV I=>?_;refine A0.bb (A0.ii e.targs (X:=Unit) (λj _=>[(1,.Ah (Bu e) 0),(4,A8 j)]) (λ_ _=>[])
   (λj _=>((e.targs.drop j).all λt=>decide (e.kind=2) && t.right)=e.B7v) () rfl (by simp[sle,Ax,Ag,Bu,]) sB ?_ ?_)
  .intro _ J;rw[De,Aq0]at J;rw[<-J,Cr]at I |-;clear J;refine Ai B3 E8 λW E=>?_;refine A0.ss rfl ?_;simp only[A4,Ab,Ae];refine I _ _ ?_;clear E W I V;refine sK λV I=>?_;have rest:∀sl bx,sle sl [(1,.Ah (Bu e) 0),(5,Ay e.typed)]->V sl bx:=by
    intro sl bx O;refine I _ _ (A0.ww (bx':=[]) O trivial ?_);clear I V;refine sK λV I=>?_;have rest:∀sl bx,sle sl [(1,.Ah (Bu e) 0),(5,Ay e.typed)]->e.typed=e.type.right->(e.typed=false->e.type.name=[]/\e.type.args.length=0)->V sl bx:=by
     intro sl bx O h1 h2;refine I _ _ (A0.ww (bx':=[]) O trivial ?_);clear I V;have hr:e.Y3=(if e.typed=true then decide (e.name=[]) && e.Uj else isName e.name && e.Uj):=by
      unfold Ex.Y3;rcases Fb e.typed with ht|ht
      .rw[A9 ht,A9 ht,<-h1,ht,Cr]
      .rw[A6 (by simp[ht]),A6 (by simp[ht]),<-h1,ht,(h2 ht).1,(h2 ht).2];simp
     rw[hr];clear hr h1 h2;refine sK λV I=>?_;have rest:∀sl bx,sle sl [(1,.Ah (Bu e) 0)]->(∀b,(if e.typed=true then decide (e.name=[]) && b else isName e.name && b)=b)->V sl bx:=by
      intro sl bx O h1;rw[h1]at*;refine I _ _ (A0.ww (bx':=[]) O trivial ?_);clear I V;refine kR E8 λV I=>?_;unfold Ex.Uj;refine A0.bb ?_;by_cases k1:e.kind=1
      .rw[A9 k1];refine Aq k1 E8 ?_;refine A0.tt rfl<|sR E8 ?_;exact aR
      rw[A6 k1];refine Aq k1 E8 ?_;refine A0.ff rfl ?_;by_cases k2:e.kind=2
      .rw[A9 k2];refine Aq k2 E8 ?_;refine A0.tt rfl<|sR E8 ?_;exact aR
      rw[A6 k2];refine Aq k2 E8 ?_;refine A0.ff rfl ?_;by_cases k3:e.kind=3
      .rw[A9 k3];refine Aq k3 E8 ?_;refine A0.tt rfl<|sR E8 ?_;exact aR
      rw[A6 k3];refine Aq k3 E8 ?_;refine A0.ff rfl<|sK λW E=>?_;by_cases k4:e.kind=4
      .rw[A9 (.inl k4)]at E |-;refine Aq k4 E8 ?_;refine A0.tt rfl (A0.kk (E _ _ ?_));refine A0.tt rfl<|sR E8 ?_;exact aR
      by_cases k5:e.kind=5
      .rw[A9 (.inr k5)]at E |-;refine Aq k4 E8 ?_;refine A0.ff rfl ?_
       (refine lQ E8 λK z=>?_;refine As k5 ?_;apply z;clear z K;try simp only[A4,])
       refine E _ _<|A0.tt rfl<|sR E8 ?_;exact aR
      have a5:e.Uj=false:=by unfold Ex.Uj;rw[A6 k1,A6 k2,A6 k3,A6 (by omega)]
      refine Aq k4 E8 ?_;refine A0.ff rfl ?_
      (refine lQ E8 λK z=>?_;refine As k5 ?_;apply z;clear z K;try simp only[A4,])
      refine E _ _<|A0.ff rfl (A0.kk ?_);simp only[A4,Ab];refine I _ _<|sR E8 ?_;rw[a5];exact aR
     rcases Fb e.typed with ht|ht
     .rw[ht]at O |-;rw[A9 rfl]at*;by_cases M:e.name=[]
      .have bn:decide (e.name=[])=true:=Bo M
       (refine sQ E8 λK z=>?_;simp -implicitDefEqProofs only[EV,Nat.reduceEqDiff,Nat.reduceLeDiff,reduceCtorEq,Mx,Iu,Mr,bn];apply z;clear z K)
       exact A0.ff rfl (A0.kk (rest _ _ (by simp[sle,Ax,Ag,Bu,]) (λb=>by rw[A9 ht,Bo M,Cr])))
      .have bn:decide (e.name=[])=false:=Ce M
       (refine sQ E8 λK z=>?_;simp -implicitDefEqProofs only[EV,Nat.reduceEqDiff,Nat.reduceLeDiff,reduceCtorEq,Mx,Iu,Mr,bn];apply z;clear z K)
       refine tI ?_;refine sR E8 ?_;rw[Ce M,C9];exact aR
     .rw[ht]at O |-;rcases Fb (isName e.name)with hin|hin
      .rw[hin]at a0;refine sC a0 E8 ?_;exact A0.ff rfl (A0.kk (rest _ _ (by simp[sle,Ax,Ag,Bu,]) (λb=>by rw[A6 (by simp[ht]),hin,Cr])))
      .rw[hin]at a0;refine sC a0 E8 ?_;refine tI ?_;refine sR E8 ?_;rw[A6 (by simp),hin,C9];exact aR
    have hf:(e.typed≠e.type.right\/(e.typed=false/\¬(e.type.name=[]/\e.type.args.length=0)))->e.Y3=false:=by
     intro h;unfold Ex.Y3;rcases Fb e.typed with ht|ht
     .rcases Fb e.type.right with hr|hr
      .rw[ht,hr]at h;simp at h
      .rw[ht,hr];rfl
     .rcases Fb e.type.right with hr|hr
      .rw[ht,hr];rfl
      .rw[ht,hr]at h;simp at h;rw[ht,hr];simp;intro h1 h2;exact absurd h2 (h h1)
    have q1:(true ==true)=true:=rfl;have q2:(true ==false)=false:=rfl;have q3:(false ==true)=false:=rfl;have q4:(false ==false)=true:=rfl;rcases Fb e.typed with ht|ht
    .rcases Fb e.type.right with hr|hr
     .rw[hr]at L;rw[ht]
      (refine sV E8 λK z=>?_;refine⟨_,.inl ⟨_,rfl,L,rfl⟩,?_⟩;(try refine As q1 ?_);apply z;clear z K)
      exact A0.ff rfl (A0.kk (rest _ _ (by rw[ht];exact(by simp[sle,Ax,Ag,Bu,])) (by rw[ht,hr]) (by rw[ht];simp)))
     .rw[hr]at L;rw[hf (.inl (by rw[ht,hr];simp)),ht]
      (refine sV E8 λK z=>?_;refine⟨_,.inl ⟨_,rfl,L,rfl⟩,?_⟩;(try refine As q2 ?_);apply z;clear z K)
      refine tI ?_;refine sR E8 ?_;exact aR
    .rcases Fb e.type.right with hr|hr
     .rw[hr]at L;rw[hf (.inl (by rw[ht,hr];simp)),ht]
      (refine sV E8 λK z=>?_;refine⟨_,.inl ⟨_,rfl,L,rfl⟩,?_⟩;(try refine As q3 ?_);apply z;clear z K)
      refine tI ?_;refine sR E8 ?_;exact aR
     .rw[hr]at L;by_cases M:e.type.name=[]
      .have bn:decide (e.type.name=[])=true:=Bo M;by_cases a4:e.type.args.length=0
       .have hg:¬(0<(e.type.args.length:Int)):=by omega
        rw[ht]
        (refine sV E8 λK z=>?_;refine⟨_,.inl ⟨_,rfl,L,rfl⟩,?_⟩;(try simp -implicitDefEqProofs only[EV,Nat.reduceAdd,Nat.reduceEqDiff,Nat.reduceLeDiff,reduceCtorEq,TF4,Mx,Lq,I3,Iu,q4,Mr,bn,hg]);apply z;clear z K)
        exact A0.ff rfl (A0.kk (rest _ _ (by rw[ht];exact(by simp[sle,Ax,Ag,Bu,])) (by rw[ht,hr]) (λ_=>⟨M,a4⟩)))
       .have hg:0<(e.type.args.length:Int):=by omega
        rw[hf (.inr ⟨ht,λh=>a4 h.2⟩),ht]
        (refine sV E8 λK z=>?_;refine⟨_,.inl ⟨_,rfl,L,rfl⟩,?_⟩;(try simp -implicitDefEqProofs only[EV,Nat.reduceAdd,Nat.reduceEqDiff,Nat.reduceLeDiff,reduceCtorEq,TF4,Mx,Lq,I3,Iu,q4,Mr,bn,hg]);apply z;clear z K)
        refine tI ?_;refine sR E8 ?_;exact aR
      .have bn:decide (e.type.name=[])=false:=Ce M;rw[hf (.inr ⟨ht,λh=>M h.1⟩),ht]
       (refine sV E8 λK z=>?_;refine⟨_,.inl ⟨_,rfl,L,rfl⟩,?_⟩;(try simp -implicitDefEqProofs only[EV,Nat.reduceEqDiff,Nat.reduceLeDiff,reduceCtorEq,TF4,Mx,I3,Iu,q4,Mr,bn]);apply z;clear z K)
       refine tI ?_;refine sR E8 ?_;exact aR
   by_cases k3:e.kind=3
   .have ht:e.typed=true:=by unfold Ex.typed;rw[Bo k3];rfl
    have d3:=Bo k3
    (refine lQ E8 λK z=>?_;refine As d3 ?_;apply z;clear z K;try simp only[A4,])
    exact rest _ _ (by rw[ht];exact(by simp[sle,Ax,Ag,Bu,]))
   by_cases k5:e.kind=5
   .have ht:e.typed=true:=by unfold Ex.typed;rw[Bo k5,Bool.or_true]
    have d5:=Bo k5
    (refine lQ E8 λK z=>?_;refine Gv k3 d5 ?_;apply z;clear z K;try simp only[A4,])
    exact rest _ _ (by rw[ht];exact(by simp[sle,Ax,Ag,Bu,]))
   have ht:e.typed=false:=by unfold Ex.typed;rw[Ce k3,Ce k5];rfl
   (refine lQ E8 λK z=>?_;refine Gv k3 k5 ?_;apply z;clear z K;try simp only[A4,])
   exact rest _ _ (by rw[ht];exact(by simp[sle,Ax,Ag,Bu,]))
  .intro j _ d hd U dp tk a2 J;rw[dp,Ro]at J;refine Ai a2 E8 λW E=>?_;refine gI E ?_;clear E W;refine sK λW E=>A0.bb ?_;by_cases k2:e.kind=2
   .rw[Bo k2,Cr]at J;have d2:=Bo k2
    (refine sQ E8 λK z=>?_;simp -implicitDefEqProofs only[EV,Nat.reduceEqDiff,reduceCtorEq,J3,Lq,I3,Iu,Mr,d2];refine ci (Dv hd) ?_;refine cc (B4r d (hn.targs d U)) ?_;apply z;clear z K)
    refine A0.cond rfl (λZ=>?_) (λZ=>?_)
    .refine sR E8 ?_;simp only[M1]at Z;rw[Z,C9]at J;rw[<-J,C9];exact aR
    simp only[S5]at Z;rw[Z,Cr]at J;refine A0.kk (E _ _ ?_);clear E W
    (refine lV E8 λK z=>?_;refine⟨by first| (unfold Az;omega)| (simp only[Az,lim]at*;omega),?_⟩;(try refine ev ?_);apply z;clear z K;try simp only[A4,])
    exact⟨(),by rw[Bo k2];exact J,(by simp[sle,Ax,Ag,Bu,]),sB⟩
   .rw[Ce k2,C9,C9]at J;rw[<-J,C9];refine Aq k2 E8 ?_;refine A0.tt rfl<|sR E8 ?_;exact aR
 .intro j _ d hd U dp tk a2 J;rw[dp,Ex.A2b]at J;refine Ai a2 E8 λW E=>?_;refine gI E ?_;clear E W;refine sK λW E=>A0.bb ?_
  (refine sV E8 λK z=>?_;refine ci (Dn hd) ?_;refine cc (ih d U (hn.kids d U)) ?_;apply z;clear z K)
  refine A0.cond rfl (λZ=>?_) (λZ=>?_)
  .refine sR E8 ?_;simp only[M1]at Z;rw[Z,C9]at J;rw[<-J,C9];exact aR
  simp only[S5]at Z;rw[Z,Cr]at J;refine A0.kk (E _ _ ?_);clear E W
  (refine lV E8 λK z=>?_;refine⟨by first| (unfold Az;omega)| (simp only[Az,lim]at*;omega),?_⟩;(try refine ev ?_);apply z;clear z K;try simp only[A4,])
  exact⟨(),J,(by simp[sle,Ax,Ag,Bu,]),sB⟩
def Si(l:List Am):Bool:=l.all λf=>isName f.name && f.bound.right
abbrev Zi:List Nat:=[0,2,3,7,25]
def E0j(l:List Am)(hn:∀f,f∈l->f.bound.Nn):Ac prog 112 [.d (.slice (Ar l))] (Ay (Si l)):=by
 refine Bj.bd (Enters.of func112 rfl (by decide)) λO=>?_;have a1:l.length<=lim:=by have:=O.1;simp only[SV.bd]at this;cases this with|slice _ h1 _=>simpa [Ar]using h1
 clear O;refine cB func112 ?_;refine sR Zi ?_;refine kR Zi λK1 M=>?_;refine A0.bb (A0.ii l (X:=Unit) (λj _=>[(0,.d (.slice (Ar l))),(3,A8 j)]) (λ_ _=>[])
  (λj _=>Si (l.drop j)=Si l) () rfl sS sB ?_ ?_)
 .intro _ L;rw[De]at L;rw[<-L]at M |-;refine Ai B3 Zi λW I=>?_;refine A0.ss rfl ?_;simp only[A4,Ab,Ae];refine M _ _<|sR Zi ?_;exact aR
 .intro j _ d Z U dp tk a0 L;rw[dp]at L;unfold Si at L;rw[Ro]at L;have E:(isName d.name && d.bound.right && Si (l.drop (j+1)))=Si l:=L;clear L;refine Ai a0 Zi λW I=>?_;refine gI I ?_;clear I W;refine sK λW I=>A0.bb ?_;rcases Fb (isName d.name)with h1|h1
  .have J:=Z6 d.name;rw[h1]at J;rw[h1,Cr]at E
   (refine sV Zi λK z=>?_;refine ci (F5 Z) ?_;refine cc J ?_;refine ci (F5 Z) ?_;refine cc (B4r d.bound (hn d U)) ?_;apply z;clear z K)
   refine A0.cond rfl (λV=>?_) (λV=>?_)
   .refine sR Zi ?_;simp only[M1]at V;rw[V,C9]at E;rw[<-E];exact aR
   simp only[S5]at V;rw[V,Cr]at E;refine A0.kk (I _ _ ?_);clear I W
   (refine lV Zi λK z=>?_;refine⟨by first| (unfold Az;omega)| (simp only[Az,lim]at*;omega),?_⟩;(try refine ev ?_);apply z;clear z K;try simp only[A4,])
   exact⟨(),E,sS,sB⟩
  .have J:=Z6 d.name;rw[h1]at J;rw[h1,C9,C9]at E;rw[<-E]
   (refine sV Zi λK z=>?_;refine ci (F5 Z) ?_;refine cc J ?_;apply z;clear z K)
   refine A0.tt rfl<|sR Zi ?_;exact aR
def Vj(l:List Param):Bool:=l.all λf=>isName f.name && f.type.right
abbrev Y9:List Nat:=[0,2,3,7,25]
def D9m(l:List Param)(hn:∀f,f∈l->f.type.Nn):Ac prog 113 [.d (.slice (B9 l))] (Ay (Vj l)):=by
 refine Bj.bd (Enters.of func113 rfl (by decide)) λO=>?_;have a1:l.length<=lim:=by have:=O.1;simp only[SV.bd]at this;cases this with|slice _ h1 _=>simpa [B9]using h1
 clear O;refine cB func113 ?_;refine sR Y9 ?_;refine kR Y9 λK1 M=>?_;refine A0.bb (A0.ii l (X:=Unit) (λj _=>[(0,.d (.slice (B9 l))),(3,A8 j)]) (λ_ _=>[])
  (λj _=>Vj (l.drop j)=Vj l) () rfl sS sB ?_ ?_)
 .intro _ L;rw[De]at L;rw[<-L]at M |-;refine Ai B3 Y9 λW I=>?_;refine A0.ss rfl ?_;simp only[A4,Ab,Ae];refine M _ _<|sR Y9 ?_;exact aR
 .intro j _ d Z U dp tk a0 L;rw[dp]at L;unfold Vj at L;rw[Ro]at L;have E:(isName d.name && d.type.right && Vj (l.drop (j+1)))=Vj l:=L;clear L;refine Ai a0 Y9 λW I=>?_;refine gI I ?_;clear I W;refine sK λW I=>A0.bb ?_;rcases Fb (isName d.name)with h1|h1
  .have J:=Z6 d.name;rw[h1]at J;rw[h1,Cr]at E
   (refine sV Y9 λK z=>?_;refine ci (E9 Z) ?_;refine cc J ?_;refine ci (E9 Z) ?_;refine cc (B4r d.type (hn d U)) ?_;apply z;clear z K)
   refine A0.cond rfl (λV=>?_) (λV=>?_)
   .refine sR Y9 ?_;simp only[M1]at V;rw[V,C9]at E;rw[<-E];exact aR
   simp only[S5]at V;rw[V,Cr]at E;refine A0.kk (I _ _ ?_);clear I W
   (refine lV Y9 λK z=>?_;refine⟨by first| (unfold Az;omega)| (simp only[Az,lim]at*;omega),?_⟩;(try refine ev ?_);apply z;clear z K;try simp only[A4,])
   exact⟨(),E,sS,sB⟩
  .have J:=Z6 d.name;rw[h1]at J;rw[h1,C9,C9]at E;rw[<-E]
   (refine sV Y9 λK z=>?_;refine ci (E9 Z) ?_;refine cc J ?_;apply z;clear z K)
   refine A0.tt rfl<|sR Y9 ?_;exact aR
def A5.right(s:A5):Bool:=isName s.name && Si s.A1 && Vj s.params && s.result.right
def D8d(s:A5)(I:s.Nn):Ac prog 114 [Ea s] (Ay s.right):=by
 have E:=Z6 s.name;have J:=E0j s.A1 I.A1;have L:=D9m s.params I.params;have M:=B4r s.result I.result;unfold A5.right;generalize isName s.name=b1 at*;generalize Si s.A1=b2 at*;generalize Vj s.params=b3 at*;generalize s.result.right=b4 at*;refine cB func114 ?_;refine sR [0,1,2] ?_;cases b1 with
 |false =>refine sC E [0,1,2] ?_;exact aR
 |true =>
  cases b2 with
  |false =>
   (refine sV [0,1,2] λK z=>?_;refine cc E ?_;refine cc J ?_;apply z;clear z K)
   exact aR
  |true =>
   cases b3 with
   |false =>
    (refine sV [0,1,2] λK z=>?_;refine cc E ?_;refine cc J ?_;refine cc L ?_;apply z;clear z K)
    exact aR
   |true =>
    (refine sV [0,1,2] λK z=>?_;refine cc E ?_;refine cc J ?_;refine cc L ?_;refine cc M ?_;apply z;clear z K)
    exact aR
end Go.Abs
