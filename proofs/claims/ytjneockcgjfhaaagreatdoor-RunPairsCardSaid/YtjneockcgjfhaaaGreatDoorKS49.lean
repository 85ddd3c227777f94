/- several texts in one -/
import Derived.Test.YtjneockcgjfhaaaGreatDoorKSB
set_option linter.all false
set_option maxHeartbeats 1000000
set_option maxRecDepth 100000
namespace Go.Abs
open Go Go.Proofs Tryz
mutual
theorem Ty.F7:∀(t:Ty)(k:Int),k+1<=t.count k
 |.mk n a _,k=>by simp only[Ty.count];have:=Ty.L1 a (k+1+((n.length / 50:Nat):Int));omega
theorem Ty.L1:∀(l:List Ty)(k:Int),k<=Ty.Cf l k
 |[],k=>by simp[Ty.Cf]
 |t::E,k=>by simp only[Ty.Cf];split;have I:=Ty.F7 t k;have J:=Ty.L1 E (t.count k);omega;omega
end
mutual
theorem Ty.G3:∀(t:Ty)(k:Int),0<=k->t.count k<=2000->t.Sm
 |.mk n a p,k,E,h=>by simp only[Ty.count]at h;have L:=Ty.L1 a (k+1+((n.length / 50:Nat):Int));have I:=Ty.A9p a (k+1+((n.length / 50:Nat):Int)) (by omega) h;exact .mk n a p (by unfold sm;omega) (by unfold sm;omega) I.2
theorem Ty.A9p:∀(l:List Ty)(k:Int),0<=k->Ty.Cf l k<=2000->(k+l.length<=2000/\∀t,t∈l->t.Sm)
 |[],k,E,h=>by simp[Ty.Cf]at h |-;omega
 |t::J,k,E,h=>by simp only[Ty.Cf]at h;split at h;have L:=Ty.F7 t k;have I:=Ty.A9p J (t.count k) (by omega) h;have O:=Ty.G3 t k E (by have:=Ty.L1 J (t.count k);omega);refine⟨by simp only[Ar];omega,?_⟩;intro u hu;simp only[B5]at hu;rcases hu with rfl|hu;exact O;exact I.2 u hu;omega
end
mutual
theorem Ex.F7:∀(t:Ex)(k:Int),k+1<=t.count k
 |.mk _ n t a ks _,k=>by simp only[Ex.count];have E:=Ty.F7 t (k+((n.length / 50:Nat):Int));have I:=Ty.L1 a (t.count (k+((n.length / 50:Nat):Int)));have L:=Ex.L1 ks (Ty.Cf a (t.count (k+((n.length / 50:Nat):Int))));omega
theorem Ex.L1:∀(l:List Ex)(k:Int),k<=Ex.Cf l k
 |[],k=>by simp[Ex.Cf]
 |t::J,k=>by simp only[Ex.Cf];split;have E:=Ex.F7 t k;have I:=Ex.L1 J (t.count k);omega;omega
end
mutual
theorem Ex.G3:∀(t:Ex)(k:Int),0<=k->t.count k<=2000->t.Sm
 |.mk U n t a ks p,k,E,h=>by simp only[Ex.count]at h;have O:=Ty.F7 t (k+((n.length / 50:Nat):Int));have L:=Ty.L1 a (t.count (k+((n.length / 50:Nat):Int)));have J:=Ex.L1 ks (Ty.Cf a (t.count (k+((n.length / 50:Nat):Int))));have W:=Ty.G3 t (k+((n.length / 50:Nat):Int)) (by omega) (by omega);have V:=Ty.A9p a (t.count (k+((n.length / 50:Nat):Int))) (by omega) (by omega);have Z:=Ex.A9p ks (Ty.Cf a (t.count (k+((n.length / 50:Nat):Int)))) (by omega) h;exact .mk U n t a ks p (by unfold sm;omega) W (by unfold sm;omega) V.2 (by unfold sm;omega) Z.2
theorem Ex.A9p:∀(l:List Ex)(k:Int),0<=k->Ex.Cf l k<=2000->(k+l.length<=2000/\∀t,t∈l->t.Sm)
 |[],k,E,h=>by simp[Ex.Cf]at h |-;omega
 |t::I,k,E,h=>by simp only[Ex.Cf]at h;split at h;have O:=Ex.F7 t k;have L:=Ex.A9p I (t.count k) (by omega) h;have J:=Ex.G3 t k E (by have:=Ex.L1 I (t.count k);omega);refine⟨by simp only[Ar];omega,?_⟩;intro u hu;simp only[B5]at hu;rcases hu with rfl|hu;exact J;exact L.2 u hu;omega
end
abbrev Ps{α:Type}(F:List α->Int->Int)(Sm:α->Prop):Prop:=∀(l:List α)(k:Int),(k<=F l k)/\(0<=k->F l k<=2000->k+l.length<=2000/\∀t,t∈l->Sm t)
def P0{α:Type}(F:List α->Int->Int)(g:α->Int->Int)(Sm:α->Prop)(J:∀k,F [] k=k)(L:∀x xs k,F (x::xs) k=if k<=2000 then F xs (g x k)else k)
  (E:∀x k,k+1<=g x k)(I:∀x k,0<=k->g x k<=2000->Sm x):∀(l:List α) (k:Int),(k<=F l k)/\(0<=k->F l k<=2000->k+l.length<=2000/\∀t,t∈l->Sm t)
 |[],k=>by rw[J];exact⟨Int.le_refl _,λJ h=>⟨by simp;omega,by simp⟩⟩
 |t::U,k=>by
  rw[L];obtain⟨i1,W⟩:=P0 F g Sm J L E I U (g t k);have h2:=E t k;split
  .refine⟨by omega,λZ h=>?_⟩;obtain⟨j1,O⟩:=W (by omega) h;have V:=I t k Z (by omega);refine⟨by simp only[Ar];omega,?_⟩;intro u hu;simp only[B5]at hu;rcases hu with rfl|hu
   .exact V
   .exact O u hu
  .exact⟨Int.le_refl _,λ_ h=>by omega⟩
def B0s:Ps Ca Ak.Sm:=P0 Ca (λf n=>f.bound.count (n+1+((f.name.length / 50:Nat):Int))) Ak.Sm (λ_=>rfl) (λ_ _ _=>rfl)
 (λx k=>by have:=Ty.F7 x.bound (k+1+((x.name.length / 50:Nat):Int));omega)
 (λx k E h=>by have:=Ty.F7 x.bound (k+1+((x.name.length / 50:Nat):Int));exact⟨by unfold sm;omega,Ty.G3 _ _ (by omega) h⟩)
def B3i:Ps D4 Param.Sm:=P0 D4 (λf n=>f.type.count (n+1+((f.name.length / 50:Nat):Int))) Param.Sm (λ_=>rfl) (λ_ _ _=>rfl)
 (λx k=>by have:=Ty.F7 x.type (k+1+((x.name.length / 50:Nat):Int));omega)
 (λx k E h=>by have:=Ty.F7 x.type (k+1+((x.name.length / 50:Nat):Int));exact⟨by unfold sm;omega,Ty.G3 _ _ (by omega) h⟩)
def A2x:Ps Ja (λv=>v.length<=sm):=P0 Ja (λv n=>n+1+((v.length / 50:Nat):Int)) (λv=>v.length<=sm) (λ_=>rfl) (λ_ _ _=>rfl) (λx k=>by omega) (λx k E h=>by unfold sm;omega)
def A4.G3(s:A4)(n:Int):n+1<=s.count n/\(0<=n->s.count n<=2000->s.Sm):=by unfold A4.count;obtain⟨Z,E⟩:=B0s s.A1 (n+((s.name.length / 50:Nat):Int));obtain⟨O,J⟩:=B3i s.params (Ca s.A1 (n+((s.name.length / 50:Nat):Int)));have V:=Ty.F7 s.result (D4 s.params (Ca s.A1 (n+((s.name.length / 50:Nat):Int))));refine⟨by omega,λU h=>?_⟩;obtain⟨a3,I⟩:=E (by omega) (by omega);obtain⟨W,L⟩:=J (by omega) (by omega);exact⟨by unfold sm;omega,⟨by unfold sm;omega,I⟩,⟨by unfold sm;omega,L⟩,Ty.G3 _ _ (by omega) h⟩
def C6x:Ps Eh A4.Sm:=P0 Eh A4.count A4.Sm (λ_=>rfl) (λ_ _ _=>rfl) (λx k=>(A4.G3 x k).1) (λx k=>(A4.G3 x k).2)
def Decl.G3(d:Decl)(n:Int):n+1<=d.count n/\(0<=n->d.count n<=2000->d.Sm):=by unfold Decl.count;generalize hm:n+1+((d.name.length / 50:Nat):Int)+((d.recv.length / 50:Nat):Int)=m;obtain⟨a1,V⟩:=B0s d.A1 m;obtain⟨b1,L⟩:=B3i d.fields (Ca d.A1 m);obtain⟨c1,W⟩:=C6x d.sigs (D4 d.fields (Ca d.A1 m));obtain⟨e1,J⟩:=A2x d.vars (Eh d.sigs (D4 d.fields (Ca d.A1 m)));generalize hz:Ja d.vars (Eh d.sigs (D4 d.fields (Ca d.A1 m)))=z at*;unfold Decl.Si;obtain⟨f1,f2⟩:=A4.G3 d.sig z;have g1:=Ex.F7 d.body (d.sig.count z);refine⟨by split <;> omega,λh0 h=>?_⟩;split at h;obtain⟨a3,U⟩:=V (by omega) (by omega);obtain⟨b3,O⟩:=L (by omega) (by omega);obtain⟨c3,I⟩:=W (by omega) (by omega);obtain⟨e3,Z⟩:=J (by omega) (by omega);exact⟨by unfold sm;omega,⟨by unfold sm;omega,U⟩,⟨by unfold sm;omega,O⟩,⟨by unfold sm;omega,I⟩,by unfold sm;omega,⟨by unfold sm;omega,λv E=>Dd (Z v E) (by decide)⟩,f2 (by omega) (by omega),Ex.G3 _ _ (by omega) h⟩;omega
def C5o:Ps Jt Decl.Sm:=P0 Jt Decl.count Decl.Sm (λ_=>rfl) (λ_ _ _=>rfl) (λx k=>(Decl.G3 x k).1) (λx k=>(Decl.G3 x k).2)
def Prog.G3(p:Prog)(h:p.count<=600):p.Sm/\p.decls.length<=2000:=by unfold Prog.count at h;have J:=Ex.F7 p.main 0;obtain⟨L,I⟩:=C5o p.decls (p.main.count 0);obtain⟨O,E⟩:=I (by omega) (by omega);exact⟨⟨⟨by unfold sm;omega,E⟩,Ex.G3 p.main 0 (by omega) (by omega)⟩,by omega⟩
def Hn(a b:A2):D:=.agg [.str a,.str b]
def isStr(P:Program)(t:TypeId):Bool:=match P.underlying t with|some .string=>true|_=>false
def C2o(P:Program)(E:TypeId):Bool:=match P.underlying E with
 |some (.struct fs)=>match fs.toList with
  |[f1,f2]=>f1.offset ==0 && f2.offset ==1 && isStr P f1.type && isStr P f2.type && P.cellsOf f1.type ==1 && P.cellsOf f2.type ==1 && P.cellsOf E ==2 && fs.all (·.name != "_") && Nat.ble 1 P.types.size
  |_=>false
 |_=>false
def E6m{P:Program}{t:TypeId}(h:isStr P t=true):P.underlying t=some .string:=by unfold isStr at h;split at h <;> simp_all
def B1s{P:Program}{L:TypeId}(h:C2o P L=true)(a b:A2)(W:a.length<=lim)(O:b.length<=lim):En P L (Hn a b):=by
 unfold C2o at h;split at h
 .rename_i fs J;split at h
  .rename_i f1 f2 E;simp only[Bi,Wy,Nat.ble_eq]at h;obtain⟨⟨⟨⟨⟨⟨⟨⟨o1,U⟩,u1⟩,u2⟩,c1⟩,V⟩,I⟩,hn⟩,Z⟩:=h;obtain⟨d,hd⟩:∃d,P.types.size+1=d+2:=⟨P.types.size - 1,by omega⟩;refine⟨rfl,?_,?_⟩;simp[Hn,D.kv,Value.formed,J,I]
   .rw[hd];have e1:∀s:A2,s.length<=lim->P.keyLits (d+1) f1.type [.string ⟨s.toArray⟩]=some [.string s]:=λs hs=>by simp[Program.keyLits,E6m u1,ByteArray.size];unfold lim at hs;unfold maxLen;omega
    have e2:∀s:A2,s.length<=lim->P.keyLits (d+1) f2.type [.string ⟨s.toArray⟩]=some [.string s]:=λs hs=>by simp[Program.keyLits,E6m u2,ByteArray.size];unfold lim at hs;unfold maxLen;omega
    unfold Program.keyLits;rw[J];simp only[Hn,D.kv,Value.cells,Cp,It,D.lit,Lit.value,Ar,Az,I,hn,and_self,Ac,E,List.mapM_cons,List.mapM_nil,o1,U,c1,V,Zu,Am1,Am2,Au8,e1 a W,e2 b O];rfl
  simp at h
 simp at h
def B2s:C2o prog 182=true:=by kernel_rfl
def Mp(d:Decl):Option D:=if d.kind=1\/d.kind=2 then some (Hn d.name [])else if d.kind=3 then some (Hn d.name (46::d.sig.name))else none
def Xz(m:List (D × D))(i:Nat)(d:Decl):List (D × D):=match Mp d with
 |none=>m
 |some k=>if(Ea k.lits m 0).isSome=true then m else Xt k (.int .i64 i) m
def Z3:List Decl->Nat->List (D × D)->List (D × D)
 |[],_,m=>m
 |d::ds,i,m=>Z3 ds (i+1) (Xz m i d)
def Rq(p:Prog):List (D × D):=Z3 p.decls 0 []
def G1(p:Prog):List D:=Ai p++[.map (Rq p)]
def E3u{P:Program}{E:TypeId}{m:List (D × D)}{k v:D}(h:∀kv,kv∈m->En P E kv.1)(I:En P E k):∀kv,kv∈Xt k v m->En P E kv.1:=by intro kv hkv;unfold Xt at hkv;split at hkv;rcases Am4 hkv with hkv|rfl;exact h kv hkv;exact I;rcases C6.1 hkv with hkv|hkv;exact h kv hkv;simp only[B5,Fb,Fg]at hkv;subst hkv;exact I
abbrev Kx:List Nat:=[0,1,2,3,4,5,6,8,11,13,18,19,20,21,29,30,33,50]
def D6s(p:Prog)(h:p.Sm):Ab prog 68 [Cq p] (.Aj (G1 p) 0):=by
 refine cB func68 ?_;refine sR Kx ?_;refine sC (E5c p h) Kx ?_;have a':=h.decls.1;refine sK λK1 a5=>?_;have a9:∀sl bx,sle sl [(3,.box 13 0)]->ble bx [(13,.cells ((Ai p).map .d++[.mp 11])),(11,.map (Rq p))]->K1 sl bx:=by intro sl bx h1 h2;refine a5 _ _ (A0.ww h1 h2 ?_);clear a5 K1;refine A0.G4g 11 rfl<|A0.ww (sl':=[(3,.box 13 0)]) (bx':=[(13,.cells ((G1 p).map .d))]) (by simp[M6,SV.sub,sle,Av,Af]) (by simp[Ld,Aq.sub,SV.Kj,SV.sub,ble,A8,C5,G1,Ai]) ?_;refine A0.zz 13 rfl rfl<|A0.ww (sl':=[(3,.Aj (G1 p) 0)]) (bx':=[]) (by simp[M6,SV.sub,sle,Av,Af];rfl) trivial ?_;refine sR Kx ?_;exact aR
 refine sR Kx ?_;refine A0.bb (A0.loop (X:=Nat × List (D × D)) (λx=>[(20,A7 x.1),(19,A7 p.decls.length),(18,.d (.slice (Di p.decls))),(3,.box 13 0)]) (λx=>[(13,.cells ((Ai p).map .d++[.mp 11])),(11,.map x.2)]) (λx=>x.1<=p.decls.length/\(∀kv,kv∈x.2->En prog 182 kv.1)/\Z3 (p.decls.drop x.1) x.1 x.2=Rq p) (λx=>p.decls.length - x.1) (0,[]) ?_ ?_ ?_ ?_);exact⟨by simp,by simp,rfl⟩;exact sS;exact(by simp[ble,A8,Ai]);rintro⟨j,m⟩ ⟨hj,hm,V⟩;simp only at hj hm V;by_cases a6:(j:Int)<(p.decls.length:Int)
 .have Z:j<p.decls.length:=by omega
  have hy:p.decls[j]?=some p.decls[j]:=Br Z;have a3:p.decls[j]∈p.decls:=Gi Z;have dp:p.decls.drop j=p.decls[j]::p.decls.drop (j+1):=Gv Z;generalize p.decls[j]=y at*;rw[dp,Z3]at V;refine Ap a6 Kx ?_;refine sK λK2 I=>A0.tt rfl (A0.kk (I _ _ ?_));clear I K2;refine sK λK2 I=>?_;have L:∀sl bx m',sle sl [(20,A7 j),(19,A7 p.decls.length),(18,.d (.slice (Di p.decls))),(3,.box 13 0)]->ble bx [(13,.cells ((Ai p).map .d++[.mp 11])),(11,.map m')] ->(∀kv,kv∈m'->En prog 182 kv.1)->m'=Xz m j y->K2 sl bx:=by
   rintro sl bx m' h1 h2 h3 rfl;refine I _ _ (A0.ww h1 h2 ?_);clear I K2 h1 h2
   (refine lQ Kx λK E=>?_;refine ev ?_)
   refine⟨by unfold B7;unfold sm at*;omega,?_⟩
   (apply E;clear E K;try simp only[A5,])
   exact⟨(j+1,Xz m j y),⟨by simp only;omega,h3,V⟩,by simp only;omega,by simp[sle,Av,Af],(by simp[ble,A8,Ai])⟩
  clear I;refine A0.bb ?_;refine sQ Kx λK E=>?_;refine ev ?_;refine⟨by omega,B3 y,Ek hy,rfl,?_⟩;refine ev ?_;apply E;clear E K
  refine sR Kx ?_;have a8:y.name.length<=lim:=Dd (h.decls.2 y a3).name (by unfold sm lim;omega);refine sK λK3 a4=>?_;have U:∀sl bx (mth:A2),sle sl [(4,A7 j),(6,.box 6 0),(20,A7 j),(19,A7 p.decls.length),(18,.d (.slice (Di p.decls))),(3,.box 13 0)] ->ble bx [(13,.cells ((Ai p).map .d++[.mp 11])),(11,.map m),(6,.cells [.d (.str y.name),.d (.str mth)])]->Mp y=some (Hn y.name mth)->mth.length<=lim->K3 sl bx:=by
   intro sl bx mth h1 h2 a2 a7;refine a4 _ _ (A0.ww h1 h2 ?_);clear a4 K3 h1 h2;have W:=B1s B2s y.name mth a8 a7
   (refine sG Kx [] 10 [] λK E=>?_;refine ev ?_)
   refine⟨hm,W,?_⟩
   (apply E;clear E K)
   by_cases hs:(Ea (D.agg [D.str y.name,D.str mth]).lits m 0).isSome=true
   .have ht:Xz m j y=m:=by simp only[Xz,a2];exact A6 hs
    rw[hs];refine sR Kx ?_;refine A0.ff rfl (A0.kk ?_);simp only[A5,A9];exact L _ _ m sS (by simp[ble,A8,Ai]) hm ht.symm
   .have ht:Xz m j y=Xt (Hn y.name mth) (.int .i64 j) m:=by simp only[Xz,a2];exact A3 hs
    rw[At0]at hs;rw[hs];refine sR Kx ?_;refine A0.tt rfl ?_
    (refine lG Kx [] 6 [] λK E=>?_;refine ev ?_)
    refine⟨hm,W,?_⟩
    (apply E;clear E K;try simp only[A5,A9])
    exact L _ _ _ sS (by simp[ble,A8,Ai];rfl) (E3u hm W) ht.symm
  refine sR Kx<|A0.bb<|sK λK4 J=>?_;by_cases O:y.kind=1
  refine Ap O Kx ?_;refine A0.tt rfl (A0.kk (J _ _ ?_));clear J K4;refine A0.tt rfl (A0.kk ?_);simp only[A5,A9];exact U _ _ [] sS (by simp[ble,A8,Ai]) (by simp[Mp,O]) (by simp)
  .by_cases a1:y.kind=2;refine Ap O Kx ?_;refine A0.ff rfl ?_;refine lQ Kx λK E=>?_;refine Ah a1 ?_;(apply E;clear E K;try simp only[A5,]);refine J _ _ ?_;clear J K4;refine A0.tt rfl (A0.kk ?_);simp only[A5,A9];exact U _ _ [] sS (by simp[ble,A8,Ai]) (by simp[Mp,a1]) (by simp)
   .refine Ap O Kx ?_;refine A0.ff rfl ?_;refine lQ Kx λK E=>?_;refine Ah a1 ?_;(apply E;clear E K;try simp only[A5,]);refine J _ _ ?_;clear J K4;refine A0.ff rfl ?_;by_cases a0:y.kind=3
    .refine Ap a0 Kx ?_;refine A0.tt rfl ?_;have ab:=(h.decls.2 y a3).sig.name;have aa:(ByteArray.mk #[46]).size<=lim:=by decide
     refine lQ Kx λK E=>?_;refine ev ?_;refine⟨by unfold sm lim at*;first|omega| (simp;omega),?_⟩;(apply E;clear E K;try simp only[A5,A9]);exact U _ _ (46::y.sig.name) sS (by simp[ble,A8,Ai]) (by simp[Mp,a0]) (by simp only[Ar];unfold sm lim at*;omega)
    refine Ap a0 Kx ?_;refine A0.ff rfl (A0.xx ?_);simp only[A5,A9];rw[A3 (by decide)];exact L _ _ m sS (by simp[ble,A8,Ai]) hm (by simp[Xz,Mp,O,a1,a0])
 refine Ap a6 Kx ?_;refine sK λK2 I=>A0.ff rfl (A0.xx ?_);simp only[A5,A9,Ac];rw[Jf (by omega),Z3]at V;exact a9 _ _ sS (by rw[<-V];exact(by simp[ble,A8,Ai]))
def Py(l:List Lit)(m:List (D × D)):Option D:=(Ea l m 0).map (·.2)
def C4v(l:List Lit):∀(m:List (D × D))(i:Nat),(Ea l m i).map (·.2)=Py l m
 |[],i=>rfl
 |kv::r,i=>by unfold Py;simp only[Ea];split;rfl;rw[C4v l r (i+1),C4v l r (0+1)]
def C3f(l:List Lit)(k v:D)(m:List (D × D)):Py l ((k,v)::m)=if l=k.lits then some v else Py l m:=by unfold Py;simp only[Ea];split;rfl;exact C4v l m 1
def E3y(l:List Lit)(k v:D):∀m:List (D × D),Py l (m++[(k,v)])=match Py l m with|some x=>some x|none=>if l=k.lits then some v else none
 |[]=>by rw[Y7,C3f];rfl
 |(E,I)::m=>by rw[Nj,C3f,C3f,E3y l k v m];split <;> rfl
def Um(l:List Lit):List Decl->Nat->Option D
 |[],_=>none
 |d::ds,i=>match Mp d with
  |some k=>if l=k.lits then some (.int .i64 i)else Um l ds (i+1)
  |none=>Um l ds (i+1)
def C6r(l:List Lit):∀(ds:List Decl)(i:Nat)(m:List (D × D)),Py l (Z3 ds i m)=match Py l m with|some x=>some x|none=>Um l ds i
 |[],i,m=>by simp only[Z3,Um];cases Py l m <;> rfl
 |d::ds,i,m=>by
  simp only[Z3,Um];rw[C6r l ds (i+1)];unfold Xz;cases O:Mp d with
  |none=>rfl
  |some k =>
   simp only;by_cases hs:(Ea k.lits m 0).isSome=true
   .rw[A6 hs];cases J:Py l m with
    |some x=>rfl
    |none =>simp only;rw[A3];rintro rfl;unfold Py at J;cases I:Ea k.lits m 0 <;> simp[I]at hs J
   .rw[A3 hs];have L:Ea k.lits m 0=none:=by cases I:Ea k.lits m 0 <;> simp[I]at hs |-
    unfold Xt;rw[L];simp only;rw[E3y];cases J:Py l m with
    |some x=>rfl
    |none =>simp only;by_cases E:l=k.lits;rw[A6 E,A6 E];rw[A3 E,A3 E]
def A2v(p:Prog)(k:D):Option Decl:=p.decls.find? λd=>match Mp d with|some E=>decide (k.lits=E.lits)|none=>false
def D9r(l:List Lit):∀(ds:List Decl)(i:Nat),(Um l ds i=none/\(ds.find? λd=>match Mp d with|some L=>decide (l=L.lits)|none=>false)=none) \/∃j d,ds[j]?=some d/\Um l ds i=some (.int .i64 ((i+j:Nat):Int))/\(ds.find? λd=>match Mp d with|some L=>decide (l=L.lits)|none=>false)=some d
 |[],i=>.inl ⟨rfl,rfl⟩
 |d::ds,i=>by
  simp only[Um,Xc];have U:=D9r l ds (i+1);cases W:Mp d with
  |none =>
   simp only;rcases U with h|⟨j,I,E,O,J⟩
   .exact .inl h
   .exact .inr ⟨j+1,I,by simpa using E,by rw[O];congr 3;omega,J⟩
  |some k =>
   simp only;by_cases V:l=k.lits
   .simp only[V,Ac,Ra];exact .inr ⟨0,d,rfl,by simp,rfl⟩
   .simp only[V,Fm,Zj];rcases U with h|⟨j,I,E,O,J⟩
    .exact .inl h
    .exact .inr ⟨j+1,I,by simpa using E,by rw[O];congr 3;omega,J⟩
instance:Inhabited Prog:=⟨⟨[],default⟩⟩
def D2h(p:Prog)(h:p.Sm):∀kv,kv∈Rq p->En prog 182 kv.1:=by
 have go:∀(ds:List Decl) (i:Nat) (m:List (D × D)),(∀d,d∈ds->d.Sm)->(∀kv,kv∈m->En prog 182 kv.1)->∀kv,kv∈Z3 ds i m->En prog 182 kv.1:=by
  intro ds
  induction ds with
  |nil=>intro i m _ h;exact h
  |cons d ds O =>
   intro i m hd J;refine O (i+1) _ (λx L=>hd x (by simp[L])) ?_;have I:=hd d (by simp);unfold Xz;cases E:Mp d with
   |none=>exact J
   |some k =>simp only;split;exact J;refine E3u J ?_;unfold Mp at E;have U:=I.name;have V:=I.sig.name;split at E;simp only[B0]at E;subst E;exact B1s B2s _ _ (by unfold sm lim at*;omega) (by simp);split at E;simp only[B0]at E;subst E;exact B1s B2s _ _ (by unfold sm lim at*;omega) (by simp only[Ar];unfold sm lim at*;omega);simp at E
 exact go p.decls 0 [] h.decls.2 (by simp)
abbrev q2r:List Nat:=[0,1,3,4,5,6,7,9,21]
def D9u(p:Prog)(h:p.Sm)(a b:A2):Ab prog 205 [.Aj (G1 p) 0,.agg [.d (.str a),.d (.str b)]]
  (.tuple [Pz ((A2v p (Hn a b)).getD default),B1 (A2v p (Hn a b)).isSome]):=by
 refine Ch.bd (Enters.of func205 rfl (by decide)) λV=>?_;have I:=V.2.1;simp only[SV.bd,SV.Ub]at I;have hk:=B1s B2s a b (Vf I.1) (Vf I.2.1);have E:Py (Hn a b).lits (Rq p)=Um (Hn a b).lits p.decls 0:=by unfold Rq;rw[C6r];rfl
 unfold Py at E;refine cB func205 ?_;refine sR q2r ?_;refine kR q2r λZ J=>?_;refine A0.ff rfl (A0.kk (J _ _ ?_));clear J Z;refine sG q2r [] 10 [] λK L=>?_;simp -implicitDefEqProofs only[EV,Nat.reduceAdd,Nat.reduceEqDiff,reduceCtorEq,C2r,B6e,C1w,G1];refine⟨D2h p h,hk,?_⟩;apply L;clear L K;refine sK λZ J=>?_;rcases D9r (Hn a b).lits p.decls 0 with⟨O,W⟩|⟨j,d,O,W,h3⟩
 .rw[O]at E;have hn:Ea (D.agg [D.str a,D.str b]).lits (Rq p) 0=none:=by simpa [Hn]using E
  have U:A2v p (Hn a b)=none:=W;rw[hn];refine sR q2r ?_;refine A0.tt rfl<|sR q2r ?_;rw[U];exact aR
 .rw[W]at E;obtain⟨q,hq⟩:∃q,Ea (D.agg [D.str a,D.str b]).lits (Rq p) 0=some (q,.int .i64 ((0+j:Nat):Int)):=by
   cases hf:Ea (D.agg [D.str a,D.str b]).lits (Rq p) 0 with
   |none=>rw[show(Hn a b).lits=(D.agg [D.str a,D.str b]).lits from rfl,hf]at E;simp at E
   |some qd =>rw[show(Hn a b).lits=(D.agg [D.str a,D.str b]).lits from rfl,hf]at E;obtain⟨q,d'⟩:=qd;simp only[Ef,B0]at E;exact⟨q,by rw[E]⟩
  have hl:M8 (D.agg [D.str a,D.str b]) (Rq p) (SV.d (D.int IntKind.i64 0))=A7 j:=by simp only[M8,hq,Y8,Qe]
  have U:A2v p (Hn a b)=some d:=h3;rw[hl,hq];refine sR q2r ?_;refine A0.ff rfl (A0.kk (J _ _ ?_));clear J Z;refine sQ q2r λK L=>?_;refine ev ?_;refine⟨by omega,B3 d,Ek O,rfl,?_⟩;refine ev ?_;apply L;clear L K;rw[U];exact aR
def F5m(p:Prog)(nm:A2):A2v p (Hn nm [])=p.decls.find? (λd=>d.J3 nm):=by
 unfold A2v
 congr 1
 funext d;unfold Mp Decl.J3;by_cases h1:d.kind=1\/d.kind=2
 .rw[A6 h1];rcases h1 with h1|h1 <;> simp[h1,Hn,D.lits,D.lit,eq_comm]
 .rw[A3 h1];have I:¬d.kind=1:=λh=>h1 (.inl h);have J:¬d.kind=2:=λh=>h1 (.inr h);by_cases E:d.kind=3 <;> simp[I,J,E,Hn,D.lits,D.lit]
mutual
def Ty.names:Ty->List A2
 |.mk n a _=>n::Ty.Kh a
def Ty.Kh:List Ty->List A2
 |[]=>[]
 |t::E=>t.names++Ty.Kh E
end
theorem Ty.A9m(t:Ty):t.names=t.name::Ty.Kh t.args:=by cases t;rfl
def Ty.C5m:∀(a b:List Ty),Ty.Kh (a++b)=Ty.Kh a++Ty.Kh b
 |[],b=>rfl
 |t::E,b=>by simp only[Nj,Ty.Kh,Ty.C5m E b,H8]
mutual
theorem Ty.D2a:∀(t:Ty)(k:Int),t.count k<=2000->k+t.names.length<=t.count k
 |.mk n a p,k,h=>by
  simp only[Ty.count]at h |-;have:=Ty.E1z a _ h
  grind[Ty.names]
theorem Ty.E1z:∀(l:List Ty)(k:Int),Ty.Cf l k<=2000->k+(Ty.Kh l).length<=Ty.Cf l k
 |[],k,_=>by simp[Ty.Cf,Ty.Kh]
 |t::I,k,h=>by
  simp only[Ty.Cf]at h |-;split at h
  rename_i E;rw[A6 E];have J:=Ty.E1z I _ h;have L:=Ty.D2a t k (by omega);grind[Ty.Kh];omega
end
def Ty.Nn(t:Ty):Prop:=t.names.length<=2000
theorem Ty.Pf{t:Ty}{k:Int}(E:0<=k)(h:t.count k<=2000):t.Nn:=by have:=Ty.D2a t k h;unfold Ty.Nn;omega
def Ty.B3m:∀{l:List Ty} {k:Int},0<=k->Ty.Cf l k<=2000->∀t,t∈l->t.Nn
 |[],_,_,_=>by simp
 |x::l,k,J,h=>by simp only[Ty.Cf]at h;split at h;have E:=Ty.F7 x k;have I:=Ty.L1 l (x.count k);intro t ht;simp at ht;rcases ht with rfl|ht;grind[Ty.Pf];exact Ty.B3m (by omega) h t ht;omega
inductive Ex.Nn:Ex->Prop where
 |mk (k:Int) (n:A2) (t:Ty) (a:List Ty) (ks:List Ex) (p:Int):t.Nn->(∀t,t∈a->t.Nn)->(∀e,e∈ks->Ex.Nn e)->Ex.Nn (.mk k n t a ks p)
def Ex.Nn.type{e:Ex}(h:e.Nn):e.type.Nn:=by cases h;assumption
def Ex.Nn.targs{e:Ex}(h:e.Nn):∀t,t∈e.targs->t.Nn:=by cases h;assumption
def Ex.Nn.kids{e:Ex}(h:e.Nn):∀t,t∈e.kids->t.Nn:=by cases h;assumption
mutual
theorem Ex.Pf:∀(t:Ex)(k:Int),0<=k->t.count k<=2000->t.Nn
 |.mk L n t a ks p,k,E,h=>by simp only[Ex.count]at h;have J:=Ty.F7 t (k+((n.length / 50:Nat):Int));have U:=Ty.L1 a (t.count (k+((n.length / 50:Nat):Int)));have O:=Ex.L1 ks (Ty.Cf a (t.count (k+((n.length / 50:Nat):Int))));exact .mk L n t a ks p (Ty.Pf (k:=k+((n.length / 50:Nat):Int)) (by omega) (by omega)) (Ty.B3m (k:=t.count (k+((n.length / 50:Nat):Int))) (by omega) (by omega)) (Ex.B3m ks _ (by omega) h)
theorem Ex.B3m:∀(l:List Ex)(k:Int),0<=k->Ex.Cf l k<=2000->∀t,t∈l->t.Nn
 |[],k,E,h=>by simp
 |t::I,k,E,h=>by simp only[Ex.Cf]at h;split at h;have J:=Ex.F7 t k;have V:=Ex.L1 I (t.count k);have U:=Ex.B3m I (t.count k) (by omega) h;have O:=Ex.Pf t k E (by omega);grind;omega
end
structure A4.Nn(s:A4):Prop where
 B8m:s.A1.length<=2000
 A1:∀f,f∈s.A1->f.bound.Nn
 params:∀f,f∈s.params->f.type.Nn
 result:s.result.Nn
structure Decl.Nn(d:Decl):Prop where
 B8m:d.A1.length<=2000
 G8d:d.vars.length<=2000
 A1:∀f,f∈d.A1->f.bound.Nn
 fields:∀f,f∈d.fields->f.type.Nn
 sigs:∀s,s∈d.sigs->s.Nn
 sig:d.sig.Nn
 body:d.body.Nn
structure Prog.Nn(p:Prog):Prop where
 decls:∀d,d∈p.decls->d.Nn
 main:p.main.Nn
def A5n:Ps Ca (λf=>f.bound.Nn):=P0 Ca (λf n=>f.bound.count (n+1+((f.name.length / 50:Nat):Int))) (λf=>f.bound.Nn) (λ_=>rfl) (λ_ _ _=>rfl)
 (λx k=>by have:=Ty.F7 x.bound (k+1+((x.name.length / 50:Nat):Int));omega)
 (λx k E h=>Ty.Pf (by omega) h)
def A6d:Ps D4 (λf=>f.type.Nn):=P0 D4 (λf n=>f.type.count (n+1+((f.name.length / 50:Nat):Int))) (λf=>f.type.Nn) (λ_=>rfl) (λ_ _ _=>rfl)
 (λx k=>by have:=Ty.F7 x.type (k+1+((x.name.length / 50:Nat):Int));omega)
 (λx k E h=>Ty.Pf (by omega) h)
theorem A4.Pf(s:A4)(n:Int)(L:0<=n)(h:s.count n<=2000):s.Nn:=by unfold A4.count at h;obtain⟨U,E⟩:=A5n s.A1 (n+((s.name.length / 50:Nat):Int));obtain⟨J,I⟩:=A6d s.params (Ca s.A1 (n+((s.name.length / 50:Nat):Int)));have O:=Ty.F7 s.result (D4 s.params (Ca s.A1 (n+((s.name.length / 50:Nat):Int))));have V:=(E (by omega) (by omega)).1;exact⟨by omega,(E (by omega) (by omega)).2,(I (by omega) (by omega)).2,Ty.Pf (by omega) h⟩
def D1t:Ps Eh A4.Nn:=P0 Eh A4.count A4.Nn (λ_=>rfl) (λ_ _ _=>rfl) (λx k=>(A4.G3 x k).1) (λx k E h=>A4.Pf x k E h)
theorem Decl.Pf(d:Decl)(n:Int)(Z:0<=n)(h:d.count n<=2000):d.Nn:=by unfold Decl.count at h;generalize W:n+1+((d.name.length / 50:Nat):Int)+((d.recv.length / 50:Nat):Int)=m at h;obtain⟨a1,E⟩:=A5n d.A1 m;obtain⟨O,L⟩:=A6d d.fields (Ca d.A1 m);obtain⟨c1,I⟩:=D1t d.sigs (D4 d.fields (Ca d.A1 m));obtain⟨e1,J⟩:=A2x d.vars (Eh d.sigs (D4 d.fields (Ca d.A1 m)));generalize V:Ja d.vars (Eh d.sigs (D4 d.fields (Ca d.A1 m)))=z at*;unfold Decl.Si at h;obtain⟨f1,_⟩:=A4.G3 d.sig z;have U:=Ex.F7 d.body (d.sig.count z);split at h;have a3:=(E (by omega) (by omega)).1;have e3:=(J (by omega) (by omega)).1;exact⟨by omega,by omega,(E (by omega) (by omega)).2,(L (by omega) (by omega)).2,(I (by omega) (by omega)).2,A4.Pf d.sig z (by omega) (by omega),Ex.Pf d.body (d.sig.count z) (by omega) h⟩;omega
def F2x:Ps Jt Decl.Nn:=P0 Jt Decl.count Decl.Nn (λ_=>rfl) (λ_ _ _=>rfl) (λx k=>(Decl.G3 x k).1) (λx k E h=>Decl.Pf x k E h)
theorem Prog.Pf(p:Prog)(h:p.count<=600):p.Nn:=by unfold Prog.count at h;have I:=Ex.F7 p.main 0;obtain⟨J,E⟩:=F2x p.decls (p.main.count 0);exact⟨(E (by omega) (by omega)).2,Ex.Pf p.main 0 (by omega) (by omega)⟩
def letter(n:Int):Prop:=(97<=n/\n<=122)\/(65<=n/\n<=90)
instance (n:Int):Decidable (letter n):=by unfold letter;infer_instance
def blank(n:Int):Prop:=n=9\/n=10\/n=13\/n=32
instance (n:Int):Decidable (blank n):=by unfold blank;infer_instance
def cls(n:Int):Int:=if letter n then 1 else if 48<=n/\n<=57 then 2 else if n=95 then 3 else if blank n then 4 else 0
abbrev Ju:List Nat:=[0,2,16,22,24,38]
def C7t(n:Int):Ab prog 135 [.d (.int .u8 n)] (A7 (cls n)):=by
 refine cB func135 ?_;refine sR Ju<|sK λU E=>?_;have r1:∀sl bx,sle sl [(0,.d (.int .u8 n))]->¬letter n->U sl bx:=by
  intro sl bx W n1;refine E _ _ (A0.ww (bx':=[]) W trivial ?_);clear E U;refine sK λU E=>?_;have r2:∀sl bx,sle sl [(0,.d (.int .u8 n))]->¬(48<=n/\n<=57)->U sl bx:=by
   intro sl bx W n2;refine E _ _ (A0.ww (bx':=[]) W trivial ?_);clear E U;refine sK λU E=>?_;by_cases Z:n=95
   .have V:cls n=3:=by unfold cls;rw[A3 n1,A3 n2,A6 Z]
    rw[V];refine Ap Z Ju ?_;refine tI ?_;refine sR Ju ?_;exact aR
   refine Ap Z Ju ?_;refine A0.ff rfl (A0.kk (E _ _ ?_));clear E U;have hb:cls n=if blank n then 4 else 0:=by unfold cls;rw[A3 n1,A3 n2,A3 Z]
   rw[hb];refine sK λU E=>?_;by_cases I:n=9;rw[A6 (show blank n from .inl I)];refine Ap I Ju ?_;refine tI ?_;refine sR Ju ?_;exact aR;by_cases J:n=10;rw[A6 (show blank n from .inr (.inl J))];refine Ap J Ju ?_;refine tI ?_;refine sR Ju ?_;exact aR;by_cases L:n=13;rw[A6 (show blank n from .inr (.inr (.inl L)))];refine Ap L Ju ?_;refine tI ?_;refine sR Ju ?_;exact aR;by_cases O:n=32;rw[A6 (show blank n from .inr (.inr (.inr O)))];refine Ap O Ju ?_;refine tI ?_;refine sR Ju ?_;exact aR;rw[A3 (show ¬blank n from λh=>by unfold blank at h;omega)]at E |-;refine sR4 I J L O Ju ?_;refine kI E ?_;refine sR Ju ?_;exact aR
  by_cases I:48<=n
  .by_cases J:n<=57
   .have V:cls n=2:=by unfold cls;rw[A3 n1,A6 ⟨I,J⟩]
    rw[V];refine Er I J Ju ?_;refine tI ?_;refine sR Ju ?_;exact aR
   refine Er I J Ju ?_;exact A0.ff rfl (A0.kk (r2 _ _ sS (λh=>J h.2)))
  refine Ap I Ju ?_;exact A0.ff rfl (A0.kk (r2 _ _ sS (λh=>I h.1)))
 by_cases I:97<=n
 .by_cases J:n<=122
  .have V:cls n=1:=by unfold cls;rw[A6 (show letter n from .inl ⟨I,J⟩)]
   rw[V];refine Er I J Ju ?_;refine tI ?_;refine sR Ju ?_;exact aR
  .have L:65<=n:=by omega
   have O:¬n<=90:=by omega
   refine sR4 I J L O Ju ?_;exact A0.ff rfl (A0.kk (r1 _ _ sS (λh=>by unfold letter at h;omega)))
 .by_cases L:65<=n
  .by_cases O:n<=90
   .have V:cls n=1:=by unfold cls;rw[A6 (show letter n from .inr ⟨L,O⟩)]
    rw[V];refine sR3 I L O Ju ?_;refine tI ?_;refine sR Ju ?_;exact aR
   refine sR3 I L O Ju ?_;exact A0.ff rfl (A0.kk (r1 _ _ sS (λh=>by unfold letter at h;omega)))
  refine Er I L Ju ?_;exact A0.ff rfl (A0.kk (r1 _ _ sS (λh=>by unfold letter at h;omega)))
def A9v(s:A2):Bool:=decide (s=[112,97,99,107,97,103,101]\/s=[109,97,105,110]\/s=[116,121,112,101]\/s=[115,116,114,117,99,116]\/s=[105,110,116,101,114,102,97,99,101]\/s=[102,117,110,99]\/s=[114,101,116,117,114,110])
abbrev Tp:List Nat:=[0,2,16]
def G7j(s:A2):Ab prog 136 [B4 s] (B1 (A9v s)):=by
 unfold A9v;refine cB func136 ?_;refine sR Tp<|sK λK1 I=>?_;by_cases a1:s=[112,97,99,107,97,103,101]
 have E:decide (s=[112,97,99,107,97,103,101])=true:=Cc a1;rw[Cc (.inl a1)];refine Ap E Tp ?_;refine tI ?_;refine sR Tp ?_;exact aR;have E:decide (s=[112,97,99,107,97,103,101])=false:=Cu a1;by_cases U:s=[109,97,105,110];have J:decide (s=[109,97,105,110])=true:=Cc U;rw[Cc (.inr (.inl U))];refine Er E J Tp ?_;refine tI ?_;refine sR Tp ?_;exact aR;have J:decide (s=[109,97,105,110])=false:=Cu U;by_cases a3:s=[116,121,112,101];have Z:decide (s=[116,121,112,101])=true:=Cc a3;rw[Cc (.inr (.inr (.inl a3)))];refine sR3 E J Z Tp ?_;refine tI ?_;refine sR Tp ?_;exact aR;have Z:decide (s=[116,121,112,101])=false:=Cu a3;by_cases O:s=[115,116,114,117,99,116];have b4:decide (s=[115,116,114,117,99,116])=true:=Cc O;rw[Cc (.inr (.inr (.inr (.inl O))))];refine sR4 E J Z b4 Tp ?_;refine tI ?_;refine sR Tp ?_;exact aR;have b4:decide (s=[115,116,114,117,99,116])=false:=Cu O;refine sR4 E J Z b4 Tp ?_;refine kI I ?_;clear I K1;by_cases L:s=[105,110,116,101,114,102,97,99,101];have W:decide (s=[105,110,116,101,114,102,97,99,101])=true:=Cc L;rw[Cc (.inr (.inr (.inr (.inr (.inl L)))))];refine Ap W Tp ?_;exact aR;have W:decide (s=[105,110,116,101,114,102,97,99,101])=false:=Cu L;by_cases V:s=[102,117,110,99];have b6:decide (s=[102,117,110,99])=true:=Cc V;rw[Cc (.inr (.inr (.inr (.inr (.inr (.inl V))))))];refine Er W b6 Tp ?_;exact aR;have b6:decide (s=[102,117,110,99])=false:=Cu V;have e:decide (s=[112,97,99,107,97,103,101]\/s=[109,97,105,110]\/s=[116,121,112,101]\/s=[115,116,114,117,99,116]\/s=[105,110,116,101,114,102,97,99,101]\/s=[102,117,110,99]\/s=[114,101,116,117,114,110])=decide (s=[114,101,116,117,114,110]):=by simp[a1,U,a3,O,L,V]
 rw[e];refine Er W b6 Tp ?_;exact aR
def Iz(c:UInt8):Bool:=!(decide (cls c.toNat=0) ||decide (cls c.toNat=4))
def isName(s:A2):Bool:=match s with
 |[]=>false
 |c::_=>decide (cls c.toNat=1) && s.all Iz && !A9v s
abbrev Pn:List Nat:=[0,2,3,4,13,17,29]
def Xg(s:A2):Ab prog 81 [B4 s] (B1 (isName s)):=by
 have a1:=G7j s;refine Ch.bd (Enters.of func81 rfl (by decide)) λV=>?_;have a6:s.length<=lim:=by have:=V.1;simp only[SV.bd]at this;cases this;assumption
 clear V;refine cB func81 ?_;refine sR Pn ?_;cases s with
 |nil =>refine sK λK1 I=>?_;have a2:((0:Nat):Int)=0:=rfl;refine Ap a2 Pn ?_;refine tI ?_;refine sR Pn ?_;exact aR
 |cons c cs =>
  have J:¬(((c::cs).length:Int)=0):=by simp only[Ar];omega
  have h0:(c::cs)[0]?=some c:=rfl;have hn:isName (c::cs)=(decide (cls c.toNat=1) && (c::cs).all Iz && !A9v (c::cs)):=rfl;rw[hn];clear hn;have U:=C7t c.toNat;generalize c::cs=s at*;refine sK λK1 I=>?_;by_cases O:cls c.toNat=1
  ·(refine sQ Pn λK z=>?_;refine Ah J ?_;refine⟨c,h0,?_⟩;(try refine Du J O ?_);refine⟨_,.inl ⟨_,rfl,U,rfl⟩,?_⟩;(try refine Ah O ?_);apply z;clear z K)
   refine kI I ?_;clear I K1;rw[Cc O,Cr];refine kR Pn λK1 I=>?_;refine A0.bb (A0.ii s (X:=Unit) (λj _=>[(0,B4 s),(3,A7 j)]) (λ_ _=>[]) (λj _=>(s.drop j).all Iz=s.all Iz) () rfl sS sB ?_ ?_)
   .intro _ L;rw[D3,Aq3]at L;rw[<-L,Cr]at I |-;refine Ae B6 Pn λW E=>?_;refine A0.ss rfl ?_;simp only[A5,A9,Ac];refine I _ _<|sC a1 Pn ?_;exact aR
   .intro j _ d hd a5 dp tk a3 L;rw[dp,Rx]at L;refine Ae a3 Pn λW E=>?_;refine gI E ?_;clear E W;refine sK λW E=>A0.bb ?_
    (refine sV Pn λK z=>?_;refine⟨by omega,d,hd,?_⟩;(try refine ev ?_);refine cc (C7t d.toNat) ?_;apply z;clear z K)
    by_cases a0:cls d.toNat=0
    .rw[<-L];rw[show Iz d=false by simp[Iz,a0],C8,C8];refine Ap a0 Pn ?_;refine A0.tt rfl<|sR Pn ?_;exact aR
    by_cases Z:cls d.toNat=4
    .rw[<-L];rw[show Iz d=false by simp[Iz,Z],C8,C8];refine Ap Z Pn ?_;refine A0.tt rfl<|sR Pn ?_;exact aR
    rw[show Iz d=true by simp[Iz,a0,Z],Cr]at L;refine Er a0 Z Pn ?_;refine A0.ff rfl (A0.kk (E _ _ ?_));clear E W
    (refine lV Pn λK z=>?_;refine⟨by first| (unfold B7;omega)| (simp only[B7,lim]at*;omega),?_⟩;(try refine ev ?_);apply z;clear z K;try simp only[A5,])
    exact⟨(),L,sS,sB⟩
  ·(refine sQ Pn λK z=>?_;refine Ah J ?_;refine⟨c,h0,?_⟩;(try refine Du J O ?_);refine⟨_,.inl ⟨_,rfl,U,rfl⟩,?_⟩;(try refine Ah O ?_);apply z;clear z K)
   refine tI ?_;refine sR Pn ?_;rw[Cu O,C8,C8];exact aR
def E5y:∀{l:List Ty} {t:Ty},t∈l->t.names.length<=(Ty.Kh l).length
 |[],_,h=>by grind
 |x::l,t,h=>by simp only[Ty.Kh,As];simp at h;rcases h with rfl|h;omega;have:=E5y h;omega
def E5x:∀l:List Ty,l.length<=(Ty.Kh l).length
 |[]=>by simp
 |x::l=>by have:=E5x l;grind[Ty.Kh,Ty.A9m]
abbrev q4v:List Nat:=[0,1,2,3,4,7,12]
def G1d:∀t:Ty,t.names.length<=sm->Ab prog 141 [Be t] (Ce t.names):=by
 intro t;induction t using Ty.induct with|_ t W=>?_;intro hs;rw[Ty.A9m,Ar]at hs;rw[Ty.A9m];refine cB func141 ?_;refine sR q4v ?_;refine A0.zz 1 rfl rfl (wk [(1,.Aj (Bs t) 0)] [] ?_);refine A0.F9 q4v [7] (by decide +kernel) λK z=>?_;refine ev ?_;apply z;clear z K;refine kR q4v λK1 O=>?_;refine A0.bb (A0.ii t.args (X:=Unit) (λj _=>[(1,.Aj (Bs t) 0),(3,.acc 7),(4,A7 j)]) (λj _=>[(7,.rows 1 (Ba (t.name::Ty.Kh (t.args.take j))))]) (λj _=>True) () trivial (by simp[sle,Av,Af,Bs]) (by simp[ble,A8,Ba,Ty.Kh]) ?_ ?_);intro _ _;rw[Cx];refine Ae B6 q4v λJ E=>?_;refine A0.ss rfl ?_;simp only[A5,A9,Ac];refine O _ _<|sR q4v ?_;exact aR
 .intro j _ d hd I dp tk L hI;have U:=E5y I;have Z:=E5x t.args;rw[tk,Ty.C5m];have V:(Ty.Kh (t.args.take j)).length<=(Ty.Kh t.args).length:=by
   conv=>rhs;rw[<-X5 j t.args,Ty.C5m,As]
   omega
  refine Ae L q4v λJ E=>?_;refine gI E ?_;clear E J;refine sK λJ E=>A0.bb ?_;(refine lV q4v λK z=>?_;refine ci (Ev hd) ?_;refine cc (W d I (by omega)) ?_;refine⟨V0 _,by unfold lim sm at*;omega,?_⟩;(try refine ev ?_);apply z;clear z K;try simp only[A5,A9]);refine E _ _ ?_;clear E J;refine lT q4v ?_;exact⟨(),trivial,(by simp[sle,Av,Af,Bs,]),by simp[ble,A8,Ba,Ty.Kh]⟩
def Ty.right(t:Ty):Bool:=t.names.all isName
abbrev Yx:List Nat:=[0,1,2,3,4,10,18]
def B2n(t:Ty)(h:t.Nn):Ab prog 87 [Be t] (B1 t.right):=by
 have U:=G1d t (by grind[Ty.Nn,sm]);have a0:t.names.length<=2000:=h;unfold Ty.right;generalize t.names=l at*;refine cB func87 ?_;refine sR Yx ?_;refine sC U Yx ?_;refine kR Yx λK1 L=>?_;refine A0.bb (A0.ii l (X:=Unit) (λj _=>[(3,Ce l),(4,A7 j)]) (λ_ _=>[]) (λj _=>(l.drop j).all isName=l.all isName) () rfl (by simp[sle,Av,Af,Bp,Bs,Gs,E9,Dm,B3,Ai]) (by simp[ble,A8,Bp,Bs,Gs,E9,Dm,B3,Ai]) ?_ ?_);intro _ I;rw[D3,Aq3]at I;rw[<-I]at L |-;refine Ae B6 Yx λO E=>?_;refine A0.ss rfl ?_;simp only[A5,A9,Ac];refine L _ _<|sR Yx ?_;exact aR
 intro j _ d hd W Z tk V I;rw[Z,Rx]at I;refine Ae V Yx λO E=>?_;refine gI E ?_;clear E O;refine sK λO E=>A0.bb ?_;refine sV Yx λK z=>?_;refine ci (J7 hd) ?_;refine cc (Xg d) ?_;apply z;clear z K;refine A0.cond rfl (λJ=>?_) (λJ=>?_);refine sR Yx ?_;simp at J;rw[J,C8]at I;rw[<-I];exact aR;simp at J;rw[J,Cr]at I;refine A0.kk (E _ _ ?_);clear E O;(refine lV Yx λK z=>?_;refine cl ?_;apply z;clear z K;try simp only[A5,A9,Ac]);exact⟨(),I,(by simp[sle,Av,Af,Bp,Bs,Gs,E9,Dm,B3,Ai]),(by simp[ble,A8,Bp,Bs,Gs,E9,Dm,B3,Ai])⟩
def C3s(e:Ex):Prop:=(e.kind=1->e.kids=[])/\(e.kind=4\/e.kind=5->e.kids.length=1)
mutual
def Ex.One:Ex->Prop
 |.mk k n t a ks q=>C3s (.mk k n t a ks q)/\Ex.A1e ks
def Ex.A1e:List Ex->Prop
 |[]=>True
 |e::es=>e.One/\Ex.A1e es
end
def E0h:∀{l:List Ex},Ex.A1e l->∀e,e∈l->e.One
 |[],_=>by simp
 |x::l,h=>by rw[Ex.A1e]at h;intro e he;simp only[B5]at he;rcases he with rfl|he;exact h.1;exact E0h h.2 e he
def Ex.One.out{e:Ex}(h:e.One):C3s e/\∀x,x∈e.kids->x.One:=by cases e with|mk k n t a ks q=>rw[Ex.One]at h;exact⟨h.1,E0h h.2⟩
def Ex.typed(e:Ex):Bool:=decide (e.kind=3) ||decide (e.kind=5)
def Ex.Mi(e:Ex):Bool:=if e.kind=1 then decide ((e.kids.length:Int)=0)else if e.kind=2 then decide ((e.kids.length:Int) >= 1)else if e.kind=3 then true else if e.kind=4\/e.kind=5 then decide ((e.kids.length:Int)=1)else false
def Ex.T6(e:Ex):Bool:=if e.typed=true then e.type.right && decide (e.name=[]) && e.Mi else !e.type.right && decide (e.type.name=[]) && decide (e.type.args.length=0) && isName e.name && e.Mi
def Ex.B3x(e:Ex):Bool:=e.targs.all λt=>decide (e.kind=2) && t.right
mutual
def Ex.right:Ex->Bool
 |.mk k n t a ks q=>Ex.Vz ks && (Ex.B3x (.mk k n t a ks q) && Ex.T6 (.mk k n t a ks q))
def Ex.Vz:List Ex->Bool
 |[]=>true
 |e::es=>e.right && Ex.Vz es
end
def Ex.A1a(e:Ex):e.right=(Ex.Vz e.kids && (e.B3x && e.T6)):=by cases e with|mk k n t a ks q=>rw[Ex.right];rfl
def A7q:∀{l:List Ex},Ex.Vz l=true->∀e,e∈l->e.right=true
 |[],_=>by simp
 |x::l,h=>by rw[Ex.Vz,Bi]at h;intro e he;simp only[B5]at he;rcases he with rfl|he;exact h.1;exact A7q h.2 e he
theorem Ex.E4n:∀e:Ex,e.right=true->e.One:=by
 intro e;induction e using Ex.induct with|_ e Z=>?_;intro h;rw[Ex.A1a,Bi,Bi]at h;have J:e.Mi=true:=by have:=h.2.2;unfold Ex.T6 at this;split at this <;> (simp only[Bi]at this;exact this.2)
 have W:∀l:List Ex,(∀x,x∈l->x.One)->Ex.A1e l:=by
  intro l
  induction l with
  |nil=>intro _;trivial
  |cons x l L=>intro E;rw[Ex.A1e];exact⟨E x (by simp),L λy U=>E y (by simp[U])⟩
 have I:=W e.kids λx E=>Z x E (A7q h.1 x E);cases e with|mk k n t a ks q =>
 rw[Ex.One];refine⟨⟨λO=>?_,λh4=>?_⟩,I⟩;unfold Ex.Mi at J;rw[A6 O,E4]at J;exact Yj (by omega);unfold Ex.Mi at J;rw[A3 (by omega),A3 (by omega)]at J;by_cases V:(Ex.mk k n t a ks q).kind=3;omega;rw[A3 V,A6 h4,E4]at J;omega
abbrev Dz:List Nat:=[0,1,2,3,4,5,10,19,24,38,68,84,86,87,93,99,101]
set_option maxHeartbeats 4000000 in
def D1p:∀e:Ex,e.Nn->Ab prog 33 [Bg e] (B1 e.right):=by
 intro e;induction e using Ex.induct with|_ e ih=>?_;intro hn;rw[Ex.A1a];have L:=B2n e.type hn.type;have a0:=Xg e.name;refine Ch.bd (Enters.of func33 rfl (by decide)) λa4=>?_;have a1:=C8m a4.1;have a7:=a1.kids.1;have a6:=a1.targs.1;clear a4 a1;refine cB func33 ?_;refine sR Dz ?_;refine A0.zz 1 rfl rfl (wk [(1,.Aj (Bp e) 0)] [] ?_);refine kR Dz λW I=>?_;refine A0.bb (A0.ii e.kids (X:=Unit) (λj _=>[(1,.Aj (Bp e) 0),(3,A7 j)]) (λ_ _=>[]) (λj _=>Ex.Vz (e.kids.drop j)=Ex.Vz e.kids) () rfl (by simp[sle,Av,Af,Bp,]) sB ?_ ?_)
 .intro _ J;rw[D3,Ex.Vz]at J;rw[<-J,Cr]at I |-;clear J;refine Ae B6 Dz λZ E=>?_;refine A0.ss rfl ?_;simp only[A5,A9,Ac];refine I _ _ ?_;clear E Z I W;refine kR Dz λW I=>?_;refine A0.bb (A0.ii e.targs (X:=Unit) (λj _=>[(1,.Aj (Bp e) 0),(4,A7 j)]) (λ_ _=>[]) (λj _=>((e.targs.drop j).all λt=>decide (e.kind=2) && t.right)=e.B3x) () rfl (by simp[sle,Av,Af,Bp,]) sB ?_ ?_)
  .intro _ J;rw[D3,Aq3]at J;rw[<-J,Cr]at I |-;clear J;refine Ae B6 Dz λZ E=>?_;refine A0.ss rfl ?_;simp only[A5,A9,Ac];refine I _ _ ?_;clear E Z I W;refine sK λW I=>?_;have rest:∀sl bx,sle sl [(1,.Aj (Bp e) 0),(5,B1 e.typed)]->W sl bx:=by
    intro sl bx U;refine I _ _ (A0.ww (bx':=[]) U trivial ?_);clear I W;refine sK λW I=>?_;have rest:∀sl bx,sle sl [(1,.Aj (Bp e) 0),(5,B1 e.typed)]->e.typed=e.type.right->(e.typed=false->e.type.name=[]/\e.type.args.length=0)->W sl bx:=by
     intro sl bx U h1 h2;refine I _ _ (A0.ww (bx':=[]) U trivial ?_);clear I W;have hr:e.T6=(if e.typed=true then decide (e.name=[]) && e.Mi else isName e.name && e.Mi):=by unfold Ex.T6;rcases Fj e.typed with ht|ht;rw[A6 ht,A6 ht,<-h1,ht,Cr];rw[A3 (by simp[ht]),A3 (by simp[ht]),<-h1,ht,(h2 ht).1,(h2 ht).2];simp
     rw[hr];clear hr h1 h2;refine sK λW I=>?_;have rest:∀sl bx,sle sl [(1,.Aj (Bp e) 0)]->(∀b,(if e.typed=true then decide (e.name=[]) && b else isName e.name && b)=b)->W sl bx:=by
      intro sl bx U h1;rw[h1]at*;refine I _ _ (A0.ww (bx':=[]) U trivial ?_);clear I W;refine kR Dz λW I=>?_;unfold Ex.Mi;refine A0.bb ?_;by_cases k1:e.kind=1;rw[A6 k1];refine Ap k1 Dz ?_;refine A0.tt rfl<|sR Dz ?_;exact aR
      rw[A3 k1];refine Ap k1 Dz ?_;refine A0.ff rfl ?_;by_cases k2:e.kind=2;rw[A6 k2];refine Ap k2 Dz ?_;refine A0.tt rfl<|sR Dz ?_;exact aR
      rw[A3 k2];refine Ap k2 Dz ?_;refine A0.ff rfl ?_;by_cases k3:e.kind=3;rw[A6 k3];refine Ap k3 Dz ?_;refine A0.tt rfl<|sR Dz ?_;exact aR
      rw[A3 k3];refine Ap k3 Dz ?_;refine A0.ff rfl<|sK λZ E=>?_;by_cases k4:e.kind=4
      rw[A6 (.inl k4)]at E |-;refine Ap k4 Dz ?_;refine A0.tt rfl (A0.kk (E _ _ ?_));refine A0.tt rfl<|sR Dz ?_;exact aR
      by_cases k5:e.kind=5
      .rw[A6 (.inr k5)]at E |-;refine Ap k4 Dz ?_;refine A0.ff rfl ?_
       (refine lQ Dz λK z=>?_;refine Ah k5 ?_;apply z;clear z K;try simp only[A5,]);refine E _ _<|A0.tt rfl<|sR Dz ?_;exact aR
      have a5:e.Mi=false:=by unfold Ex.Mi;rw[A3 k1,A3 k2,A3 k3,A3 (by omega)]
      refine Ap k4 Dz ?_;refine A0.ff rfl ?_;(refine lQ Dz λK z=>?_;refine Ah k5 ?_;apply z;clear z K;try simp only[A5,]);refine E _ _<|A0.ff rfl (A0.kk ?_);simp only[A5,A9];refine I _ _<|sR Dz ?_;rw[a5];exact aR
     rcases Fj e.typed with ht|ht
     .rw[ht]at U |-;rw[A6 rfl]at*;by_cases O:e.name=[]
      have bn:decide (e.name=[])=true:=Cc O;refine sQ Dz λK z=>?_;simp -implicitDefEqProofs only[EV,Nat.reduceEqDiff,Nat.reduceLeDiff,reduceCtorEq,E1,J9,U7,bn];apply z;clear z K;exact A0.ff rfl (A0.kk (rest _ _ (by simp[sle,Av,Af,Bp,]) (λb=>by rw[A6 ht,Cc O,Cr])));have bn:decide (e.name=[])=false:=Cu O;refine sQ Dz λK z=>?_;simp -implicitDefEqProofs only[EV,Nat.reduceEqDiff,Nat.reduceLeDiff,reduceCtorEq,E1,J9,U7,bn];apply z;clear z K;refine tI ?_;refine sR Dz ?_;rw[Cu O,C8];exact aR
     .rw[ht]at U |-;rcases Fj (isName e.name)with hin|hin
      rw[hin]at a0;refine sC a0 Dz ?_;exact A0.ff rfl (A0.kk (rest _ _ (by simp[sle,Av,Af,Bp,]) (λb=>by rw[A3 (by simp[ht]),hin,Cr])));rw[hin]at a0;refine sC a0 Dz ?_;refine tI ?_;refine sR Dz ?_;rw[A3 (by simp),hin,C8];exact aR
    have hf:(e.typed≠e.type.right\/(e.typed=false/\¬(e.type.name=[]/\e.type.args.length=0)))->e.T6=false:=by intro h;unfold Ex.T6;rcases Fj e.typed with ht|ht;rcases Fj e.type.right with hr|hr;rw[ht,hr]at h;simp at h;rw[ht,hr];rfl;rcases Fj e.type.right with hr|hr;rw[ht,hr];rfl;rw[ht,hr]at h;simp at h;rw[ht,hr];simp;intro h1 h2;exact absurd h2 (h h1)
    have q1:(true ==true)=true:=rfl;have q2:(true ==false)=false:=rfl;have q3:(false ==true)=false:=rfl;have q4:(false ==false)=true:=rfl;rcases Fj e.typed with ht|ht;rcases Fj e.type.right with hr|hr;rw[hr]at L;rw[ht];refine sV Dz λK z=>?_;refine⟨_,.inl ⟨_,rfl,L,rfl⟩,?_⟩;(try refine Ah q1 ?_);apply z;clear z K;exact A0.ff rfl (A0.kk (rest _ _ (by rw[ht];exact(by simp[sle,Av,Af,Bp,])) (by rw[ht,hr]) (by rw[ht];simp)));rw[hr]at L;rw[hf (.inl (by rw[ht,hr];simp)),ht];refine sV Dz λK z=>?_;refine⟨_,.inl ⟨_,rfl,L,rfl⟩,?_⟩;(try refine Ah q2 ?_);apply z;clear z K;refine tI ?_;refine sR Dz ?_;exact aR
    .rcases Fj e.type.right with hr|hr;rw[hr]at L;rw[hf (.inl (by rw[ht,hr];simp)),ht];refine sV Dz λK z=>?_;refine⟨_,.inl ⟨_,rfl,L,rfl⟩,?_⟩;(try refine Ah q3 ?_);apply z;clear z K;refine tI ?_;refine sR Dz ?_;exact aR
     .rw[hr]at L;by_cases O:e.type.name=[]
      .have bn:decide (e.type.name=[])=true:=Cc O;by_cases a3:e.type.args.length=0
       .have hg:¬(0<(e.type.args.length:Int)):=by omega
        rw[ht];refine sV Dz λK z=>?_;refine⟨_,.inl ⟨_,rfl,L,rfl⟩,?_⟩;(try simp -implicitDefEqProofs only[EV,Nat.reduceAdd,Nat.reduceEqDiff,Nat.reduceLeDiff,reduceCtorEq,G4,E1,Ji,Hy,J9,q4,U7,bn,hg]);apply z;clear z K;exact A0.ff rfl (A0.kk (rest _ _ (by rw[ht];exact(by simp[sle,Av,Af,Bp,])) (by rw[ht,hr]) (λ_=>⟨O,a3⟩)))
       .have hg:0<(e.type.args.length:Int):=by omega
        rw[hf (.inr ⟨ht,λh=>a3 h.2⟩),ht];refine sV Dz λK z=>?_;refine⟨_,.inl ⟨_,rfl,L,rfl⟩,?_⟩;(try simp -implicitDefEqProofs only[EV,Nat.reduceAdd,Nat.reduceEqDiff,Nat.reduceLeDiff,reduceCtorEq,G4,E1,Ji,Hy,J9,q4,U7,bn,hg]);apply z;clear z K;refine tI ?_;refine sR Dz ?_;exact aR
      have bn:decide (e.type.name=[])=false:=Cu O;rw[hf (.inr ⟨ht,λh=>O h.1⟩),ht];refine sV Dz λK z=>?_;refine⟨_,.inl ⟨_,rfl,L,rfl⟩,?_⟩;(try simp -implicitDefEqProofs only[EV,Nat.reduceEqDiff,Nat.reduceLeDiff,reduceCtorEq,G4,E1,Hy,J9,q4,U7,bn]);apply z;clear z K;refine tI ?_;refine sR Dz ?_;exact aR
   by_cases k3:e.kind=3
   .have ht:e.typed=true:=by unfold Ex.typed;rw[Cc k3];rfl
    have d3:=Cc k3;(refine lQ Dz λK z=>?_;refine Ah d3 ?_;apply z;clear z K;try simp only[A5,]);exact rest _ _ (by rw[ht];exact(by simp[sle,Av,Af,Bp,]))
   by_cases k5:e.kind=5
   .have ht:e.typed=true:=by unfold Ex.typed;rw[Cc k5,Bool.or_true]
    have d5:=Cc k5;(refine lQ Dz λK z=>?_;refine Du k3 d5 ?_;apply z;clear z K;try simp only[A5,]);exact rest _ _ (by rw[ht];exact(by simp[sle,Av,Af,Bp,]))
   have ht:e.typed=false:=by unfold Ex.typed;rw[Cu k3,Cu k5];rfl
   (refine lQ Dz λK z=>?_;refine Du k3 k5 ?_;apply z;clear z K;try simp only[A5,]);exact rest _ _ (by rw[ht];exact(by simp[sle,Av,Af,Bp,]))
  intro j _ d hd V dp tk a2 J;rw[dp,Rx]at J;refine Ae a2 Dz λZ E=>?_;refine gI E ?_;clear E Z;refine sK λZ E=>A0.bb ?_;by_cases k2:e.kind=2;rw[Cc k2,Cr]at J;have d2:=Cc k2;refine sQ Dz λK z=>?_;simp -implicitDefEqProofs only[EV,Nat.reduceEqDiff,reduceCtorEq,Dn,Ji,Hy,J9,U7,d2];refine ci (Ev hd) ?_;refine cc (B2n d (hn.targs d V)) ?_;apply z;clear z K;refine A0.cond rfl (λhc=>?_) (λhc=>?_);refine sR Dz ?_;simp only[Jj]at hc;rw[hc,C8]at J;rw[<-J,C8];exact aR;simp only[Qc]at hc;rw[hc,Cr]at J;refine A0.kk (E _ _ ?_);clear E Z;(refine lV Dz λK z=>?_;refine⟨by first| (unfold B7;omega)| (simp only[B7,lim]at*;omega),?_⟩;(try refine ev ?_);apply z;clear z K;try simp only[A5,]);exact⟨(),by rw[Cc k2];exact J,(by simp[sle,Av,Af,Bp,]),sB⟩;rw[Cu k2,C8,C8]at J;rw[<-J,C8];refine Ap k2 Dz ?_;refine A0.tt rfl<|sR Dz ?_;exact aR
 intro j _ d hd V dp tk a2 J;rw[dp,Ex.Vz]at J;refine Ae a2 Dz λZ E=>?_;refine gI E ?_;clear E Z;refine sK λZ E=>A0.bb ?_;refine sV Dz λK z=>?_;refine ci (Ck hd) ?_;refine cc (ih d V (hn.kids d V)) ?_;apply z;clear z K;refine A0.cond rfl (λhc=>?_) (λhc=>?_);refine sR Dz ?_;simp only[Jj]at hc;rw[hc,C8]at J;rw[<-J,C8];exact aR;simp only[Qc]at hc;rw[hc,Cr]at J;refine A0.kk (E _ _ ?_);clear E Z;(refine lV Dz λK z=>?_;refine⟨by first| (unfold B7;omega)| (simp only[B7,lim]at*;omega),?_⟩;(try refine ev ?_);apply z;clear z K;try simp only[A5,]);exact⟨(),J,(by simp[sle,Av,Af,Bp,]),sB⟩
def Qg(l:List Ak):Bool:=l.all λf=>isName f.name && f.bound.right
abbrev Yc:List Nat:=[0,2,3,7,25]
def D0z(l:List Ak)(hn:∀f,f∈l->f.bound.Nn):Ab prog 82 [.d (.slice (Ax l))] (B1 (Qg l)):=by
 refine Ch.bd (Enters.of func82 rfl (by decide)) λU=>?_;have a1:l.length<=lim:=by have:=U.1;simp only[SV.bd]at this;cases this with|slice _ h1 _=>simpa [Ax]using h1
 clear U;refine cB func82 ?_;refine sR Yc ?_;refine kR Yc λK1 W=>?_;refine A0.bb (A0.ii l (X:=Unit) (λj _=>[(0,.d (.slice (Ax l))),(3,A7 j)]) (λ_ _=>[]) (λj _=>Qg (l.drop j)=Qg l) () rfl sS sB ?_ ?_);intro _ L;rw[D3]at L;rw[<-L]at W |-;refine Ae B6 Yc λZ I=>?_;refine A0.ss rfl ?_;simp only[A5,A9,Ac];refine W _ _<|sR Yc ?_;exact aR
 intro j _ d hd V dp tk a0 L;rw[dp]at L;unfold Qg at L;rw[Rx]at L;have E:(isName d.name && d.bound.right && Qg (l.drop (j+1)))=Qg l:=L;clear L;refine Ae a0 Yc λZ I=>?_;refine gI I ?_;clear I Z;refine sK λZ I=>A0.bb ?_;rcases Fj (isName d.name)with h1|h1;have J:=Xg d.name;rw[h1]at J;rw[h1,Cr]at E;refine sV Yc λK z=>?_;refine ci (Fc hd) ?_;refine cc J ?_;refine ci (Fc hd) ?_;refine cc (B2n d.bound (hn d V)) ?_;apply z;clear z K;refine A0.cond rfl (λO=>?_) (λO=>?_);refine sR Yc ?_;simp only[Jj]at O;rw[O,C8]at E;rw[<-E];exact aR;simp only[Qc]at O;rw[O,Cr]at E;refine A0.kk (I _ _ ?_);clear I Z;(refine lV Yc λK z=>?_;refine⟨by first| (unfold B7;omega)| (simp only[B7,lim]at*;omega),?_⟩;(try refine ev ?_);apply z;clear z K;try simp only[A5,]);exact⟨(),E,sS,sB⟩;have J:=Xg d.name;rw[h1]at J;rw[h1,C8,C8]at E;rw[<-E];refine sV Yc λK z=>?_;refine ci (Fc hd) ?_;refine cc J ?_;apply z;clear z K;refine A0.tt rfl<|sR Yc ?_;exact aR
def Nd(l:List Param):Bool:=l.all λf=>isName f.name && f.type.right
abbrev Xf:List Nat:=[0,2,3,7,25]
def E5m(l:List Param)(hn:∀f,f∈l->f.type.Nn):Ab prog 83 [.d (.slice (Ay l))] (B1 (Nd l)):=by
 refine Ch.bd (Enters.of func83 rfl (by decide)) λU=>?_;have a1:l.length<=lim:=by have:=U.1;simp only[SV.bd]at this;cases this with|slice _ h1 _=>simpa [Ay]using h1
 clear U;refine cB func83 ?_;refine sR Xf ?_;refine kR Xf λK1 W=>?_;refine A0.bb (A0.ii l (X:=Unit) (λj _=>[(0,.d (.slice (Ay l))),(3,A7 j)]) (λ_ _=>[]) (λj _=>Nd (l.drop j)=Nd l) () rfl sS sB ?_ ?_);intro _ L;rw[D3]at L;rw[<-L]at W |-;refine Ae B6 Xf λZ I=>?_;refine A0.ss rfl ?_;simp only[A5,A9,Ac];refine W _ _<|sR Xf ?_;exact aR
 intro j _ d hd V dp tk a0 L;rw[dp]at L;unfold Nd at L;rw[Rx]at L;have E:(isName d.name && d.type.right && Nd (l.drop (j+1)))=Nd l:=L;clear L;refine Ae a0 Xf λZ I=>?_;refine gI I ?_;clear I Z;refine sK λZ I=>A0.bb ?_;rcases Fj (isName d.name)with h1|h1;have J:=Xg d.name;rw[h1]at J;rw[h1,Cr]at E;refine sV Xf λK z=>?_;refine ci (Dx hd) ?_;refine cc J ?_;refine ci (Dx hd) ?_;refine cc (B2n d.type (hn d V)) ?_;apply z;clear z K;refine A0.cond rfl (λO=>?_) (λO=>?_);refine sR Xf ?_;simp only[Jj]at O;rw[O,C8]at E;rw[<-E];exact aR;simp only[Qc]at O;rw[O,Cr]at E;refine A0.kk (I _ _ ?_);clear I Z;(refine lV Xf λK z=>?_;refine⟨by first| (unfold B7;omega)| (simp only[B7,lim]at*;omega),?_⟩;(try refine ev ?_);apply z;clear z K;try simp only[A5,]);exact⟨(),E,sS,sB⟩;have J:=Xg d.name;rw[h1]at J;rw[h1,C8,C8]at E;rw[<-E];refine sV Xf λK z=>?_;refine ci (Dx hd) ?_;refine cc J ?_;apply z;clear z K;refine A0.tt rfl<|sR Xf ?_;exact aR
def A4.right(s:A4):Bool:=isName s.name && Qg s.A1 && Nd s.params && s.result.right
def E4u(s:A4)(I:s.Nn):Ab prog 84 [E0 s] (B1 s.right):=by
 have E:=Xg s.name;have J:=D0z s.A1 I.A1;have L:=E5m s.params I.params;have O:=B2n s.result I.result;unfold A4.right;generalize isName s.name=b1 at*;generalize Qg s.A1=b2 at*;generalize Nd s.params=b3 at*;generalize s.result.right=b4 at*;refine cB func84 ?_;refine sR [0,1,2] ?_;cases b1 with
 |false =>refine sC E [0,1,2] ?_;exact aR
 |true =>
  cases b2 with
  |false =>refine sV [0,1,2] λK z=>?_;refine cc E ?_;refine cc J ?_;apply z;clear z K;exact aR
  |true =>
   cases b3 with
   |false =>refine sV [0,1,2] λK z=>?_;refine cc E ?_;refine cc J ?_;refine cc L ?_;apply z;clear z K;exact aR
   |true =>refine sV [0,1,2] λK z=>?_;refine cc E ?_;refine cc J ?_;refine cc L ?_;refine cc O ?_;apply z;clear z K;exact aR
end Go.Abs
