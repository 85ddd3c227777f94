/- the signatures of an interface: castingsref11.Specs, table.Specs -/
import Derived.Test.YtjneockcgjfhaaaGreatDoorKS17
set_option linter.all false
set_option maxHeartbeats 1000000
set_option maxRecDepth 100000
namespace Go.Abs
open Go Go.Proofs Tryz
def Px(l:List A2):List (D × D):=l.map λs=>(.str s,.bool true)
def A1t(l:List A2)(s:A2):List A2:=if s∈l then l else l++[s]
def B1t(s:A2):∀(l:List A2)(i:Nat),(s∈l->∃j,l[j]?=some s/\Ea (D.str s).lits (Px l) i=some (i+j,.bool true))/\(s∉l->Ea (D.str s).lits (Px l) i=none)
 |[],i=>by simp[Px,Ea]
 |x::l,i=>by
  have J:=B1t s l (i+1);have U:Px (x::l)=(.str x,.bool true)::Px l:=rfl;rw[U];simp only[Ea];by_cases E:s=x;subst E;refine⟨λ_=>⟨0,rfl,by simp⟩,λh=>absurd (Au2 ..) h⟩
  .have I:¬(D.str s).lits=(D.str x).lits:=by simp[D.lits,D.lit,E]
   rw[A3 I];refine⟨λh=>?_,λh=>J.2 λO=>h (by simp[O])⟩;obtain⟨j,L,V⟩:=J.1 ((B5.1 h).resolve_left E);exact⟨j+1,by simpa using L,by rw[V];congr 2;omega⟩
def E9k(s:A2)(l:List A2):Xt (.str s) (.bool true) (Px l)=Px (A1t l s):=by unfold Xt A1t;by_cases h:s∈l;obtain⟨j,E,O⟩:=(B1t s l 0).1 h;rw[O,A6 h];have L:=(Aw.1 E).1;have I:l[j]=s:=(Aw.1 E).2;simp only[Qe];apply Mm;intro k;by_cases J:k=j;subst J;rw[List.getElem?_set_self (by simpa [Px]using L)];simp[Px,E];rw[At4 (by omega)];rw[(B1t s l 0).2 h,A3 h];simp[Px]
def H0t(s:A2)(l:List A2):M8 (.str s) (Px l) (.d (.bool false))=B1 (decide (s∈l)):=by unfold M8;by_cases h:s∈l;obtain⟨j,I,E⟩:=(B1t s l 0).1 h;rw[E];simp[Y8,h];rw[(B1t s l 0).2 h];simp[h]
def F3v{l:List A2}{s x:A2}:x∈A1t l s↔x=s\/x∈l:=by unfold A1t;split;constructor;exact .inr;rintro(rfl|h);assumption;exact h;simp[or_comm]
def E6n(s:A2)(h:s.length<=lim):En prog 9 (.str s):=by have E:prog.underlying 9=some .string:=E1.2.2.2.2.1;refine⟨rfl,by simp[D.kv,D.lit,Lit.value,Value.formed,E],?_⟩;simp[D.kv,D.lit,D.lits,Lit.value,Value.cells,Program.keyLits,E,ByteArray.size];unfold lim at h;unfold maxLen;omega
def G3h{l:List A2}(h:∀s,s∈l->s.length<=lim):∀kv,kv∈Px l->En prog 9 kv.1:=by intro kv E;obtain⟨s,hs,rfl⟩:=Au.1 E;exact E6n s (h s hs)
def T1(l:List A4):List A2:=l.foldl (λm s=>A1t m s.name) []
def F8i(l:List A4)(d:A4):T1 (l++[d])=A1t (T1 l) d.name:=by simp[T1]
def G6b(l:List A4)(s:A2):∀m:List A2,s∈l.foldl (λm s=>A1t m s.name) m↔s∈m\/∃y,y∈l/\y.name=s:=by
 induction l with
 |nil=>simp
 |cons a l I =>intro m;rw[Mr,I,F3v];simp only[B5];constructor;rintro((rfl|h)|⟨y,h1,E⟩);exact .inr ⟨a,.inl rfl,rfl⟩;exact .inl h;exact .inr ⟨y,.inr h1,E⟩;rintro(h|⟨y,rfl|h1,E⟩);exact .inl (.inr h);exact .inl (.inl E.symm);exact .inr ⟨y,h1,E⟩
def D9o(l:List A4)(s:A2):s∈T1 l↔∃y,y∈l/\y.name=s:=by unfold T1;rw[G6b];simp
def Q8(l:List A4)(s:A4)(i:Nat):Bool:=decide (∀y,y∈l.take i->y.name≠s.name)
def Ic(vars:List A2)(args:List Ty)(l:List A4)(j:Nat):List A4:=((l.take j).zipIdx.filter λE=>Q8 l E.1 E.2).map λE=>E.1.canon.subst vars args
def C5e{vars:List A2}{args:List Ty}{l:List A4}{j:Nat}{d:A4}(I:j<l.length)(ht:l.take (j+1)=l.take j++[d]):Ic vars args l (j+1)=Ic vars args l j++if Q8 l d j=true then[d.canon.subst vars args]else[]:=by
 unfold Ic;have E:(l.take j).length=j:=by rw[D0];omega
 rw[ht,List.zipIdx_append,Aq0,Hc,E]
 congr 1
 simp only[Au6,List.zipIdx_nil,Qe,Ar2,Ar7];split <;> simp_all
def B5a(vars:List A2)(args:List Ty)(l:List A4)(j:Nat):(Ic vars args l j).length<=j:=by unfold Ic;rw[Bc];refine Dd (Ao4 ..) ?_;rw[List.length_zipIdx,D0];omega
def Wm(d:Decl)(x:Ty):List A4:=Ic (Ad d.A1) x.args d.sigs d.sigs.length
def H2(p:Prog)(x:Ty):List A4:=if Bb p x 2=true then Wm ((Fk p x.name).getD default) x else[]
def N4{p:Prog}{x:Ty}{k:Int}(L:k≠0)(h:Bb p x k=true):∃d,Fk p x.name=some d/\d.kind=k/\d.A1.length=x.args.length:=by
 unfold Bb at h;simp only[Bi,E4]at h;cases E:Fk p x.name with
 |none=>have:=(E5p E).1;omega
 |some d =>obtain⟨J,I⟩:=C9w E;exact⟨d,rfl,by omega,by rw[<-I];exact h.2⟩
abbrev P5:List Nat:=[0,1,3,4,5,6,7,8,9,11,19,20,22,23,24,25,32]
def C4t(p:Prog)(h:p.Sm)(x:Ty)(hx:x.Sm):Ch prog 230 [.Aj (G1 p) 0,Be x] [] (.tuple [.acc 8,B1 (Bb p x 2)]) [(8,.rows 7 (B9 (H2 p x)))]:=by
 have I:=B8x p h x 2 (by decide);unfold H2;rcases Fj (Bb p x 2)with hi|hi
 .obtain⟨E,Z,_⟩:=N4 (by decide) hi;rw[hi]at I;rw[A6 hi,hi];rw[Z,Dh]at I |-;have L:=h.decls.2 E (Qb Z);have a8:=L.sigs.1;unfold Wm;refine bB func230 ?_;refine sR P5 ?_;refine sC I P5 ?_;refine kR P5 λK1 u1=>?_;refine kI u1 ?_;clear u1 K1;refine sR P5 ?_;refine A0.pp 8 7 8 rfl<|sR P5 ?_;refine kR P5 λK1 u1=>?_;refine A0.bb (A0.ii E.sigs (X:=Unit) (λj _=>[(3,.box 3 0),(6,.box 6 0),(8,.acc 8),(9,.mp 20),(22,.d (.slice (B9 E.sigs))),(23,A7 E.sigs.length),(24,A7 j)]) (λj _=>[(3,.cells ((Bs x).map .d)),(6,.cells ((B3 E).map .d)),(8,.rows 7 (B9 (Ic (Ad E.A1) x.args E.sigs j))),(20,.map (Px (T1 (E.sigs.take j))))]) (λj _=>True) () trivial sS (by simp[ble,A8,Ic,B9,B3,Bs,Px,T1]) ?_ ?_)
  intro _ _;refine Ap B6 P5 ?_;refine A0.stop rfl ?_;simp only[A5,A9,Ac];refine u1 _ _<|sR P5 ?_;exact A0.ret ⟨_,by rw[results230];rfl,.inl rfl,by simp[ble,A8]⟩
  .intro j _ d hd W dp tk a3 hI;have a7:=B5a (Ad E.A1) x.args E.sigs j;have J:=C5e (vars:=Ad E.A1) (args:=x.args) (by omega) tk;have V:=L.sigs.2 d W;have U:T1 (E.sigs.take (j+1))=A1t (T1 (E.sigs.take j)) d.name:=by rw[tk,F8i]
   have hk:En prog 9 (.str d.name):=E6n _ (Dd V.name (by decide));have a0:∀kv,kv∈Px (T1 (E.sigs.take j))->En prog 9 kv.1:=G3h λs hs=>by obtain⟨y,hy,rfl⟩:=(D9o _ _).1 hs;exact Dd (L.sigs.2 y (Mt hy)).name (by decide)
   have O:Q8 E.sigs d j = !decide (d.name∈T1 (E.sigs.take j)):=by unfold Q8;rw[Am7];simp[D9o]
   refine Ap a3 P5 ?_;refine A0.Ha rfl<|sK λK2 u2=>A0.bb ?_
   refine sV P5 λK z=>?_;refine ci (De hd) ?_;apply z;clear z K;refine sK λK3 u3=>?_;refine sQ P5 λK z=>?_;simp -implicitDefEqProofs only[EV,Nat.reduceEqDiff,reduceCtorEq,E1,Sz,C4b,H0t];refine⟨a0,hk,?_⟩;apply z;clear z K
   have a1:∀sl bx,Af sl 3=.box 3 0->Af sl 6=.box 6 0->Af sl 8=.acc 8->Af sl 9=.mp 20->Af sl 11=.box 11 0->Af sl 22=.d (.slice (B9 E.sigs))->Af sl 23=A7 E.sigs.length->Af sl 24=A7 j ->A8 bx 3=some (.cells ((Bs x).map .d))->A8 bx 6=some (.cells ((B3 E).map .d))->A8 bx 8=some (.rows 7 (B9 (Ic (Ad E.A1) x.args E.sigs (j+1))))->A8 bx 11=some (.cells (R8 d))->A8 bx 20=some (.map (Px (T1 (E.sigs.take j))))->K3 sl bx:=λsl bx g1 g2 g3 g4 g5 g6 g7 g8 g9 a4 a5 a2 a6=>by
    refine u3 _ _<|A0.ww (sl':=[(3,.box 3 0),(6,.box 6 0),(8,.acc 8),(9,.mp 20),(11,.box 11 0),(22,.d (.slice (B9 E.sigs))),(23,A7 E.sigs.length),(24,A7 j)]) (bx':=[(3,.cells ((Bs x).map .d)),(6,.cells ((B3 E).map .d)),(8,.rows 7 (B9 (Ic (Ad E.A1) x.args E.sigs (j+1)))),(11,.cells (R8 d)),(20,.map (Px (T1 (E.sigs.take j))))]) (by simp[sle,Av,g1,g2,g3,g4,g5,g6,g7,g8]) (by simp[ble,g9,a4,a5,a2,a6]) ?_
    (refine lQ P5 λK z=>?_;simp -implicitDefEqProofs only[EV,Nat.reduceEqDiff,reduceCtorEq,E1,Sz,C4b,E9k];refine⟨a0,hk,?_⟩;apply z;clear z K;try simp only[A5,A9])
    refine u2 _ _<|lT P5 ?_;exact⟨(),trivial,sS,by simp[ble,A8,U,Bs,B3]⟩
   by_cases I:d.name∈T1 (E.sigs.take j);rw[Cc I];refine A0.ff rfl (A0.kk (a1 _ _ rfl rfl rfl rfl rfl rfl rfl rfl rfl rfl (by rw[J,O,Cc I];simp[A8]) rfl rfl))
   .rw[Cu I];refine A0.tt rfl ?_;have hn:Q8 E.sigs d j=true:=by rw[O,Cu I];rfl
    rw[hn,A6 rfl]at J;(refine lG P5 [] 10 [] λK z=>?_;refine ev ?_;refine cc (B6b d V) ?_;refine cc (C0c E.A1 L.A1.1) ?_;refine cc (D9b (Ad E.A1) x.args hx.arg _ V.canon) ?_;refine⟨by simp,by unfold lim sm at*;omega,?_⟩;(try refine ev ?_);apply z;clear z K;try simp only[A5,]);exact a1 _ _ rfl rfl rfl rfl rfl rfl rfl rfl rfl rfl (by rw[J];simp[A8,B9,Dm]) rfl rfl
 rw[hi]at I;rw[A3 (by rw[hi];decide),hi];refine bB func230 ?_;refine sR P5 ?_;refine sC I P5 ?_;refine kR P5 λK1 u1=>?_;refine tI ?_;refine sR P5 ?_;refine A0.pp 8 7 4 rfl<|A0.ret ⟨_,by rw[results230];rfl,.inl rfl,by simp[ble,A8,B9]⟩
abbrev Mh:List Nat:=[0,1,2,3,4,5,6,7,8,9,22,27,42,43]
def G5h(p:Prog)(h:p.Sm)(x:Ty)(hx:x.Sm)(hi:Bb p x 2=true):Ch prog 107 [Cq p,Be x] [] (.acc 6) [(6,.rows 7 (B9 (H2 p x)))]:=by
 unfold H2;rw[A6 hi];obtain⟨E,I,_⟩:=N4 (by decide) hi;rw[I,Dh];have O:=h.decls.2 E (Qb I);have ab:=O.sigs.1;have Z:=A7a p x.name;obtain⟨k,a6,a5⟩:∃k:Nat,p.decls[k]?=some E/\findD x.name p.decls 0=k:=by rcases A8g x.name p.decls 0 with⟨h1,h2⟩|⟨k,d,h1,h2,h3⟩;unfold Fk at I;rw[h2]at I;simp at I;unfold Fk at I;rw[h3]at I;simp only[B0]at I;subst I;exact⟨k,h1,by rw[h2];simp⟩
 rw[a5]at Z;unfold Wm;refine bB func107 ?_;refine sR Mh ?_;refine sG Mh [] 9 gp λK z=>?_;refine ev ?_;refine cc Z ?_;refine ci (Ek a6) ?_;apply z;clear z K;refine sR Mh ?_;refine A0.pp 6 7 6 rfl<|kR Mh λK1 u1=>?_;refine A0.bb (A0.ii E.sigs (X:=Unit) (λj _=>[(3,.box 3 0),(5,.box 5 0),(6,.acc 6),(7,A7 j)]) (λj _=>[(3,.cells ((Bs x).map .d)),(5,.cells ((B3 E).map .d)),(6,.rows 7 (B9 (Ic (Ad E.A1) x.args E.sigs j)))]) (λj _=>True) () trivial sS (by simp[ble,A8,Ic,B9,B3,Bs]) ?_ ?_)
 intro _ _;refine Ae B6 Mh λK2 u2=>?_;refine A0.ss rfl ?_;simp only[A5,A9,Ac];refine u1 _ _<|sR Mh ?_;exact A0.ret ⟨_,by rw[results107];rfl,.inl rfl,by simp[ble,A8]⟩
 .intro j _ d hd a0 dp tk a7 hI;have a8:=B5a (Ad E.A1) x.args E.sigs j;have J:=C5e (vars:=Ad E.A1) (args:=x.args) (by omega) tk;have a3:=O.sigs.2 d a0;have a2:(E.sigs.take j).length=j:=by rw[D0];omega
  refine Ae a7 Mh λK2 u2=>?_;refine gI u2 ?_;clear u2 K2;refine sK λK2 u2=>A0.bb<|sR Mh ?_;refine kR Mh λK3 u3=>?_;refine A0.bb (A0.ii (E.sigs.take j) (X:=Unit) (λi _=>[(3,.box 3 0),(5,.box 5 0),(6,.acc 6),(7,A7 j),(8,B1 (Q8 (E.sigs.take j) d i)),(9,A7 i)]) (λ_ _=>[(3,.cells ((Bs x).map .d)),(5,.cells ((B3 E).map .d)),(6,.rows 7 (B9 (Ic (Ad E.A1) x.args E.sigs j)))]) (λ_ _=>True) () trivial (by simp[sle,Av,Af,Q8]) (by simp[ble,A8,B3,Bs]) ?_ ?_)
  .intro _ _;have L:Q8 (E.sigs.take j) d (E.sigs.take j).length=Q8 E.sigs d j:=by unfold Q8;rw[Cx]
   rw[L,a2];refine Ae B6 Mh λV U=>?_;refine A0.ss rfl ?_;simp only[A5,A9,Ac];refine u3 _ _ ?_;clear U V u3 K3;refine sR Mh ?_;rcases Fj (Q8 E.sigs d j)with hn|hn;rw[hn,A6 rfl]at J;rw[hn];refine A0.tt rfl ?_;(refine lG Mh [] 14 [] λK z=>?_;refine ev ?_;refine ci (De hd) ?_;refine cc (B1r d a3) ?_;refine cc (Qh E.A1 O.A1.1) ?_;refine cc (D1m (Ad E.A1) x.args hx.arg _ a3.canon) ?_;refine⟨by simp,by unfold lim sm at*;omega,?_⟩;(try refine ev ?_);apply z;clear z K;try simp only[A5,A9]);refine u2 _ _ ?_;clear u2 K2;refine lT Mh ?_;exact⟨(),trivial,sS,by simp[ble,A8,J,B9,Dm,B3,Bs]⟩;rw[hn,A3 (by decide),Gy]at J;rw[hn];refine A0.ff rfl (A0.kk (u2 _ _ ?_));clear u2 K2;refine lT Mh ?_;exact⟨(),trivial,sS,by simp[ble,A8,J,B3,Bs]⟩
  .intro i _ e he a9 a' a4 a1 aa;rw[a2]at a1;have W:E.sigs[i]?=some e:=by rw[Ao8 (by omega)]at he;exact he
   have L:Q8 (E.sigs.take j) d (i+1)=(Q8 (E.sigs.take j) d i && !decide (e.name=d.name)):=by unfold Q8;rw[a4,Am7];simp only[E4,C6,B5,Fb,Fg,Bi,Jj,Ai7];exact⟨λh=>⟨λy hy=>h y (.inl hy),h e (.inr rfl)⟩,λh y hy=>hy.elim (h.1 y) (λhe=>he ▸ h.2)⟩
   refine Ae a1 Mh λV U=>?_;refine gI U ?_;clear U V;refine sK λV U=>A0.bb ?_;by_cases hn:e.name=d.name;rw[Cc hn,At6,Sf]at L;refine sG Mh [] 12 [] λK z=>?_;refine ev ?_;refine⟨by omega,_,De W,rfl,?_⟩;(try refine Ah hn ?_);refine ci (De hd) ?_;apply z;clear z K;refine A0.tt rfl ?_;(refine lV Mh λK z=>?_;apply z;clear z K;try simp only[A5,A9]);refine U _ _ ?_;clear U V;refine lT Mh ?_;exact⟨(),trivial,(by simp[sle,Av,Af,L]),by simp[ble,A8,B3,Bs]⟩;rw[Cu hn,Au3,Ar5]at L;refine sG Mh [] 12 [] λK z=>?_;refine ev ?_;refine ci (De W) ?_;refine⟨by omega,_,De hd,rfl,?_⟩;(try refine Ah hn ?_);apply z;clear z K;refine A0.ff rfl (A0.kk (U _ _ ?_));clear U V;refine lT Mh ?_;exact⟨(),trivial,(by simp[sle,Av,Af,L]),by simp[ble,A8,B3,Bs]⟩
end Go.Abs
