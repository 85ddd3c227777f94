/- several texts in one -/
import Derived.Test.YtjneockcgjfhaaaGreatDoorKFA
set_option linter.all false
set_option maxHeartbeats 1000000
set_option maxRecDepth 100000
namespace Go.Abs
open Go Go.Proofs Tryz
mutual
def Ty.structs(p:Prog):Ty->List A2->List A2
 |.mk n a _,acc=>if kindOf p n=1 then Ty.Tg p a (Vi acc n)else acc
def Ty.Tg(p:Prog):List Ty->List A2->List A2
 |[],acc=>acc
 |t::E,acc=>Ty.Tg p E (t.structs p acc)
end
def Ty.F6i(p:Prog)(t:Ty)(acc:List A2):t.structs p acc=if kindOf p t.name=1 then Ty.Tg p t.args (Vi acc t.name)else acc:=by cases t;rfl
structure Fw(p:Prog)(l:List A2):Prop where
 nodup:l.Nodup
 isS:∀s,s∈l->kindOf p s=1
def G2b{p:Prog}{s:A2}(h:kindOf p s=1):s∈p.decls.map Decl.name:=by unfold kindOf at h;split at h;rename_i d hd;have I:=Aj0 hd;have E:=Ar6 hd;simp only[Decl.J3,Bi,E4]at E;exact Au.2 ⟨d,I,E.2⟩;simp at h
def B9q{α:Type}[DecidableEq α]:∀{l m:List α},l.Nodup->(∀x,x∈l->x∈m)->l.length<=m.length
 |[],_,_,_=>by simp
 |x::l,m,h,hs=>by have E:=hs x (by simp);obtain⟨J,O⟩:=Ao7.1 h;have L:l.length<=(m.erase x).length:=B9q O λy I=>(List.mem_erase_of_ne (by rintro rfl;exact J I)).2 (hs y (by simp[I]));rw[List.length_erase_of_mem E]at L;have:=List.length_pos_of_mem E;simp only[Ar];omega
def Fw.len{p:Prog}{l:List A2}(h:Fw p l):l.length<=p.decls.length:=by have:=B9q h.nodup λs hs=>G2b (h.isS s hs);simpa using this
theorem Fw.nil(p:Prog):Fw p []:=⟨by simp,by simp⟩
def D2b{s x:A2}:∀{l:List A2},x∈ins s l↔x=s\/x∈l
 |[]=>by simp[ins]
 |y::E=>by simp only[ins];split;simp;simp only[B5,D2b];constructor;rintro(h|h|h) <;> simp[h];rintro(h|h|h) <;> simp[h]
def D4v{s x:A2}{l:List A2}:x∈Vi l s↔x=s\/x∈l:=by unfold Vi;split;constructor;exact .inr;rintro(rfl|h);assumption;exact h;exact D2b
def E1y(s:A2):∀l:List A2,(ins s l).Perm (s::l)
 |[]=>.refl _
 |y::E=>by simp only[ins];split;exact .refl _;exact((E1y s E).cons y).trans (.swap s y E)
def F0s{s:A2}{l:List A2}(h:l.Nodup):(Vi l s).Nodup:=by unfold Vi;split;exact h;rename_i hs;rw[(E1y s l).nodup_iff];exact Ao7.2 ⟨hs,h⟩
def Fw.put{p:Prog}{l:List A2}{s:A2}(h:Fw p l)(hs:kindOf p s=1):Fw p (Vi l s) :=⟨F0s h.nodup,λx hx=>by
  rcases D4v.1 hx with rfl|hx
  .exact hs
  .exact h.isS x hx⟩
mutual
theorem Fw.structs{p:Prog}:∀(t:Ty) {l:List A2},Fw p l->Fw p (t.structs p l)
 |.mk n a q,l,h=>by simp only[Ty.structs];split;exact Fw.Tg a (h.put (by assumption));exact h
theorem Fw.Tg{p:Prog}:∀(E:List Ty) {l:List A2},Fw p l->Fw p (Ty.Tg p E l)
 |[],_,h=>h
 |t::E,_,h=>Fw.Tg E (Fw.structs t h)
end
abbrev Xk:List Nat:=[0,1,2,3,4,6,7,12,22]
def G4k(p:Prog)(hp:p.decls.length<=100000):∀(t:Ty)(acc:List A2),Fw p acc->Ab prog 218 [Cq p,Be t,Ce acc] (Ce (t.structs p acc)):=by
 intro t
 induction t using Ty.induct with
 |h t ih =>
 intro acc L;refine Ch.bd (Enters.of func218 rfl (by decide)) λa1=>?_;have a0:=D7j a1.2.1;have hl:=a0.len;have E:=Ty.F6i p t acc;refine cB func218 ?_;refine sR Xk ?_;refine kC (A8z p t.name) Xk λK1 u1=>?_;by_cases U:kindOf p t.name=1;rotate_left
 .refine A0.tt (by simp[Ao,Af,U])<|sR Xk ?_;rw[E,A3 U];exact aR
 refine A0.ff (by simp[Ao,Af,U]) (A0.kk (u1 _ _ ?_));clear u1 K1;rw[A6 U]at E;have O:=L.put U;have a3:=L.len;refine sC (G4y acc t.name (by omega)) Xk ?_;generalize Vi acc t.name=acc2 at*;refine sK λK1 u1=>?_;have a2:∀sl bx,sle sl [(2,Ce (Ty.Tg p t.args acc2))]->K1 sl bx:=by intro sl bx h1;refine u1 _ _ (A0.ww (bx':=[]) h1 trivial ?_);clear u1 K1;refine sR Xk ?_;rw[E];exact aR
 refine sR Xk ?_;refine A0.bb (A0.loop (X:=Nat × List A2) (λx=>[(2,Ce x.2),(7,A7 x.1),(3,.box 3 0),(4,.box 4 0)]) (λ_=>[(3,.cells ((Ai p).map .d)),(4,.cells ((Bs t).map .d))]) (λx=>x.1<=t.args.length/\Fw p x.2/\Ty.Tg p (t.args.drop x.1) x.2=Ty.Tg p t.args acc2) (λx=>t.args.length - x.1) (0,acc2) ?_ ?_ ?_ ?_)
 .exact⟨by simp,O,rfl⟩
 .exact sS
 .exact(by simp[ble,A8,Bs,Ai])
 rintro⟨j,r⟩ ⟨hj,hr,I⟩;simp only at hj hr I;by_cases V:(j:Int)<(t.args.length:Int)
 .have J:j<t.args.length:=by omega
  have hx:t.args[j]?=some t.args[j]:=Br J;have Z:t.args[j]∈t.args:=Gi J;have dp:t.args.drop j=t.args[j]::t.args.drop (j+1):=Gv J;generalize t.args[j]=x at*;rw[dp,Ty.Tg]at I;refine Ae V Xk λK2 u2=>?_;refine A0.tt rfl (A0.kk (u2 _ _ ?_));clear u2 K2;refine sK λK2 u2=>A0.bb ?_
  (refine lG Xk [] 7 [] λK W=>?_;refine ev ?_)
  refine⟨by omega,Bs x,Ev hx,rfl,?_⟩;refine ev ?_;refine⟨Ce (x.structs p r),.inl ⟨_,rfl,ih x Z r hr,rfl⟩,?_⟩;refine ev ?_
  (apply W;clear W K;try simp only[A5,A9])
  refine u2 _ _ ?_;clear u2 K2
  (refine lQ Xk λK W=>?_;refine ev ?_)
  refine⟨by unfold B7;unfold lim at*;omega,?_⟩
  (apply W;clear W K;try simp only[A5,])
  exact⟨(j+1,x.structs p r),⟨by simp only;omega,Fw.structs x hr,I⟩,by simp only;omega,by simp[sle,Av,Af],(by simp[ble,A8,Bs,Ai])⟩
 .refine Ae V Xk λK2 u2=>?_;refine A0.ff rfl (A0.xx ?_);simp only[A5,A9,Ac];rw[Jf (by omega),Ty.Tg]at I;exact a2 _ _ (by simp[sle,Av,Af,I])
def Xy(p:Prog):List Param->List A2->List A2
 |[],acc=>acc
 |f::fs,acc=>Xy p fs (f.type.structs p acc)
def Rc(p:Prog)(nm:A2)(acc:List A2):List A2:=match p.decls.find? (λd=>d.J3 nm)with
 |some d=>if d.kind=1 then Xy p d.fields acc else acc
 |none=>acc
def Fw.fields{p:Prog}:∀(fs:List Param) {l:List A2},Fw p l->Fw p (Xy p fs l)
 |[],_,h=>h
 |t::E,_,h=>Fw.fields E (Fw.structs t.type h)
def Fw.cont{p:Prog}{l:List A2}(nm:A2)(h:Fw p l):Fw p (Rc p nm l):=by unfold Rc;split;split;exact h.fields _;exact h;exact h
abbrev Tj:List Nat:=[0,1,2,3,6,7,8,22,32]
def D2k(p:Prog)(hp:p.decls.length<=100000)(nm:A2)(acc:List A2)(W:Fw p acc):Ab prog 189 [Cq p,B4 nm,Ce acc] (Ce (Rc p nm acc)):=by
 refine Ch.bd (Enters.of func189 rfl (by decide)) λa1=>?_;have a0:=B4j a1.1;refine cB func189 ?_;refine sR Tj ?_;refine sC (A7a p nm) Tj<|sK λK1 u1=>?_;rcases A8g nm p.decls 0 with⟨L,h2⟩|⟨k,d,L,h2,h3⟩
 .rw[L];have O:Rc p nm acc=acc:=by simp[Rc,h2]
  refine sR Tj ?_;refine A0.tt rfl<|sR Tj ?_;rw[O];exact aR
 rw[h2];rw[Qe];have O:Rc p nm acc=if d.kind=1 then Xy p d.fields acc else acc:=by simp[Rc,h3]
 have Z:¬(k:Int)<0:=by omega
 rcases Decidable.em (d.kind=1)with hd|hd;rotate_left;rw[A3 hd]at O;refine sQ Tj λK E=>?_;refine Ah Z ?_;refine⟨by omega,B3 d,Ek L,rfl,?_⟩;simp -implicitDefEqProofs only[EV,Nat.reduceEqDiff,reduceCtorEq,hd];apply E;clear E K;refine A0.tt rfl<|sR Tj ?_;rw[O];exact aR
 rw[A6 hd]at O;have U:=a0.decls.2 d (Wz.2 ⟨k,L⟩);have a4:=U.fields.1;refine sQ Tj λK E=>?_;refine Ah Z ?_;refine⟨by omega,B3 d,Ek L,rfl,?_⟩;simp -implicitDefEqProofs only[EV,Nat.reduceEqDiff,reduceCtorEq,hd];apply E;clear E K;refine A0.ff rfl (A0.kk (u1 _ _ ?_));clear u1 K1;refine sK λK1 u1=>?_;have a2:∀sl bx,sle sl [(2,Ce (Xy p d.fields acc))]->K1 sl bx:=by intro sl bx L;refine u1 _ _ (A0.ww (bx':=[]) L trivial ?_);clear u1 K1;refine sR Tj ?_;rw[O];exact aR
 refine sR Tj ?_;refine A0.bb (A0.loop (X:=Nat × List A2) (λx=>[(2,Ce x.2),(8,A7 x.1),(7,A7 k),(3,.box 3 0)]) (λ_=>[(3,.cells ((Ai p).map .d))]) (λx=>x.1<=d.fields.length/\Fw p x.2/\Xy p (d.fields.drop x.1) x.2=Xy p d.fields acc) (λx=>d.fields.length - x.1) (0,acc) ?_ ?_ ?_ ?_);exact⟨by simp,W,rfl⟩;exact sS;exact(by simp[ble,A8,Ai]);rintro⟨j,r⟩ ⟨hj,hr,I⟩;simp only at hj hr I;by_cases V:(j:Int)<(d.fields.length:Int)
 .have J:j<d.fields.length:=by omega
  have hx:d.fields[j]?=some d.fields[j]:=Br J;have a3:d.fields[j]∈d.fields:=Gi J;have dp:d.fields.drop j=d.fields[j]::d.fields.drop (j+1):=Gv J;generalize d.fields[j]=x at*;rw[dp,Xy]at I;refine sK λK2 u2=>?_;refine sQ Tj λK E=>?_;refine ev ?_;refine⟨by omega,B3 d,Ek L,rfl,?_⟩;refine Ah V ?_;apply E;clear E K;refine A0.tt rfl (A0.kk (u2 _ _ ?_));clear u2 K2;refine sK λK2 u2=>A0.bb ?_;refine lG Tj [] 12 [] λK E=>?_;refine ev ?_;refine⟨by omega,B3 d,Ek L,rfl,?_⟩;refine ev ?_;refine⟨by omega,E9 x,Dx hx,rfl,?_⟩;refine ev ?_;refine⟨Ce (x.type.structs p r),.inl ⟨_,rfl,G4k p hp x.type r hr,rfl⟩,?_⟩;refine ev ?_;(apply E;clear E K;try simp only[A5,A9]);refine u2 _ _ ?_;clear u2 K2;refine lQ Tj λK E=>?_;refine ev ?_;refine⟨by unfold B7;unfold lim at*;omega,?_⟩;(apply E;clear E K;try simp only[A5,]);exact⟨(j+1,x.type.structs p r),⟨by simp only;omega,Fw.structs x.type hr,I⟩,by simp only;omega,by simp[sle,Av,Af],(by simp[ble,A8,Ai])⟩
 refine sK λK2 u2=>?_;refine sQ Tj λK E=>?_;refine ev ?_;refine⟨by omega,B3 d,Ek L,rfl,?_⟩;refine Ah V ?_;apply E;clear E K;refine A0.ff rfl (A0.xx ?_);simp only[A5,A9,Ac];rw[Jf (by omega),Xy]at I;exact a2 _ _ (by simp[sle,Av,Af,I])
mutual
theorem D0i{p:Prog}{x:A2}:∀(t:Ty) {l:List A2},x∈l->x∈t.structs p l
 |.mk n a q,l,h=>by simp only[Ty.structs];split;exact D4g a (D4v.2 (.inr h));exact h
theorem D4g{p:Prog}{x:A2}:∀(E:List Ty) {l:List A2},x∈l->x∈Ty.Tg p E l
 |[],_,h=>h
 |t::E,_,h=>D4g E (D0i t h)
end
def E4h{p:Prog}{x:A2}:∀(fs:List Param) {l:List A2},x∈l->x∈Xy p fs l
 |[],_,h=>h
 |t::E,_,h=>E4h E (D0i t.type h)
def E3d{p:Prog}{x nm:A2}{l:List A2}(h:x∈l):x∈Rc p nm l:=by unfold Rc;split;split;exact E4h _ h;exact h;exact h
def G0u{p:Prog}{l:List A2}(nm:A2)(h:Fw p l):l.length<=(Rc p nm l).length:=B9q h.nodup λ_=>E3d
def Xe(p:Prog):List Nat->List A2->List A2
 |[],r=>r
 |i::is,r=>Xe p is (Rc p (r[i]?.getD []) r)
def B8q(p:Prog):Nat->Int->List A2->List A2
 |0,_,r=>r
 |k+1,n,r=>if n=r.length then r else B8q p k r.length (Xe p (List.range' 0 r.length) r)
def B0m(p:Prog)(nm:A2):List A2:=B8q p 100003 (-1) (Rc p nm [])
def Fw.round{p:Prog}:∀(is:List Nat) {l:List A2},Fw p l->Fw p (Xe p is l)
 |[],_,h=>h
 |_::is,_,h=>Fw.round is (h.cont _)
def D2i{p:Prog}{x:A2}:∀(is:List Nat) {l:List A2},x∈l->x∈Xe p is l
 |[],_,h=>h
 |_::is,_,h=>D2i is (E3d h)
def F8n{p:Prog}{l:List A2}(is:List Nat)(h:Fw p l):l.length<=(Xe p is l).length:=B9q h.nodup λ_=>D2i is
abbrev Uq:List Nat:=[0,1,2,4,5,6,7,14,19]
def F3q(p:Prog)(hp:p.decls.length<=100000)(nm:A2):Ab prog 145 [Cq p,B4 nm] (Ce (B0m p nm)):=by
 refine Ch.bd (Enters.of func145 rfl (by decide)) λa7=>?_;refine cB func145 ?_;refine sR Uq ?_;refine sC (D2k p hp nm [] (Fw.nil p)) Uq<|sK λK1 u1=>?_;have a3:∀sl bx,sle sl [(5,Ce (B0m p nm))]->K1 sl bx:=by intro sl bx h1;refine u1 _ _ (A0.ww (bx':=[]) h1 trivial ?_);clear u1 K1;refine sR Uq ?_;exact aR
 clear u1;refine sR Uq ?_;refine A0.bb (A0.loop (X:=Nat × Int × List A2) (λx=>[(5,Ce x.2.2),(6,A7 x.2.1),(2,.box 2 0)]) (λ_=>[(2,.cells ((Ai p).map .d))]) (λx=>-1<=x.2.1/\x.2.1<=x.2.2.length/\Fw p x.2.2/\100001 - x.2.1<=x.1/\B8q p x.1 x.2.1 x.2.2=B0m p nm) (λx=>(100001 - x.2.1).toNat) (100003,-1,Rc p nm []) ?_ ?_ ?_ ?_);exact⟨by simp,by simp only;omega,(Fw.nil p).cont nm,by simp,rfl⟩;exact sS;exact(by simp[ble,A8,Ai]);rintro⟨k,n,r⟩ ⟨a2,a0,hr,hk,I⟩;simp only at a2 a0 hr hk I;have a5:=hr.len;obtain⟨k,rfl⟩:∃k',k=k'+1:=⟨k - 1,by omega⟩;rw[B8q]at I;by_cases L:n=(r.length:Int);rw[A6 L]at I;refine Ae L Uq λW u2=>?_;refine A0.ff (by simp[Ao,Af]) (A0.xx ?_);simp only[A5,A9,Ac];exact a3 _ _ (by simp[sle,Av,Af,I])
 .rw[A3 L]at I;refine Ae L Uq λW u2=>?_;refine A0.tt (by simp[Ao,Af]) (A0.kk (u2 _ _ ?_));clear u2 W;refine A0.bb<|sR Uq ?_;refine sR Uq ?_;have a4:=hr.round (List.range' 0 r.length);have a6:=F8n (List.range' 0 r.length) hr;refine A0.bb (A0.loop (X:=Nat × List A2) (λx=>[(5,Ce x.2),(6,A7 r.length),(7,A7 x.1),(2,.box 2 0)]) (λ_=>[(2,.cells ((Ai p).map .d))]) (λx=>x.1<=r.length/\r.length<=x.2.length/\Fw p x.2/\Xe p (List.range' x.1 (r.length - x.1)) x.2=Xe p (List.range' 0 r.length) r) (λx=>r.length - x.1) (0,r) ?_ ?_ ?_ ?_)
  exact⟨by simp,by simp,hr,rfl⟩;exact sS;exact(by simp[ble,A8,Ai]);rintro⟨j,U⟩ ⟨hj,a1,J,E⟩;simp only at hj a1 J E;by_cases O:(j:Int)<(r.length:Int)
  .have V:j<U.length:=by omega
   have hx:U[j]?=some U[j]:=Br V;obtain⟨m,hm⟩:∃m,r.length - j=m+1:=⟨r.length - j - 1,by omega⟩;rw[hm,List.range'_succ,Xe,hx,Dh]at E;generalize U[j]=x at*;refine Ae O Uq λW u2=>?_;refine A0.tt rfl (A0.kk (u2 _ _ ?_));clear u2 W;refine sK λW u2=>A0.bb ?_;refine lG Uq [] 6 [] λK Z=>?_;refine ev ?_;refine⟨by omega,_,J7 hx,rfl,?_⟩;refine ev ?_;refine⟨Ce (Rc p x U),.inl ⟨_,rfl,D2k p hp x U J,rfl⟩,?_⟩;refine ev ?_;(apply Z;clear Z K;try simp only[A5,A9]);refine u2 _ _ ?_;clear u2 W;refine lQ Uq λK Z=>?_;refine ev ?_;refine⟨by unfold B7;omega,?_⟩;(apply Z;clear Z K;try simp only[A5,]);have hc:=G0u x J;exact⟨(j+1,Rc p x U),⟨by simp only;omega,by simp only;omega,J.cont x,by simp only;rw[show r.length - (j+1)=m by omega];exact E⟩,by simp only;omega,by simp[sle,Av,Af],(by simp[ble,A8,Ai])⟩
  refine Ae O Uq λW u2=>?_;refine A0.ff rfl (A0.xx ?_);simp only[A5,A9,Ac];rw[show r.length - j=0 by omega]at E;simp only[List.range'_zero,Xe]at E;subst E;exact⟨(k,r.length,Xe p (List.range' 0 r.length) r),⟨by simp only;omega,by simp only;omega,a4,by simp only;omega,I⟩,by simp only;omega,by simp[sle,Av,Af],(by simp[ble,A8,Ai])⟩
def Cb(s:A2):List A2->Nat->Int
 |[],_=>-1
 |x::xs,i=>if s=x then i else Cb s xs (i+1)
theorem A3b(s:A2):∀(l:List A2)(i:Nat),(Cb s l i = -1/\s∉l)\/∃k,l[k]?=some s/\Cb s l i=((i+k:Nat):Int)
 |[],i=>by simp[Cb]
 |d::ds,i=>by simp only[Cb];split;rename_i h;subst h;exact .inr ⟨0,rfl,rfl⟩;rename_i h;rcases A3b s ds (i+1)with⟨E,I⟩|⟨k,E,I⟩;exact .inl ⟨E,by simp[h,I]⟩;exact .inr ⟨k+1,by simpa using E,by rw[I];congr 1;omega⟩
abbrev Xx:List Nat:=[0,1,4,5,7,8,9,16]
def E3p(l:List A2)(s:A2):Ab prog 192 [Ce l,B4 s] (A7 (Cb s l 0)):=by
 refine Ch.bd (Enters.of func192 rfl (by decide)) λV=>?_;have hl:=(A9s V.1).1;refine cB func192 ?_;refine sR Xx<|sK λK1 u1=>?_;have W:∀sl bx,Cb s l 0 = -1->K1 sl bx:=by intro sl bx h1;refine u1 _ _ (A0.ww (sl':=[]) (bx':=[]) trivial trivial ?_);clear u1 K1;refine sR Xx ?_;rw[h1];exact aR
 refine sR Xx ?_;refine A0.bb (A0.loop (X:=Nat) (λx=>[(8,A7 x),(7,A7 l.length),(0,Ce l),(1,B4 s)]) (λ_=>[]) (λx=>x<=l.length/\Cb s (l.drop x) x=Cb s l 0) (λx=>l.length - x) 0 ?_ ?_ ?_ ?_);exact⟨by simp,by simp⟩;exact sS;exact sB;rintro j ⟨hj,E⟩;by_cases L:(j:Int)<(l.length:Int)
 .have J:j<l.length:=by omega
  have Z:l[j]?=some l[j]:=Br J;have dp:l.drop j=l[j]::l.drop (j+1):=Gv J;generalize l[j]=y at*;rw[dp,Cb]at E;refine Ap L Xx ?_;refine sK λU u2=>A0.tt rfl (A0.kk (u2 _ _ ?_));clear u2 U;refine sK λU u2=>A0.bb<|sR Xx ?_;by_cases O:s=y
  rw[A6 O]at E;refine sQ Xx λK I=>?_;refine Ah O ?_;refine⟨by omega,_,J7 Z,rfl,?_⟩;refine ev ?_;apply I;clear I K;refine A0.tt rfl<|sR Xx ?_;rw[<-E];exact aR
  rw[A3 O]at E;refine sQ Xx λK I=>?_;refine ev ?_;refine⟨by omega,_,J7 Z,rfl,?_⟩;refine Ah O ?_;apply I;clear I K;refine A0.ff rfl (A0.kk ?_);simp only[A5,A9];refine u2 _ _ ?_;clear u2 U;refine lQ Xx λK I=>?_;refine ev ?_;refine⟨by unfold B7;unfold lim at*;omega,?_⟩;(apply I;clear I K;try simp only[A5,]);exact⟨j+1,⟨by omega,E⟩,by omega,by simp[sle,Av,Af],sB⟩
 refine Ap L Xx ?_;refine sK λU u2=>A0.ff rfl (A0.xx ?_);simp only[A5,A9,Ac];rw[Jf (by omega)]at E;exact W _ _ E.symm
def sm:Nat:=1000000
inductive Ty.Sm:Ty->Prop where
 |mk (n:A2) (a:List Ty) (p:Int):n.length<=60000000*sm->a.length<=sm->(∀t,t∈a->Ty.Sm t)->Ty.Sm (.mk n a p)
theorem Ty.Sm.name{t:Ty}(h:t.Sm):t.name.length<=60000000*sm:=by cases h;assumption
def Ty.Sm.len{t:Ty}(h:t.Sm):t.args.length<=sm:=by cases h;assumption
def Ty.Sm.arg{t:Ty}(h:t.Sm):∀u,u∈t.args->u.Sm:=by cases h;assumption
abbrev Zn:List Nat:=[0,1,2,6,7,9,10,11,12,13]
def D5r(g:Ty->Ty)(vars:List A2)(args:List Ty)(l:List Ty)(hl:l.length<=sm)(hs:∀t,t∈l->Ab prog 164 [Be t,Ce vars,Co args] (Be (g t))) :Ab prog 165 [Co l,Ce vars,Co args] (Co (l.map g)):=by
 refine cB func165 ?_;refine sR Zn ?_;refine sR Zn ?_;refine A0.pp 7 3 7 rfl<|sK λV u1=>?_;have U:∀sl bx,sle sl [(7,.acc 7)]->ble bx [(7,.rows 3 (Ag (l.map g)))]->V sl bx:=by intro sl bx W h2;refine u1 _ _ (A0.ww W h2 ?_);clear u1 V;refine sR Zn ?_;exact aR
 refine sR Zn ?_;refine A0.bb (A0.loop (X:=Nat) (λx=>[(12,A7 x),(11,A7 l.length),(10,Co l),(1,Ce vars),(2,Co args),(7,.acc 7)]) (λx=>[(7,.rows 3 (Ag ((l.take x).map g)))]) (λx=>x<=l.length) (λx=>l.length - x) 0 ?_ ?_ ?_ ?_);simp;exact sS;simp[ble,A8,E9v];rintro j hj;by_cases J:(j:Int)<(l.length:Int)
 .have E:j<l.length:=by omega
  have Z:l[j]?=some l[j]:=Br E;have L:l[j]∈l:=Gi E;have tk:l.take (j+1)=l.take j++[l[j]]:=La E;generalize l[j]=y at*;refine Ap J Zn ?_;refine sK λO u2=>A0.tt rfl (A0.kk (u2 _ _ ?_));clear u2 O;refine sK λO u2=>A0.bb ?_;refine sQ Zn λK I=>?_;refine ev ?_;refine⟨by omega,Bs y,Ev Z,rfl,?_⟩;refine ev ?_;apply I;clear I K;refine lQ Zn λK I=>?_;refine ev ?_;refine⟨Be (g y),.inl ⟨_,rfl,hs y L,rfl⟩,?_⟩;refine ev ?_;refine⟨by simp,by rw[Bc,D0];unfold lim sm at*;omega,?_⟩;(apply I;clear I K;try simp only[A5,A9]);refine u2 _ _ ?_;clear u2 O;refine lQ Zn λK I=>?_;refine ev ?_;refine⟨by unfold B7;unfold sm at*;omega,?_⟩;(apply I;clear I K;try simp only[A5,]);refine⟨j+1,by omega,by omega,by simp[sle,Av,Af],?_⟩;rw[tk];simp[ble,A8,H3,Bs]
 refine Ap J Zn ?_;refine sK λO u2=>A0.ff rfl (A0.xx ?_);simp only[A5,A9,Ac];rw[Ym (by omega)];exact U _ _ sS sB
mutual
def Ty.subst(vars:List A2)(args:List Ty):Ty->Ty
 |.mk n a p=>if a.length=0/\0<=Cb n vars 0/\Cb n vars 0<args.length then .mk (args[(Cb n vars 0).toNat]?.getD default).name (args[(Cb n vars 0).toNat]?.getD default).args p else .mk n (Ty.B1p vars args a) p
def Ty.B1p(vars:List A2)(args:List Ty):List Ty->List Ty
 |[]=>[]
 |t::E=>t.subst vars args::Ty.B1p vars args E
end
def D5t(vars:List A2)(args:List Ty):∀l,Ty.B1p vars args l=l.map (Ty.subst vars args)
 |[]=>by rw[Ty.B1p];rfl
 |t::E=>by rw[Ty.B1p,D5t vars args E];rfl
def Uo(vars:List A2)(args:List Ty)(t:Ty):t.subst vars args=if t.args.length=0/\0<=Cb t.name vars 0/\Cb t.name vars 0<args.length then .mk (args[(Cb t.name vars 0).toNat]?.getD default).name (args[(Cb t.name vars 0).toNat]?.getD default).args t.pos else .mk t.name (t.args.map (Ty.subst vars args)) t.pos:=by
 cases t with
 |mk n a p=>rw[Ty.subst,D5t];rfl
theorem Q7:∀t:Ty,t.subst [] []=t:=by
 intro t
 induction t using Ty.induct with
 |h t E =>
 rw[Uo,A3 (by simp[Cb]),Hb E];cases t;simp[Ty.name,Ty.args,Ty.pos]
abbrev W0:List Nat:=[0,1,2,3,6,7,8,26]
def D8j(vars:List A2)(args:List Ty)(hC:∀(i:Nat)(u:Ty),args[i]?=some u->Ab prog 193 [Be u] (Be u)):∀t:Ty,t.Sm->Ab prog 164 [Be t,Ce vars,Co args] (Be (t.subst vars args)):=by
 intro t
 induction t using Ty.induct with
 |h t ih =>
 intro V;refine Ch.bd (Enters.of func164 rfl (by decide)) λU=>?_;have hv:=(A9s U.2.1).1;have ha:=(A4s U.2.2.1).1;have E:=Uo vars args t;have O:=D5r (Ty.subst vars args) vars args t.args V.len (λu hu=>ih u hu (V.arg u hu));refine cB func164 ?_;refine sR W0 ?_;refine kC (E3p vars t.name) W0 λK1 u1=>?_;generalize Cb t.name vars 0=i at*;have J:(t.args.length=0/\0<=i/\i<args.length)=False->∀sl bx,sle sl [(1,Ce vars),(2,Co args),(3,.box 3 0),(6,.box 6 0)]->ble bx [(3,.cells ((Bs t).map .d)),(6,.cells [.d (.str []),.d .nil,.d (.int .i64 0)])]->K1 sl bx:=by intro hc sl bx L I;refine u1 _ _ (A0.ww L I ?_);clear u1 K1;rw[A3 (by rw[hc];exact id)]at E;refine sC O W0 ?_;refine sR W0 ?_;rw[E];exact aR
 by_cases L:(t.args.length:Int)=0
 .by_cases I:0<=i
  .by_cases W:i<(args.length:Int)
   .rw[A6 ⟨by omega,I,W⟩]at E;have Z:args[i.toNat]?=some args[i.toNat]:=Br (by omega);rw[Z,Dh]at E;generalize args[i.toNat]=u at*;refine sR3 L I W W0 ?_;refine A0.tt rfl ?_
    (refine sQ W0 λK hK=>?_;refine ev ?_)
    refine⟨I,Bs u,Ev Z,rfl,?_⟩;refine ev ?_;refine⟨Be u,.inl ⟨_,rfl,hC _ u Z,rfl⟩,?_⟩;refine ev ?_
    (apply hK;clear hK K)
    refine sR W0 ?_;refine sR W0 ?_;rw[E];exact aR
   .refine sR3 L I W W0 ?_;refine A0.ff rfl (A0.kk ?_);exact J (by simp[W]) _ _ sS (by simp[ble,A8,Bs,])
  .refine Er L I W0 ?_;refine A0.ff rfl (A0.kk ?_);exact J (by simp[I]) _ _ sS (by simp[ble,A8,Bs,])
 .refine Ap L W0 ?_;refine A0.ff rfl (A0.kk ?_);exact J (by simp only[eq_iff_iff,iff_false];omega) _ _ sS (by simp[ble,A8,Bs,])
def B4u(t:Ty)(h:t.Sm):Ab prog 193 [Be t] (Be t):=by refine cB func193 ?_;refine sR [0,1,2] ?_;refine sQ [0,1,2] λK E=>?_;simp -implicitDefEqProofs only[EV,Nat.reduceAdd,Nat.reduceEqDiff,reduceCtorEq,Hy];have hs:=D8j [] [] (by simp) t h;rw[Q7]at hs;refine⟨Be t,.inl ⟨_,rfl,hs,rfl⟩,?_⟩;refine ev ?_;apply E;clear E K;exact aR
def C0q(vars:List A2)(args:List Ty)(E:∀u,u∈args->u.Sm)(t:Ty)(h:t.Sm):Ab prog 164 [Be t,Ce vars,Co args] (Be (t.subst vars args)) :=D8j vars args (λi u I=>B4u u (E u (Wz.2 ⟨i,I⟩))) t h
inductive Ex.Sm:Ex->Prop where
 |mk (k:Int) (n:A2) (t:Ty) (a:List Ty) (ks:List Ex) (p:Int):n.length<=60000000*sm->t.Sm->a.length<=sm->(∀t,t∈a->t.Sm)->ks.length<=sm->(∀e,e∈ks->Ex.Sm e)->Ex.Sm (.mk k n t a ks p)
theorem Ex.Sm.name{e:Ex}(h:e.Sm):e.name.length<=60000000*sm:=by cases h;assumption
def Ex.Sm.type{e:Ex}(h:e.Sm):e.type.Sm:=by cases h;assumption
def Ex.Sm.targs{e:Ex}(h:e.Sm):e.targs.length<=sm/\∀t,t∈e.targs->t.Sm:=by cases h;exact⟨by assumption,by assumption⟩
def Ex.Sm.kids{e:Ex}(h:e.Sm):e.kids.length<=sm/\∀t,t∈e.kids->t.Sm:=by cases h;exact⟨by assumption,by assumption⟩
def Ex.A2m(vars:List A2)(args:List Ty)(e:Ex):Ex:=.mk e.kind e.name (e.type.subst vars args) (e.targs.map (Ty.subst vars args)) e.kids e.pos
def F2z(vars:List A2)(args:List Ty)(I:∀u,u∈args->u.Sm)(e:Ex)(ht:e.type.Sm)(L:e.targs.length<=sm)(E:∀t,t∈e.targs->t.Sm) :Ab prog 163 [Bg e,.Aj [.slice (Ba vars)] 0,.Aj [.slice (Ag args)] 0] (Bg (e.A2m vars args)):=by refine cB func163 ?_;refine sR [0,1,2,3,4] ?_;refine sG [0,1,2,3,4] [] 11 [] λK J=>?_;refine ev ?_;refine⟨Be (e.type.subst vars args),.inl ⟨_,rfl,C0q vars args I e.type ht,rfl⟩,?_⟩;refine ev ?_;refine⟨Co (e.targs.map (Ty.subst vars args)),.inl ⟨_,rfl,D5r (Ty.subst vars args) vars args e.targs L (λt h=>C0q vars args I t (E t h)),rfl⟩,?_⟩;refine ev ?_;apply J;clear J K;refine sR [0,1,2,3,4] ?_;exact aR
mutual
theorem SV.H0u(k:Nat)(f:Qy):∀{x:SV},x.closed=true->x.sub k f=x
 |.undef,_=>rfl
 |.d _,_=>rfl
 |.Aj _ _,_=>rfl
 |.agg cs,h=>by simp only[SV.closed]at h;simp only[SV.sub,SV.A8w k f h]
 |.tuple cs,h=>by simp only[SV.closed]at h;simp only[SV.sub,SV.A8w k f h]
 |.Bk _ cs,h=>by simp only[SV.closed]at h;simp only[SV.sub,SV.A8w k f h]
 |.Fv cs _,h=>by simp only[SV.closed]at h;simp only[SV.sub,SV.A8w k f h]
 |.box _ _,h=>by simp[SV.closed]at h
 |.acc _,h=>by simp[SV.closed]at h
 |.Ee _ _ _,h=>by simp[SV.closed]at h
 |.mp _,h=>by simp[SV.closed]at h
 |.Fa _,h=>rfl
theorem SV.A8w(k:Nat)(f:Qy):∀{xs:List SV},SV.Mw xs=true->SV.Kj k f xs=xs
 |[],_=>rfl
 |c::cs,h=>by simp only[SV.Mw,Bi]at h;simp only[SV.Kj,SV.H0u k f h.1,SV.A8w k f h.2]
end
def Ex.Hz(e:Ex)(ks:List Ex):Ex:=.mk e.kind e.name e.type e.targs ks e.pos
mutual
def Ex.mapped(g:Ex->Ex):Ex->Ex
 |.mk k n t a ks p=>g (.mk k n t a (Ex.B2b g ks) p)
def Ex.B2b(g:Ex->Ex):List Ex->List Ex
 |[]=>[]
 |e::es=>e.mapped g::Ex.B2b g es
end
def E2m(g:Ex->Ex):∀l,Ex.B2b g l=l.map (Ex.mapped g)
 |[]=>by rw[Ex.B2b];rfl
 |t::E=>by rw[Ex.B2b,E2m g E];rfl
def A0d(g:Ex->Ex)(e:Ex):e.mapped g=g (e.Hz (e.kids.map (Ex.mapped g))):=by
 cases e with
 |mk k n t a ks p=>rw[Ex.mapped,E2m];rfl
abbrev Xw:List Nat:=[0,1,2,4,5,7,9,10,11,12]
def D3x(f:FuncId)(caps:List SV)(U:H6 [] caps=some caps)(V:SV.Mw caps=true)(g:Ex->Ex)
  (hg:∀(e:Ex) (ks:List Ex),e.Sm->Ab prog f (Bg (e.Hz ks)::caps) (Bg (g (e.Hz ks)))) :
  ∀e:Ex,e.Sm->Ab prog 162 [Bg e,.Bk f caps] (Bg (e.mapped g)):=by
 intro e
 induction e using Ex.induct with
 |h e ih =>
 intro L;have O:=A0d g e;have hl:=L.kids.1;have Z:∀k,SV.Lu k caps=false:=λk=>SV.A8n k V;have a1:(false=true)=False:=by simp
 rw[O];refine cB func162 ?_;refine Ap Z Xw ?_;refine sR Xw ?_;refine A0.pp 5 8 5 rfl ?_;simp only[Wr,N7,SV.has,Z,I5,Fm];refine sK λK1 u1=>?_;have a0:∀sl bx,sle sl [(1,.Bk f caps),(2,.box 2 0),(4,.box 4 0),(5,.acc 5)] ->ble bx [(5,.rows 8 (Bj (e.kids.map (Ex.mapped g)))),(2,.cells ((Bp e).map .d)),(4,.cells [.d (.int .i64 0),.d (.str []),.d (.str []),.d .nil,.d (.int .i64 0),.d .nil,.d .nil,.d (.int .i64 0)])]->K1 sl bx:=by
  intro sl bx h1 h2;refine u1 _ _ (A0.ww h1 h2 ?_);clear u1 K1 h1 h2;refine A0.Jh 5 rfl<|A0.ww (sl':=[(1,.Bk f caps),(2,.box 2 0),(4,.box 4 0),(5,.d (.slice (Bj (e.kids.map (Ex.mapped g)))))]) (bx':=[(2,.cells ((Bp e).map .d)),(4,.cells [.d (.int .i64 0),.d (.str []),.d (.str []),.d .nil,.d (.int .i64 0),.d .nil,.d .nil,.d (.int .i64 0)])]) (by simp[M6,SV.sub,sle,Av,Af,SV.A8w _ _ V]) (by simp[Ld,Aq.sub,SV.Kj,SV.sub,ble,A8,C5,Bp]) ?_
  refine sR Xw ?_
  (refine sQ Xw λK E=>?_;refine Ah U ?_)
  refine⟨Bg (g (e.Hz (e.kids.map (Ex.mapped g)))),.inl ⟨_,rfl,hg e _ L,rfl⟩,?_⟩;refine ev ?_
  (apply E;clear E K)
  exact aR
 refine sR Xw ?_;refine A0.bb (A0.loop (X:=Nat) (λx=>[(11,A7 x),(10,A7 e.kids.length),(9,.d (.slice (Bj e.kids))),(1,.Bk f caps),(2,.box 2 0),(4,.box 4 0),(5,.acc 5)]) (λx=>[(5,.rows 8 (Bj ((e.kids.take x).map (Ex.mapped g)))),(2,.cells ((Bp e).map .d)),(4,.cells [.d (.int .i64 0),.d (.str []),.d (.str []),.d .nil,.d (.int .i64 0),.d .nil,.d .nil,.d (.int .i64 0)])]) (λx=>x<=e.kids.length) (λx=>e.kids.length - x) 0 ?_ ?_ ?_ ?_)
 .simp
 .exact sS
 .simp[ble,A8,E8u,Bp]
 rintro j hj;by_cases W:(j:Int)<(e.kids.length:Int)
 .have I:j<e.kids.length:=by omega
  have hy:e.kids[j]?=some e.kids[j]:=Br I;have J:e.kids[j]∈e.kids:=Gi I;have tk:e.kids.take (j+1)=e.kids.take j++[e.kids[j]]:=La I;generalize e.kids[j]=y at*;refine Ap W Xw ?_;refine sK λK2 u2=>A0.tt rfl (A0.kk (u2 _ _ ?_));clear u2 K2;refine sK λK2 u2=>A0.bb ?_
  (refine sQ Xw λK E=>?_;refine ev ?_)
  refine⟨by omega,Bp y,Ck hy,rfl,?_⟩;refine Ah Z ?_
  (apply E;clear E K)
  (refine lQ Xw λK E=>?_;refine Du U Z ?_)
  refine⟨Bg (y.mapped g),.inl ⟨_,rfl,ih y J (L.kids.2 y J),rfl⟩,?_⟩;refine ev ?_;refine⟨by simp,by rw[Bc,D0];unfold lim sm at*;omega,?_⟩
  (apply E;clear E K;try simp only[A5,A9])
  refine u2 _ _ ?_;clear u2 K2
  (refine lQ Xw λK E=>?_;refine ev ?_)
  refine⟨by unfold B7;unfold sm at*;omega,?_⟩
  (apply E;clear E K;try simp only[A5,])
  refine⟨j+1,by omega,by omega,by simp[sle,Av,Af],?_⟩;rw[tk];simp[ble,A8,I0,Bp]
 .refine Ap W Xw ?_;refine sK λK2 u2=>A0.ff rfl (A0.xx ?_);simp only[A5,A9,Ac];rw[Ym (by omega)];exact a0 _ _ sS (by simp[ble,A8,Bp,])
def Ex.subst(vars:List A2)(args:List Ty):Ex->Ex:=Ex.mapped (Ex.A2m vars args)
def E2o(vars:List A2)(args:List Ty)(I:∀u,u∈args->u.Sm)(e:Ex)(E:e.Sm):Ab prog 123 [Bg e,Ce vars,Co args] (Bg (e.subst vars args)):=by
 have J:=D3x 163 [.Aj [.slice (Ba vars)] 0,.Aj [.slice (Ag args)] 0] rfl rfl (Ex.A2m vars args)
  (λe ks h=>F2z vars args I (e.Hz ks) h.type h.targs.1 h.targs.2) e E
 refine cB func123 ?_;refine sR [0,1,2,3,4,5,6] ?_;refine A0.zz 4 rfl rfl<|A0.zz 5 rfl rfl<|A0.ww (sl':=[(3,.box 3 0),(4,.Aj [.slice (Ba vars)] 0),(5,.Aj [.slice (Ag args)] 0),(6,.box 6 0)]) (bx':=[(3,.cells ((Bp e).map .d)),(6,.cells [.d (.int .i64 0),.d (.str []),.d (.str []),.d .nil,.d (.int .i64 0),.d .nil,.d .nil,.d (.int .i64 0)])]) (by simp[M6,SV.sub,SV.Kj,sle,Av,Af]) (by simp[Ld,Aq.sub,SV.Kj,SV.sub,ble,A8,C5,Bp]) ?_
 refine sC J [0,1,2,3,4,5,6] ?_;exact aR
def B6n:∀e:Ex,e.subst [] []=e:=by
 intro e
 induction e using Ex.induct with
 |h e J =>
 have E:e.kids.map (Ex.mapped (Ex.A2m [] []))=e.kids:=by have:=Hb (f:=Ex.mapped (Ex.A2m [] [])) (g:=id) J;rw[this];simp
 have I:∀l:List Ty,l.map (Ty.subst [] [])=l:=λl=>by rw[Hb (g:=id) λt _=>Q7 t];simp
 show Ex.mapped (Ex.A2m [] []) e=e;rw[A0d,E];cases e;simp[Ex.A2m,Ex.Hz,Ex.kind,Ex.name,Ex.type,Ex.targs,Ex.kids,Ex.pos,Q7,I]
def A4k(e:Ex)(h:e.Sm):Ab prog 65 [Bg e] (Bg e):=by refine cB func65 ?_;refine sR [0,1,2] ?_;refine sQ [0,1,2] λK E=>?_;simp -implicitDefEqProofs only[EV,Nat.reduceAdd,Nat.reduceEqDiff,reduceCtorEq,J9];have hs:=E2o [] [] (by simp) e h;rw[B6n]at hs;refine⟨Bg e,.inl ⟨_,rfl,hs,rfl⟩,?_⟩;refine ev ?_;apply E;clear E K;exact aR
structure Ak.Sm(f:Ak):Prop where
 name:f.name.length<=60000000*sm
 bound:f.bound.Sm
structure Param.Sm(f:Param):Prop where
 name:f.name.length<=60000000*sm
 type:f.type.Sm
structure A4.Sm(s:A4):Prop where
 name:s.name.length<=60000000*sm
 A1:s.A1.length<=sm/\∀t,t∈s.A1->t.Sm
 params:s.params.length<=sm/\∀t,t∈s.params->t.Sm
 result:s.result.Sm
structure Decl.Sm(d:Decl):Prop where
 name:d.name.length<=60000000*sm
 A1:d.A1.length<=sm/\∀t,t∈d.A1->t.Sm
 fields:d.fields.length<=sm/\∀t,t∈d.fields->t.Sm
 sigs:d.sigs.length<=sm/\∀t,t∈d.sigs->t.Sm
 recv:d.recv.length<=60000000*sm
 vars:d.vars.length<=sm/\∀t,t∈d.vars->t.length<=60000000*sm
 sig:d.sig.Sm
 body:d.body.Sm
structure Prog.Sm(p:Prog):Prop where
 decls:p.decls.length<=sm/\∀t,t∈p.decls->t.Sm
 main:p.main.Sm
def D7c(x:Ak)(h:x.Sm):Ab prog 199 [Sa x] (Sa x):=by refine cB func199 ?_;refine sR [0,1,2] ?_;refine sC (B4u x.bound h.bound) [0,1,2] ?_;refine sR [0,1,2] ?_;exact aR
def D0m(x:Param)(h:x.Sm):Ab prog 201 [Sy x] (Sy x):=by refine cB func201 ?_;refine sR [0,1,2] ?_;refine sC (B4u x.type h.type) [0,1,2] ?_;refine sR [0,1,2] ?_;exact aR
abbrev q8q:List Nat:=[0,1,4,5,7,8,9,10,11]
def D4k(f:FuncId)(l:List Ak)(hl:l.length<=sm)(hs:∀t,t∈l->Ab prog f [Sa t] (Sa t)) :Ab prog 198 [.d (.slice (Ax l)),.Bk f []] (.d (.slice (Ax l))):=by
 refine cB func198 ?_;refine sR q8q ?_;refine sR q8q ?_;refine A0.pp 5 5 5 rfl<|sK λV u1=>?_;have U:∀sl bx,sle sl [(5,.acc 5)]->ble bx [(5,.rows 5 (Ax l))]->V sl bx:=by intro sl bx W h2;refine u1 _ _ (A0.ww W h2 ?_);clear u1 V;refine sR q8q ?_;exact aR
 refine sR q8q ?_;refine A0.bb (A0.loop (X:=Nat) (λx=>[(10,A7 x),(9,A7 l.length),(8,.d (.slice (Ax l))),(1,.Bk f []),(5,.acc 5)]) (λx=>[(5,.rows 5 (Ax (l.take x)))]) (λx=>x<=l.length) (λx=>l.length - x) 0 ?_ ?_ ?_ ?_);simp;exact sS;simp[ble,A8,Ax];rintro j hj;by_cases J:(j:Int)<(l.length:Int)
 .have E:j<l.length:=by omega
  have Z:l[j]?=some l[j]:=Br E;have L:l[j]∈l:=Gi E;have tk:l.take (j+1)=l.take j++[l[j]]:=La E;generalize l[j]=y at*;refine Ap J q8q ?_;refine sK λO u2=>A0.tt rfl (A0.kk (u2 _ _ ?_));clear u2 O;refine sK λO u2=>A0.bb ?_;refine sQ q8q λK I=>?_;refine ev ?_;refine⟨by omega,Gs y,Fc Z,rfl,?_⟩;refine ev ?_;apply I;clear I K;refine lQ q8q λK I=>?_;refine ev ?_;refine⟨Sa y,.inl ⟨_,rfl,hs y L,rfl⟩,?_⟩;refine ev ?_;refine⟨by simp,by rw[D0];unfold lim sm at*;omega,?_⟩;(apply I;clear I K;try simp only[A5,A9]);refine u2 _ _ ?_;clear u2 O;refine lQ q8q λK I=>?_;refine ev ?_;refine⟨by unfold B7;unfold sm at*;omega,?_⟩;(apply I;clear I K;try simp only[A5,]);refine⟨j+1,by omega,by omega,by simp[sle,Av,Af],?_⟩;rw[tk];simp[ble,A8,Ax,Gs]
 refine Ap J q8q ?_;refine sK λO u2=>A0.ff rfl (A0.xx ?_);simp only[A5,A9,Ac];rw[Ym (by omega)];exact U _ _ sS sB
abbrev Z0:List Nat:=[0,1,4,5,7,8,9,10,11]
def E6z(f:FuncId)(l:List Param)(hl:l.length<=sm)(hs:∀t,t∈l->Ab prog f [Sy t] (Sy t)) :Ab prog 200 [.d (.slice (Ay l)),.Bk f []] (.d (.slice (Ay l))):=by
 refine cB func200 ?_;refine sR Z0 ?_;refine sR Z0 ?_;refine A0.pp 5 5 5 rfl<|sK λV u1=>?_;have U:∀sl bx,sle sl [(5,.acc 5)]->ble bx [(5,.rows 5 (Ay l))]->V sl bx:=by intro sl bx W h2;refine u1 _ _ (A0.ww W h2 ?_);clear u1 V;refine sR Z0 ?_;exact aR
 refine sR Z0 ?_;refine A0.bb (A0.loop (X:=Nat) (λx=>[(10,A7 x),(9,A7 l.length),(8,.d (.slice (Ay l))),(1,.Bk f []),(5,.acc 5)]) (λx=>[(5,.rows 5 (Ay (l.take x)))]) (λx=>x<=l.length) (λx=>l.length - x) 0 ?_ ?_ ?_ ?_);simp;exact sS;simp[ble,A8,Ay];rintro j hj;by_cases J:(j:Int)<(l.length:Int)
 .have E:j<l.length:=by omega
  have Z:l[j]?=some l[j]:=Br E;have L:l[j]∈l:=Gi E;have tk:l.take (j+1)=l.take j++[l[j]]:=La E;generalize l[j]=y at*;refine Ap J Z0 ?_;refine sK λO u2=>A0.tt rfl (A0.kk (u2 _ _ ?_));clear u2 O;refine sK λO u2=>A0.bb ?_;refine sQ Z0 λK I=>?_;refine ev ?_;refine⟨by omega,E9 y,Dx Z,rfl,?_⟩;refine ev ?_;apply I;clear I K;refine lQ Z0 λK I=>?_;refine ev ?_;refine⟨Sy y,.inl ⟨_,rfl,hs y L,rfl⟩,?_⟩;refine ev ?_;refine⟨by simp,by rw[D0];unfold lim sm at*;omega,?_⟩;(apply I;clear I K;try simp only[A5,A9]);refine u2 _ _ ?_;clear u2 O;refine lQ Z0 λK I=>?_;refine ev ?_;refine⟨by unfold B7;unfold sm at*;omega,?_⟩;(apply I;clear I K;try simp only[A5,]);refine⟨j+1,by omega,by omega,by simp[sle,Av,Af],?_⟩;rw[tk];simp[ble,A8,Ay,E9]
 refine Ap J Z0 ?_;refine sK λO u2=>A0.ff rfl (A0.xx ?_);simp only[A5,A9,Ac];rw[Ym (by omega)];exact U _ _ sS sB
abbrev Yz:List Nat:=[0,1,4,5,7,8,9,10,11]
def E7u(f:FuncId)(l:List A4)(hl:l.length<=sm)(hs:∀t,t∈l->Ab prog f [E0 t] (E0 t)) :Ab prog 202 [.d (.slice (B9 l)),.Bk f []] (.d (.slice (B9 l))):=by
 refine cB func202 ?_;refine sR Yz ?_;refine sR Yz ?_;refine A0.pp 5 7 5 rfl<|sK λV u1=>?_;have U:∀sl bx,sle sl [(5,.acc 5)]->ble bx [(5,.rows 7 (B9 l))]->V sl bx:=by intro sl bx W h2;refine u1 _ _ (A0.ww W h2 ?_);clear u1 V;refine sR Yz ?_;exact aR
 refine sR Yz ?_;refine A0.bb (A0.loop (X:=Nat) (λx=>[(10,A7 x),(9,A7 l.length),(8,.d (.slice (B9 l))),(1,.Bk f []),(5,.acc 5)]) (λx=>[(5,.rows 7 (B9 (l.take x)))]) (λx=>x<=l.length) (λx=>l.length - x) 0 ?_ ?_ ?_ ?_);simp;exact sS;simp[ble,A8,B9];rintro j hj;by_cases J:(j:Int)<(l.length:Int)
 .have E:j<l.length:=by omega
  have Z:l[j]?=some l[j]:=Br E;have L:l[j]∈l:=Gi E;have tk:l.take (j+1)=l.take j++[l[j]]:=La E;generalize l[j]=y at*;refine Ap J Yz ?_;refine sK λO u2=>A0.tt rfl (A0.kk (u2 _ _ ?_));clear u2 O;refine sK λO u2=>A0.bb ?_;refine sQ Yz λK I=>?_;refine ev ?_;refine⟨by omega,Dm y,De Z,rfl,?_⟩;refine ev ?_;apply I;clear I K;refine lQ Yz λK I=>?_;refine ev ?_;refine⟨E0 y,.inl ⟨_,rfl,hs y L,rfl⟩,?_⟩;refine ev ?_;refine⟨by simp,by rw[D0];unfold lim sm at*;omega,?_⟩;(apply I;clear I K;try simp only[A5,A9]);refine u2 _ _ ?_;clear u2 O;refine lQ Yz λK I=>?_;refine ev ?_;refine⟨by unfold B7;unfold sm at*;omega,?_⟩;(apply I;clear I K;try simp only[A5,]);refine⟨j+1,by omega,by omega,by simp[sle,Av,Af],?_⟩;rw[tk];simp[ble,A8,B9,Dm]
 refine Ap J Yz ?_;refine sK λO u2=>A0.ff rfl (A0.xx ?_);simp only[A5,A9,Ac];rw[Ym (by omega)];exact U _ _ sS sB
abbrev Zv:List Nat:=[0,1,4,5,7,8,9,10,11]
def F7c(f:FuncId)(l:List Decl)(hl:l.length<=sm)(hs:∀t,t∈l->Ab prog f [Pz t] (Pz t)) :Ab prog 168 [.d (.slice (Di l)),.Bk f []] (.d (.slice (Di l))):=by
 refine cB func168 ?_;refine sR Zv ?_;refine sR Zv ?_;refine A0.pp 5 23 5 rfl<|sK λV u1=>?_;have U:∀sl bx,sle sl [(5,.acc 5)]->ble bx [(5,.rows 23 (Di l))]->V sl bx:=by intro sl bx W h2;refine u1 _ _ (A0.ww W h2 ?_);clear u1 V;refine sR Zv ?_;exact aR
 refine sR Zv ?_;refine A0.bb (A0.loop (X:=Nat) (λx=>[(10,A7 x),(9,A7 l.length),(8,.d (.slice (Di l))),(1,.Bk f []),(5,.acc 5)]) (λx=>[(5,.rows 23 (Di (l.take x)))]) (λx=>x<=l.length) (λx=>l.length - x) 0 ?_ ?_ ?_ ?_);simp;exact sS;simp[ble,A8,Di];rintro j hj;by_cases J:(j:Int)<(l.length:Int)
 .have E:j<l.length:=by omega
  have Z:l[j]?=some l[j]:=Br E;have L:l[j]∈l:=Gi E;have tk:l.take (j+1)=l.take j++[l[j]]:=La E;generalize l[j]=y at*;refine Ap J Zv ?_;refine sK λO u2=>A0.tt rfl (A0.kk (u2 _ _ ?_));clear u2 O;refine sK λO u2=>A0.bb ?_;refine sQ Zv λK I=>?_;refine ev ?_;refine⟨by omega,B3 y,Ek Z,rfl,?_⟩;refine ev ?_;apply I;clear I K;refine lQ Zv λK I=>?_;refine ev ?_;refine⟨Pz y,.inl ⟨_,rfl,hs y L,rfl⟩,?_⟩;refine ev ?_;refine⟨by simp,by rw[D0];unfold lim sm at*;omega,?_⟩;(apply I;clear I K;try simp only[A5,A9]);refine u2 _ _ ?_;clear u2 O;refine lQ Zv λK I=>?_;refine ev ?_;refine⟨by unfold B7;unfold sm at*;omega,?_⟩;(apply I;clear I K;try simp only[A5,]);refine⟨j+1,by omega,by omega,by simp[sle,Av,Af],?_⟩;rw[tk];simp[ble,A8,Di,B3]
 refine Ap J Zv ?_;refine sK λO u2=>A0.ff rfl (A0.xx ?_);simp only[A5,A9,Ac];rw[Ym (by omega)];exact U _ _ sS sB
def A0.G1f{ro:Option Nat}{P:Program}{n:Nat}{c:Code}{Q:Exit->SL->Aa->Prop}{sl:SL}{bx:Aa}(t:Nat)(hd:Af sl t=.d (.slice []))(O:A0 ro P n c Q ((t,.d .nil)::sl) bx)(J:A0 ro P n c Q ((t,.d .emp)::sl) bx):A0 ro P n c Q sl bx:=by
 intro C S w β a hs;have hr:=hs.slot t;rw[hd]at hr;have I:=hr.Gq;generalize L:a.tmps.getD t undef=v at I;have go:∀x:SV,An S w β x v->St C n S w β a ((t,x)::sl) bx:=λx U=>⟨hs.inv,hs.size,hs.defers,λu=>by simp only[Af];split;rename_i V;subst V;rw[L];exact U;exact hs.slot u⟩
 cases I with
 |Lw a cap E =>
  cases a with
  |none=>have:=E rfl;subst this;exact O C S w β _ (go _ (.d _ _ .nil))
  |some b=>exact J C S w β _ (go _ (.d _ _ (.emp b cap)))
 |slice _ b off cap sz=>exact J C S w β _ (go _ (.d _ _ (.emp _ cap)))
def G7p(l:List A2)(L:l.length<=sm):Ab prog 174 [Ce l] (Ce l):=by
 refine cB func174 ?_;refine sR [0,2,4] ?_;cases l with
 |nil =>
  refine A0.G1f 0 rfl ?_ ?_;refine kR [0,2,4] λI u1=>?_;refine A0.tt rfl<|sR [0,2,4] ?_;exact aR
  refine kR [0,2,4] λI u1=>?_;refine A0.ff rfl (A0.kk (u1 _ _ ?_));clear u1 I;refine A0.F9 [0,2,4,5] [5] (by decide +kernel) λK z=>?_;refine ev ?_;apply z;clear z K;exact aR
 |cons x l =>have e:Ba (x::l)=[.str x]::Ba l:=rfl;refine sK λI u1=>?_;refine sQ [0,2,4] λK z=>?_;simp -implicitDefEqProofs only[EV,Nat.reduceEqDiff,reduceCtorEq,Xd,e,Qi];apply z;clear z K;refine A0.ff rfl (A0.kk (u1 _ _ ?_));clear u1 I;have E:=V0 (x::l);rw[e]at E;simp only[Ar]at L;refine A0.F9 [0,2,4,5] [5] (by decide +kernel) λK J=>?_;refine ev ?_;refine⟨E,by unfold lim sm at*;omega,?_⟩;apply J;clear J K;rw[<-e];exact aR
def D6i(x:A4)(h:x.Sm):Ab prog 203 [E0 x] (E0 x):=by refine cB func203 ?_;refine sR [0,1,2] ?_;refine sG [0,1,2] [] 10 [] λK E=>?_;refine ev ?_;refine⟨.d (.slice (Ax x.A1)),.inl ⟨_,rfl,D4k _ _ h.A1.1 λt ht=>D7c t (h.A1.2 t ht),rfl⟩,?_⟩;refine ev ?_;refine⟨.d (.slice (Ay x.params)),.inl ⟨_,rfl,E6z _ _ h.params.1 λt ht=>D0m t (h.params.2 t ht),rfl⟩,?_⟩;refine ev ?_;refine⟨Be x.result,.inl ⟨_,rfl,B4u x.result h.result,rfl⟩,?_⟩;refine ev ?_;apply E;clear E K;refine sR [0,1,2] ?_;exact aR
def G0c(x:Decl)(h:x.Sm):Ab prog 169 [Pz x] (Pz x):=by refine cB func169 ?_;refine sR [0,1,2] ?_;refine sG [0,1,2] [] 10 [] λK E=>?_;refine ev ?_;refine⟨.d (.slice (Ax x.A1)),.inl ⟨_,rfl,D4k _ _ h.A1.1 λt ht=>D7c t (h.A1.2 t ht),rfl⟩,?_⟩;refine ev ?_;refine⟨.d (.slice (Ay x.fields)),.inl ⟨_,rfl,E6z _ _ h.fields.1 λt ht=>D0m t (h.fields.2 t ht),rfl⟩,?_⟩;refine ev ?_;refine⟨.d (.slice (B9 x.sigs)),.inl ⟨_,rfl,E7u _ _ h.sigs.1 λt ht=>D6i t (h.sigs.2 t ht),rfl⟩,?_⟩;refine ev ?_;apply E;clear E K;refine sG [0,1,2] [] 10 [] λK E=>?_;refine ev ?_;refine⟨Ce x.vars,.inl ⟨_,rfl,G7p _ h.vars.1,rfl⟩,?_⟩;refine ev ?_;refine⟨E0 x.sig,.inl ⟨_,rfl,D6i _ h.sig,rfl⟩,?_⟩;refine ev ?_;refine⟨Bg x.body,.inl ⟨_,rfl,A4k _ h.body,rfl⟩,?_⟩;refine ev ?_;apply E;clear E K;refine sR [0,1,2] ?_;exact aR
def E5c(p:Prog)(h:p.Sm):Ab prog 127 [Cq p] (Cq p):=by refine cB func127 ?_;refine sR [0,1,2] ?_;refine sG [0,1,2] [] 5 [] λK E=>?_;refine ev ?_;refine⟨.d (.slice (Di p.decls)),.inl ⟨_,rfl,F7c _ _ h.decls.1 λt ht=>G0c t (h.decls.2 t ht),rfl⟩,?_⟩;refine ev ?_;refine⟨Bg p.main,.inl ⟨_,rfl,A4k _ h.main,rfl⟩,?_⟩;refine ev ?_;apply E;clear E K;exact aR
end Go.Abs
