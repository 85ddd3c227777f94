/- several texts in one -/
import Derived.Test.YtcmlfpcaeflleaaGreatDoorGFA
set_option linter.all false
set_option maxHeartbeats 1000000
set_option maxRecDepth 100000
namespace Go.Abs
open Go Go.Proofs Tryz
mutual
def Ty.structs(p:Prog):Ty->List A3->List A3
 |.mk n a _,acc=>if kindOf p n=1 then Ty.Ub p a (Vc acc n)else acc
def Ty.Ub(p:Prog):List Ty->List A3->List A3
 |[],acc=>acc
 |t::ts,acc=>Ty.Ub p ts (t.structs p acc)
end
def Ty.F3u(p:Prog)(t:Ty)(acc:List A3):t.structs p acc=if kindOf p t.name=1 then Ty.Ub p t.args (Vc acc t.name)else acc:=by cases t;rfl
structure Fv(p:Prog)(l:List A3):Prop where
 nodup:l.Nodup
 isS:∀s,s∈l->kindOf p s=1
def F6a{p:Prog}{s:A3}(h:kindOf p s=1):s∈p.decls.map Decl.name:=by
 unfold kindOf at h;split at h
 .rename_i d I;have J:=Am6 I;have E:=At7 I;simp only[Decl.Jx,Bc,Da]at E;exact B1.2 ⟨d,J,E.2⟩
 .simp at h
def C0r{α:Type}[DecidableEq α]:∀{l m:List α},l.Nodup->(∀x,x∈l->x∈m)->l.length<=m.length
 |[],_,_,_=>by simp
 |x::l,m,h,hs=>by have I:=hs x (by simp);obtain⟨J,M⟩:=Ui.1 h;have L:l.length<=(m.erase x).length:=C0r M λy E=>(List.mem_erase_of_ne (by rintro rfl;exact J E)).2 (hs y (by simp[E]));rw[List.length_erase_of_mem I]at L;have:=List.length_pos_of_mem I;simp only[C6];omega
def Fv.len{p:Prog}{l:List A3}(h:Fv p l):l.length<=p.decls.length:=by have:=C0r h.nodup λs hs=>F6a (h.isS s hs);simpa using this
theorem Fv.nil(p:Prog):Fv p []:=⟨by simp,by simp⟩
def D2j{s x:A3}:∀{l:List A3},x∈ins s l↔x=s\/x∈l
 |[]=>by simp[ins]
 |y::ys=>by
  simp only[ins];split
  .simp
  .simp only[Aw,D2j];constructor
   .rintro(h|h|h) <;> simp[h]
   .rintro(h|h|h) <;> simp[h]
def D8o{s x:A3}{l:List A3}:x∈Vc l s↔x=s\/x∈l:=by
 unfold Vc;split
 .constructor
  .exact .inr
  .rintro(rfl|h)
   .assumption
   .exact h
 .exact D2j
def E4f(s:A3):∀l:List A3,(ins s l).Perm (s::l)
 |[]=>.refl _
 |y::ys=>by
  simp only[ins];split
  .exact .refl _
  .exact((E4f s ys).cons y).trans (.swap s y ys)
def F8r{s:A3}{l:List A3}(h:l.Nodup):(Vc l s).Nodup:=by
 unfold Vc;split
 .exact h
 .rename_i hs;rw[(E4f s l).nodup_iff];exact Ui.2 ⟨hs,h⟩
def Fv.put{p:Prog}{l:List A3}{s:A3}(h:Fv p l)(hs:kindOf p s=1):Fv p (Vc l s) :=
 ⟨F8r h.nodup,λx hx=>by
  rcases D8o.1 hx with rfl|hx
  .exact hs
  .exact h.isS x hx⟩
mutual
theorem Fv.structs{p:Prog}:∀(t:Ty) {l:List A3},Fv p l->Fv p (t.structs p l)
 |.mk n a q,l,h=>by
  simp only[Ty.structs];split
  .exact Fv.Ub a (h.put (by assumption))
  .exact h
theorem Fv.Ub{p:Prog}:∀(ts:List Ty) {l:List A3},Fv p l->Fv p (Ty.Ub p ts l)
 |[],_,h=>h
 |t::ts,_,h=>Fv.Ub ts (Fv.structs t h)
end
abbrev Y6:List Nat:=[0,1,2,3,4,6,7,12,22]
def G9r(p:Prog)(hp:p.decls.length<=100000):∀(t:Ty)(acc:List A3),Fv p acc->Ac prog 276 [D7 p,B6 t,Cy acc] (Cy (t.structs p acc)):=by
 intro t
 induction t using Ty.induct with
 |h t ih =>
 intro acc L;refine Bj.bd (Enters.of func276 rfl (by decide)) λa2=>?_;have a0:=E6r a2.2.1;have hl:=a0.len;have J:=Ty.F3u p t acc;refine cB func276 ?_;refine sR Y6 ?_;refine kC (B0m p t.name) Y6 λZ u1=>?_;by_cases V:kindOf p t.name=1;rotate_left
 .refine A0.tt (by simp[Ao,Ag,V])<|sR Y6 ?_;rw[J,A6 V];exact aR
 refine A0.ff (by simp[Ao,Ag,V]) (A0.kk (u1 _ _ ?_));clear u1 Z;rw[A9 V]at J;have M:=L.put V;have a3:=L.len;refine sC (F6d acc t.name (by omega)) Y6 ?_;generalize Vc acc t.name=acc2 at*;refine sK λZ u1=>?_;have a1:∀sl bx,sle sl [(2,Cy (Ty.Ub p t.args acc2))]->Z sl bx:=by intro sl bx h1;refine u1 _ _ (A0.ww (bx':=[]) h1 trivial ?_);clear u1 Z;refine sR Y6 ?_;rw[J];exact aR
 refine sR Y6 ?_;refine A0.bb (A0.loop (X:=Nat × List A3) (λx=>[(2,Cy x.2),(7,A8 x.1),(3,.box 3 0),(4,.box 4 0)]) (λ_=>[(3,.cells ((An p).map .d)),(4,.cells ((Be t).map .d))])
  (λx=>x.1<=t.args.length/\Fv p x.2/\Ty.Ub p (t.args.drop x.1) x.2=Ty.Ub p t.args acc2) (λx=>t.args.length - x.1) (0,acc2) ?_ ?_ ?_ ?_)
 .exact⟨by simp,M,rfl⟩
 .exact sS
 .exact(by simp[ble,A7,Be,An])
 rintro⟨j,r⟩ ⟨hj,hr,E⟩;simp only at hj hr E;by_cases W:(j:Int)<(t.args.length:Int)
 .have I:j<t.args.length:=by omega
  have hx:t.args[j]?=some t.args[j]:=B8 I;have O:t.args[j]∈t.args:=Fa I;have dp:t.args.drop j=t.args[j]::t.args.drop (j+1):=Ge I;generalize t.args[j]=x at*;rw[dp,Ty.Ub]at E;refine Ai W Y6 λK2 u2=>?_;refine A0.tt rfl (A0.kk (u2 _ _ ?_));clear u2 K2;refine sK λK2 u2=>A0.bb ?_
  (refine lG Y6 [] 7 [] λK U=>?_;refine ev ?_)
  refine⟨by omega,Be x,Dv hx,rfl,?_⟩;refine ev ?_;refine⟨Cy (x.structs p r),.inl ⟨_,rfl,ih x O r hr,rfl⟩,?_⟩;refine ev ?_
  (apply U;clear U K;try simp only[A4,Ab])
  refine u2 _ _ ?_;clear u2 K2
  (refine lQ Y6 λK U=>?_;refine ev ?_)
  refine⟨by unfold Az;unfold lim at*;omega,?_⟩
  (apply U;clear U K;try simp only[A4,])
  exact⟨(j+1,x.structs p r),⟨by simp only;omega,Fv.structs x hr,E⟩,by simp only;omega,by simp[sle,Ax,Ag],(by simp[ble,A7,Be,An])⟩
 .refine Ai W Y6 λK2 u2=>?_;refine A0.ff rfl (A0.xx ?_);simp only[A4,Ab,Ae];rw[Jf (by omega),Ty.Ub]at E;exact a1 _ _ (by simp[sle,Ax,Ag,E])
def Yw(p:Prog):List Param->List A3->List A3
 |[],acc=>acc
 |f::fs,acc=>Yw p fs (f.type.structs p acc)
def Rh(p:Prog)(E:A3)(acc:List A3):List A3:=match p.decls.find? (λd=>d.Jx E)with
 |some d=>if d.kind=1 then Yw p d.fields acc else acc
 |none=>acc
def Fv.fields{p:Prog}:∀(fs:List Param) {l:List A3},Fv p l->Fv p (Yw p fs l)
 |[],_,h=>h
 |t::ts,_,h=>Fv.fields ts (Fv.structs t.type h)
def Fv.cont{p:Prog}{l:List A3}(E:A3)(h:Fv p l):Fv p (Rh p E l):=by
 unfold Rh;split
 .split
  .exact h.fields _
  .exact h
 .exact h
abbrev U4:List Nat:=[0,1,2,3,6,7,8,22,32]
def D5p(p:Prog)(hp:p.decls.length<=100000)(O:A3)(acc:List A3)(V:Fv p acc):Ac prog 236 [D7 p,D9 O,Cy acc] (Cy (Rh p O acc)):=by
 refine Bj.bd (Enters.of func236 rfl (by decide)) λa2=>?_;have a0:=B3s a2.1;refine cB func236 ?_;refine sR U4 ?_;refine sC (A8u p O) U4<|sK λK1 u1=>?_;rcases A9g O p.decls 0 with⟨L,h2⟩|⟨k,d,L,h2,h3⟩
 .rw[L];have M:Rh p O acc=acc:=by simp[Rh,h2]
  refine sR U4 ?_;refine A0.tt rfl<|sR U4 ?_;rw[M];exact aR
 rw[h2];rw[Nd];have M:Rh p O acc=if d.kind=1 then Yw p d.fields acc else acc:=by simp[Rh,h3]
 have W:¬(k:Int)<0:=by omega
 rcases Decidable.em (d.kind=1)with hd|hd;rotate_left
 .rw[A6 hd]at M
  (refine sQ U4 λK E=>?_;refine As W ?_)
  refine⟨by omega,Bb d,Ev L,rfl,?_⟩;refine As hd ?_
  (apply E;clear E K)
  refine A0.tt rfl<|sR U4 ?_;rw[M];exact aR
 rw[A9 hd]at M;have U:=a0.decls.2 d (N4.2 ⟨k,L⟩);have a4:=U.fields.1
 (refine sQ U4 λK E=>?_;refine As W ?_)
 refine⟨by omega,Bb d,Ev L,rfl,?_⟩;refine As hd ?_
 (apply E;clear E K)
 refine A0.ff rfl (A0.kk (u1 _ _ ?_));clear u1 K1;refine sK λK1 u1=>?_;have a1:∀sl bx,sle sl [(2,Cy (Yw p d.fields acc))]->K1 sl bx:=by intro sl bx L;refine u1 _ _ (A0.ww (bx':=[]) L trivial ?_);clear u1 K1;refine sR U4 ?_;rw[M];exact aR
 refine sR U4 ?_;refine A0.bb (A0.loop (X:=Nat × List A3) (λx=>[(2,Cy x.2),(8,A8 x.1),(7,A8 k),(3,.box 3 0)]) (λ_=>[(3,.cells ((An p).map .d))])
  (λx=>x.1<=d.fields.length/\Fv p x.2/\Yw p (d.fields.drop x.1) x.2=Yw p d.fields acc) (λx=>d.fields.length - x.1) (0,acc) ?_ ?_ ?_ ?_)
 .exact⟨by simp,V,rfl⟩
 .exact sS
 .exact(by simp[ble,A7,An])
 rintro⟨j,r⟩ ⟨hj,hr,I⟩;simp only at hj hr I;by_cases Z:(j:Int)<(d.fields.length:Int)
 .have J:j<d.fields.length:=by omega
  have hx:d.fields[j]?=some d.fields[j]:=B8 J;have a3:d.fields[j]∈d.fields:=Fa J;have dp:d.fields.drop j=d.fields[j]::d.fields.drop (j+1):=Ge J;generalize d.fields[j]=x at*;rw[dp,Yw]at I;refine sK λK2 u2=>?_
  (refine sQ U4 λK E=>?_;refine ev ?_)
  refine⟨by omega,Bb d,Ev L,rfl,?_⟩;refine As Z ?_
  (apply E;clear E K)
  refine A0.tt rfl (A0.kk (u2 _ _ ?_));clear u2 K2;refine sK λK2 u2=>A0.bb ?_
  (refine lG U4 [] 12 [] λK E=>?_;refine ev ?_)
  refine⟨by omega,Bb d,Ev L,rfl,?_⟩;refine ev ?_;refine⟨by omega,Ha x,E9 hx,rfl,?_⟩;refine ev ?_;refine⟨Cy (x.type.structs p r),.inl ⟨_,rfl,G9r p hp x.type r hr,rfl⟩,?_⟩;refine ev ?_
  (apply E;clear E K;try simp only[A4,Ab])
  refine u2 _ _ ?_;clear u2 K2
  (refine lQ U4 λK E=>?_;refine ev ?_)
  refine⟨by unfold Az;unfold lim at*;omega,?_⟩
  (apply E;clear E K;try simp only[A4,])
  exact⟨(j+1,x.type.structs p r),⟨by simp only;omega,Fv.structs x.type hr,I⟩,by simp only;omega,by simp[sle,Ax,Ag],(by simp[ble,A7,An])⟩
 .refine sK λK2 u2=>?_
  (refine sQ U4 λK E=>?_;refine ev ?_)
  refine⟨by omega,Bb d,Ev L,rfl,?_⟩;refine As Z ?_
  (apply E;clear E K)
  refine A0.ff rfl (A0.xx ?_);simp only[A4,Ab,Ae];rw[Jf (by omega),Yw]at I;exact a1 _ _ (by simp[sle,Ax,Ag,I])
mutual
theorem D1u{p:Prog}{x:A3}:∀(t:Ty) {l:List A3},x∈l->x∈t.structs p l
 |.mk n a q,l,h=>by
  simp only[Ty.structs];split
  .exact E2s a (D8o.2 (.inr h))
  .exact h
theorem E2s{p:Prog}{x:A3}:∀(ts:List Ty) {l:List A3},x∈l->x∈Ty.Ub p ts l
 |[],_,h=>h
 |t::ts,_,h=>E2s ts (D1u t h)
end
def E4u{p:Prog}{x:A3}:∀(fs:List Param) {l:List A3},x∈l->x∈Yw p fs l
 |[],_,h=>h
 |t::ts,_,h=>E4u ts (D1u t.type h)
def E5v{p:Prog}{x E:A3}{l:List A3}(h:x∈l):x∈Rh p E l:=by
 unfold Rh;split
 .split
  .exact E4u _ h
  .exact h
 .exact h
def G4q{p:Prog}{l:List A3}(E:A3)(h:Fv p l):l.length<=(Rh p E l).length:=C0r h.nodup λ_=>E5v
def Yr(p:Prog):List Nat->List A3->List A3
 |[],r=>r
 |i::is,r=>Yr p is (Rh p (r[i]?.getD []) r)
def C0t(p:Prog):Nat->Int->List A3->List A3
 |0,_,r=>r
 |k+1,n,r=>if n=r.length then r else C0t p k r.length (Yr p (List.range' 0 r.length) r)
def B0b(p:Prog)(E:A3):List A3:=C0t p 100003 (-1) (Rh p E [])
def Fv.round{p:Prog}:∀(is:List Nat) {l:List A3},Fv p l->Fv p (Yr p is l)
 |[],_,h=>h
 |_::is,_,h=>Fv.round is (h.cont _)
def D5h{p:Prog}{x:A3}:∀(is:List Nat) {l:List A3},x∈l->x∈Yr p is l
 |[],_,h=>h
 |_::is,_,h=>D5h is (E5v h)
def E9x{p:Prog}{l:List A3}(is:List Nat)(h:Fv p l):l.length<=(Yr p is l).length:=C0r h.nodup λ_=>D5h is
abbrev Vh:List Nat:=[0,1,2,4,5,6,7,14,19]
def G6h(p:Prog)(hp:p.decls.length<=100000)(W:A3):Ac prog 181 [D7 p,D9 W] (Cy (B0b p W)):=by
 refine Bj.bd (Enters.of func181 rfl (by decide)) λa7=>?_;refine cB func181 ?_;refine sR Vh ?_;refine sC (D5p p hp W [] (Fv.nil p)) Vh<|sK λK1 u1=>?_;have a1:∀sl bx,sle sl [(5,Cy (B0b p W))]->K1 sl bx:=by intro sl bx h1;refine u1 _ _ (A0.ww (bx':=[]) h1 trivial ?_);clear u1 K1;refine sR Vh ?_;exact aR
 clear u1;refine sR Vh ?_;refine A0.bb (A0.loop (X:=Nat × Int × List A3) (λx=>[(5,Cy x.2.2),(6,A8 x.2.1),(2,.box 2 0)]) (λ_=>[(2,.cells ((An p).map .d))])
  (λx=>-1<=x.2.1/\x.2.1<=x.2.2.length/\Fv p x.2.2/\100001 - x.2.1<=x.1/\C0t p x.1 x.2.1 x.2.2=B0b p W) (λx=>(100001 - x.2.1).toNat) (100003,-1,Rh p W []) ?_ ?_ ?_ ?_)
 .exact⟨by simp,by simp only;omega,(Fv.nil p).cont W,by simp,rfl⟩
 .exact sS
 .exact(by simp[ble,A7,An])
 rintro⟨k,n,r⟩ ⟨a0,a2,hr,hk,I⟩;simp only at a0 a2 hr hk I;have a5:=hr.len;obtain⟨k,rfl⟩:∃k',k=k'+1:=⟨k - 1,by omega⟩;rw[C0t]at I;by_cases L:n=(r.length:Int)
 .rw[A9 L]at I;refine Ai L Vh λU u2=>?_;refine A0.ff (by simp[Ao,Ag]) (A0.xx ?_);simp only[A4,Ab,Ae];exact a1 _ _ (by simp[sle,Ax,Ag,I])
 .rw[A6 L]at I;refine Ai L Vh λU u2=>?_;refine A0.tt (by simp[Ao,Ag]) (A0.kk (u2 _ _ ?_));clear u2 U;refine A0.bb<|sR Vh ?_;refine sR Vh ?_;have a3:=hr.round (List.range' 0 r.length);have a6:=E9x (List.range' 0 r.length) hr;refine A0.bb (A0.loop (X:=Nat × List A3) (λx=>[(5,Cy x.2),(6,A8 r.length),(7,A8 x.1),(2,.box 2 0)]) (λ_=>[(2,.cells ((An p).map .d))])
   (λx=>x.1<=r.length/\r.length<=x.2.length/\Fv p x.2/\Yr p (List.range' x.1 (r.length - x.1)) x.2=Yr p (List.range' 0 r.length) r) (λx=>r.length - x.1) (0,r) ?_ ?_ ?_ ?_)
  .exact⟨by simp,by simp,hr,rfl⟩
  .exact sS
  .exact(by simp[ble,A7,An])
  rintro⟨j,O⟩ ⟨hj,a4,J,E⟩;simp only at hj a4 J E;by_cases M:(j:Int)<(r.length:Int)
  .have V:j<O.length:=by omega
   have hx:O[j]?=some O[j]:=B8 V;obtain⟨m,hm⟩:∃m,r.length - j=m+1:=⟨r.length - j - 1,by omega⟩;rw[hm,Aq7,Yr,hx,E1]at E;generalize O[j]=x at*;refine Ai M Vh λU u2=>?_;refine A0.tt rfl (A0.kk (u2 _ _ ?_));clear u2 U;refine sK λU u2=>A0.bb ?_
   (refine lG Vh [] 6 [] λK Z=>?_;refine ev ?_)
   refine⟨by omega,_,Ku hx,rfl,?_⟩;refine ev ?_;refine⟨Cy (Rh p x O),.inl ⟨_,rfl,D5p p hp x O J,rfl⟩,?_⟩;refine ev ?_
   (apply Z;clear Z K;try simp only[A4,Ab])
   refine u2 _ _ ?_;clear u2 U
   (refine lQ Vh λK Z=>?_;refine ev ?_)
   refine⟨by unfold Az;omega,?_⟩
   (apply Z;clear Z K;try simp only[A4,])
   have hc:=G4q x J;exact⟨(j+1,Rh p x O),⟨by simp only;omega,by simp only;omega,J.cont x,by simp only;rw[show r.length - (j+1)=m by omega];exact E⟩,by simp only;omega,by simp[sle,Ax,Ag],(by simp[ble,A7,An])⟩
  .refine Ai M Vh λU u2=>?_;refine A0.ff rfl (A0.xx ?_);simp only[A4,Ab,Ae];rw[show r.length - j=0 by omega]at E;simp only[List.range'_zero,Yr]at E;subst E;exact⟨(k,r.length,Yr p (List.range' 0 r.length) r),⟨by simp only;omega,by simp only;omega,a3,by simp only;omega,I⟩,by simp only;omega,by simp[sle,Ax,Ag],(by simp[ble,A7,An])⟩
def Dc(s:A3):List A3->Nat->Int
 |[],_=>-1
 |x::xs,i=>if s=x then i else Dc s xs (i+1)
theorem A3h(s:A3):∀(l:List A3)(i:Nat),(Dc s l i = -1/\s∉l)\/∃k,l[k]?=some s/\Dc s l i=((i+k:Nat):Int)
 |[],i=>by simp[Dc]
 |d::ds,i=>by
  simp only[Dc];split
  .rename_i h;subst h;exact .inr ⟨0,rfl,rfl⟩
  .rename_i h;rcases A3h s ds (i+1)with⟨I,E⟩|⟨k,I,E⟩
   .exact .inl ⟨I,by simp[h,E]⟩
   .exact .inr ⟨k+1,by simpa using I,by rw[E];congr 1;omega⟩
abbrev Za:List Nat:=[0,1,4,5,7,8,9,16]
def G9m(l:List A3)(s:A3):Ac prog 158 [Cy l,D9 s] (A8 (Dc s l 0)):=by
 refine Bj.bd (Enters.of func158 rfl (by decide)) λU=>?_;have hl:=(B4y U.1).1;refine cB func158 ?_;refine sR Za<|sK λZ u1=>?_;have V:∀sl bx,Dc s l 0 = -1->Z sl bx:=by intro sl bx h1;refine u1 _ _ (A0.ww (sl':=[]) (bx':=[]) trivial trivial ?_);clear u1 Z;refine sR Za ?_;rw[h1];exact aR
 refine sR Za ?_;refine A0.bb (A0.loop (X:=Nat) (λx=>[(8,A8 x),(7,A8 l.length),(0,Cy l),(1,D9 s)]) (λ_=>[])
  (λx=>x<=l.length/\Dc s (l.drop x) x=Dc s l 0) (λx=>l.length - x) 0 ?_ ?_ ?_ ?_)
 .exact⟨by simp,by simp⟩
 .exact sS
 .exact sB
 rintro j ⟨hj,E⟩;by_cases L:(j:Int)<(l.length:Int)
 .have I:j<l.length:=by omega
  have W:l[j]?=some l[j]:=B8 I;have dp:l.drop j=l[j]::l.drop (j+1):=Ge I;generalize l[j]=y at*;rw[dp,Dc]at E;refine Aq L Za ?_;refine sK λO u2=>A0.tt rfl (A0.kk (u2 _ _ ?_));clear u2 O;refine sK λO u2=>A0.bb<|sR Za ?_;by_cases M:s=y
  .rw[A9 M]at E
   (refine sQ Za λK J=>?_;refine As M ?_)
   refine⟨by omega,_,Ku W,rfl,?_⟩;refine ev ?_
   (apply J;clear J K)
   refine A0.tt rfl<|sR Za ?_;rw[<-E];exact aR
  .rw[A6 M]at E
   (refine sQ Za λK J=>?_;refine ev ?_)
   refine⟨by omega,_,Ku W,rfl,?_⟩;refine As M ?_
   (apply J;clear J K)
   refine A0.ff rfl (A0.kk ?_);simp only[A4,Ab];refine u2 _ _ ?_;clear u2 O
   (refine lQ Za λK J=>?_;refine ev ?_)
   refine⟨by unfold Az;unfold lim at*;omega,?_⟩
   (apply J;clear J K;try simp only[A4,])
   exact⟨j+1,⟨by omega,E⟩,by omega,by simp[sle,Ax,Ag],sB⟩
 .refine Aq L Za ?_;refine sK λO u2=>A0.ff rfl (A0.xx ?_);simp only[A4,Ab,Ae];rw[Jf (by omega)]at E;exact V _ _ E.symm
def sm:Nat:=1000000
inductive Ty.Sm:Ty->Prop where
 |mk (n:A3) (a:List Ty) (p:Int):n.length<=sm->a.length<=sm->(∀t,t∈a->Ty.Sm t)->Ty.Sm (.mk n a p)
def Ty.Sm.name{t:Ty}(h:t.Sm):t.name.length<=sm:=by cases h;assumption
def Ty.Sm.len{t:Ty}(h:t.Sm):t.args.length<=sm:=by cases h;assumption
def Ty.Sm.arg{t:Ty}(h:t.Sm):∀u,u∈t.args->u.Sm:=by cases h;assumption
abbrev q5A:List Nat:=[0,1,2,6,7,9,10,11,12,13]
def B8u(g:Ty->Ty)(vars:List A3)(args:List Ty)(l:List Ty)(hl:l.length<=sm)(hs:∀t,t∈l->Ac prog 98 [B6 t,Cy vars,Cd args] (B6 (g t))) :
  Ac prog 44 [Cd l,Cy vars,Cd args] (Cd (l.map g)):=by
 refine cB func44 ?_;refine sR q5A ?_;refine sR q5A ?_;refine A0.pp 7 3 7 rfl<|sK λU u1=>?_;have O:∀sl bx,sle sl [(7,.acc 7)]->ble bx [(7,.rows 3 (Au (l.map g)))]->U sl bx:=by intro sl bx V Z;refine u1 _ _ (A0.ww V Z ?_);clear u1 U;refine sR q5A ?_;exact aR
 refine sR q5A ?_;refine A0.bb (A0.loop (X:=Nat) (λx=>[(12,A8 x),(11,A8 l.length),(10,Cd l),(1,Cy vars),(2,Cd args),(7,.acc 7)]) (λx=>[(7,.rows 3 (Au ((l.take x).map g)))])
  (λx=>x<=l.length) (λx=>l.length - x) 0 ?_ ?_ ?_ ?_)
 .simp
 .exact sS
 .simp[ble,A7,X2]
 rintro j hj;by_cases L:(j:Int)<(l.length:Int)
 .have E:j<l.length:=by omega
  have W:l[j]?=some l[j]:=B8 E;have J:l[j]∈l:=Fa E;have tk:l.take (j+1)=l.take j++[l[j]]:=Yk E;generalize l[j]=y at*;refine Aq L q5A ?_;refine sK λM u2=>A0.tt rfl (A0.kk (u2 _ _ ?_));clear u2 M;refine sK λM u2=>A0.bb ?_
  (refine sQ q5A λK I=>?_;refine ev ?_)
  refine⟨by omega,Be y,Dv W,rfl,?_⟩;refine ev ?_
  (apply I;clear I K)
  (refine lQ q5A λK I=>?_;refine ev ?_)
  refine⟨B6 (g y),.inl ⟨_,rfl,hs y J,rfl⟩,?_⟩;refine ev ?_;refine⟨by simp,by rw[Bn,Dx];unfold lim sm at*;omega,?_⟩
  (apply I;clear I K;try simp only[A4,Ab])
  refine u2 _ _ ?_;clear u2 M
  (refine lQ q5A λK I=>?_;refine ev ?_)
  refine⟨by unfold Az;unfold sm at*;omega,?_⟩
  (apply I;clear I K;try simp only[A4,])
  refine⟨j+1,by omega,by omega,by simp[sle,Ax,Ag],?_⟩;rw[tk];simp[ble,A7,Cz,Be]
 .refine Aq L q5A ?_;refine sK λM u2=>A0.ff rfl (A0.xx ?_);simp only[A4,Ab,Ae];rw[Z8 (by omega)];exact O _ _ sS sB
mutual
def Ty.subst(vars:List A3)(args:List Ty):Ty->Ty
 |.mk n a p=>if a.length=0/\0<=Dc n vars 0/\Dc n vars 0<args.length then .mk (args[(Dc n vars 0).toNat]?.getD default).name (args[(Dc n vars 0).toNat]?.getD default).args p else .mk n (Ty.B6x vars args a) p
def Ty.B6x(vars:List A3)(args:List Ty):List Ty->List Ty
 |[]=>[]
 |t::ts=>t.subst vars args::Ty.B6x vars args ts
end
def D1m(vars:List A3)(args:List Ty):∀l,Ty.B6x vars args l=l.map (Ty.subst vars args)
 |[]=>by rw[Ty.B6x];rfl
 |t::ts=>by rw[Ty.B6x,D1m vars args ts];rfl
def Xj(vars:List A3)(args:List Ty)(t:Ty):t.subst vars args=if t.args.length=0/\0<=Dc t.name vars 0/\Dc t.name vars 0<args.length then .mk (args[(Dc t.name vars 0).toNat]?.getD default).name (args[(Dc t.name vars 0).toNat]?.getD default).args t.pos else .mk t.name (t.args.map (Ty.subst vars args)) t.pos:=by
 cases t with
 |mk n a p=>rw[Ty.subst,D1m];rfl
def A7i:∀t:Ty,t.subst [] []=t:=by
 intro t
 induction t using Ty.induct with
 |h t E =>
 rw[Xj,A6 (by simp[Dc]),J7 E];cases t;simp[Ty.name,Ty.args,Ty.pos]
abbrev Wh:List Nat:=[0,1,2,3,6,7,8,26]
def D9v(vars:List A3)(args:List Ty)(hC:∀(i:Nat)(u:Ty),args[i]?=some u->Ac prog 43 [B6 u] (B6 u)):∀t:Ty,t.Sm->Ac prog 98 [B6 t,Cy vars,Cd args] (B6 (t.subst vars args)):=by
 intro t
 induction t using Ty.induct with
 |h t ih =>
 intro M;refine Bj.bd (Enters.of func98 rfl (by decide)) λO=>?_;have hv:=(B4y O.2.1).1;have ha:=(A6h O.2.2.1).1;have E:=Xj vars args t;have U:=B8u (Ty.subst vars args) vars args t.args M.len (λu hu=>ih u hu (M.arg u hu));refine cB func98 ?_;refine sR Wh ?_;refine kC (G9m vars t.name) Wh λZ u1=>?_;generalize Dc t.name vars 0=i at*;have J:(t.args.length=0/\0<=i/\i<args.length)=False->∀sl bx,sle sl [(1,Cy vars),(2,Cd args),(3,.box 3 0),(6,.box 6 0)]->ble bx [(3,.cells ((Be t).map .d)),(6,.cells [.d (.str []),.d .nil,.d (.int .i64 0)])]->Z sl bx:=by intro hc sl bx L I;refine u1 _ _ (A0.ww L I ?_);clear u1 Z;rw[A6 (by rw[hc];exact id)]at E;refine sC U Wh ?_;refine sR Wh ?_;rw[E];exact aR
 by_cases L:(t.args.length:Int)=0
 .by_cases I:0<=i
  .by_cases V:i<(args.length:Int)
   .rw[A9 ⟨by omega,I,V⟩]at E;have W:args[i.toNat]?=some args[i.toNat]:=B8 (by omega);rw[W,E1]at E;generalize args[i.toNat]=u at*;refine sR3 L I V Wh ?_;refine A0.tt rfl ?_
    (refine sQ Wh λK hK=>?_;refine ev ?_)
    refine⟨I,Be u,Dv W,rfl,?_⟩;refine ev ?_;refine⟨B6 u,.inl ⟨_,rfl,hC _ u W,rfl⟩,?_⟩;refine ev ?_
    (apply hK;clear hK K)
    refine sR Wh ?_;refine sR Wh ?_;rw[E];exact aR
   .refine sR3 L I V Wh ?_;refine A0.ff rfl (A0.kk ?_);exact J (by simp[V]) _ _ sS (by simp[ble,A7,Be,])
  .refine Fi L I Wh ?_;refine A0.ff rfl (A0.kk ?_);exact J (by simp[I]) _ _ sS (by simp[ble,A7,Be,])
 .refine Aq L Wh ?_;refine A0.ff rfl (A0.kk ?_);exact J (by simp only[eq_iff_iff,iff_false];omega) _ _ sS (by simp[ble,A7,Be,])
def We(t:Ty)(h:t.Sm):Ac prog 43 [B6 t] (B6 t):=by
 refine cB func43 ?_;refine sR [0,1,2] ?_
 (refine sQ [0,1,2] λK E=>?_;simp -implicitDefEqProofs only[EV,Nat.reduceAdd,Nat.reduceEqDiff,reduceCtorEq,I3])
 have hs:=D9v [] [] (by simp) t h;rw[A7i]at hs;refine⟨B6 t,.inl ⟨_,rfl,hs,rfl⟩,?_⟩;refine ev ?_
 (apply E;clear E K)
 exact aR
def A1v(vars:List A3)(args:List Ty)(E:∀u,u∈args->u.Sm)(t:Ty)(h:t.Sm):Ac prog 98 [B6 t,Cy vars,Cd args] (B6 (t.subst vars args)) :=
 D9v vars args (λi u I=>We u (E u (N4.2 ⟨i,I⟩))) t h
inductive Ex.Sm:Ex->Prop where
 |mk (k:Int) (n:A3) (t:Ty) (a:List Ty) (ks:List Ex) (p:Int):n.length<=sm->t.Sm->a.length<=sm->(∀t,t∈a->t.Sm)->ks.length<=sm->(∀e,e∈ks->Ex.Sm e)->Ex.Sm (.mk k n t a ks p)
def Ex.Sm.name{e:Ex}(h:e.Sm):e.name.length<=sm:=by cases h;assumption
def Ex.Sm.type{e:Ex}(h:e.Sm):e.type.Sm:=by cases h;assumption
def Ex.Sm.targs{e:Ex}(h:e.Sm):e.targs.length<=sm/\∀t,t∈e.targs->t.Sm:=by cases h;exact⟨by assumption,by assumption⟩
def Ex.Sm.kids{e:Ex}(h:e.Sm):e.kids.length<=sm/\∀t,t∈e.kids->t.Sm:=by cases h;exact⟨by assumption,by assumption⟩
def Ex.A4v(vars:List A3)(args:List Ty)(e:Ex):Ex:=.mk e.kind e.name (e.type.subst vars args) (e.targs.map (Ty.subst vars args)) e.kids e.pos
def G6f(vars:List A3)(args:List Ty)(I:∀u,u∈args->u.Sm)(e:Ex)(ht:e.type.Sm)(L:e.targs.length<=sm)(E:∀t,t∈e.targs->t.Sm) :
  Ac prog 240 [D0 e,.Ah [.slice (C5 vars)] 0,.Ah [.slice (Au args)] 0] (D0 (e.A4v vars args)):=by
 refine cB func240 ?_;refine sR [0,1,2,3,4] ?_
 (refine sG [0,1,2,3,4] [] 11 [] λK J=>?_;refine ev ?_)
 refine⟨B6 (e.type.subst vars args),.inl ⟨_,rfl,A1v vars args I e.type ht,rfl⟩,?_⟩;refine ev ?_;refine⟨Cd (e.targs.map (Ty.subst vars args)),.inl ⟨_,rfl,B8u (Ty.subst vars args) vars args e.targs L (λt h=>A1v vars args I t (E t h)),rfl⟩,?_⟩;refine ev ?_
 (apply J;clear J K)
 refine sR [0,1,2,3,4] ?_;exact aR
mutual
theorem SV.F4t(k:Nat)(f:Qw):∀{x:SV},x.closed=true->x.sub k f=x
 |.undef,_=>rfl
 |.d _,_=>rfl
 |.Ah _ _,_=>rfl
 |.agg cs,h=>by simp only[SV.closed]at h;simp only[SV.sub,SV.B0s k f h]
 |.tuple cs,h=>by simp only[SV.closed]at h;simp only[SV.sub,SV.B0s k f h]
 |.B0 _ cs,h=>by simp only[SV.closed]at h;simp only[SV.sub,SV.B0s k f h]
 |.Fs cs _,h=>by simp only[SV.closed]at h;simp only[SV.sub,SV.B0s k f h]
 |.box _ _,h=>by simp[SV.closed]at h
 |.acc _,h=>by simp[SV.closed]at h
 |.Em _ _ _,h=>by simp[SV.closed]at h
 |.mp _,h=>by simp[SV.closed]at h
 |.Ek _,h=>rfl
theorem SV.B0s(k:Nat)(f:Qw):∀{xs:List SV},SV.Mc xs=true->SV.La k f xs=xs
 |[],_=>rfl
 |c::cs,h=>by simp only[SV.Mc,Bc]at h;simp only[SV.La,SV.F4t k f h.1,SV.B0s k f h.2]
end
def Ex.V0(e:Ex)(ks:List Ex):Ex:=.mk e.kind e.name e.type e.targs ks e.pos
mutual
def Ex.mapped(g:Ex->Ex):Ex->Ex
 |.mk k n t a ks p=>g (.mk k n t a (Ex.B2k g ks) p)
def Ex.B2k(g:Ex->Ex):List Ex->List Ex
 |[]=>[]
 |e::es=>e.mapped g::Ex.B2k g es
end
def E3p(g:Ex->Ex):∀l,Ex.B2k g l=l.map (Ex.mapped g)
 |[]=>by rw[Ex.B2k];rfl
 |t::ts=>by rw[Ex.B2k,E3p g ts];rfl
def A5f(g:Ex->Ex)(e:Ex):e.mapped g=g (e.V0 (e.kids.map (Ex.mapped g))):=by
 cases e with
 |mk k n t a ks p=>rw[Ex.mapped,E3p];rfl
abbrev Y4:List Nat:=[0,1,2,4,5,7,9,10,11,12]
def F7p(f:FuncId)(caps:List SV)(M:G8 [] caps=some caps)(O:SV.Mc caps=true)(g:Ex->Ex)
  (hg:∀(e:Ex) (ks:List Ex),e.Sm->Ac prog f (D0 (e.V0 ks)::caps) (D0 (g (e.V0 ks)))) :
  ∀e:Ex,e.Sm->Ac prog 239 [D0 e,.B0 f caps] (D0 (e.mapped g)):=by
 intro e
 induction e using Ex.induct with
 |h e ih =>
 intro L;have U:=A5f g e;have hl:=L.kids.1;have W:∀k,SV.Lx k caps=false:=λk=>SV.A8x k O;have a1:(false=true)=False:=by simp
 rw[U];refine cB func239 ?_;refine Aq W Y4 ?_;refine sR Y4 ?_;refine A0.pp 5 8 5 rfl ?_;simp only[Wq,Nf,SV.has,W,I6,Fy];refine sK λK1 u1=>?_;have a0:∀sl bx,sle sl [(1,.B0 f caps),(2,.box 2 0),(4,.box 4 0),(5,.acc 5)] ->
   ble bx [(5,.rows 8 (Ew (e.kids.map (Ex.mapped g)))),(2,.cells ((Bu e).map .d)),(4,.cells [.d (.int .i64 0),.d (.str []),.d (.str []),.d .nil,.d (.int .i64 0),.d .nil,.d .nil,.d (.int .i64 0)])]->K1 sl bx:=by
  intro sl bx h1 h2;refine u1 _ _ (A0.ww h1 h2 ?_);clear u1 K1 h1 h2;refine A0.Jq 5 rfl<|A0.ww (sl':=[(1,.B0 f caps),(2,.box 2 0),(4,.box 4 0),(5,.d (.slice (Ew (e.kids.map (Ex.mapped g)))))])
   (bx':=[(2,.cells ((Bu e).map .d)),(4,.cells [.d (.int .i64 0),.d (.str []),.d (.str []),.d .nil,.d (.int .i64 0),.d .nil,.d .nil,.d (.int .i64 0)])])
   (by simp[Mk,SV.sub,sle,Ax,Ag,SV.B0s _ _ O]) (by simp[Lk,Ap.sub,SV.La,SV.sub,ble,A7,Ca,Bu]) ?_
  refine sR Y4 ?_
  (refine sQ Y4 λK I=>?_;refine As M ?_)
  refine⟨D0 (g (e.V0 (e.kids.map (Ex.mapped g)))),.inl ⟨_,rfl,hg e _ L,rfl⟩,?_⟩;refine ev ?_
  (apply I;clear I K)
  exact aR
 refine sR Y4 ?_;refine A0.bb (A0.loop (X:=Nat) (λx=>[(11,A8 x),(10,A8 e.kids.length),(9,.d (.slice (Ew e.kids))),(1,.B0 f caps),(2,.box 2 0),(4,.box 4 0),(5,.acc 5)])
  (λx=>[(5,.rows 8 (Ew ((e.kids.take x).map (Ex.mapped g)))),(2,.cells ((Bu e).map .d)),(4,.cells [.d (.int .i64 0),.d (.str []),.d (.str []),.d .nil,.d (.int .i64 0),.d .nil,.d .nil,.d (.int .i64 0)])])
  (λx=>x<=e.kids.length) (λx=>e.kids.length - x) 0 ?_ ?_ ?_ ?_)
 .simp
 .exact sS
 .simp[ble,A7,G7i,Bu]
 rintro j hj;by_cases V:(j:Int)<(e.kids.length:Int)
 .have E:j<e.kids.length:=by omega
  have hy:e.kids[j]?=some e.kids[j]:=B8 E;have J:e.kids[j]∈e.kids:=Fa E;have tk:e.kids.take (j+1)=e.kids.take j++[e.kids[j]]:=Yk E;generalize e.kids[j]=y at*;refine Aq V Y4 ?_;refine sK λZ u2=>A0.tt rfl (A0.kk (u2 _ _ ?_));clear u2 Z;refine sK λZ u2=>A0.bb ?_
  (refine sQ Y4 λK I=>?_;refine ev ?_)
  refine⟨by omega,Bu y,Dn hy,rfl,?_⟩;refine As W ?_
  (apply I;clear I K)
  (refine lQ Y4 λK I=>?_;refine Gv M W ?_)
  refine⟨D0 (y.mapped g),.inl ⟨_,rfl,ih y J (L.kids.2 y J),rfl⟩,?_⟩;refine ev ?_;refine⟨by simp,by rw[Bn,Dx];unfold lim sm at*;omega,?_⟩
  (apply I;clear I K;try simp only[A4,Ab])
  refine u2 _ _ ?_;clear u2 Z
  (refine lQ Y4 λK I=>?_;refine ev ?_)
  refine⟨by unfold Az;unfold sm at*;omega,?_⟩
  (apply I;clear I K;try simp only[A4,])
  refine⟨j+1,by omega,by omega,by simp[sle,Ax,Ag],?_⟩;rw[tk];simp[ble,A7,S6,Bu]
 .refine Aq V Y4 ?_;refine sK λZ u2=>A0.ff rfl (A0.xx ?_);simp only[A4,Ab,Ae];rw[Z8 (by omega)];exact a0 _ _ sS (by simp[ble,A7,Bu,])
def Ex.subst(vars:List A3)(args:List Ty):Ex->Ex:=Ex.mapped (Ex.A4v vars args)
def D4m(vars:List A3)(args:List Ty)(E:∀u,u∈args->u.Sm)(e:Ex)(I:e.Sm):Ac prog 201 [D0 e,Cy vars,Cd args] (D0 (e.subst vars args)):=by
 have J:=F7p 240 [.Ah [.slice (C5 vars)] 0,.Ah [.slice (Au args)] 0] rfl rfl (Ex.A4v vars args)
  (λe ks h=>G6f vars args E (e.V0 ks) h.type h.targs.1 h.targs.2) e I
 refine cB func201 ?_;refine sR [0,1,2,3,4,5,6] ?_;refine A0.zz 4 rfl rfl<|A0.zz 5 rfl rfl<|A0.ww (sl':=[(3,.box 3 0),(4,.Ah [.slice (C5 vars)] 0),(5,.Ah [.slice (Au args)] 0),(6,.box 6 0)])
  (bx':=[(3,.cells ((Bu e).map .d)),(6,.cells [.d (.int .i64 0),.d (.str []),.d (.str []),.d .nil,.d (.int .i64 0),.d .nil,.d .nil,.d (.int .i64 0)])])
  (by simp[Mk,SV.sub,SV.La,sle,Ax,Ag]) (by simp[Lk,Ap.sub,SV.La,SV.sub,ble,A7,Ca,Bu]) ?_
 refine sC J [0,1,2,3,4,5,6] ?_;exact aR
def E7s:∀e:Ex,e.subst [] []=e:=by
 intro e
 induction e using Ex.induct with
 |h e I =>
 have J:e.kids.map (Ex.mapped (Ex.A4v [] []))=e.kids:=by have:=J7 (f:=Ex.mapped (Ex.A4v [] [])) (g:=id) I;rw[this];simp
 have E:∀l:List Ty,l.map (Ty.subst [] [])=l:=λl=>by rw[J7 (g:=id) λt _=>A7i t];simp
 show Ex.mapped (Ex.A4v [] []) e=e;rw[A5f,J];cases e;simp[Ex.A4v,Ex.V0,Ex.kind,Ex.name,Ex.type,Ex.targs,Ex.kids,Ex.pos,A7i,E]
def E6e(e:Ex)(h:e.Sm):Ac prog 138 [D0 e] (D0 e):=by
 refine cB func138 ?_;refine sR [0,1,2] ?_
 (refine sQ [0,1,2] λK E=>?_;simp -implicitDefEqProofs only[EV,Nat.reduceAdd,Nat.reduceEqDiff,reduceCtorEq,Iu])
 have hs:=D4m [] [] (by simp) e h;rw[E7s]at hs;refine⟨D0 e,.inl ⟨_,rfl,hs,rfl⟩,?_⟩;refine ev ?_
 (apply E;clear E K)
 exact aR
structure Am.Sm(f:Am):Prop where
 name:f.name.length<=sm
 bound:f.bound.Sm
structure Param.Sm(f:Param):Prop where
 name:f.name.length<=sm
 type:f.type.Sm
structure A5.Sm(s:A5):Prop where
 name:s.name.length<=sm
 A1:s.A1.length<=sm/\∀t,t∈s.A1->t.Sm
 params:s.params.length<=sm/\∀t,t∈s.params->t.Sm
 result:s.result.Sm
structure Decl.Sm(d:Decl):Prop where
 name:d.name.length<=sm
 A1:d.A1.length<=sm/\∀t,t∈d.A1->t.Sm
 fields:d.fields.length<=sm/\∀t,t∈d.fields->t.Sm
 sigs:d.sigs.length<=sm/\∀t,t∈d.sigs->t.Sm
 recv:d.recv.length<=sm
 vars:d.vars.length<=sm/\∀t,t∈d.vars->t.length<=sm
 sig:d.sig.Sm
 body:d.body.Sm
structure Prog.Sm(p:Prog):Prop where
 decls:p.decls.length<=sm/\∀t,t∈p.decls->t.Sm
 main:p.main.Sm
def D3j(x:Am)(h:x.Sm):Ac prog 195 [Se x] (Se x):=by refine cB func195 ?_;refine sR [0,1,2] ?_;refine sC (We x.bound h.bound) [0,1,2] ?_;refine sR [0,1,2] ?_;exact aR
def E1x(x:Param)(h:x.Sm):Ac prog 197 [Rk x] (Rk x):=by refine cB func197 ?_;refine sR [0,1,2] ?_;refine sC (We x.type h.type) [0,1,2] ?_;refine sR [0,1,2] ?_;exact aR
abbrev q8A:List Nat:=[0,1,4,5,7,8,9,10,11]
def E7q(f:FuncId)(l:List Am)(hl:l.length<=sm)(hs:∀t,t∈l->Ac prog f [Se t] (Se t)) :
  Ac prog 194 [.d (.slice (Ar l)),.B0 f []] (.d (.slice (Ar l))):=by
 refine cB func194 ?_;refine sR q8A ?_;refine sR q8A ?_;refine A0.pp 5 5 5 rfl<|sK λU u1=>?_;have O:∀sl bx,sle sl [(5,.acc 5)]->ble bx [(5,.rows 5 (Ar l))]->U sl bx:=by intro sl bx V Z;refine u1 _ _ (A0.ww V Z ?_);clear u1 U;refine sR q8A ?_;exact aR
 refine sR q8A ?_;refine A0.bb (A0.loop (X:=Nat) (λx=>[(10,A8 x),(9,A8 l.length),(8,.d (.slice (Ar l))),(1,.B0 f []),(5,.acc 5)]) (λx=>[(5,.rows 5 (Ar (l.take x)))])
  (λx=>x<=l.length) (λx=>l.length - x) 0 ?_ ?_ ?_ ?_)
 .simp
 .exact sS
 .simp[ble,A7,Ar]
 rintro j hj;by_cases L:(j:Int)<(l.length:Int)
 .have E:j<l.length:=by omega
  have W:l[j]?=some l[j]:=B8 E;have J:l[j]∈l:=Fa E;have tk:l.take (j+1)=l.take j++[l[j]]:=Yk E;generalize l[j]=y at*;refine Aq L q8A ?_;refine sK λM u2=>A0.tt rfl (A0.kk (u2 _ _ ?_));clear u2 M;refine sK λM u2=>A0.bb ?_
  (refine sQ q8A λK I=>?_;refine ev ?_)
  refine⟨by omega,Jy y,F5 W,rfl,?_⟩;refine ev ?_
  (apply I;clear I K)
  (refine lQ q8A λK I=>?_;refine ev ?_)
  refine⟨Se y,.inl ⟨_,rfl,hs y J,rfl⟩,?_⟩;refine ev ?_;refine⟨by simp,by rw[Dx];unfold lim sm at*;omega,?_⟩
  (apply I;clear I K;try simp only[A4,Ab])
  refine u2 _ _ ?_;clear u2 M
  (refine lQ q8A λK I=>?_;refine ev ?_)
  refine⟨by unfold Az;unfold sm at*;omega,?_⟩
  (apply I;clear I K;try simp only[A4,])
  refine⟨j+1,by omega,by omega,by simp[sle,Ax,Ag],?_⟩;rw[tk];simp[ble,A7,Ar,Jy]
 .refine Aq L q8A ?_;refine sK λM u2=>A0.ff rfl (A0.xx ?_);simp only[A4,Ab,Ae];rw[Z8 (by omega)];exact O _ _ sS sB
abbrev q9A:List Nat:=[0,1,4,5,7,8,9,10,11]
def D4o(f:FuncId)(l:List Param)(hl:l.length<=sm)(hs:∀t,t∈l->Ac prog f [Rk t] (Rk t)) :
  Ac prog 196 [.d (.slice (B9 l)),.B0 f []] (.d (.slice (B9 l))):=by
 refine cB func196 ?_;refine sR q9A ?_;refine sR q9A ?_;refine A0.pp 5 5 5 rfl<|sK λU u1=>?_;have O:∀sl bx,sle sl [(5,.acc 5)]->ble bx [(5,.rows 5 (B9 l))]->U sl bx:=by intro sl bx V Z;refine u1 _ _ (A0.ww V Z ?_);clear u1 U;refine sR q9A ?_;exact aR
 refine sR q9A ?_;refine A0.bb (A0.loop (X:=Nat) (λx=>[(10,A8 x),(9,A8 l.length),(8,.d (.slice (B9 l))),(1,.B0 f []),(5,.acc 5)]) (λx=>[(5,.rows 5 (B9 (l.take x)))])
  (λx=>x<=l.length) (λx=>l.length - x) 0 ?_ ?_ ?_ ?_)
 .simp
 .exact sS
 .simp[ble,A7,B9]
 rintro j hj;by_cases L:(j:Int)<(l.length:Int)
 .have E:j<l.length:=by omega
  have W:l[j]?=some l[j]:=B8 E;have J:l[j]∈l:=Fa E;have tk:l.take (j+1)=l.take j++[l[j]]:=Yk E;generalize l[j]=y at*;refine Aq L q9A ?_;refine sK λM u2=>A0.tt rfl (A0.kk (u2 _ _ ?_));clear u2 M;refine sK λM u2=>A0.bb ?_
  (refine sQ q9A λK I=>?_;refine ev ?_)
  refine⟨by omega,Ha y,E9 W,rfl,?_⟩;refine ev ?_
  (apply I;clear I K)
  (refine lQ q9A λK I=>?_;refine ev ?_)
  refine⟨Rk y,.inl ⟨_,rfl,hs y J,rfl⟩,?_⟩;refine ev ?_;refine⟨by simp,by rw[Dx];unfold lim sm at*;omega,?_⟩
  (apply I;clear I K;try simp only[A4,Ab])
  refine u2 _ _ ?_;clear u2 M
  (refine lQ q9A λK I=>?_;refine ev ?_)
  refine⟨by unfold Az;unfold sm at*;omega,?_⟩
  (apply I;clear I K;try simp only[A4,])
  refine⟨j+1,by omega,by omega,by simp[sle,Ax,Ag],?_⟩;rw[tk];simp[ble,A7,B9,Ha]
 .refine Aq L q9A ?_;refine sK λM u2=>A0.ff rfl (A0.xx ?_);simp only[A4,Ab,Ae];rw[Z8 (by omega)];exact O _ _ sS sB
abbrev A0b:List Nat:=[0,1,4,5,7,8,9,10,11]
def G0g(f:FuncId)(l:List A5)(hl:l.length<=sm)(hs:∀t,t∈l->Ac prog f [Ea t] (Ea t)) :
  Ac prog 198 [.d (.slice (C1 l)),.B0 f []] (.d (.slice (C1 l))):=by
 refine cB func198 ?_;refine sR A0b ?_;refine sR A0b ?_;refine A0.pp 5 7 5 rfl<|sK λU u1=>?_;have O:∀sl bx,sle sl [(5,.acc 5)]->ble bx [(5,.rows 7 (C1 l))]->U sl bx:=by intro sl bx V Z;refine u1 _ _ (A0.ww V Z ?_);clear u1 U;refine sR A0b ?_;exact aR
 refine sR A0b ?_;refine A0.bb (A0.loop (X:=Nat) (λx=>[(10,A8 x),(9,A8 l.length),(8,.d (.slice (C1 l))),(1,.B0 f []),(5,.acc 5)]) (λx=>[(5,.rows 7 (C1 (l.take x)))])
  (λx=>x<=l.length) (λx=>l.length - x) 0 ?_ ?_ ?_ ?_)
 .simp
 .exact sS
 .simp[ble,A7,C1]
 rintro j hj;by_cases L:(j:Int)<(l.length:Int)
 .have E:j<l.length:=by omega
  have W:l[j]?=some l[j]:=B8 E;have J:l[j]∈l:=Fa E;have tk:l.take (j+1)=l.take j++[l[j]]:=Yk E;generalize l[j]=y at*;refine Aq L A0b ?_;refine sK λM u2=>A0.tt rfl (A0.kk (u2 _ _ ?_));clear u2 M;refine sK λM u2=>A0.bb ?_
  (refine sQ A0b λK I=>?_;refine ev ?_)
  refine⟨by omega,Fw y,F6 W,rfl,?_⟩;refine ev ?_
  (apply I;clear I K)
  (refine lQ A0b λK I=>?_;refine ev ?_)
  refine⟨Ea y,.inl ⟨_,rfl,hs y J,rfl⟩,?_⟩;refine ev ?_;refine⟨by simp,by rw[Dx];unfold lim sm at*;omega,?_⟩
  (apply I;clear I K;try simp only[A4,Ab])
  refine u2 _ _ ?_;clear u2 M
  (refine lQ A0b λK I=>?_;refine ev ?_)
  refine⟨by unfold Az;unfold sm at*;omega,?_⟩
  (apply I;clear I K;try simp only[A4,])
  refine⟨j+1,by omega,by omega,by simp[sle,Ax,Ag],?_⟩;rw[tk];simp[ble,A7,C1,Fw]
 .refine Aq L A0b ?_;refine sK λM u2=>A0.ff rfl (A0.xx ?_);simp only[A4,Ab,Ae];rw[Z8 (by omega)];exact O _ _ sS sB
abbrev A0g:List Nat:=[0,1,4,5,7,8,9,10,11]
def G8f(f:FuncId)(l:List Decl)(hl:l.length<=sm)(hs:∀t,t∈l->Ac prog f [Ma t] (Ma t)) :
  Ac prog 136 [.d (.slice (Ix l)),.B0 f []] (.d (.slice (Ix l))):=by
 refine cB func136 ?_;refine sR A0g ?_;refine sR A0g ?_;refine A0.pp 5 23 5 rfl<|sK λU u1=>?_;have O:∀sl bx,sle sl [(5,.acc 5)]->ble bx [(5,.rows 23 (Ix l))]->U sl bx:=by intro sl bx V Z;refine u1 _ _ (A0.ww V Z ?_);clear u1 U;refine sR A0g ?_;exact aR
 refine sR A0g ?_;refine A0.bb (A0.loop (X:=Nat) (λx=>[(10,A8 x),(9,A8 l.length),(8,.d (.slice (Ix l))),(1,.B0 f []),(5,.acc 5)]) (λx=>[(5,.rows 23 (Ix (l.take x)))])
  (λx=>x<=l.length) (λx=>l.length - x) 0 ?_ ?_ ?_ ?_)
 .simp
 .exact sS
 .simp[ble,A7,Ix]
 rintro j hj;by_cases L:(j:Int)<(l.length:Int)
 .have E:j<l.length:=by omega
  have W:l[j]?=some l[j]:=B8 E;have J:l[j]∈l:=Fa E;have tk:l.take (j+1)=l.take j++[l[j]]:=Yk E;generalize l[j]=y at*;refine Aq L A0g ?_;refine sK λM u2=>A0.tt rfl (A0.kk (u2 _ _ ?_));clear u2 M;refine sK λM u2=>A0.bb ?_
  (refine sQ A0g λK I=>?_;refine ev ?_)
  refine⟨by omega,Bb y,Ev W,rfl,?_⟩;refine ev ?_
  (apply I;clear I K)
  (refine lQ A0g λK I=>?_;refine ev ?_)
  refine⟨Ma y,.inl ⟨_,rfl,hs y J,rfl⟩,?_⟩;refine ev ?_;refine⟨by simp,by rw[Dx];unfold lim sm at*;omega,?_⟩
  (apply I;clear I K;try simp only[A4,Ab])
  refine u2 _ _ ?_;clear u2 M
  (refine lQ A0g λK I=>?_;refine ev ?_)
  refine⟨by unfold Az;unfold sm at*;omega,?_⟩
  (apply I;clear I K;try simp only[A4,])
  refine⟨j+1,by omega,by omega,by simp[sle,Ax,Ag],?_⟩;rw[tk];simp[ble,A7,Ix,Bb]
 .refine Aq L A0g ?_;refine sK λM u2=>A0.ff rfl (A0.xx ?_);simp only[A4,Ab,Ae];rw[Z8 (by omega)];exact O _ _ sS sB
def A0.E8k{ro:Option Nat}{P:Program}{n:Nat}{c:Code}{Q:Exit->SL->Aa->Prop}{sl:SL}{bx:Aa}(t:Nat)(M:Ag sl t=.d (.slice []))(L:A0 ro P n c Q ((t,.d .nil)::sl) bx)(I:A0 ro P n c Q ((t,.d .emp)::sl) bx):A0 ro P n c Q sl bx:=by
 intro C S w β a hs;have hr:=hs.slot t;rw[M]at hr;have J:=hr.J0;generalize U:a.tmps.getD t undef=v at J;have go:∀x:SV,Ak S w β x v->St C n S w β a ((t,x)::sl) bx:=λx V=>⟨hs.inv,hs.size,hs.defers,λu=>by
  simp only[Ag];split
  .rename_i O;subst O;rw[U];exact V
  .exact hs.slot u⟩
 cases J with
 |Jz a cap E =>
  cases a with
  |none=>have:=E rfl;subst this;exact L C S w β _ (go _ (.d _ _ .nil))
  |some b=>exact I C S w β _ (go _ (.d _ _ (.emp b cap)))
 |slice _ b off cap sz=>exact I C S w β _ (go _ (.d _ _ (.emp _ cap)))
def G6p(l:List A3)(L:l.length<=sm):Ac prog 200 [Cy l] (Cy l):=by
 refine cB func200 ?_;refine sR [0,2,4] ?_;cases l with
 |nil =>
  refine A0.E8k 0 rfl ?_ ?_
  .refine kR [0,2,4] λI u1=>?_;refine A0.tt rfl<|sR [0,2,4] ?_;exact aR
  .refine kR [0,2,4] λI u1=>?_;refine A0.ff rfl (A0.kk (u1 _ _ ?_));clear u1 I
   (refine A0.Ef [0,2,4,5] [5] (by decide +kernel) λK z=>?_;refine ev ?_;apply z;clear z K)
   exact aR
 |cons x l =>
  have e:C5 (x::l)=[.str x]::C5 l:=rfl;refine sK λI u1=>?_
  (refine sQ [0,2,4] λK z=>?_;simp -implicitDefEqProofs only[EV,Nat.reduceEqDiff,reduceCtorEq,C7d,e,Qz];apply z;clear z K)
  refine A0.ff rfl (A0.kk (u1 _ _ ?_));clear u1 I;have E:=A5n (x::l);rw[e]at E;simp only[C6]at L
  (refine A0.Ef [0,2,4,5] [5] (by decide +kernel) λK J=>?_;refine ev ?_)
  refine⟨E,by unfold lim sm at*;omega,?_⟩
  (apply J;clear J K)
  rw[<-e];exact aR
def E4p(x:A5)(h:x.Sm):Ac prog 199 [Ea x] (Ea x):=by
 refine cB func199 ?_;refine sR [0,1,2] ?_
 (refine sG [0,1,2] [] 10 [] λK E=>?_;refine ev ?_)
 refine⟨.d (.slice (Ar x.A1)),.inl ⟨_,rfl,E7q _ _ h.A1.1 λt ht=>D3j t (h.A1.2 t ht),rfl⟩,?_⟩;refine ev ?_;refine⟨.d (.slice (B9 x.params)),.inl ⟨_,rfl,D4o _ _ h.params.1 λt ht=>E1x t (h.params.2 t ht),rfl⟩,?_⟩;refine ev ?_;refine⟨B6 x.result,.inl ⟨_,rfl,We x.result h.result,rfl⟩,?_⟩;refine ev ?_
 (apply E;clear E K)
 refine sR [0,1,2] ?_;exact aR
def F1b(x:Decl)(h:x.Sm):Ac prog 137 [Ma x] (Ma x):=by
 refine cB func137 ?_;refine sR [0,1,2] ?_
 (refine sG [0,1,2] [] 10 [] λK E=>?_;refine ev ?_)
 refine⟨.d (.slice (Ar x.A1)),.inl ⟨_,rfl,E7q _ _ h.A1.1 λt ht=>D3j t (h.A1.2 t ht),rfl⟩,?_⟩;refine ev ?_;refine⟨.d (.slice (B9 x.fields)),.inl ⟨_,rfl,D4o _ _ h.fields.1 λt ht=>E1x t (h.fields.2 t ht),rfl⟩,?_⟩;refine ev ?_;refine⟨.d (.slice (C1 x.sigs)),.inl ⟨_,rfl,G0g _ _ h.sigs.1 λt ht=>E4p t (h.sigs.2 t ht),rfl⟩,?_⟩;refine ev ?_
 (apply E;clear E K)
 (refine sG [0,1,2] [] 10 [] λK E=>?_;refine ev ?_)
 refine⟨Cy x.vars,.inl ⟨_,rfl,G6p _ h.vars.1,rfl⟩,?_⟩;refine ev ?_;refine⟨Ea x.sig,.inl ⟨_,rfl,E4p _ h.sig,rfl⟩,?_⟩;refine ev ?_;refine⟨D0 x.body,.inl ⟨_,rfl,E6e _ h.body,rfl⟩,?_⟩;refine ev ?_
 (apply E;clear E K)
 refine sR [0,1,2] ?_;exact aR
def E0t(p:Prog)(h:p.Sm):Ac prog 78 [D7 p] (D7 p):=by
 refine cB func78 ?_;refine sR [0,1,2] ?_
 (refine sG [0,1,2] [] 5 [] λK E=>?_;refine ev ?_)
 refine⟨.d (.slice (Ix p.decls)),.inl ⟨_,rfl,G8f _ _ h.decls.1 λt ht=>F1b t (h.decls.2 t ht),rfl⟩,?_⟩;refine ev ?_;refine⟨D0 p.main,.inl ⟨_,rfl,E6e _ h.main,rfl⟩,?_⟩;refine ev ?_
 (apply E;clear E K)
 exact aR
end Go.Abs
