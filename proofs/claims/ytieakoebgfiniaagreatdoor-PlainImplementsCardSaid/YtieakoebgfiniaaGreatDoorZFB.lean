/- several texts in one -/
import Derived.Test.YtieakoebgfiniaaGreatDoorZFA
set_option linter.all false
set_option maxHeartbeats 1000000
set_option maxRecDepth 100000
namespace Go.Abs
open Go Go.Proofs Tryz
mutual
def Ty.structs(p:Prog):Ty->List A2->List A2
 |.mk n a _,acc=>if kindOf p n=1 then Ty.Tu p a (Uy acc n)else acc
def Ty.Tu(p:Prog):List Ty->List A2->List A2
 |[],acc=>acc
 |t::E,acc=>Ty.Tu p E (t.structs p acc)
end
def Ty.F9m(p:Prog)(t:Ty)(acc:List A2):t.structs p acc=if kindOf p t.name=1 then Ty.Tu p t.args (Uy acc t.name)else acc:=by cases t;rfl
structure Cz(p:Prog)(l:List A2):Prop where
 nodup:l.Nodup
 isS:∀s,s∈l->kindOf p s=1
def D3b{p:Prog}{s:A2}(h:kindOf p s=1):s∈p.decls.map Decl.name:=by
 unfold kindOf at h;split at h
 .rename_i d hd;have I:=Am5 hd;have E:=At2 hd;simp only[Decl.Fv,Bb,Dp]at E;exact Au.2 ⟨d,I,E.2⟩
 .simp at h
def B9m{α:Type}[DecidableEq α]:∀{l m:List α},l.Nodup->(∀x,x∈l->x∈m)->l.length<=m.length
 |[],_,_,_=>by simp
 |x::l,m,h,hs=>by have E:=hs x (by simp);obtain⟨J,L⟩:=Ao3.1 h;have O:l.length<=(m.erase x).length:=B9m L λy I=>(List.mem_erase_of_ne (by rintro rfl;exact J I)).2 (hs y (by simp[I]));rw[List.length_erase_of_mem E]at O;have:=List.length_pos_of_mem E;simp only[Bg];omega
def Cz.len{p:Prog}{l:List A2}(h:Cz p l):l.length<=p.decls.length:=by have:=B9m h.nodup λs hs=>D3b (h.isS s hs);simpa using this
theorem Cz.nil(p:Prog):Cz p []:=⟨by simp,by simp⟩
def D6h{s x:A2}:∀{l:List A2},x∈ins s l↔x=s\/x∈l
 |[]=>by simp[ins]
 |y::ys=>by
  simp only[ins];split
  .simp
  .simp only[B1,D6h];constructor
   .rintro(h|h|h) <;> simp[h]
   .rintro(h|h|h) <;> simp[h]
def E3e{s x:A2}{l:List A2}:x∈Uy l s↔x=s\/x∈l:=by
 unfold Uy;split
 .constructor
  .exact .inr
  .rintro(rfl|h)
   .assumption
   .exact h
 .exact D6h
def D8i(s:A2):∀l:List A2,(ins s l).Perm (s::l)
 |[]=>.refl _
 |y::ys=>by
  simp only[ins];split
  .exact .refl _
  .exact((D8i s ys).cons y).trans (.swap s y ys)
def F6b{s:A2}{l:List A2}(h:l.Nodup):(Uy l s).Nodup:=by
 unfold Uy;split
 .exact h
 .rename_i hs;rw[(D8i s l).nodup_iff];exact Ao3.2 ⟨hs,h⟩
def Cz.put{p:Prog}{l:List A2}{s:A2}(h:Cz p l)(hs:kindOf p s=1):Cz p (Uy l s) :=
 ⟨F6b h.nodup,λx hx=>by
  rcases E3e.1 hx with rfl|hx
  .exact hs
  .exact h.isS x hx⟩
mutual
theorem Cz.structs{p:Prog}:∀(t:Ty) {l:List A2},Cz p l->Cz p (t.structs p l)
 |.mk n a q,l,h=>by
  simp only[Ty.structs];split
  .exact Cz.Tu a (h.put (by assumption))
  .exact h
theorem Cz.Tu{p:Prog}:∀(E:List Ty) {l:List A2},Cz p l->Cz p (Ty.Tu p E l)
 |[],_,h=>h
 |t::E,_,h=>Cz.Tu E (Cz.structs t h)
end
abbrev Xe:List Nat:=[0,1,2,3,4,6,7,12,22]
def F5e(p:Prog)(hp:p.decls.length<=100000):∀(t:Ty)(acc:List A2),Cz p acc->Aa prog 308 [Ct p,B7 t,Cc acc] (Cc (t.structs p acc)):=by
 intro t
 induction t using Ty.induct with
 |h t ih =>
 intro acc L;refine C8.bd (Enters.of func308 rfl (by decide)) λa1=>?_;have a0:=C2r a1.2.1;have hl:=a0.len;have I:=Ty.F9m p t acc;refine cB func308 ?_;refine sR Xe ?_;refine kC (B0d p t.name) Xe λK1 u1=>?_;by_cases U:kindOf p t.name=1;rotate_left
 .refine A0.tt (by simp[Ao,Ae,U])<|sR Xe ?_;rw[I,A6 U];exact aR
 refine A0.ff (by simp[Ao,Ae,U]) (A0.kk (u1 _ _ ?_));clear u1 K1;rw[A8 U]at I;have O:=L.put U;have a3:=L.len;refine sC (G8a acc t.name (by omega)) Xe ?_;generalize Uy acc t.name=acc2 at*;refine sK λK1 u1=>?_;have a2:∀sl bx,sle sl [(2,Cc (Ty.Tu p t.args acc2))]->K1 sl bx:=by intro sl bx h1;refine u1 _ _ (A0.ww (bx':=[]) h1 trivial ?_);clear u1 K1;refine sR Xe ?_;rw[I];exact aR
 refine sR Xe ?_;refine A0.bb (A0.loop (X:=Nat × List A2) (λx=>[(2,Cc x.2),(7,A5 x.1),(3,.box 3 0),(4,.box 4 0)]) (λ_=>[(3,.cells ((Aj p).map .d)),(4,.cells ((Bo t).map .d))])
  (λx=>x.1<=t.args.length/\Cz p x.2/\Ty.Tu p (t.args.drop x.1) x.2=Ty.Tu p t.args acc2) (λx=>t.args.length - x.1) (0,acc2) ?_ ?_ ?_ ?_)
 .exact⟨by simp,O,rfl⟩
 .exact sS
 .exact(by simp[ble,A7,Bo,Aj])
 rintro⟨j,r⟩ ⟨hj,hr,J⟩;simp only at hj hr J;by_cases V:(j:Int)<(t.args.length:Int)
 .have E:j<t.args.length:=by omega
  have hx:t.args[j]?=some t.args[j]:=Bi E;have W:t.args[j]∈t.args:=Fq E;have dp:t.args.drop j=t.args[j]::t.args.drop (j+1):=Gb E;generalize t.args[j]=x at*;rw[dp,Ty.Tu]at J;refine Ai V Xe λK2 u2=>?_;refine A0.tt rfl (A0.kk (u2 _ _ ?_));clear u2 K2;refine sK λK2 u2=>A0.bb ?_
  (refine lG Xe [] 7 [] λK Z=>?_;refine ev ?_)
  refine⟨by omega,Bo x,Et hx,rfl,?_⟩;refine ev ?_;refine⟨Cc (x.structs p r),.inl ⟨_,rfl,ih x W r hr,rfl⟩,?_⟩;refine ev ?_
  (apply Z;clear Z K;try simp only[A4,Ac])
  refine u2 _ _ ?_;clear u2 K2
  (refine lQ Xe λK Z=>?_;refine ev ?_)
  refine⟨by unfold B4;unfold lim at*;omega,?_⟩
  (apply Z;clear Z K;try simp only[A4,])
  exact⟨(j+1,x.structs p r),⟨by simp only;omega,Cz.structs x hr,J⟩,by simp only;omega,by simp[sle,Ay,Ae],(by simp[ble,A7,Bo,Aj])⟩
 .refine Ai V Xe λK2 u2=>?_;refine A0.ff rfl (A0.xx ?_);simp only[A4,Ac,Af];rw[Ib (by omega),Ty.Tu]at J;exact a2 _ _ (by simp[sle,Ay,Ae,J])
def Yg(p:Prog):List Param->List A2->List A2
 |[],acc=>acc
 |f::fs,acc=>Yg p fs (f.type.structs p acc)
def R5(p:Prog)(nm:A2)(acc:List A2):List A2:=match p.decls.find? (λd=>d.Fv nm)with
 |some d=>if d.kind=1 then Yg p d.fields acc else acc
 |none=>acc
def Cz.fields{p:Prog}:∀(fs:List Param) {l:List A2},Cz p l->Cz p (Yg p fs l)
 |[],_,h=>h
 |t::E,_,h=>Cz.fields E (Cz.structs t.type h)
def Cz.cont{p:Prog}{l:List A2}(nm:A2)(h:Cz p l):Cz p (R5 p nm l):=by
 unfold R5;split
 .split
  .exact h.fields _
  .exact h
 .exact h
abbrev Tk:List Nat:=[0,1,2,3,6,7,8,22,32]
def D5z(p:Prog)(hp:p.decls.length<=100000)(nm:A2)(acc:List A2)(U:Cz p acc):Aa prog 272 [Ct p,Bm nm,Cc acc] (Cc (R5 p nm acc)):=by
 refine C8.bd (Enters.of func272 rfl (by decide)) λa1=>?_;have a0:=B3y a1.1;refine cB func272 ?_;refine sR Tk ?_;refine sC (A9g p nm) Tk<|sK λK1 u1=>?_;rcases B0n nm p.decls 0 with⟨L,h2⟩|⟨k,d,L,h2,h3⟩
 .rw[L];have O:R5 p nm acc=acc:=by simp[R5,h2]
  refine sR Tk ?_;refine A0.tt rfl<|sR Tk ?_;rw[O];exact aR
 rw[h2];rw[Ky];have O:R5 p nm acc=if d.kind=1 then Yg p d.fields acc else acc:=by simp[R5,h3]
 have W:¬(k:Int)<0:=by omega
 rcases Decidable.em (d.kind=1)with hd|hd;rotate_left
 .rw[A6 hd]at O
  (refine sQ Tk λK E=>?_;refine Ap W ?_)
  refine⟨by omega,Ar d,Dx L,rfl,?_⟩;simp -implicitDefEqProofs only[EV,Nat.reduceEqDiff,reduceCtorEq,hd]
  (apply E;clear E K)
  refine A0.tt rfl<|sR Tk ?_;rw[O];exact aR
 rw[A8 hd]at O;have V:=a0.decls.2 d (Sy.2 ⟨k,L⟩);have a4:=V.fields.1
 (refine sQ Tk λK E=>?_;refine Ap W ?_)
 refine⟨by omega,Ar d,Dx L,rfl,?_⟩;simp -implicitDefEqProofs only[EV,Nat.reduceEqDiff,reduceCtorEq,hd]
 (apply E;clear E K)
 refine A0.ff rfl (A0.kk (u1 _ _ ?_));clear u1 K1;refine sK λK1 u1=>?_;have a2:∀sl bx,sle sl [(2,Cc (Yg p d.fields acc))]->K1 sl bx:=by intro sl bx L;refine u1 _ _ (A0.ww (bx':=[]) L trivial ?_);clear u1 K1;refine sR Tk ?_;rw[O];exact aR
 refine sR Tk ?_;refine A0.bb (A0.loop (X:=Nat × List A2) (λx=>[(2,Cc x.2),(8,A5 x.1),(7,A5 k),(3,.box 3 0)]) (λ_=>[(3,.cells ((Aj p).map .d))])
  (λx=>x.1<=d.fields.length/\Cz p x.2/\Yg p (d.fields.drop x.1) x.2=Yg p d.fields acc) (λx=>d.fields.length - x.1) (0,acc) ?_ ?_ ?_ ?_)
 .exact⟨by simp,U,rfl⟩
 .exact sS
 .exact(by simp[ble,A7,Aj])
 rintro⟨j,r⟩ ⟨hj,hr,J⟩;simp only at hj hr J;by_cases Z:(j:Int)<(d.fields.length:Int)
 .have I:j<d.fields.length:=by omega
  have hx:d.fields[j]?=some d.fields[j]:=Bi I;have a3:d.fields[j]∈d.fields:=Fq I;have dp:d.fields.drop j=d.fields[j]::d.fields.drop (j+1):=Gb I;generalize d.fields[j]=x at*;rw[dp,Yg]at J;refine sK λK2 u2=>?_
  (refine sQ Tk λK E=>?_;refine ev ?_)
  refine⟨by omega,Ar d,Dx L,rfl,?_⟩;refine Ap Z ?_
  (apply E;clear E K)
  refine A0.tt rfl (A0.kk (u2 _ _ ?_));clear u2 K2;refine sK λK2 u2=>A0.bb ?_
  (refine lG Tk [] 12 [] λK E=>?_;refine ev ?_)
  refine⟨by omega,Ar d,Dx L,rfl,?_⟩;refine ev ?_;refine⟨by omega,G9 x,Du hx,rfl,?_⟩;refine ev ?_;refine⟨Cc (x.type.structs p r),.inl ⟨_,rfl,F5e p hp x.type r hr,rfl⟩,?_⟩;refine ev ?_
  (apply E;clear E K;try simp only[A4,Ac])
  refine u2 _ _ ?_;clear u2 K2
  (refine lQ Tk λK E=>?_;refine ev ?_)
  refine⟨by unfold B4;unfold lim at*;omega,?_⟩
  (apply E;clear E K;try simp only[A4,])
  exact⟨(j+1,x.type.structs p r),⟨by simp only;omega,Cz.structs x.type hr,J⟩,by simp only;omega,by simp[sle,Ay,Ae],(by simp[ble,A7,Aj])⟩
 .refine sK λK2 u2=>?_
  (refine sQ Tk λK E=>?_;refine ev ?_)
  refine⟨by omega,Ar d,Dx L,rfl,?_⟩;refine Ap Z ?_
  (apply E;clear E K)
  refine A0.ff rfl (A0.xx ?_);simp only[A4,Ac,Af];rw[Ib (by omega),Yg]at J;exact a2 _ _ (by simp[sle,Ay,Ae,J])
mutual
theorem C9m{p:Prog}{x:A2}:∀(t:Ty) {l:List A2},x∈l->x∈t.structs p l
 |.mk n a q,l,h=>by
  simp only[Ty.structs];split
  .exact D6v a (E3e.2 (.inr h))
  .exact h
theorem D6v{p:Prog}{x:A2}:∀(E:List Ty) {l:List A2},x∈l->x∈Ty.Tu p E l
 |[],_,h=>h
 |t::E,_,h=>D6v E (C9m t h)
end
def E1c{p:Prog}{x:A2}:∀(fs:List Param) {l:List A2},x∈l->x∈Yg p fs l
 |[],_,h=>h
 |t::E,_,h=>E1c E (C9m t.type h)
def E3j{p:Prog}{x nm:A2}{l:List A2}(h:x∈l):x∈R5 p nm l:=by
 unfold R5;split
 .split
  .exact E1c _ h
  .exact h
 .exact h
def F7f{p:Prog}{l:List A2}(nm:A2)(h:Cz p l):l.length<=(R5 p nm l).length:=B9m h.nodup λ_=>E3j
def Yc(p:Prog):List Nat->List A2->List A2
 |[],r=>r
 |i::is,r=>Yc p is (R5 p (r[i]?.getD []) r)
def B6a(p:Prog):Nat->Int->List A2->List A2
 |0,_,r=>r
 |k+1,n,r=>if n=r.length then r else B6a p k r.length (Yc p (List.range' 0 r.length) r)
def A8k(p:Prog)(nm:A2):List A2:=B6a p 100003 (-1) (R5 p nm [])
def Cz.round{p:Prog}:∀(is:List Nat) {l:List A2},Cz p l->Cz p (Yc p is l)
 |[],_,h=>h
 |_::is,_,h=>Cz.round is (h.cont _)
def D6s{p:Prog}{x:A2}:∀(is:List Nat) {l:List A2},x∈l->x∈Yc p is l
 |[],_,h=>h
 |_::is,_,h=>D6s is (E3j h)
def F0b{p:Prog}{l:List A2}(is:List Nat)(h:Cz p l):l.length<=(Yc p is l).length:=B9m h.nodup λ_=>D6s is
abbrev Ui:List Nat:=[0,1,2,4,5,6,7,14,19]
def F4y(p:Prog)(hp:p.decls.length<=100000)(nm:A2):Aa prog 193 [Ct p,Bm nm] (Cc (A8k p nm)):=by
 refine C8.bd (Enters.of func193 rfl (by decide)) λa6=>?_;refine cB func193 ?_;refine sR Ui ?_;refine sC (D5z p hp nm [] (Cz.nil p)) Ui<|sK λK1 u1=>?_;have a3:∀sl bx,sle sl [(5,Cc (A8k p nm))]->K1 sl bx:=by intro sl bx h1;refine u1 _ _ (A0.ww (bx':=[]) h1 trivial ?_);clear u1 K1;refine sR Ui ?_;exact aR
 clear u1;refine sR Ui ?_;refine A0.bb (A0.loop (X:=Nat × Int × List A2) (λx=>[(5,Cc x.2.2),(6,A5 x.2.1),(2,.box 2 0)]) (λ_=>[(2,.cells ((Aj p).map .d))])
  (λx=>-1<=x.2.1/\x.2.1<=x.2.2.length/\Cz p x.2.2/\100001 - x.2.1<=x.1/\B6a p x.1 x.2.1 x.2.2=A8k p nm) (λx=>(100001 - x.2.1).toNat) (100003,-1,R5 p nm []) ?_ ?_ ?_ ?_)
 .exact⟨by simp,by simp only;omega,(Cz.nil p).cont nm,by simp,rfl⟩
 .exact sS
 .exact(by simp[ble,A7,Aj])
 rintro⟨k,n,r⟩ ⟨a0,a1,hr,hk,I⟩;simp only at a0 a1 hr hk I;have a5:=hr.len;obtain⟨k,rfl⟩:∃k',k=k'+1:=⟨k - 1,by omega⟩;rw[B6a]at I;by_cases L:n=(r.length:Int)
 .rw[A8 L]at I;refine Ai L Ui λV u2=>?_;refine A0.ff (by simp[Ao,Ae]) (A0.xx ?_);simp only[A4,Ac,Af];exact a3 _ _ (by simp[sle,Ay,Ae,I])
 .rw[A6 L]at I;refine Ai L Ui λV u2=>?_;refine A0.tt (by simp[Ao,Ae]) (A0.kk (u2 _ _ ?_));clear u2 V;refine A0.bb<|sR Ui ?_;refine sR Ui ?_;have a4:=hr.round (List.range' 0 r.length);have a7:=F0b (List.range' 0 r.length) hr;refine A0.bb (A0.loop (X:=Nat × List A2) (λx=>[(5,Cc x.2),(6,A5 r.length),(7,A5 x.1),(2,.box 2 0)]) (λ_=>[(2,.cells ((Aj p).map .d))])
   (λx=>x.1<=r.length/\r.length<=x.2.length/\Cz p x.2/\Yc p (List.range' x.1 (r.length - x.1)) x.2=Yc p (List.range' 0 r.length) r) (λx=>r.length - x.1) (0,r) ?_ ?_ ?_ ?_)
  .exact⟨by simp,by simp,hr,rfl⟩
  .exact sS
  .exact(by simp[ble,A7,Aj])
  rintro⟨j,U⟩ ⟨hj,a2,J,E⟩;simp only at hj a2 J E;by_cases O:(j:Int)<(r.length:Int)
  .have W:j<U.length:=by omega
   have hx:U[j]?=some U[j]:=Bi W;obtain⟨m,hm⟩:∃m,r.length - j=m+1:=⟨r.length - j - 1,by omega⟩;rw[hm,Au4,Yc,hx,Dz]at E;generalize U[j]=x at*;refine Ai O Ui λV u2=>?_;refine A0.tt rfl (A0.kk (u2 _ _ ?_));clear u2 V;refine sK λV u2=>A0.bb ?_
   (refine lG Ui [] 6 [] λK Z=>?_;refine ev ?_)
   refine⟨by omega,_,Ko hx,rfl,?_⟩;refine ev ?_;refine⟨Cc (R5 p x U),.inl ⟨_,rfl,D5z p hp x U J,rfl⟩,?_⟩;refine ev ?_
   (apply Z;clear Z K;try simp only[A4,Ac])
   refine u2 _ _ ?_;clear u2 V
   (refine lQ Ui λK Z=>?_;refine ev ?_)
   refine⟨by unfold B4;omega,?_⟩
   (apply Z;clear Z K;try simp only[A4,])
   have hc:=F7f x J;exact⟨(j+1,R5 p x U),⟨by simp only;omega,by simp only;omega,J.cont x,by simp only;rw[show r.length - (j+1)=m by omega];exact E⟩,by simp only;omega,by simp[sle,Ay,Ae],(by simp[ble,A7,Aj])⟩
  .refine Ai O Ui λV u2=>?_;refine A0.ff rfl (A0.xx ?_);simp only[A4,Ac,Af];rw[show r.length - j=0 by omega]at E;simp only[List.range'_zero,Yc]at E;subst E;exact⟨(k,r.length,Yc p (List.range' 0 r.length) r),⟨by simp only;omega,by simp only;omega,a4,by simp only;omega,I⟩,by simp only;omega,by simp[sle,Ay,Ae],(by simp[ble,A7,Aj])⟩
def D5(s:A2):List A2->Nat->Int
 |[],_=>-1
 |x::xs,i=>if s=x then i else D5 s xs (i+1)
theorem A3o(s:A2):∀(l:List A2)(i:Nat),(D5 s l i = -1/\s∉l)\/∃k,l[k]?=some s/\D5 s l i=((i+k:Nat):Int)
 |[],i=>by simp[D5]
 |d::ds,i=>by
  simp only[D5];split
  .rename_i h;subst h;exact .inr ⟨0,rfl,rfl⟩
  .rename_i h;rcases A3o s ds (i+1)with⟨I,E⟩|⟨k,I,E⟩
   .exact .inl ⟨I,by simp[h,E]⟩
   .exact .inr ⟨k+1,by simpa using I,by rw[E];congr 1;omega⟩
abbrev Xw:List Nat:=[0,1,4,5,7,8,9,16]
def F9p(l:List A2)(s:A2):Aa prog 268 [Cc l,Bm s] (A5 (D5 s l 0)):=by
 refine C8.bd (Enters.of func268 rfl (by decide)) λW=>?_;have hl:=(A5c W.1).1;refine cB func268 ?_;refine sR Xw<|sK λK1 u1=>?_;have V:∀sl bx,D5 s l 0 = -1->K1 sl bx:=by intro sl bx h1;refine u1 _ _ (A0.ww (sl':=[]) (bx':=[]) trivial trivial ?_);clear u1 K1;refine sR Xw ?_;rw[h1];exact aR
 refine sR Xw ?_;refine A0.bb (A0.loop (X:=Nat) (λx=>[(8,A5 x),(7,A5 l.length),(0,Cc l),(1,Bm s)]) (λ_=>[])
  (λx=>x<=l.length/\D5 s (l.drop x) x=D5 s l 0) (λx=>l.length - x) 0 ?_ ?_ ?_ ?_)
 .exact⟨by simp,by simp⟩
 .exact sS
 .exact sB
 rintro j ⟨hj,E⟩;by_cases L:(j:Int)<(l.length:Int)
 .have I:j<l.length:=by omega
  have Z:l[j]?=some l[j]:=Bi I;have dp:l.drop j=l[j]::l.drop (j+1):=Gb I;generalize l[j]=y at*;rw[dp,D5]at E;refine Ak L Xw ?_;refine sK λO u2=>A0.tt rfl (A0.kk (u2 _ _ ?_));clear u2 O;refine sK λO u2=>A0.bb<|sR Xw ?_;by_cases U:s=y
  .rw[A8 U]at E
   (refine sQ Xw λK J=>?_;refine Ap U ?_)
   refine⟨by omega,_,Ko Z,rfl,?_⟩;refine ev ?_
   (apply J;clear J K)
   refine A0.tt rfl<|sR Xw ?_;rw[<-E];exact aR
  .rw[A6 U]at E
   (refine sQ Xw λK J=>?_;refine ev ?_)
   refine⟨by omega,_,Ko Z,rfl,?_⟩;refine Ap U ?_
   (apply J;clear J K)
   refine A0.ff rfl (A0.kk ?_);simp only[A4,Ac];refine u2 _ _ ?_;clear u2 O
   (refine lQ Xw λK J=>?_;refine ev ?_)
   refine⟨by unfold B4;unfold lim at*;omega,?_⟩
   (apply J;clear J K;try simp only[A4,])
   exact⟨j+1,⟨by omega,E⟩,by omega,by simp[sle,Ay,Ae],sB⟩
 .refine Ak L Xw ?_;refine sK λO u2=>A0.ff rfl (A0.xx ?_);simp only[A4,Ac,Af];rw[Ib (by omega)]at E;exact V _ _ E.symm
def sm:Nat:=1000000
inductive Ty.Sm:Ty->Prop where
 |mk (n:A2) (a:List Ty) (p:Int):n.length<=60000000*sm->a.length<=sm->(∀t,t∈a->Ty.Sm t)->Ty.Sm (.mk n a p)
theorem Ty.Sm.name{t:Ty}(h:t.Sm):t.name.length<=60000000*sm:=by cases h;assumption
def Ty.Sm.len{t:Ty}(h:t.Sm):t.args.length<=sm:=by cases h;assumption
def Ty.Sm.arg{t:Ty}(h:t.Sm):∀u,u∈t.args->u.Sm:=by cases h;assumption
abbrev Yx:List Nat:=[0,1,2,6,7,9,10,11,12,13]
def E4u(g:Ty->Ty)(vars:List A2)(args:List Ty)(l:List Ty)(hl:l.length<=sm)(hs:∀t,t∈l->Aa prog 181 [B7 t,Cc vars,Cm args] (B7 (g t))) :
  Aa prog 269 [Cm l,Cc vars,Cm args] (Cm (l.map g)):=by
 refine cB func269 ?_;refine sR Yx ?_;refine sR Yx ?_;refine A0.pp 7 3 7 rfl<|sK λV u1=>?_;have U:∀sl bx,sle sl [(7,.acc 7)]->ble bx [(7,.rows 3 (Ax (l.map g)))]->V sl bx:=by intro sl bx W Z;refine u1 _ _ (A0.ww W Z ?_);clear u1 V;refine sR Yx ?_;exact aR
 refine sR Yx ?_;refine A0.bb (A0.loop (X:=Nat) (λx=>[(12,A5 x),(11,A5 l.length),(10,Cm l),(1,Cc vars),(2,Cm args),(7,.acc 7)]) (λx=>[(7,.rows 3 (Ax ((l.take x).map g)))])
  (λx=>x<=l.length) (λx=>l.length - x) 0 ?_ ?_ ?_ ?_)
 .simp
 .exact sS
 .simp[ble,A7,F1s]
 rintro j hj;by_cases J:(j:Int)<(l.length:Int)
 .have E:j<l.length:=by omega
  have hy:l[j]?=some l[j]:=Bi E;have L:l[j]∈l:=Fq E;have tk:l.take (j+1)=l.take j++[l[j]]:=J0 E;generalize l[j]=y at*;refine Ak J Yx ?_;refine sK λO u2=>A0.tt rfl (A0.kk (u2 _ _ ?_));clear u2 O;refine sK λO u2=>A0.bb ?_
  (refine sQ Yx λK I=>?_;refine ev ?_)
  refine⟨by omega,Bo y,Et hy,rfl,?_⟩;refine ev ?_
  (apply I;clear I K)
  (refine lQ Yx λK I=>?_;refine ev ?_)
  refine⟨B7 (g y),.inl ⟨_,rfl,hs y L,rfl⟩,?_⟩;refine ev ?_;refine⟨by simp,by rw[Bc,D4];unfold lim sm at*;omega,?_⟩
  (apply I;clear I K;try simp only[A4,Ac])
  refine u2 _ _ ?_;clear u2 O
  (refine lQ Yx λK I=>?_;refine ev ?_)
  refine⟨by unfold B4;unfold sm at*;omega,?_⟩
  (apply I;clear I K;try simp only[A4,])
  refine⟨j+1,by omega,by omega,by simp[sle,Ay,Ae],?_⟩;rw[tk];simp[ble,A7,Dj,Bo]
 .refine Ak J Yx ?_;refine sK λO u2=>A0.ff rfl (A0.xx ?_);simp only[A4,Ac,Af];rw[Aj1 (by omega)];exact U _ _ sS sB
mutual
def Ty.subst(vars:List A2)(args:List Ty):Ty->Ty
 |.mk n a p=>if a.length=0/\0<=D5 n vars 0/\D5 n vars 0<args.length then .mk (args[(D5 n vars 0).toNat]?.getD default).name (args[(D5 n vars 0).toNat]?.getD default).args p else .mk n (Ty.B3f vars args a) p
def Ty.B3f(vars:List A2)(args:List Ty):List Ty->List Ty
 |[]=>[]
 |t::E=>t.subst vars args::Ty.B3f vars args E
end
def E6y(vars:List A2)(args:List Ty):∀l,Ty.B3f vars args l=l.map (Ty.subst vars args)
 |[]=>by rw[Ty.B3f];rfl
 |t::E=>by rw[Ty.B3f,E6y vars args E];rfl
def Wo(vars:List A2)(args:List Ty)(t:Ty):t.subst vars args=if t.args.length=0/\0<=D5 t.name vars 0/\D5 t.name vars 0<args.length then .mk (args[(D5 t.name vars 0).toNat]?.getD default).name (args[(D5 t.name vars 0).toNat]?.getD default).args t.pos else .mk t.name (t.args.map (Ty.subst vars args)) t.pos:=by
 cases t with
 |mk n a p=>rw[Ty.subst,E6y];rfl
def A2w:∀t:Ty,t.subst [] []=t:=by
 intro t
 induction t using Ty.induct with
 |h t E =>
 rw[Wo,A6 (by simp[D5]),Ie E];cases t;simp[Ty.name,Ty.args,Ty.pos]
abbrev Vx:List Nat:=[0,1,2,3,6,7,8,26]
def E7v(vars:List A2)(args:List Ty)(hC:∀(i:Nat)(u:Ty),args[i]?=some u->Aa prog 110 [B7 u] (B7 u)):∀t:Ty,t.Sm->Aa prog 181 [B7 t,Cc vars,Cm args] (B7 (t.subst vars args)):=by
 intro t
 induction t using Ty.induct with
 |h t ih =>
 intro U;refine C8.bd (Enters.of func181 rfl (by decide)) λV=>?_;have hv:=(A5c V.2.1).1;have ha:=(A4r V.2.2.1).1;have E:=Wo vars args t;have O:=E4u (Ty.subst vars args) vars args t.args U.len (λu hu=>ih u hu (U.arg u hu));refine cB func181 ?_;refine sR Vx ?_;refine kC (F9p vars t.name) Vx λK1 u1=>?_;generalize D5 t.name vars 0=i at*;have J:(t.args.length=0/\0<=i/\i<args.length)=False->∀sl bx,sle sl [(1,Cc vars),(2,Cm args),(3,.box 3 0),(6,.box 6 0)]->ble bx [(3,.cells ((Bo t).map .d)),(6,.cells [.d (.str []),.d .nil,.d (.int .i64 0)])]->K1 sl bx:=by intro hc sl bx L I;refine u1 _ _ (A0.ww L I ?_);clear u1 K1;rw[A6 (by rw[hc];exact id)]at E;refine sC O Vx ?_;refine sR Vx ?_;rw[E];exact aR
 by_cases L:(t.args.length:Int)=0
 .by_cases I:0<=i
  .by_cases W:i<(args.length:Int)
   .rw[A8 ⟨by omega,I,W⟩]at E;have Z:args[i.toNat]?=some args[i.toNat]:=Bi (by omega);rw[Z,Dz]at E;generalize args[i.toNat]=u at*;refine sR3 L I W Vx ?_;refine A0.tt rfl ?_
    (refine sQ Vx λK hK=>?_;refine ev ?_)
    refine⟨I,Bo u,Et Z,rfl,?_⟩;refine ev ?_;refine⟨B7 u,.inl ⟨_,rfl,hC _ u Z,rfl⟩,?_⟩;refine ev ?_
    (apply hK;clear hK K)
    refine sR Vx ?_;refine sR Vx ?_;rw[E];exact aR
   .refine sR3 L I W Vx ?_;refine A0.ff rfl (A0.kk ?_);exact J (by simp[W]) _ _ sS (by simp[ble,A7,Bo,])
  .refine Ei L I Vx ?_;refine A0.ff rfl (A0.kk ?_);exact J (by simp[I]) _ _ sS (by simp[ble,A7,Bo,])
 .refine Ak L Vx ?_;refine A0.ff rfl (A0.kk ?_);exact J (by simp only[eq_iff_iff,iff_false];omega) _ _ sS (by simp[ble,A7,Bo,])
def A3r(t:Ty)(h:t.Sm):Aa prog 110 [B7 t] (B7 t):=by
 refine cB func110 ?_;refine sR [0,1,2] ?_
 (refine sQ [0,1,2] λK E=>?_;simp -implicitDefEqProofs only[EV,Nat.reduceAdd,Nat.reduceEqDiff,reduceCtorEq,Iw])
 have hs:=E7v [] [] (by simp) t h;rw[A2w]at hs;refine⟨B7 t,.inl ⟨_,rfl,hs,rfl⟩,?_⟩;refine ev ?_
 (apply E;clear E K)
 exact aR
def B7h(vars:List A2)(args:List Ty)(I:∀u,u∈args->u.Sm)(t:Ty)(h:t.Sm):Aa prog 181 [B7 t,Cc vars,Cm args] (B7 (t.subst vars args)) :=
 E7v vars args (λi u E=>A3r u (I u (Sy.2 ⟨i,E⟩))) t h
inductive Ex.Sm:Ex->Prop where
 |mk (k:Int) (n:A2) (t:Ty) (a:List Ty) (ks:List Ex) (p:Int):n.length<=60000000*sm->t.Sm->a.length<=sm->(∀t,t∈a->t.Sm)->ks.length<=sm->(∀e,e∈ks->Ex.Sm e)->Ex.Sm (.mk k n t a ks p)
theorem Ex.Sm.name{e:Ex}(h:e.Sm):e.name.length<=60000000*sm:=by cases h;assumption
def Ex.Sm.type{e:Ex}(h:e.Sm):e.type.Sm:=by cases h;assumption
def Ex.Sm.targs{e:Ex}(h:e.Sm):e.targs.length<=sm/\∀t,t∈e.targs->t.Sm:=by cases h;exact⟨by assumption,by assumption⟩
def Ex.Sm.kids{e:Ex}(h:e.Sm):e.kids.length<=sm/\∀t,t∈e.kids->t.Sm:=by cases h;exact⟨by assumption,by assumption⟩
def Ex.A1v(vars:List A2)(args:List Ty)(e:Ex):Ex:=.mk e.kind e.name (e.type.subst vars args) (e.targs.map (Ty.subst vars args)) e.kids e.pos
def F7a(vars:List A2)(args:List Ty)(J:∀u,u∈args->u.Sm)(e:Ex)(ht:e.type.Sm)(L:e.targs.length<=sm)(E:∀t,t∈e.targs->t.Sm) :
  Aa prog 301 [D3 e,.A9 [.slice (Bq vars)] 0,.A9 [.slice (Ax args)] 0] (D3 (e.A1v vars args)):=by
 refine cB func301 ?_;refine sR [0,1,2,3,4] ?_
 (refine sG [0,1,2,3,4] [] 11 [] λK I=>?_;refine ev ?_)
 refine⟨B7 (e.type.subst vars args),.inl ⟨_,rfl,B7h vars args J e.type ht,rfl⟩,?_⟩;refine ev ?_;refine⟨Cm (e.targs.map (Ty.subst vars args)),.inl ⟨_,rfl,E4u (Ty.subst vars args) vars args e.targs L (λt h=>B7h vars args J t (E t h)),rfl⟩,?_⟩;refine ev ?_
 (apply I;clear I K)
 refine sR [0,1,2,3,4] ?_;exact aR
mutual
theorem SV.H4a(k:Nat)(f:Py):∀{x:SV},x.closed=true->x.sub k f=x
 |.undef,_=>rfl
 |.d _,_=>rfl
 |.A9 _ _,_=>rfl
 |.agg cs,h=>by simp only[SV.closed]at h;simp only[SV.sub,SV.B0m k f h]
 |.tuple cs,h=>by simp only[SV.closed]at h;simp only[SV.sub,SV.B0m k f h]
 |.Bf _ cs,h=>by simp only[SV.closed]at h;simp only[SV.sub,SV.B0m k f h]
 |.F5 cs _,h=>by simp only[SV.closed]at h;simp only[SV.sub,SV.B0m k f h]
 |.box _ _,h=>by simp[SV.closed]at h
 |.acc _,h=>by simp[SV.closed]at h
 |.Eg _ _ _,h=>by simp[SV.closed]at h
 |.mp _,h=>by simp[SV.closed]at h
 |.Eo _,h=>rfl
theorem SV.B0m(k:Nat)(f:Py):∀{xs:List SV},SV.M8 xs=true->SV.L8 k f xs=xs
 |[],_=>rfl
 |c::cs,h=>by simp only[SV.M8,Bb]at h;simp only[SV.L8,SV.H4a k f h.1,SV.B0m k f h.2]
end
def Ex.Vr(e:Ex)(ks:List Ex):Ex:=.mk e.kind e.name e.type e.targs ks e.pos
mutual
def Ex.mapped(g:Ex->Ex):Ex->Ex
 |.mk k n t a ks p=>g (.mk k n t a (Ex.B3o g ks) p)
def Ex.B3o(g:Ex->Ex):List Ex->List Ex
 |[]=>[]
 |e::es=>e.mapped g::Ex.B3o g es
end
def D5y(g:Ex->Ex):∀l,Ex.B3o g l=l.map (Ex.mapped g)
 |[]=>by rw[Ex.B3o];rfl
 |t::E=>by rw[Ex.B3o,D5y g E];rfl
def A1e(g:Ex->Ex)(e:Ex):e.mapped g=g (e.Vr (e.kids.map (Ex.mapped g))):=by
 cases e with
 |mk k n t a ks p=>rw[Ex.mapped,D5y];rfl
abbrev X6:List Nat:=[0,1,2,4,5,7,9,10,11,12]
def F9i(f:FuncId)(caps:List SV)(O:G7 [] caps=some caps)(U:SV.M8 caps=true)(g:Ex->Ex)
  (hg:∀(e:Ex) (ks:List Ex),e.Sm->Aa prog f (D3 (e.Vr ks)::caps) (D3 (g (e.Vr ks)))) :
  ∀e:Ex,e.Sm->Aa prog 300 [D3 e,.Bf f caps] (D3 (e.mapped g)):=by
 intro e
 induction e using Ex.induct with
 |h e ih =>
 intro L;have V:=A1e g e;have hl:=L.kids.1;have hh:∀k,SV.Kw k caps=false:=λk=>SV.B0x k U;have a1:(false=true)=False:=by simp
 rw[V];refine cB func300 ?_;refine Ak hh X6 ?_;refine sR X6 ?_;refine A0.pp 5 8 5 rfl ?_;simp only[W9,Ly,SV.has,hh,I0,Fx];refine sK λK1 u1=>?_;have a0:∀sl bx,sle sl [(1,.Bf f caps),(2,.box 2 0),(4,.box 4 0),(5,.acc 5)] ->
   ble bx [(5,.rows 8 (Eb (e.kids.map (Ex.mapped g)))),(2,.cells ((Cg e).map .d)),(4,.cells [.d (.int .i64 0),.d (.str []),.d (.str []),.d .nil,.d (.int .i64 0),.d .nil,.d .nil,.d (.int .i64 0)])]->K1 sl bx:=by
  intro sl bx h1 h2;refine u1 _ _ (A0.ww h1 h2 ?_);clear u1 K1 h1 h2;refine A0.Lw 5 rfl<|A0.ww (sl':=[(1,.Bf f caps),(2,.box 2 0),(4,.box 4 0),(5,.d (.slice (Eb (e.kids.map (Ex.mapped g)))))])
   (bx':=[(2,.cells ((Cg e).map .d)),(4,.cells [.d (.int .i64 0),.d (.str []),.d (.str []),.d .nil,.d (.int .i64 0),.d .nil,.d .nil,.d (.int .i64 0)])])
   (by simp[L7,SV.sub,sle,Ay,Ae,SV.B0m _ _ U]) (by simp[Jo,Aq.sub,SV.L8,SV.sub,ble,A7,Cd,Cg]) ?_
  refine sR X6 ?_
  (refine sQ X6 λK I=>?_;refine Ap O ?_)
  refine⟨D3 (g (e.Vr (e.kids.map (Ex.mapped g)))),.inl ⟨_,rfl,hg e _ L,rfl⟩,?_⟩;refine ev ?_
  (apply I;clear I K)
  exact aR
 refine sR X6 ?_;refine A0.bb (A0.loop (X:=Nat) (λx=>[(11,A5 x),(10,A5 e.kids.length),(9,.d (.slice (Eb e.kids))),(1,.Bf f caps),(2,.box 2 0),(4,.box 4 0),(5,.acc 5)])
  (λx=>[(5,.rows 8 (Eb ((e.kids.take x).map (Ex.mapped g)))),(2,.cells ((Cg e).map .d)),(4,.cells [.d (.int .i64 0),.d (.str []),.d (.str []),.d .nil,.d (.int .i64 0),.d .nil,.d .nil,.d (.int .i64 0)])])
  (λx=>x<=e.kids.length) (λx=>e.kids.length - x) 0 ?_ ?_ ?_ ?_)
 .simp
 .exact sS
 .simp[ble,A7,G6r,Cg]
 rintro j hj;by_cases W:(j:Int)<(e.kids.length:Int)
 .have E:j<e.kids.length:=by omega
  have hy:e.kids[j]?=some e.kids[j]:=Bi E;have J:e.kids[j]∈e.kids:=Fq E;have tk:e.kids.take (j+1)=e.kids.take j++[e.kids[j]]:=J0 E;generalize e.kids[j]=y at*;refine Ak W X6 ?_;refine sK λZ u2=>A0.tt rfl (A0.kk (u2 _ _ ?_));clear u2 Z;refine sK λZ u2=>A0.bb ?_
  (refine sQ X6 λK I=>?_;refine ev ?_)
  refine⟨by omega,Cg y,G8 hy,rfl,?_⟩;refine Ap hh ?_
  (apply I;clear I K)
  (refine lQ X6 λK I=>?_;refine Fm O hh ?_)
  refine⟨D3 (y.mapped g),.inl ⟨_,rfl,ih y J (L.kids.2 y J),rfl⟩,?_⟩;refine ev ?_;refine⟨by simp,by rw[Bc,D4];unfold lim sm at*;omega,?_⟩
  (apply I;clear I K;try simp only[A4,Ac])
  refine u2 _ _ ?_;clear u2 Z
  (refine lQ X6 λK I=>?_;refine ev ?_)
  refine⟨by unfold B4;unfold sm at*;omega,?_⟩
  (apply I;clear I K;try simp only[A4,])
  refine⟨j+1,by omega,by omega,by simp[sle,Ay,Ae],?_⟩;rw[tk];simp[ble,A7,Pt,Cg]
 .refine Ak W X6 ?_;refine sK λZ u2=>A0.ff rfl (A0.xx ?_);simp only[A4,Ac,Af];rw[Aj1 (by omega)];exact a0 _ _ sS (by simp[ble,A7,Cg,])
def Ex.subst(vars:List A2)(args:List Ty):Ex->Ex:=Ex.mapped (Ex.A1v vars args)
def G5r(vars:List A2)(args:List Ty)(E:∀u,u∈args->u.Sm)(e:Ex)(J:e.Sm):Aa prog 249 [D3 e,Cc vars,Cm args] (D3 (e.subst vars args)):=by
 have I:=F9i 301 [.A9 [.slice (Bq vars)] 0,.A9 [.slice (Ax args)] 0] rfl rfl (Ex.A1v vars args)
  (λe ks h=>F7a vars args E (e.Vr ks) h.type h.targs.1 h.targs.2) e J
 refine cB func249 ?_;refine sR [0,1,2,3,4,5,6] ?_;refine A0.zz 4 rfl rfl<|A0.zz 5 rfl rfl<|A0.ww (sl':=[(3,.box 3 0),(4,.A9 [.slice (Bq vars)] 0),(5,.A9 [.slice (Ax args)] 0),(6,.box 6 0)])
  (bx':=[(3,.cells ((Cg e).map .d)),(6,.cells [.d (.int .i64 0),.d (.str []),.d (.str []),.d .nil,.d (.int .i64 0),.d .nil,.d .nil,.d (.int .i64 0)])])
  (by simp[L7,SV.sub,SV.L8,sle,Ay,Ae]) (by simp[Jo,Aq.sub,SV.L8,SV.sub,ble,A7,Cd,Cg]) ?_
 refine sC I [0,1,2,3,4,5,6] ?_;exact aR
def G7h:∀e:Ex,e.subst [] []=e:=by
 intro e
 induction e using Ex.induct with
 |h e I =>
 have J:e.kids.map (Ex.mapped (Ex.A1v [] []))=e.kids:=by have:=Ie (f:=Ex.mapped (Ex.A1v [] [])) (g:=id) I;rw[this];simp
 have E:∀l:List Ty,l.map (Ty.subst [] [])=l:=λl=>by rw[Ie (g:=id) λt _=>A2w t];simp
 show Ex.mapped (Ex.A1v [] []) e=e;rw[A1e,J];cases e;simp[Ex.A1v,Ex.Vr,Ex.kind,Ex.name,Ex.type,Ex.targs,Ex.kids,Ex.pos,A2w,E]
def E2a(e:Ex)(h:e.Sm):Aa prog 164 [D3 e] (D3 e):=by
 refine cB func164 ?_;refine sR [0,1,2] ?_
 (refine sQ [0,1,2] λK E=>?_;simp -implicitDefEqProofs only[EV,Nat.reduceAdd,Nat.reduceEqDiff,reduceCtorEq,Iv])
 have hs:=G5r [] [] (by simp) e h;rw[G7h]at hs;refine⟨D3 e,.inl ⟨_,rfl,hs,rfl⟩,?_⟩;refine ev ?_
 (apply E;clear E K)
 exact aR
structure Ah.Sm(f:Ah):Prop where
 name:f.name.length<=60000000*sm
 bound:f.bound.Sm
structure Param.Sm(f:Param):Prop where
 name:f.name.length<=60000000*sm
 type:f.type.Sm
structure A3.Sm(s:A3):Prop where
 name:s.name.length<=60000000*sm
 A1:s.A1.length<=sm/\∀t,t∈s.A1->t.Sm
 params:s.params.length<=sm/\∀t,t∈s.params->t.Sm
 result:s.result.Sm
structure Decl.Sm(d:Decl):Prop where
 name:d.name.length<=60000000*sm
 A1:d.A1.length<=sm/\∀t,t∈d.A1->t.Sm
 fields:d.fields.length<=sm/\∀t,t∈d.fields->t.Sm
 sigs:d.sigs.length<=sm/\∀t,t∈d.sigs->t.Sm
 recv:d.recv.length<=60000000*sm
 vars:d.vars.length<=sm/\∀t,t∈d.vars->t.length<=60000000*sm
 sig:d.sig.Sm
 body:d.body.Sm
structure Prog.Sm(p:Prog):Prop where
 decls:p.decls.length<=sm/\∀t,t∈p.decls->t.Sm
 main:p.main.Sm
def D4m(x:Ah)(h:x.Sm):Aa prog 243 [S8 x] (S8 x):=by refine cB func243 ?_;refine sR [0,1,2] ?_;refine sC (A3r x.bound h.bound) [0,1,2] ?_;refine sR [0,1,2] ?_;exact aR
def D0p(x:Param)(h:x.Sm):Aa prog 245 [Q4 x] (Q4 x):=by refine cB func245 ?_;refine sR [0,1,2] ?_;refine sC (A3r x.type h.type) [0,1,2] ?_;refine sR [0,1,2] ?_;exact aR
abbrev q8o:List Nat:=[0,1,4,5,7,8,9,10,11]
def E3w(f:FuncId)(l:List Ah)(hl:l.length<=sm)(hs:∀t,t∈l->Aa prog f [S8 t] (S8 t)) :
  Aa prog 242 [.d (.slice (Ag l)),.Bf f []] (.d (.slice (Ag l))):=by
 refine cB func242 ?_;refine sR q8o ?_;refine sR q8o ?_;refine A0.pp 5 5 5 rfl<|sK λV u1=>?_;have U:∀sl bx,sle sl [(5,.acc 5)]->ble bx [(5,.rows 5 (Ag l))]->V sl bx:=by intro sl bx W Z;refine u1 _ _ (A0.ww W Z ?_);clear u1 V;refine sR q8o ?_;exact aR
 refine sR q8o ?_;refine A0.bb (A0.loop (X:=Nat) (λx=>[(10,A5 x),(9,A5 l.length),(8,.d (.slice (Ag l))),(1,.Bf f []),(5,.acc 5)]) (λx=>[(5,.rows 5 (Ag (l.take x)))])
  (λx=>x<=l.length) (λx=>l.length - x) 0 ?_ ?_ ?_ ?_)
 .simp
 .exact sS
 .simp[ble,A7,Ag]
 rintro j hj;by_cases J:(j:Int)<(l.length:Int)
 .have E:j<l.length:=by omega
  have hy:l[j]?=some l[j]:=Bi E;have L:l[j]∈l:=Fq E;have tk:l.take (j+1)=l.take j++[l[j]]:=J0 E;generalize l[j]=y at*;refine Ak J q8o ?_;refine sK λO u2=>A0.tt rfl (A0.kk (u2 _ _ ?_));clear u2 O;refine sK λO u2=>A0.bb ?_
  (refine sQ q8o λK I=>?_;refine ev ?_)
  refine⟨by omega,Jm y,F4 hy,rfl,?_⟩;refine ev ?_
  (apply I;clear I K)
  (refine lQ q8o λK I=>?_;refine ev ?_)
  refine⟨S8 y,.inl ⟨_,rfl,hs y L,rfl⟩,?_⟩;refine ev ?_;refine⟨by simp,by rw[D4];unfold lim sm at*;omega,?_⟩
  (apply I;clear I K;try simp only[A4,Ac])
  refine u2 _ _ ?_;clear u2 O
  (refine lQ q8o λK I=>?_;refine ev ?_)
  refine⟨by unfold B4;unfold sm at*;omega,?_⟩
  (apply I;clear I K;try simp only[A4,])
  refine⟨j+1,by omega,by omega,by simp[sle,Ay,Ae],?_⟩;rw[tk];simp[ble,A7,Ag,Jm]
 .refine Ak J q8o ?_;refine sK λO u2=>A0.ff rfl (A0.xx ?_);simp only[A4,Ac,Af];rw[Aj1 (by omega)];exact U _ _ sS sB
abbrev Zk:List Nat:=[0,1,4,5,7,8,9,10,11]
def D3k(f:FuncId)(l:List Param)(hl:l.length<=sm)(hs:∀t,t∈l->Aa prog f [Q4 t] (Q4 t)) :
  Aa prog 244 [.d (.slice (Av l)),.Bf f []] (.d (.slice (Av l))):=by
 refine cB func244 ?_;refine sR Zk ?_;refine sR Zk ?_;refine A0.pp 5 5 5 rfl<|sK λV u1=>?_;have U:∀sl bx,sle sl [(5,.acc 5)]->ble bx [(5,.rows 5 (Av l))]->V sl bx:=by intro sl bx W Z;refine u1 _ _ (A0.ww W Z ?_);clear u1 V;refine sR Zk ?_;exact aR
 refine sR Zk ?_;refine A0.bb (A0.loop (X:=Nat) (λx=>[(10,A5 x),(9,A5 l.length),(8,.d (.slice (Av l))),(1,.Bf f []),(5,.acc 5)]) (λx=>[(5,.rows 5 (Av (l.take x)))])
  (λx=>x<=l.length) (λx=>l.length - x) 0 ?_ ?_ ?_ ?_)
 .simp
 .exact sS
 .simp[ble,A7,Av]
 rintro j hj;by_cases J:(j:Int)<(l.length:Int)
 .have E:j<l.length:=by omega
  have hy:l[j]?=some l[j]:=Bi E;have L:l[j]∈l:=Fq E;have tk:l.take (j+1)=l.take j++[l[j]]:=J0 E;generalize l[j]=y at*;refine Ak J Zk ?_;refine sK λO u2=>A0.tt rfl (A0.kk (u2 _ _ ?_));clear u2 O;refine sK λO u2=>A0.bb ?_
  (refine sQ Zk λK I=>?_;refine ev ?_)
  refine⟨by omega,G9 y,Du hy,rfl,?_⟩;refine ev ?_
  (apply I;clear I K)
  (refine lQ Zk λK I=>?_;refine ev ?_)
  refine⟨Q4 y,.inl ⟨_,rfl,hs y L,rfl⟩,?_⟩;refine ev ?_;refine⟨by simp,by rw[D4];unfold lim sm at*;omega,?_⟩
  (apply I;clear I K;try simp only[A4,Ac])
  refine u2 _ _ ?_;clear u2 O
  (refine lQ Zk λK I=>?_;refine ev ?_)
  refine⟨by unfold B4;unfold sm at*;omega,?_⟩
  (apply I;clear I K;try simp only[A4,])
  refine⟨j+1,by omega,by omega,by simp[sle,Ay,Ae],?_⟩;rw[tk];simp[ble,A7,Av,G9]
 .refine Ak J Zk ?_;refine sK λO u2=>A0.ff rfl (A0.xx ?_);simp only[A4,Ac,Af];rw[Aj1 (by omega)];exact U _ _ sS sB
abbrev Z5:List Nat:=[0,1,4,5,7,8,9,10,11]
def G8y(f:FuncId)(l:List A3)(hl:l.length<=sm)(hs:∀t,t∈l->Aa prog f [Cy t] (Cy t)) :
  Aa prog 246 [.d (.slice (B0 l)),.Bf f []] (.d (.slice (B0 l))):=by
 refine cB func246 ?_;refine sR Z5 ?_;refine sR Z5 ?_;refine A0.pp 5 7 5 rfl<|sK λV u1=>?_;have U:∀sl bx,sle sl [(5,.acc 5)]->ble bx [(5,.rows 7 (B0 l))]->V sl bx:=by intro sl bx W Z;refine u1 _ _ (A0.ww W Z ?_);clear u1 V;refine sR Z5 ?_;exact aR
 refine sR Z5 ?_;refine A0.bb (A0.loop (X:=Nat) (λx=>[(10,A5 x),(9,A5 l.length),(8,.d (.slice (B0 l))),(1,.Bf f []),(5,.acc 5)]) (λx=>[(5,.rows 7 (B0 (l.take x)))])
  (λx=>x<=l.length) (λx=>l.length - x) 0 ?_ ?_ ?_ ?_)
 .simp
 .exact sS
 .simp[ble,A7,B0]
 rintro j hj;by_cases J:(j:Int)<(l.length:Int)
 .have E:j<l.length:=by omega
  have hy:l[j]?=some l[j]:=Bi E;have L:l[j]∈l:=Fq E;have tk:l.take (j+1)=l.take j++[l[j]]:=J0 E;generalize l[j]=y at*;refine Ak J Z5 ?_;refine sK λO u2=>A0.tt rfl (A0.kk (u2 _ _ ?_));clear u2 O;refine sK λO u2=>A0.bb ?_
  (refine sQ Z5 λK I=>?_;refine ev ?_)
  refine⟨by omega,Dd y,D1 hy,rfl,?_⟩;refine ev ?_
  (apply I;clear I K)
  (refine lQ Z5 λK I=>?_;refine ev ?_)
  refine⟨Cy y,.inl ⟨_,rfl,hs y L,rfl⟩,?_⟩;refine ev ?_;refine⟨by simp,by rw[D4];unfold lim sm at*;omega,?_⟩
  (apply I;clear I K;try simp only[A4,Ac])
  refine u2 _ _ ?_;clear u2 O
  (refine lQ Z5 λK I=>?_;refine ev ?_)
  refine⟨by unfold B4;unfold sm at*;omega,?_⟩
  (apply I;clear I K;try simp only[A4,])
  refine⟨j+1,by omega,by omega,by simp[sle,Ay,Ae],?_⟩;rw[tk];simp[ble,A7,B0,Dd]
 .refine Ak J Z5 ?_;refine sK λO u2=>A0.ff rfl (A0.xx ?_);simp only[A4,Ac,Af];rw[Aj1 (by omega)];exact U _ _ sS sB
abbrev Yp:List Nat:=[0,1,4,5,7,8,9,10,11]
def G9i(f:FuncId)(l:List Decl)(hl:l.length<=sm)(hs:∀t,t∈l->Aa prog f [Ia t] (Ia t)) :
  Aa prog 162 [.d (.slice (C1 l)),.Bf f []] (.d (.slice (C1 l))):=by
 refine cB func162 ?_;refine sR Yp ?_;refine sR Yp ?_;refine A0.pp 5 23 5 rfl<|sK λV u1=>?_;have U:∀sl bx,sle sl [(5,.acc 5)]->ble bx [(5,.rows 23 (C1 l))]->V sl bx:=by intro sl bx W Z;refine u1 _ _ (A0.ww W Z ?_);clear u1 V;refine sR Yp ?_;exact aR
 refine sR Yp ?_;refine A0.bb (A0.loop (X:=Nat) (λx=>[(10,A5 x),(9,A5 l.length),(8,.d (.slice (C1 l))),(1,.Bf f []),(5,.acc 5)]) (λx=>[(5,.rows 23 (C1 (l.take x)))])
  (λx=>x<=l.length) (λx=>l.length - x) 0 ?_ ?_ ?_ ?_)
 .simp
 .exact sS
 .simp[ble,A7,C1]
 rintro j hj;by_cases J:(j:Int)<(l.length:Int)
 .have E:j<l.length:=by omega
  have hy:l[j]?=some l[j]:=Bi E;have L:l[j]∈l:=Fq E;have tk:l.take (j+1)=l.take j++[l[j]]:=J0 E;generalize l[j]=y at*;refine Ak J Yp ?_;refine sK λO u2=>A0.tt rfl (A0.kk (u2 _ _ ?_));clear u2 O;refine sK λO u2=>A0.bb ?_
  (refine sQ Yp λK I=>?_;refine ev ?_)
  refine⟨by omega,Ar y,Dx hy,rfl,?_⟩;refine ev ?_
  (apply I;clear I K)
  (refine lQ Yp λK I=>?_;refine ev ?_)
  refine⟨Ia y,.inl ⟨_,rfl,hs y L,rfl⟩,?_⟩;refine ev ?_;refine⟨by simp,by rw[D4];unfold lim sm at*;omega,?_⟩
  (apply I;clear I K;try simp only[A4,Ac])
  refine u2 _ _ ?_;clear u2 O
  (refine lQ Yp λK I=>?_;refine ev ?_)
  refine⟨by unfold B4;unfold sm at*;omega,?_⟩
  (apply I;clear I K;try simp only[A4,])
  refine⟨j+1,by omega,by omega,by simp[sle,Ay,Ae],?_⟩;rw[tk];simp[ble,A7,C1,Ar]
 .refine Ak J Yp ?_;refine sK λO u2=>A0.ff rfl (A0.xx ?_);simp only[A4,Ac,Af];rw[Aj1 (by omega)];exact U _ _ sS sB
def A0.G4c{ro:Option Nat}{P:Program}{n:Nat}{c:Code}{Q:Exit->SL->Ab->Prop}{sl:SL}{bx:Ab}(t:Nat)(hd:Ae sl t=.d (.slice []))(O:A0 ro P n c Q ((t,.d .nil)::sl) bx)(I:A0 ro P n c Q ((t,.d .emp)::sl) bx):A0 ro P n c Q sl bx:=by
 intro C S w β a hs;have hr:=hs.slot t;rw[hd]at hr;have J:=hr.Ij;generalize V:a.tmps.getD t undef=v at J;have go:∀x:SV,Am S w β x v->St C n S w β a ((t,x)::sl) bx:=λx L=>⟨hs.inv,hs.size,hs.defers,λu=>by
  simp only[Ae];split
  .rename_i U;subst U;rw[V];exact L
  .exact hs.slot u⟩
 cases J with
 |Mk a cap E =>
  cases a with
  |none=>have:=E rfl;subst this;exact O C S w β _ (go _ (.d _ _ .nil))
  |some b=>exact I C S w β _ (go _ (.d _ _ (.emp b cap)))
 |slice _ b off cap sz=>exact I C S w β _ (go _ (.d _ _ (.emp _ cap)))
def F9v(l:List A2)(L:l.length<=sm):Aa prog 248 [Cc l] (Cc l):=by
 refine cB func248 ?_;refine sR [0,2,4] ?_;cases l with
 |nil =>
  refine A0.G4c 0 rfl ?_ ?_
  .refine kR [0,2,4] λI u1=>?_;refine A0.tt rfl<|sR [0,2,4] ?_;exact aR
  .refine kR [0,2,4] λI u1=>?_;refine A0.ff rfl (A0.kk (u1 _ _ ?_));clear u1 I
   (refine A0.D7 [0,2,4,5] [5] (by decide +kernel) λK z=>?_;refine ev ?_;apply z;clear z K)
   exact aR
 |cons x l =>
  have e:Bq (x::l)=[.str x]::Bq l:=rfl;refine sK λI u1=>?_
  (refine sQ [0,2,4] λK z=>?_;simp -implicitDefEqProofs only[EV,Nat.reduceEqDiff,reduceCtorEq,B2k,e,Ph];apply z;clear z K)
  refine A0.ff rfl (A0.kk (u1 _ _ ?_));clear u1 I;have E:=A2e (x::l);rw[e]at E;simp only[Bg]at L
  (refine A0.D7 [0,2,4,5] [5] (by decide +kernel) λK J=>?_;refine ev ?_)
  refine⟨E,by unfold lim sm at*;omega,?_⟩
  (apply J;clear J K)
  rw[<-e];exact aR
def D5i(x:A3)(h:x.Sm):Aa prog 247 [Cy x] (Cy x):=by
 refine cB func247 ?_;refine sR [0,1,2] ?_
 (refine sG [0,1,2] [] 10 [] λK E=>?_;refine ev ?_)
 refine⟨.d (.slice (Ag x.A1)),.inl ⟨_,rfl,E3w _ _ h.A1.1 λt ht=>D4m t (h.A1.2 t ht),rfl⟩,?_⟩;refine ev ?_;refine⟨.d (.slice (Av x.params)),.inl ⟨_,rfl,D3k _ _ h.params.1 λt ht=>D0p t (h.params.2 t ht),rfl⟩,?_⟩;refine ev ?_;refine⟨B7 x.result,.inl ⟨_,rfl,A3r x.result h.result,rfl⟩,?_⟩;refine ev ?_
 (apply E;clear E K)
 refine sR [0,1,2] ?_;exact aR
def E8p(x:Decl)(h:x.Sm):Aa prog 163 [Ia x] (Ia x):=by
 refine cB func163 ?_;refine sR [0,1,2] ?_
 (refine sG [0,1,2] [] 10 [] λK E=>?_;refine ev ?_)
 refine⟨.d (.slice (Ag x.A1)),.inl ⟨_,rfl,E3w _ _ h.A1.1 λt ht=>D4m t (h.A1.2 t ht),rfl⟩,?_⟩;refine ev ?_;refine⟨.d (.slice (Av x.fields)),.inl ⟨_,rfl,D3k _ _ h.fields.1 λt ht=>D0p t (h.fields.2 t ht),rfl⟩,?_⟩;refine ev ?_;refine⟨.d (.slice (B0 x.sigs)),.inl ⟨_,rfl,G8y _ _ h.sigs.1 λt ht=>D5i t (h.sigs.2 t ht),rfl⟩,?_⟩;refine ev ?_
 (apply E;clear E K)
 (refine sG [0,1,2] [] 10 [] λK E=>?_;refine ev ?_)
 refine⟨Cc x.vars,.inl ⟨_,rfl,F9v _ h.vars.1,rfl⟩,?_⟩;refine ev ?_;refine⟨Cy x.sig,.inl ⟨_,rfl,D5i _ h.sig,rfl⟩,?_⟩;refine ev ?_;refine⟨D3 x.body,.inl ⟨_,rfl,E2a _ h.body,rfl⟩,?_⟩;refine ev ?_
 (apply E;clear E K)
 refine sR [0,1,2] ?_;exact aR
def D8q(p:Prog)(h:p.Sm):Aa prog 88 [Ct p] (Ct p):=by
 refine cB func88 ?_;refine sR [0,1,2] ?_
 (refine sG [0,1,2] [] 5 [] λK E=>?_;refine ev ?_)
 refine⟨.d (.slice (C1 p.decls)),.inl ⟨_,rfl,G9i _ _ h.decls.1 λt ht=>E8p t (h.decls.2 t ht),rfl⟩,?_⟩;refine ev ?_;refine⟨D3 p.main,.inl ⟨_,rfl,E2a _ h.main,rfl⟩,?_⟩;refine ev ?_
 (apply E;clear E K)
 exact aR
end Go.Abs
