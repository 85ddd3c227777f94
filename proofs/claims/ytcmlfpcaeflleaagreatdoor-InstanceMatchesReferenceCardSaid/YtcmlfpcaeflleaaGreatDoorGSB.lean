/- several texts in one -/
import Derived.Test.YtcmlfpcaeflleaaGreatDoorGFB
set_option linter.all false
set_option maxHeartbeats 1000000
set_option maxRecDepth 100000
namespace Go.Abs
open Go Go.Proofs Tryz
def Dq{α:Type}(p:α->Bool)(l:List α):Int:=match l.findIdx? p with
 |some i=>i
 |none=>-1
theorem Tn{α:Type}{p:α->Bool}{l:List α}(h:∀x,x∈l->p x=false):Dq p l = -1:=by unfold Dq;rw[Ao2.2 h]
def Tt{α:Type}{p:α->Bool}{l:List α}{j:Nat}{x:α}(J:l[j]?=some x)(hp:p x=true)(h:∀y,y∈l.take j->p y=false):Dq p l=j:=by
 unfold Dq;have:l.findIdx? p=some j:=by rw[Ai3];obtain⟨E,I⟩:=B5.1 J;refine⟨E,by rw[I];exact hp,?_⟩;intro i L;have:=h l[i] (List.mem_take_iff_getElem.2 ⟨i,by omega,by simp⟩);simpa using this
 rw[this]
abbrev q1B:List Nat:=[0,1,4,5,7,8,9,16]
def F6t(f:FuncId)(caps:List SV)(J:∀x:Am,G8 [] (Se x::caps)=some (Se x::caps))(p:Am->Bool)(l:List Am)(Z:l.length<=sm)(hs:∀t,t∈l->Ac prog f (Se t::caps) (.d (.bool (p t)))) :
  Ac prog 226 [.d (.slice (Ar l)),.B0 f caps] (A8 (Dq p l)):=by
 refine cB func226 ?_;refine sR q1B ?_;refine kR q1B λW u1=>?_;refine A0.bb (A0.ii l (X:=Unit) (λj _=>[(0,.d (.slice (Ar l))),(1,.B0 f caps),(7,A8 l.length),(8,A8 j)]) (λ_ _=>[])
  (λj _=>∀y,y∈l.take j->p y=false) () (by simp) sS sB ?_ ?_)
 .intro _ E;rw[Dm]at E;refine Aq B3 q1B ?_;refine A0.stop rfl ?_;simp only[A4,Ab,Ae];refine u1 _ _<|sR q1B ?_;rw[Tn E];exact aR
 .intro j _ d O I dp V M E;refine Aq M q1B ?_;refine A0.Fk rfl<|sK λU u2=>A0.bb<|sR q1B ?_
  (refine sV q1B λK z=>?_;refine ci (F5 O) ?_;refine⟨_,.inl ⟨_,J d,hs d I,rfl⟩,?_⟩;(try refine ev ?_);apply z;clear z K)
  refine A0.cond rfl (λL=>?_) (λL=>?_)
  .refine sR q1B ?_;rw[Tt O L E];exact aR
  .refine A0.kk (u2 _ _ ?_);clear u2 U;refine lT q1B ?_;refine⟨(),?_,sS,sB⟩;rw[V];intro y hy;rcases D2.1 hy with hy|hy
   .exact E y hy
   .simp only[Aw,Ej,Eh]at hy;rw[hy];exact L
abbrev q2B:List Nat:=[0,1,4,5,7,8,9,16]
def D2r(f:FuncId)(caps:List SV)(J:∀x:Param,G8 [] (Rk x::caps)=some (Rk x::caps))(p:Param->Bool)(l:List Param)(Z:l.length<=sm)(hs:∀t,t∈l->Ac prog f (Rk t::caps) (.d (.bool (p t)))) :
  Ac prog 245 [.d (.slice (B9 l)),.B0 f caps] (A8 (Dq p l)):=by
 refine cB func245 ?_;refine sR q2B ?_;refine kR q2B λW u1=>?_;refine A0.bb (A0.ii l (X:=Unit) (λj _=>[(0,.d (.slice (B9 l))),(1,.B0 f caps),(7,A8 l.length),(8,A8 j)]) (λ_ _=>[])
  (λj _=>∀y,y∈l.take j->p y=false) () (by simp) sS sB ?_ ?_)
 .intro _ E;rw[Dm]at E;refine Aq B3 q2B ?_;refine A0.stop rfl ?_;simp only[A4,Ab,Ae];refine u1 _ _<|sR q2B ?_;rw[Tn E];exact aR
 .intro j _ d O I dp V M E;refine Aq M q2B ?_;refine A0.Fk rfl<|sK λU u2=>A0.bb<|sR q2B ?_
  (refine sV q2B λK z=>?_;refine ci (E9 O) ?_;refine⟨_,.inl ⟨_,J d,hs d I,rfl⟩,?_⟩;(try refine ev ?_);apply z;clear z K)
  refine A0.cond rfl (λL=>?_) (λL=>?_)
  .refine sR q2B ?_;rw[Tt O L E];exact aR
  .refine A0.kk (u2 _ _ ?_);clear u2 U;refine lT q2B ?_;refine⟨(),?_,sS,sB⟩;rw[V];intro y hy;rcases D2.1 hy with hy|hy
   .exact E y hy
   .simp only[Aw,Ej,Eh]at hy;rw[hy];exact L
abbrev Zp:List Nat:=[0,1,4,5,7,8,9,16]
def F5b(f:FuncId)(caps:List SV)(J:∀x:A5,G8 [] (Ea x::caps)=some (Ea x::caps))(p:A5->Bool)(l:List A5)(Z:l.length<=sm)(hs:∀t,t∈l->Ac prog f (Ea t::caps) (.d (.bool (p t)))) :
  Ac prog 255 [.d (.slice (C1 l)),.B0 f caps] (A8 (Dq p l)):=by
 refine cB func255 ?_;refine sR Zp ?_;refine kR Zp λW u1=>?_;refine A0.bb (A0.ii l (X:=Unit) (λj _=>[(0,.d (.slice (C1 l))),(1,.B0 f caps),(7,A8 l.length),(8,A8 j)]) (λ_ _=>[])
  (λj _=>∀y,y∈l.take j->p y=false) () (by simp) sS sB ?_ ?_)
 .intro _ E;rw[Dm]at E;refine Aq B3 Zp ?_;refine A0.stop rfl ?_;simp only[A4,Ab,Ae];refine u1 _ _<|sR Zp ?_;rw[Tn E];exact aR
 .intro j _ d O I dp V M E;refine Aq M Zp ?_;refine A0.Fk rfl<|sK λU u2=>A0.bb<|sR Zp ?_
  (refine sV Zp λK z=>?_;refine ci (F6 O) ?_;refine⟨_,.inl ⟨_,J d,hs d I,rfl⟩,?_⟩;(try refine ev ?_);apply z;clear z K)
  refine A0.cond rfl (λL=>?_) (λL=>?_)
  .refine sR Zp ?_;rw[Tt O L E];exact aR
  .refine A0.kk (u2 _ _ ?_);clear u2 U;refine lT Zp ?_;refine⟨(),?_,sS,sB⟩;rw[V];intro y hy;rcases D2.1 hy with hy|hy
   .exact E y hy
   .simp only[Aw,Ej,Eh]at hy;rw[hy];exact L
abbrev q4B:List Nat:=[0,2,3,5,6,7,8,9]
def A4d(l:List Am)(V:l.length<=sm):Ac prog 145 [.d (.slice (Ar l))] (.d (.slice (C5 (l.map (·.name))))):=by
 refine cB func145 ?_;refine sR q4B ?_;refine sR q4B ?_;refine A0.pp 3 1 3 rfl<|kR q4B λU u1=>?_;refine A0.bb (A0.ii l (X:=Unit) (λj _=>[(3,.acc 3),(6,.d (.slice (Ar l))),(7,A8 l.length),(8,A8 j)]) (λj _=>[(3,.rows 1 (C5 ((l.take j).map (·.name))))])
  (λj _=>True) () trivial sS (by simp[ble,A7,C5]) ?_ ?_)
 .intro _ M;rw[Dm];refine Aq B3 q4B ?_;refine A0.stop rfl ?_;simp only[A4,Ab,Ae];refine u1 _ _<|sR q4B ?_;exact aR
 .intro j _ d L I W O E M;rw[O];refine Aq E q4B ?_;refine A0.Fk rfl<|sK λJ u2=>A0.bb ?_
  (refine sV q4B λK z=>?_;refine ci (F5 L) ?_;apply z;clear z K)
  (refine lV q4B λK z=>?_;refine⟨by simp,by simp only[Bn,Dx];unfold lim sm at*;omega,?_⟩;(try refine ev ?_);apply z;clear z K;try simp only[A4,Ab])
  refine u2 _ _ ?_;clear u2 J;refine lT q4B ?_;exact⟨(),trivial,sS,by simp[ble,A7,C5]⟩
abbrev q5B:List Nat:=[0,2,3,4,8]
def Vq(l:List Am)(V:l.length<=sm):Ac prog 61 [.d (.slice (Ar l))] (.d (.slice (C5 (l.map (·.name))))):=by
 refine cB func61 ?_;refine sR q5B ?_;refine sR q5B ?_;refine A0.pp 3 1 3 rfl<|kR q5B λU u1=>?_;refine A0.bb (A0.ii l (X:=Unit) (λj _=>[(0,.d (.slice (Ar l))),(3,.acc 3),(4,A8 j)]) (λj _=>[(3,.rows 1 (C5 ((l.take j).map (·.name))))])
  (λj _=>True) () trivial sS (by simp[ble,A7,C5]) ?_ ?_)
 .intro _ M;rw[Dm];refine Ai B3 q5B λE u2=>?_;refine A0.ss rfl ?_;simp only[A4,Ab,Ae];refine u1 _ _<|sR q5B ?_;exact aR
 .intro j _ d L J W O I M;rw[O];refine Ai I q5B λE u2=>?_;refine gI u2 ?_;clear u2 E;refine sK λE u2=>A0.bb ?_
  (refine lV q5B λK z=>?_;refine ci (F5 L) ?_;refine⟨by simp,by simp only[Bn,Dx];unfold lim sm at*;omega,?_⟩;(try refine ev ?_);apply z;clear z K;try simp only[A4,Ab])
  refine u2 _ _ ?_;clear u2 E;refine lT q5B ?_;exact⟨(),trivial,sS,by simp[ble,A7,C5]⟩
def C4n:∀a b:A3,(Op.bytesLess a b=true↔Bs a b = -1)/\(Op.bytesLess b a=true↔Bs a b=1)/\(Bs a b = -1\/Bs a b=0\/Bs a b=1)
 |[],[]=>by simp[Op.bytesLess,Bs]
 |[],_::_=>by simp[Op.bytesLess,Bs]
 |_::_,[]=>by simp[Op.bytesLess,Bs]
 |x::xs,y::ys=>by
  obtain⟨M,U,O⟩:=C4n xs ys;simp only[Op.bytesLess,Bs,Yj,Bc,Da,Tu];by_cases E:x<y
  .have L:¬y<x:=λh=>Zx x (UInt8.lt_trans E h);have I:¬y=x:=λh=>by subst h;exact Zx _ E
   simp[E,L,I]
  .by_cases J:y<x
   .have I:¬x=y:=λh=>by subst h;exact Zx _ J
    simp[E,J,I]
   .have V:x=y:=by
     rcases Au6 x.toNat y.toNat with h|h|h
     .exact absurd (Am9.2 h) E
     .exact UInt8.toNat_inj.1 h
     .exact absurd (Am9.2 h) J
    subst V;simp[Zx,M,U,O]
def C3w:∀a:A3,Bs a a=0
 |[]=>rfl
 |x::xs=>by rw[Bs,A6 (Zx x),A6 (Zx x)];exact C3w xs
def Tm:∀{a b:A3},Bs a b=0↔a=b
 |[],[]=>by simp[Bs]
 |[],_::_=>by simp[Bs]
 |_::_,[]=>by simp[Bs]
 |x::xs,y::ys=>by
  rw[Bs];by_cases I:x<y
  .have E:¬x=y:=λh=>by subst h;exact Zx _ I
   simp[I,E]
  .by_cases J:y<x
   .have E:¬x=y:=λh=>by subst h;exact Zx _ J
    simp[I,J,E]
   .have L:x=y:=by
     rcases Au6 x.toNat y.toNat with h|h|h
     .exact absurd (Am9.2 h) I
     .exact UInt8.toNat_inj.1 h
     .exact absurd (Am9.2 h) J
    subst L;simp[Zx,Tm]
def E0q(a:A3):Ac prog 170 [D9 a] (Ay false):=by refine cB func170 ?_;refine sR [0,2] ?_;refine sR [0,2] ?_;exact aR
abbrev Ym:List Nat:=[0,1,4,5,6,11,12,13,16,19]
def F8n(a b:A3):Ac prog 106 [D9 a,D9 b] (A8 (Bs a b)):=by
 obtain⟨L,M,O⟩:=C4n a b;refine cB func106 ?_;refine sR Ym ?_;refine sC (E0q a) Ym ?_;refine sC (E0q b) Ym ?_;refine kR Ym λI u1=>?_;refine kI u1 ?_;clear u1 I;refine kR Ym λI u1=>?_;refine kI u1 ?_;clear u1 I;refine kR Ym λI u1=>?_;refine A0.Pk rfl u1 (λJ=>?_) (λJ=>?_)
 .refine sR Ym ?_;rw[L.1 J];exact aR
 clear u1 I;refine kR Ym λI u1=>?_;refine A0.Pk rfl u1 (λE=>?_) (λE=>?_)
 .refine sR Ym ?_;rw[M.1 E];exact aR
 clear u1 I;refine sR Ym ?_;have:Bs a b=0:=by
  rcases O with h|h|h
  .rw[L.2 h]at J;simp at J
  .exact h
  .rw[M.2 h]at E;simp at E
 rw[this];exact aR
def D1s(a b:A3):Ac prog 63 [D9 a,D9 b] (A8 (Bs a b)):=by refine cB func63 ?_;refine sR [0,1,4] ?_;refine sC (F8n a b) [0,1,4] ?_;exact aR
abbrev Z1:List Nat:=[0,2,3,5,6,7,8,9,14]
def F1j(a b:Int):Ac prog 62 [.d (.slice [[.int .i64 a],[.int .i64 b]])] (A8 (if a≠0 then a else b)):=by
 refine cB func62 ?_;refine sR Z1 ?_;refine sR Z1 ?_;refine kR Z1 λK1 u1=>?_;refine A0.bb (A0.ii [a,b] (X:=Unit) (λj _=>[(3,A8 0),(6,.d (.slice [[.int .i64 a],[.int .i64 b]])),(7,A8 2),(8,A8 j)]) (λ_ _=>[])
  (λj _=>(1<=j->a=0)/\(2<=j->b=0)) () (by simp) sS sB ?_ ?_)
 .intro _ I;refine sR Z1 ?_;refine A0.stop rfl ?_;simp only[A4,Ab,Ae];refine u1 _ _<|sR Z1 ?_;obtain⟨O,U⟩:=I;simp only[C6,Dy]at O U;rw[O (by omega),U (by omega)];exact aR
 .intro j _ d E V dp tk M I;have J:(j:Int)<2:=by simpa using M
  have hg:([[.int .i64 a],[.int .i64 b]]:List (List D))[j]?=some [.int .i64 d]:=by
   match j,E,J with
   |0,E,_=>simp at E;subst E;rfl
   |1,E,_=>simp at E;subst E;rfl
   |j+2,_,h=>omega
  refine Aq J Z1 ?_;refine A0.Fk rfl<|sK λW u2=>A0.bb ?_
  (refine sV Z1 λK z=>?_;refine ci hg ?_;apply z;clear z K)
  refine sR Z1 ?_;refine A0.cond rfl (λL=>?_) (λL=>?_)
  .refine sR Z1 ?_;have Z:(if a≠0 then a else b)=d:=by
    simp only[Da,]at L
    match j,E,I with
    |0,E,_=>simp at E;subst E;rw[A9 L]
    |1,E,I=>simp at E;subst E;rw[A6 (by simp[I.1 (by omega)])]
    |j+2,E,_=>simp at E
   rw[Z];exact aR
  .refine A0.kk (u2 _ _ ?_);clear u2 W
   (refine lV Z1 λK z=>?_;refine cl ?_;apply z;clear z K;try simp only[A4,])
   refine⟨(),?_,sS,sB⟩;simp only[Rw,Decidable.not_not]at L
   match j,E,I with
   |0,E,_=>simp at E;subst E;exact⟨λ_=>L,by omega⟩
   |1,E,I=>simp at E;subst E;exact⟨λ_=>I.1 (by omega),λ_=>L⟩
   |j+2,E,_=>simp at E
mutual
def Cs:Ty->Ty->Int
 |.mk n a _,u=>if Bs n u.name≠0 then Bs n u.name else E0 a u.args
def E0:List Ty->List Ty->Int
 |[],[]=>0
 |[],_::_=>-1
 |_::_,[]=>1
 |x::xs,y::ys=>if Cs x y≠0 then Cs x y else E0 xs ys
end
def A1n(t u:Ty):Cs t u=if Bs t.name u.name≠0 then Bs t.name u.name else E0 t.args u.args:=by cases t with|mk n a p=>rw[Cs];rfl
def Jr(t u:Ty):Bool:=decide (Cs t u=0)
abbrev Ra:List Nat:=[0,1,2,6,7,8,9,10,11,12,13,14,21,31,38]
def D1r(f:FuncId)(l m:List Ty)(hl:l.length<=sm)(hf:∀t,t∈l->∀u,Ac prog f [B6 t,B6 u] (A8 (Cs t u))) :
  Ac prog 64 [Cd l,Cd m,.B0 f []] (A8 (E0 l m)):=by
 refine cB func64 ?_;refine sR Ra ?_;refine kR Ra λO u1=>?_;refine A0.bb (A0.ii l (X:=Unit) (λj _=>[(0,Cd l),(1,Cd m),(2,.B0 f []),(11,Cd l),(12,A8 l.length),(13,A8 j)]) (λ_ _=>[])
  (λj _=>j<=m.length/\E0 (l.drop j) (m.drop j)=E0 l m) () (by simp) sS sB ?_ ?_)
 .rintro _ ⟨Z,I⟩;refine Aq B3 Ra ?_;refine A0.stop rfl ?_;simp only[A4,Ab,Ae];refine u1 _ _ ?_;rw[De]at I;clear u1 O;refine kR Ra λO u1=>?_;refine A0.Pk rfl u1 (λE=>?_) (λE=>?_)
  .refine sR Ra ?_;have:E0 l m = -1:=by
    rw[<-I];have E:l.length<m.length:=by simpa using E
    rw[Ge E,E0]
   rw[this];exact aR
  .clear u1 O;refine sR Ra ?_;have:E0 l m=0:=by
    rw[<-I];have E:m.length<=l.length:=by simpa using E
    rw[Jf E,E0]
   rw[this];exact aR
 .rintro j _ d hd L dp tk U ⟨Z,I⟩;rw[dp]at I;refine Aq U Ra ?_;refine A0.Fk rfl<|sK λK2 u2=>A0.bb ?_
  (refine sV Ra λK z=>?_;refine ci (Dv hd) ?_;apply z;clear z K)
  refine kR Ra λK3 W=>?_;refine A0.Pk rfl W (λE=>?_) (λE=>?_)
  .refine sR Ra ?_;have:E0 l m=1:=by
    rw[<-I];have E:m.length<=j:=by simpa using E
    rw[Jf E,E0]
   rw[this];exact aR
  clear W K3;have J:j<m.length:=by simpa using E
  obtain⟨e,M⟩:∃e,m[j]?=some e:=⟨_,B8 J⟩;have V:m.drop j=e::m.drop (j+1):=by rw[Ge J];rw[B8 J]at M;simp only[B4]at M;rw[M]
  rw[V,E0]at I
  (refine sV Ra λK z=>?_;refine ci (Dv M) ?_;apply z;clear z K)
  refine sC (hf d L e) Ra ?_;refine sR Ra ?_;refine A0.cond rfl (λE=>?_) (λE=>?_)
  .refine sR Ra ?_;rw[A9 (by simpa using E)]at I;rw[<-I];exact aR
  rw[A6 (by simpa using E)]at I;refine A0.kk (u2 _ _ ?_);clear u2 K2;refine lT Ra ?_;exact⟨(),⟨by omega,I⟩,sS,sB⟩
def C1z:∀(t:Ty),t.Sm->∀u:Ty,Ac prog 37 [B6 t,B6 u] (A8 (Cs t u)):=by
 intro t
 induction t using Ty.induct with
 |h t J =>
 intro hs u;rw[A1n];have E:=D1r 37 t.args u.args hs.len (λx I y=>J x I (hs.arg x I) y);refine cB func37 ?_;refine sR [0,1,2,3,4] ?_
 (refine sG [0,1,2,3,4] [] 9 [] λK z=>?_;refine ev ?_;refine cc (D1s t.name u.name) ?_;refine cc E ?_;refine cc (F1j _ _) ?_;apply z;clear z K)
 exact aR
def B3r(t u:Ty)(hs:t.Sm):Ac prog 56 [B6 t,B6 u] (Ay (Jr t u)):=by unfold Jr;refine cB func56 ?_;refine sR [0,1,2,3,4] ?_;refine sC (C1z t hs u) [0,1,2,3,4] ?_;exact aR
inductive Ty.Lm:Ty->Prop where
 |mk (n:A3) (a:List Ty) (p:Int):a.length<=sm->(∀t,t∈a->Ty.Lm t)->Ty.Lm (.mk n a p)
def Ty.Lm.len{t:Ty}(h:t.Lm):t.args.length<=sm:=by cases h;assumption
def Ty.Lm.arg{t:Ty}(h:t.Lm):∀u,u∈t.args->u.Lm:=by cases h;assumption
def Ty.Sm.lm:∀{t:Ty},t.Sm->t.Lm:=λh=>by induction h with|mk n a p _ E _ I=>exact .mk n a p E I
abbrev Qr:List Nat:=[0,1,2,3,4,5,6,11,28,43,51,58]
def D8h:∀(t:Ty),t.Lm->∀u:Ty,Ac prog 50 [B6 t,B6 u] (A8 (Cs t u)):=by
 intro t
 induction t using Ty.induct with
 |h t ih =>
 intro hs u;have a2:=hs.len;rw[A1n];refine cB func50 ?_;refine sR Qr ?_;refine kR Qr λJ u1=>?_;refine A0.Pk rfl u1 (λE=>?_) (λE=>?_)
 .refine sC (B4i t.name u.name) Qr ?_;rw[A9 (λh=>(by simpa using E:¬t.name=u.name) (Tm.1 h))];exact aR
 clear u1 J;have a0:t.name=u.name:=by simpa using E
 rw[A6 (by rw[a0];simp[C3w])];refine kR Qr λJ u1=>?_;have O:∀(j:Nat) sl bx,sle sl [(2,.box 2 0),(3,.box 3 0)]->ble bx [(2,.cells [.d (.str t.name),Cd t.args,A8 t.pos]),(3,.cells [.d (.str u.name),Cd u.args,A8 u.pos])]->j<=t.args.length->j<=u.args.length->(t.args.length=j\/u.args.length=j)->E0 (t.args.drop j) (u.args.drop j)=E0 t.args u.args->J sl bx:=by
  intro j sl bx h1 h2 a4 a3 a5 I;refine u1 _ _ (A0.ww h1 h2 ?_);clear u1 J;refine kR Qr λJ u1=>?_;refine A0.Pk rfl u1 (λE=>?_) (λE=>?_)
  .refine sR Qr ?_;have:E0 t.args u.args = -1:=by
    rw[<-I];have E:t.args.length<u.args.length:=by simpa using E
    have:t.args.length=j:=by omega
    rw[Jf (by omega),Ge (show j<u.args.length by omega),E0]
   rw[this];exact aR
  clear u1 J;refine kR Qr λJ u1=>?_;refine A0.Pk rfl u1 (λM=>?_) (λM=>?_)
  .refine sR Qr ?_;have:E0 t.args u.args=1:=by
    rw[<-I];have E:u.args.length<t.args.length:=by simpa using M
    rw[Ge (show j<t.args.length by omega),Jf (show u.args.length<=j by omega),E0]
   rw[this];exact aR
  clear u1 J;refine sR Qr ?_;have:E0 t.args u.args=0:=by
   rw[<-I];have h1:u.args.length<=t.args.length:=by simpa using E
   have h2:t.args.length<=u.args.length:=by simpa using M
   rw[Jf (by omega),Jf (by omega),E0]
  rw[this];exact aR
 refine A0.bb (A0.ii t.args (X:=Unit) (λj _=>[(2,.box 2 0),(3,.box 3 0),(5,A8 j)]) (λ_ _=>[(2,.cells [.d (.str t.name),Cd t.args,A8 t.pos]),(3,.cells [.d (.str u.name),Cd u.args,A8 u.pos])])
  (λj _=>j<=u.args.length/\E0 (t.args.drop j) (u.args.drop j)=E0 t.args u.args) () (by simp) sS sB ?_ ?_)
 .rintro _ ⟨hj,I⟩;refine Ai B3 Qr λW u2=>?_;refine A0.ss rfl ?_;simp only[A4,Ab,Ae];exact O t.args.length _ _ sS sB (Bi _) hj (.inl rfl) I
 .rintro j _ d hd L dp tk U ⟨hj,I⟩;refine sK λW u2=>?_;by_cases V:(j:Int)<(u.args.length:Int)
  .obtain⟨e,Z⟩:∃e,u.args[j]?=some e:=⟨_,B8 (by omega)⟩;have a1:u.args.drop j=e::u.args.drop (j+1):=by
    rw[Ge (by omega)];rw[B8 (by omega)]at Z;simp only[B4]at Z;rw[Z]
   rw[dp,a1,E0]at I;refine Fi U V Qr ?_;refine gI u2 ?_;clear u2 W;refine sK λW u2=>A0.bb ?_
   (refine sG Qr [] 10 [] λK z=>?_;refine ev ?_;refine ci (Dv hd) ?_;refine ci (Dv Z) ?_;refine cc (ih d L (hs.arg d L) e) ?_;apply z;clear z K)
   refine sR Qr ?_;refine A0.cond rfl (λE=>?_) (λE=>?_)
   .refine sR Qr ?_;rw[A9 (by simpa using E)]at I;rw[<-I];exact aR
   rw[A6 (by simpa using E)]at I;refine A0.kk (u2 _ _ ?_);clear u2 W;refine lT Qr ?_;exact⟨(),⟨by omega,I⟩,sS,sB⟩
  .refine Fi U V Qr ?_;refine A0.ss rfl ?_;simp only[A4,Ab,Ae];exact O j _ _ sS sB (by omega) hj (.inr (by omega)) I
def A9b(t u:Ty)(hs:t.Lm):Ac prog 40 [B6 t,B6 u] (Ay (Jr t u)):=by unfold Jr;refine cB func40 ?_;refine sR [0,1,2,3,4] ?_;refine sC (D8h t hs u) [0,1,2,3,4] ?_;exact aR
def C2v(t u:Ty)(hs:t.Sm):Ac prog 40 [B6 t,B6 u] (Ay (Jr t u)):=A9b t u hs.lm
abbrev exS(e:Ex):List SV:=[.d (.int .i64 e.kind),.d (.str e.name),.d (.str e.type.name),.d (.slice (Au e.type.args)),.d (.int .i64 e.type.pos),.d (.slice (Au e.targs)),.d (.slice (Ew e.kids)),.d (.int .i64 e.pos)]
def Sy:List Ty->List Ty->Bool
 |[],[]=>true
 |x::xs,y::ys=>Jr x y && Sy xs ys
 |_,_=>false
def E0w:∀{l m:List Ty},Sy l m=true->l.length=m.length
 |[],[],_=>rfl
 |x::xs,y::ys,h=>by simp only[Sy,Bc]at h;simp[E0w h.2]
 |[],_::_,h=>by simp[Sy]at h
 |_::_,[],h=>by simp[Sy]at h
mutual
def B3w:Ex->Ex->Bool
 |.mk k n t a ks _,u=>decide (k=u.kind) && decide (n=u.name) && Jr t u.type && Sy a u.targs && Tk ks u.kids
def Tk:List Ex->List Ex->Bool
 |[],[]=>true
 |x::xs,y::ys=>B3w x y && Tk xs ys
 |_,_=>false
end
def H1s(e u:Ex):B3w e u=(decide (e.kind=u.kind) && decide (e.name=u.name) && Jr e.type u.type && Sy e.targs u.targs && Tk e.kids u.kids):=by cases e with|mk k n t a ks p=>rw[B3w];rfl
def D8w:∀{l m:List Ex},Tk l m=true->l.length=m.length
 |[],[],_=>rfl
 |x::xs,y::ys,h=>by rw[Tk,Bc]at h;simp[D8w h.2]
 |[],_::_,h=>by simp[Tk]at h
 |_::_,[],h=>by simp[Tk]at h
def A3r{α:Type}{l:List α}{j:Nat}(h:j<l.length):∃e,l[j]?=some e/\l.drop j=e::l.drop (j+1):=⟨l[j],B8 h,Ge h⟩
abbrev Zb:List Nat:=[0,1,4,5,10,14,26]
def E9f(l m:List Ty)(hl:l.length<=sm)(hs:∀t,t∈l->t.Lm):Ac prog 176 [Cd l,Cd m] (Ay (Sy l m)):=by
 refine cB func176 ?_;refine sR Zb ?_;refine kR Zb λV u1=>?_;refine A0.Pk rfl u1 (λE=>?_) (λE=>?_)
 .refine sR Zb ?_;have:Sy l m=false:=by
   cases h:Sy l m with
   |false=>rfl
   |true=>have:=E0w h;simp[this]at E
  rw[this];exact aR
 clear u1 V;have M:l.length=m.length:=by
  have:(l.length:Int)=m.length:=by simpa using E
  omega
 refine kR Zb λV u1=>?_;refine A0.bb (A0.ii l (X:=Unit) (λj _=>[(0,Cd l),(1,Cd m),(5,A8 j)]) (λ_ _=>[])
  (λj _=>Sy (l.drop j) (m.drop j)=Sy l m) () (by simp) sS sB ?_ ?_)
 .intro _ I;refine Ai B3 Zb λL u2=>?_;refine A0.ss rfl ?_;simp only[A4,Ab,Ae];refine u1 _ _<|sR Zb ?_;rw[De,M,De]at I;rw[<-I];exact aR
 .intro j _ d W J dp tk O I;obtain⟨e,Z,U⟩:=A3r (l:=m) (j:=j) (by omega);rw[dp,U,Sy]at I;refine Ai O Zb λL u2=>?_;refine gI u2 ?_;clear u2 L;refine sK λL u2=>A0.bb ?_
  (refine sG Zb [] 8 [] λK z=>?_;refine ev ?_;refine ci (Dv W) ?_;refine ci (Dv Z) ?_;refine cc (A9b d e (hs d J)) ?_;apply z;clear z K)
  refine A0.cond rfl (λE=>?_) (λE=>?_)
  .refine sR Zb ?_;simp only[M1]at E;rw[E,C9]at I;rw[<-I];exact aR
  simp only[S5]at E;rw[E,Cr]at I;refine A0.kk (u2 _ _ ?_);clear u2 L;refine lT Zb ?_;exact⟨(),I,sS,sB⟩
inductive Ex.Lm:Ex->Prop where
 |mk (k:Int) (n:A3) (t:Ty) (a:List Ty) (ks:List Ex) (p:Int):t.Lm->a.length<=sm->(∀t,t∈a->t.Lm)->ks.length<=sm->(∀e,e∈ks->Ex.Lm e)->Ex.Lm (.mk k n t a ks p)
def Ex.Lm.type{e:Ex}(h:e.Lm):e.type.Lm:=by cases h;assumption
def Ex.Lm.targs{e:Ex}(h:e.Lm):e.targs.length<=sm/\∀t,t∈e.targs->t.Lm:=by cases h;exact⟨by assumption,by assumption⟩
def Ex.Lm.kids{e:Ex}(h:e.Lm):e.kids.length<=sm/\∀t,t∈e.kids->t.Lm:=by cases h;exact⟨by assumption,by assumption⟩
def Ex.Sm.lm:∀{e:Ex},e.Sm->e.Lm:=by
 intro e
 induction e using Ex.induct with
 |h e I =>
 intro h;obtain⟨k,n,t,a,ks,p⟩:=e;exact .mk k n t a ks p h.type.lm h.targs.1 (λu E=>(h.targs.2 u E).lm) h.kids.1 λu E=>I u E (h.kids.2 u E)
abbrev Pc:List Nat:=[0,1,2,3,4,5,42,47,61]
def G8k:∀(a:Ex),a.Lm->∀b:Ex,Ac prog 116 [D0 a,D0 b] (Ay (B3w a b)):=by
 intro a
 induction a using Ex.induct with
 |h a ih =>
 intro hs b;have a1:=hs.kids.1;have L:=E9f a.targs b.targs hs.targs.1 hs.targs.2;have I:=A9b a.type b.type hs.type;rw[H1s];refine cB func116 ?_;refine sR Pc<|sK λK1 u1=>?_;by_cases E:a.kind=b.kind
 .by_cases J:a.name=b.name
  .rcases Fb (Jr a.type b.type)with h3|h3
   .rw[h3]at I;rcases Fb (Sy a.targs b.targs)with h4|h4
    .rw[h4]at L
     (refine sQ Pc λK z=>?_;refine Gv E J ?_;refine cc I ?_;refine cc L ?_;apply z;clear z K)
     refine A0.Pk rfl u1 (λM=>?_) (λM=>?_)
     .refine sR Pc ?_;have:Tk a.kids b.kids=false:=by
       cases h:Tk a.kids b.kids with
       |false=>rfl
       |true=>have:=D8w h;simp[this]at M
      rw[this,Wx];exact aR
     clear u1 K1;simp only[E,J,h3,h4,X0,Cr];have W:a.kids.length=b.kids.length:=by
      have:(a.kids.length:Int)=b.kids.length:=by simpa using M
      omega
     refine kR Pc λK1 u1=>?_;refine A0.bb (A0.ii a.kids (X:=Unit) (λj _=>[(2,.box 2 0),(3,.box 3 0),(5,A8 j)]) (λ_ _=>[(2,.cells (exS a)),(3,.cells (exS b))])
      (λj _=>Tk (a.kids.drop j) (b.kids.drop j)=Tk a.kids b.kids) () (by simp) sS (by simp[ble,A7,E,J]) ?_ ?_)
     .intro _ O;refine Ai B3 Pc λV u2=>?_;refine A0.ss rfl ?_;simp only[A4,Ab,Ae];refine u1 _ _<|sR Pc ?_;rw[De,W,De]at O;rw[<-O,Tk];exact aR
     .intro j _ d hd U dp tk Z O;obtain⟨e,he,a0⟩:=A3r (l:=b.kids) (j:=j) (by omega);rw[dp,a0,Tk]at O;refine Ai Z Pc λV u2=>?_;refine gI u2 ?_;clear u2 V;refine sK λV u2=>A0.bb ?_
      (refine sG Pc [] 10 [] λK z=>?_;refine ev ?_;refine ci (Dn hd) ?_;refine ci (Dn he) ?_;refine cc (ih d U (hs.kids.2 d U) e) ?_;apply z;clear z K)
      refine A0.cond rfl (λM=>?_) (λM=>?_)
      .refine sR Pc ?_;simp only[M1]at M;rw[M,C9]at O;rw[<-O];exact aR
      simp only[S5]at M;rw[M,Cr]at O;refine A0.kk (u2 _ _ ?_);clear u2 V;refine lT Pc ?_;exact⟨(),O,sS,sB⟩
    .rw[h4]at L
     (refine sQ Pc λK z=>?_;refine Gv E J ?_;refine cc I ?_;refine cc L ?_;apply z;clear z K)
     refine tI ?_;refine sR Pc ?_;simp only[E,J,h3,h4,X0,Cr,C9];exact aR
   .rw[h3]at I
    (refine sQ Pc λK z=>?_;refine Gv E J ?_;refine cc I ?_;apply z;clear z K)
    refine tI ?_;refine sR Pc ?_;simp only[E,J,h3,X0,Cr,C9];exact aR
  .refine Fi E J Pc ?_;refine tI ?_;refine sR Pc ?_;simp only[E,J,X0,Ar8,Cr,C9];exact aR
 .refine Aq E Pc ?_;refine tI ?_;refine sR Pc ?_;simp only[E,Ar8,C9];exact aR
def Ez(env:List Am)(t:Ty):Int:=if t.args.length=0 then Dq (λf=>decide (f.name=t.name)) env else -1
abbrev Y5:List Nat:=[0,1,3,4,5,15,25]
def A8y(env:List Am)(t:Ty)(hl:env.length<=sm):Ac prog 128 [.d (.slice (Ar env)),B6 t] (A8 (Ez env t)):=by
 unfold Ez;refine cB func128 ?_;refine sR Y5 ?_;refine kR Y5 λK1 u1=>?_;have E:∀sl bx,(if t.args.length=0 then Dq (λf=>decide (f.name=t.name)) env else -1) = -1->K1 sl bx:=by intro sl bx h;refine u1 _ _<|sR Y5 ?_;rw[h];exact aR
 by_cases M:t.args.length=0
 .have I:(t.args.length:Int)=0:=by omega
  refine A0.bb (A0.ii env (X:=Unit) (λj _=>[(0,.d (.slice (Ar env))),(3,.box 3 0),(5,A8 j)]) (λ_ _=>[(3,.cells [.d (.str t.name),Cd t.args,A8 t.pos])])
   (λj _=>∀y,y∈env.take j->(λf:Am=>decide (f.name=t.name)) y=false) () (by simp) sS sB ?_ ?_)
  .intro _ J;refine Ai B3 Y5 λL u2=>?_;refine A0.ss rfl ?_;simp only[A4,Ab,Ae];rw[Dm]at J;exact E _ _ (by rw[A9 M,Tn J])
  .intro j _ d O W dp tk V J;refine Sv V I Y5 λL u2=>?_;refine gI u2 ?_;clear u2 L;refine sK λL u2=>A0.bb ?_
   (refine sG Y5 [] 7 [] λK z=>?_;refine ev ?_;refine ci (F5 O) ?_;apply z;clear z K)
   refine A0.cond rfl (λU=>?_) (λU=>?_)
   .refine sR Y5 ?_;rw[A9 M,Tt O U J];exact aR
   refine A0.kk (u2 _ _ ?_);clear u2 L;refine lT Y5 ?_;refine⟨(),?_,sS,sB⟩;rw[tk];intro y hy;rcases D2.1 hy with hy|hy
   .exact J y hy
   .simp only[Aw,Ej,Eh]at hy;rw[hy];exact U
 .have I:¬(t.args.length:Int)=0:=by omega
  refine A0.bb (A0.ii ([]:List Nat) (X:=Unit) (λj _=>[(0,.d (.slice (Ar env))),(3,.box 3 0),(5,A8 0)]) (λ_ _=>[(3,.cells [.d (.str t.name),Cd t.args,A8 t.pos])])
   (λj _=>True) () trivial sS sB ?_ ?_)
  .intro _ J;refine sK λL u2=>?_;by_cases Z:(0:Int)<(env.length:Int)
   .refine Fi I Z Y5 ?_;refine A0.ss rfl ?_;simp only[A4,Ab,Ae];exact E _ _ (by rw[A6 M])
   .refine Aq Z Y5 ?_;refine A0.ss rfl ?_;simp only[A4,Ab,Ae];exact E _ _ (by rw[A6 M])
  .intro j _ d O;simp at O
def E7z(t:Ty)(x:Am):Ac prog 225 [Se x,.Ah (Be t) 0] (Ay (decide (x.name=t.name))):=by refine cB func225 ?_;refine sR [0,1,2,3] ?_;refine sR [0,1,2,3] ?_;exact aR
def Cm(env:List Am)(t:Ty):Option Ty:=if Ez env t<0 then none else(env[(Ez env t).toNat]?).map (·.bound)
def Zw:Option Ty->SV
 |some b=>.tuple [B6 b,Ay true]
 |none=>.tuple [B6 (.mk [] [] 0),Ay false]
def A6b{env:List Am}{t:Ty}(h:¬Ez env t<0):∃f,env[(Ez env t).toNat]?=some f/\(Ez env t).toNat<env.length/\t.args.length=0:=by
 unfold Ez Dq at h |-;by_cases E:t.args.length=0
 .simp only[A9 E]at h |-;cases I:env.findIdx? (λf=>decide (f.name=t.name))with
  |none=>rw[I]at h;simp at h
  |some i =>have:=(Ai3.1 I).1;simp only[Hs];exact⟨env[i],B8 this,this,E⟩
 .simp only[A6 E]at h;omega
abbrev A4g:List Nat:=[0,1,3,4,5,6,7,19]
def B9k(env:List Am)(t:Ty)(hl:env.length<=sm)(hs:∀f,f∈env->f.Sm):Ac prog 152 [.d (.slice (Ar env)),B6 t] (Zw (Cm env t)):=by
 have U:=F6t 225 [.Ah (Be t) 0] (λx=>rfl) (λf=>decide (f.name=t.name)) env hl (λx _=>E7z t x);unfold Cm;have I:=A6b (env:=env) (t:=t);have V:t.args.length=0->Ez env t=Dq (λf=>decide (f.name=t.name)) env:=λh=>by unfold Ez;rw[A9 h]
 have L:¬t.args.length=0->Ez env t = -1:=λh=>by unfold Ez;rw[A6 h]
 generalize Ez env t=i at*;generalize Dq (λf:Am=>decide (f.name=t.name)) env=i' at*;refine cB func152 ?_;refine sR A4g ?_;refine sR A4g ?_;refine A0.zz 3 rfl rfl<|A0.ww (sl':=[(0,.d (.slice (Ar env))),(3,.Ah (Be t) 0),(4,.box 4 0),(6,.B0 225 [.Ah (Be t) 0])]) (bx':=[(4,.cells [.d (.str []),.d .nil,.d (.int .i64 0)])])
  (by simp[Mk,SV.sub,SV.La,sle,Ax,Ag,Be]) (by simp[Lk,Ap.sub,SV.La,SV.sub,ble,A7,Ca]) ?_
 refine sC U A4g<|sK λK1 u1=>?_;by_cases Z:t.args.length=0
 .obtain rfl:=V Z;have E:¬(0:Int)<(t.args.length:Int):=by omega
  refine Aq E A4g ?_;refine A0.Pk rfl u1 (λW=>?_) (λW=>?_)
  .refine sR A4g ?_;rw[A9 (by simpa using W)];exact aR
  clear u1 K1;have J:¬i<0:=by simpa using W
  obtain⟨f,O,a0,_⟩:=I J;have M:=Br O;rw[A6 J,O];have h0:0<=i:=by omega
  (refine sV A4g λK z=>?_;refine ci (F5 O) ?_;refine cc (We f.bound (hs f M).bound) ?_;apply z;clear z K)
  exact aR
 .have E:(0:Int)<(t.args.length:Int):=by omega
  rw[L Z];refine Aq E A4g ?_;refine tI ?_;refine sR A4g ?_;exact aR
def G2(p:Prog)(E:A3):Option Decl:=p.decls.find? (λd=>d.Jx E)
def Ey(p:Prog)(E:A3):List Am:=match G2 p E with
 |some d=>d.A1
 |none=>[]
abbrev q1C:List Nat:=[0,1,2,4,5,10]
def B8y(p:Prog)(E:A3):Ac prog 58 [D7 p,D9 E] (.d (.slice (Ar (Ey p E)))):=by
 refine Bj.bd (Enters.of func58 rfl (by decide)) λO=>?_;have M:=B3s O.1;have hl:=M.decls.1;refine cB func58 ?_;refine sR q1C ?_;refine sC (A8u p E) q1C<|sK λZ u1=>?_;rcases A9g E p.decls 0 with⟨I,L⟩|⟨k,d,I,L,V⟩
 .rw[I];have J:Ey p E=[]:=by simp[Ey,G2,L]
  refine sR q1C ?_;refine tI ?_;refine sR q1C ?_;rw[J];exact aR
 .rw[L];have J:Ey p E=d.A1:=by simp[Ey,G2,V]
  have U:¬((0+k:Nat):Int)<0:=by omega
  have W:((0+k:Nat):Int).toNat=k:=by omega
  refine sR q1C ?_;refine kI u1 ?_;clear u1 Z
  (refine sV q1C λK z=>?_;refine ci (Ev I) ?_;apply z;clear z K)
  rw[J];exact aR
def Ch(p:Prog)(x:Ty)(k:Int):Bool:=decide (kindOf p x.name=k) && decide ((Ey p x.name).length=x.args.length)
def A5q(p:Prog)(x:Ty)(k:Int):Ac prog 21 [D7 p,B6 x,A8 k] (Ay (Ch p x k)):=by
 unfold Ch;have J:=B8y p x.name;have I:=B0m p x.name;generalize kindOf p x.name=k' at*;generalize Ey p x.name=l at*;refine cB func21 ?_;refine sR [0,1,2,3,4,6] ?_;by_cases E:k'=k
 .have L:((l.length:Int)=(x.args.length:Int))↔l.length=x.args.length:=by omega
  (refine sG [0,1,2,3,4,6] [] 15 [] λK z=>?_;refine ev ?_;refine⟨_,.inl ⟨_,rfl,I,rfl⟩,?_⟩;(try refine As E ?_);refine cc J ?_;apply z;clear z K)
  simp only[E,L,X0,Cr];exact aR
 ·(refine sG [0,1,2,3,4,6] [] 15 [] λK z=>?_;refine ev ?_;refine⟨_,.inl ⟨_,rfl,I,rfl⟩,?_⟩;(try refine As E ?_);apply z;clear z K)
  simp only[E,Ar8,C9];exact aR
mutual
def isVal:Ex->Bool
 |.mk k _ _ _ ks _=>D1f ks && decide (k=3)
def D1f:List Ex->Bool
 |[]=>true
 |e::es=>isVal e && D1f es
end
abbrev q2C:List Nat:=[0,1,4,5,9,18]
def C6p(l:List A5)(m:A3)(W:l.length<=sm):Ac prog 76 [.d (.slice (C1 l)),D9 m] (A8 (Dq (λs=>decide (s.name=m)) l)):=by
 refine cB func76 ?_;refine sR q2C ?_;refine kR q2C λV u1=>?_;refine A0.bb (A0.ii l (X:=Unit) (λj _=>[(0,.d (.slice (C1 l))),(1,D9 m),(5,A8 j)]) (λ_ _=>[])
  (λj _=>∀y,y∈l.take j->(λs:A5=>decide (s.name=m)) y=false) () (by simp) sS sB ?_ ?_)
 .intro _ E;rw[Dm]at E;refine Ai B3 q2C λI u2=>?_;refine A0.ss rfl ?_;simp only[A4,Ab,Ae];refine u1 _ _<|sR q2C ?_;rw[Tn E];exact aR
 .intro j _ d M O Z U L E;refine Ai L q2C λI u2=>?_;refine gI u2 ?_;clear u2 I;refine sK λI u2=>A0.bb ?_
  (refine sV q2C λK z=>?_;refine ci (F6 M) ?_;apply z;clear z K)
  refine A0.cond rfl (λJ=>?_) (λJ=>?_)
  .refine sR q2C ?_;rw[Tt M J E];exact aR
  refine A0.kk (u2 _ _ ?_);clear u2 I;refine lT q2C ?_;refine⟨(),?_,sS,sB⟩;rw[U];intro y hy;rcases D2.1 hy with hy|hy
  .exact E y hy
  .simp only[Aw,Ej,Eh]at hy;rw[hy];exact J
def Inv.G5o{C:Ctx}{S:Nat->Prop}{w:World}{β:Names}{bx:Aa}{b:Nat}{cs cs':List SV}(h:Inv C S w β bx)(hb:(b,Ap.cells cs)∈bx)(hr:∀vs,Bv S w β cs vs->Bv S w β cs' vs) :
  Inv C S w β ((b,.cells cs')::Ca b bx):=by
 have E:∀k c,(k,c)∈(b,Ap.cells cs')::Ca b bx->(k=b/\c=.cells cs')\/(k≠b/\(k,c)∈bx):=by
  intro k c hk;rcases Aw.1 hk with he|hk
  .simp only[Eo]at he;exact .inl he
  .exact .inr (E3.1 hk)
 exact{ h with
  box:=λk c hk=>by
   rcases E k c hk with⟨rfl,rfl⟩|⟨_,hk⟩
   .obtain⟨M,ty,vs,U,Z,h3⟩:=h.box _ _ hb;exact⟨M,ty,vs,U,Z,hr vs h3⟩
   .exact h.box k c hk
  B7:=λk c hk=>by
   rcases E k c hk with⟨rfl,rfl⟩|⟨_,hk⟩
   .exact h.B7 _ _ hb
   .exact h.B7 k c hk
  inj:=λk c L W hk I M U Z=>by
   rcases E k c hk with⟨e1,e2⟩|⟨hn,hm⟩ <;> rcases E L W I with⟨e3,e4⟩|⟨a0,J⟩
   .rw[e1,e2,e3,e4];exact⟨rfl,rfl⟩
   .rw[e1]at U;exact absurd (h.inj _ _ _ _ hb J M U Z).1.symm a0
   .rw[e3]at Z;exact absurd (h.inj _ _ _ _ hm hb M U Z).1 hn
   .exact h.inj _ _ _ _ hm J M U Z
  one:=λk Y st L Y' st' hk I=>by
   rcases E _ _ hk with⟨_,e2⟩|⟨_,hm⟩
   .cases e2
   .rcases E _ _ I with⟨_,e4⟩|⟨_,J⟩
    .cases e4
    .exact h.one _ _ _ _ _ _ hm J
  Fm:=λk Y st hk=>by
   rcases E _ _ hk with⟨_,e2⟩|⟨_,hm⟩
   .cases e2
   .have V:∀L W,(L,W)∈(b,Ap.cells cs')::Ca b bx->∃y,(L,y)∈bx:=λL W I=>by
     rcases E _ _ I with⟨rfl,_⟩|⟨_,J⟩
     .exact⟨_,hb⟩
     .exact⟨_,J⟩
    obtain⟨U,Z,h3,h4,B,h5,h6⟩:=h.Fm k Y st hm;exact⟨U,Z,h3,λL W I=>(V L W I).elim λy hy=>h4 L y hy,B,h5,λM O=>⟨(h6 M O).1,(h6 M O).2.1,(h6 M O).2.2.1,λL W I=>(V L W I).elim λy hy=>(h6 M O).2.2.2 L y hy⟩⟩ }
def A0.U7{ro:Option Nat}{P:Program}{n:Nat}{Q:Exit->SL->Aa->Prop}{sl:SL}{bx:Aa}{c:Code}(k sz b i:Nat){cs:List SV}(V:A7 bx b=some (.cells cs))(hi:cs[i]?=some (.d .nil))(I:b≠k)
  (h:A0 ro P n c Q (Wq k sl) ((b,.cells ((cs.map (Nf k)).set i (.acc k)))::Ca b ((k,.rows sz [])::Gw k (Ca k bx))))(J:k<=999999:=by decide):A0 ro P n c Q sl bx:=by
 intro C S w β a hs;obtain⟨U,Z⟩:=hs.inv.W1 (k:=k) (w':=w) (c:=.rows sz []) { base:=none,sz:=sz } J (by simp) (λ_ _ _=>rfl) rfl rfl rfl (Bi _) (λ_=>C1k);have E:(b,Ap.cells (cs.map (Nf k)))∈(k,Ap.rows sz [])::Gw k (Ca k bx):=by
  refine Wf _ ?_;have:∀{l:Aa} {x:Ap},(b,x)∈l->(b,x.Sz k)∈Gw k l:=by
   intro l
   induction l with
   |nil=>intro x hx;simp at hx
   |cons p l ih =>
    intro x hx;obtain⟨q,y⟩:=p;rcases Aw.1 hx with M|hx
    .simp only[Eo]at M;obtain⟨rfl,rfl⟩:=M;exact As2 ..
    .exact Wf _ (ih hx)
  exact this (E3.2 ⟨I,F8 V⟩)
 have W:=U.G5o (cs':=(cs.map (Nf k)).set i (.acc k)) E (by
  intro vs hr;refine⟨by simpa using hr.1,?_⟩;intro j x v hx O;rw[Ao8]at hx;split at hx
  .rename_i L;subst L;split at hx
   .simp only[B4]at hx;subst hx;have:=hr.2 i (.d .nil) v (by simp[hi,Nf,SV.has]) O;cases this with
    |d _ _ hq =>cases hq;have:=Ak.acc (S:=S) (w:=w) (β:=Eg β k { base:=none,sz:=sz }) k;rw[H2]at this;exact this
   .simp at hx
  .exact hr.2 j x v hx O)
 refine h C S w _ a ⟨W,hs.size,hs.defers,?_⟩;intro u;rw[A9r];exact(hs.slot u).Sz Z
abbrev Mo:List Nat:=[0,1,2,3,6,7,8,9,10,20,29,33,53,67]
def D2q(vars:List A3)(args:List Ty)(hC:∀(i:Nat)(u:Ty),args[i]?=some u->Ac prog 60 [B6 u,Cy [],Cd []] (B6 u)):∀t:Ty,t.Sm->Ac prog 60 [B6 t,Cy vars,Cd args] (B6 (t.subst vars args)):=by
 intro t
 induction t using Ty.induct with
 |h t ih =>
 intro Z;have a4:=Z.len;refine Bj.bd (Enters.of func60 rfl (by decide)) λa3=>?_;have hv:=(B4y a3.2.1).1;have E:=Xj vars args t;refine cB func60 ?_;refine sR Mo ?_;refine kR Mo λK1 u1=>?_;have M:(t.args.length=0/\0<=Dc t.name vars 0/\Dc t.name vars 0<args.length)=False->∀sl bx,sle sl [(1,Cy vars),(2,Cd args),(3,.box 3 0),(6,.box 6 0)] ->
   ble bx [(3,.cells [.d (.str t.name),Cd t.args,A8 t.pos]),(6,.cells [.d (.str []),.d .nil,.d (.int .i64 0)])]->K1 sl bx:=by
  intro hc sl bx h1 h2;refine u1 _ _ (A0.ww h1 h2 ?_);clear u1 K1;rw[A6 (by rw[hc];exact id)]at E;refine sR Mo ?_;refine A0.U7 67 3 9 1 rfl rfl (by decide)<|kR Mo λK1 u1=>?_;refine A0.bb (A0.ii t.args (X:=Unit) (λj _=>[(1,Cy vars),(2,Cd args),(3,.box 3 0),(6,.box 6 0),(9,.box 9 0),(10,A8 j)])
   (λj _=>[(3,.cells [.d (.str t.name),Cd t.args,A8 t.pos]),(6,.cells [.d (.str []),.d .nil,.d (.int .i64 0)]),(9,.cells [.d (.str t.name),.acc 67,A8 t.pos]),(67,.rows 3 (Au ((t.args.take j).map (Ty.subst vars args))))])
   (λj _=>True) () trivial sS (by simp[ble,A7,Cz]) ?_ ?_)
  .intro _ _;rw[Dm];refine Ai B3 Mo λJ u2=>?_;refine A0.ss rfl ?_;simp only[A4,Ab,Ae];refine u1 _ _<|sR Mo ?_;rw[E];exact aR
  .intro j _ d W I dp tk V _;rw[tk];refine Ai V Mo λJ u2=>?_;refine gI u2 ?_;clear u2 J;refine sK λJ u2=>A0.bb ?_
   (refine lG Mo [] 11 [] λK z=>?_;refine ev ?_;refine ci (Dv W) ?_;refine cc (ih d I (Z.arg d I)) ?_;refine⟨by simp,by simp only[Bn,Dx];unfold lim sm at*;omega,?_⟩;(try refine ev ?_);apply z;clear z K;try simp only[A4,Ab])
   refine u2 _ _ ?_;clear u2 J
   (refine lV Mo λK z=>?_;refine cl ?_;apply z;clear z K;try simp only[A4,])
   exact⟨(),trivial,sS,by simp[ble,A7,Cz,Be]⟩
 by_cases ha:t.args.length=0
 .have O:(t.args.length:Int)=0:=by omega
  refine A0.bb (A0.ii vars (X:=Unit) (λj _=>[(1,Cy vars),(2,Cd args),(3,.box 3 0),(6,.box 6 0),(7,A8 j)])
   (λ_ _=>[(3,.cells [.d (.str t.name),Cd t.args,A8 t.pos]),(6,.cells [.d (.str []),.d .nil,.d (.int .i64 0)])])
   (λj _=>Dc t.name (vars.drop j) j=Dc t.name vars 0) () rfl sS sB ?_ ?_)
  .intro _ L;refine Ai B3 Mo λJ u2=>?_;refine A0.ss rfl ?_;simp only[A4,Ab,Ae];rw[De,Dc]at L;exact M (by rw[<-L];simp) _ _ sS sB
  .intro j _ d W I dp tk V L;rw[dp,Dc]at L;refine Sv V O Mo λJ u2=>?_;refine gI u2 ?_;clear u2 J;refine sK λJ u2=>A0.bb ?_
   (refine sG Mo [] 6 [] λK z=>?_;refine ev ?_;refine ci (Ku W) ?_;apply z;clear z K)
   refine A0.cond rfl (λhc=>?_) (λhc=>?_)
   .have hn:d=t.name:=by simpa using hc
    rw[A9 hn.symm]at L;rw[<-L]at E;have e0:(0:Int)<=(j:Int):=by omega
    refine kR Mo λK3 u3=>?_;refine A0.Pk rfl u3 (λU=>?_) (λU=>?_)
    .have a2:¬(j:Int)<(args.length:Int):=by
      have:=U;simp only[Da]at this;omega
     rw[A6 (λh=>a2 h.2.2),Pa ha]at E;refine sR Mo ?_;rw[E,show t.args=[] from Pa ha];exact aR
    clear u3 K3;have a1:(j:Int)<(args.length:Int):=by have:=U;simp only[Rw]at this;omega
    rw[A9 ⟨ha,e0,a1⟩]at E;have hx:args[j]?=some args[j]:=B8 (by omega);rw[Hs,hx,E1]at E;generalize args[j]=u at*
    (refine sV Mo λK z=>?_;refine ci (Dv hx) ?_;refine cc (hC _ u hx) ?_;apply z;clear z K)
    refine sR Mo ?_;refine sR Mo ?_;rw[E];exact aR
   .have hn:¬d=t.name:=by simpa using hc
    rw[A6 (λh=>hn h.symm)]at L;refine A0.kk (u2 _ _ ?_);clear u2 J
    (refine lV Mo λK z=>?_;refine cl ?_;apply z;clear z K;try simp only[A4,])
    exact⟨(),L,sS,sB⟩
 .have O:¬(t.args.length:Int)=0:=by omega
  have a0:(t.args.length=0/\0<=Dc t.name vars 0/\Dc t.name vars 0<args.length)=False:=by simp[ha]
  refine A0.bb (A0.ii ([]:List Nat) (X:=Unit) (λj _=>[(1,Cy vars),(2,Cd args),(3,.box 3 0),(6,.box 6 0),(7,A8 0)])
   (λ_ _=>[(3,.cells [.d (.str t.name),Cd t.args,A8 t.pos]),(6,.cells [.d (.str []),.d .nil,.d (.int .i64 0)])])
   (λj _=>True) () trivial sS sB ?_ ?_)
  .intro _ _;refine sK λJ u2=>?_;by_cases he:(0:Int)<(vars.length:Int)
   .refine Fi O he Mo ?_;refine A0.ss rfl ?_;simp only[A4,Ab,Ae];exact M a0 _ _ sS sB
   .refine Aq he Mo ?_;refine A0.ss rfl ?_;simp only[A4,Ab,Ae];exact M a0 _ _ sS sB
  .intro j _ d W;simp at W
def G8h(t:Ty)(h:t.Sm):Ac prog 60 [B6 t,Cy [],Cd []] (B6 t):=by have:=D2q [] [] (by simp) t h;rw[A7i]at this;exact this
def Vy(vars:List A3)(args:List Ty)(E:∀u,u∈args->u.Sm)(t:Ty)(h:t.Sm):Ac prog 60 [B6 t,Cy vars,Cd args] (B6 (t.subst vars args)) :=
 D2q vars args (λi u I=>G8h u (E u (Br I))) t h
end Go.Abs
