/- several texts in one -/
import Derived.Test.YtieakoebgfiniaaGreatDoorZFB
set_option linter.all false
set_option maxHeartbeats 1000000
set_option maxRecDepth 100000
namespace Go.Abs
open Go Go.Proofs Tryz
def Dr{α:Type}(p:α->Bool)(l:List α):Int:=match l.findIdx? p with
 |some i=>i
 |none=>-1
theorem Tg{α:Type}{p:α->Bool}{l:List α}(h:∀x,x∈l->p x=false):Dr p l = -1:=by unfold Dr;rw[Ao1.2 h]
def Tt{α:Type}{p:α->Bool}{l:List α}{j:Nat}{x:α}(I:l[j]?=some x)(J:p x=true)(h:∀y,y∈l.take j->p y=false):Dr p l=j:=by
 unfold Dr;have:l.findIdx? p=some j:=by rw[Ah1];obtain⟨E,L⟩:=Az.1 I;refine⟨E,by rw[L];exact J,?_⟩;intro i O;have:=h l[i] (List.mem_take_iff_getElem.2 ⟨i,by omega,by simp⟩);simpa using this
 rw[this]
abbrev Z0:List Nat:=[0,1,4,5,7,8,9,16]
def F7r(f:FuncId)(caps:List SV)(O:∀x:Ah,G7 [] (S8 x::caps)=some (S8 x::caps))(p:Ah->Bool)(l:List Ah)(W:l.length<=sm)(hs:∀t,t∈l->Aa prog f (S8 t::caps) (.d (.bool (p t)))) :
  Aa prog 172 [.d (.slice (Ag l)),.Bf f caps] (A5 (Dr p l)):=by
 refine cB func172 ?_;refine sR Z0 ?_;refine kR Z0 λZ u1=>?_;refine A0.bb (A0.ii l (X:=Unit) (λj _=>[(0,.d (.slice (Ag l))),(1,.Bf f caps),(7,A5 l.length),(8,A5 j)]) (λ_ _=>[])
  (λj _=>∀y,y∈l.take j->p y=false) () (by simp) sS sB ?_ ?_)
 .intro _ E;rw[Ci]at E;refine Ak B3 Z0 ?_;refine A0.stop rfl ?_;simp only[A4,Ac,Af];refine u1 _ _<|sR Z0 ?_;rw[Tg E];exact aR
 .intro j _ d hd I V tk J E;refine Ak J Z0 ?_;refine A0.Er rfl<|sK λU u2=>A0.bb<|sR Z0 ?_
  (refine sV Z0 λK z=>?_;refine ci (F4 hd) ?_;refine⟨_,.inl ⟨_,O d,hs d I,rfl⟩,?_⟩;(try refine ev ?_);apply z;clear z K)
  refine A0.cond rfl (λL=>?_) (λL=>?_)
  .refine sR Z0 ?_;rw[Tt hd L E];exact aR
  .refine A0.kk (u2 _ _ ?_);clear u2 U;refine lT Z0 ?_;refine⟨(),?_,sS,sB⟩;rw[tk];intro y hy;rcases Bz.1 hy with hy|hy
   .exact E y hy
   .simp only[B1,E5,Ea]at hy;rw[hy];exact L
abbrev Zb:List Nat:=[0,1,4,5,7,8,9,16]
def F9s(f:FuncId)(caps:List SV)(O:∀x:A3,G7 [] (Cy x::caps)=some (Cy x::caps))(p:A3->Bool)(l:List A3)(W:l.length<=sm)(hs:∀t,t∈l->Aa prog f (Cy t::caps) (.d (.bool (p t)))) :
  Aa prog 205 [.d (.slice (B0 l)),.Bf f caps] (A5 (Dr p l)):=by
 refine cB func205 ?_;refine sR Zb ?_;refine kR Zb λZ u1=>?_;refine A0.bb (A0.ii l (X:=Unit) (λj _=>[(0,.d (.slice (B0 l))),(1,.Bf f caps),(7,A5 l.length),(8,A5 j)]) (λ_ _=>[])
  (λj _=>∀y,y∈l.take j->p y=false) () (by simp) sS sB ?_ ?_)
 .intro _ E;rw[Ci]at E;refine Ak B3 Zb ?_;refine A0.stop rfl ?_;simp only[A4,Ac,Af];refine u1 _ _<|sR Zb ?_;rw[Tg E];exact aR
 .intro j _ d hd I V tk J E;refine Ak J Zb ?_;refine A0.Er rfl<|sK λU u2=>A0.bb<|sR Zb ?_
  (refine sV Zb λK z=>?_;refine ci (D1 hd) ?_;refine⟨_,.inl ⟨_,O d,hs d I,rfl⟩,?_⟩;(try refine ev ?_);apply z;clear z K)
  refine A0.cond rfl (λL=>?_) (λL=>?_)
  .refine sR Zb ?_;rw[Tt hd L E];exact aR
  .refine A0.kk (u2 _ _ ?_);clear u2 U;refine lT Zb ?_;refine⟨(),?_,sS,sB⟩;rw[tk];intro y hy;rcases Bz.1 hy with hy|hy
   .exact E y hy
   .simp only[B1,E5,Ea]at hy;rw[hy];exact L
abbrev Yo:List Nat:=[0,2,3,5,6,7,8,9]
def C1a(l:List Ah)(U:l.length<=sm):Aa prog 176 [.d (.slice (Ag l))] (.d (.slice (Bq (l.map (·.name))))):=by
 refine cB func176 ?_;refine sR Yo ?_;refine sR Yo ?_;refine A0.pp 3 1 3 rfl<|kR Yo λV u1=>?_;refine A0.bb (A0.ii l (X:=Unit) (λj _=>[(3,.acc 3),(6,.d (.slice (Ag l))),(7,A5 l.length),(8,A5 j)]) (λj _=>[(3,.rows 1 (Bq ((l.take j).map (·.name))))])
  (λj _=>True) () trivial sS (by simp[ble,A7,Bq]) ?_ ?_)
 .intro _ L;rw[Ci];refine Ak B3 Yo ?_;refine A0.stop rfl ?_;simp only[A4,Ac,Af];refine u1 _ _<|sR Yo ?_;exact aR
 .intro j _ d hd I O tk E L;rw[tk];refine Ak E Yo ?_;refine A0.Er rfl<|sK λJ u2=>A0.bb ?_
  (refine sV Yo λK z=>?_;refine ci (F4 hd) ?_;apply z;clear z K)
  (refine lV Yo λK z=>?_;refine⟨by simp,by simp only[Bc,D4];unfold lim sm at*;omega,?_⟩;(try refine ev ?_);apply z;clear z K;try simp only[A4,Ac])
  refine u2 _ _ ?_;clear u2 J;refine lT Yo ?_;exact⟨(),trivial,sS,by simp[ble,A7,Bq]⟩
abbrev q4r:List Nat:=[0,2,3,4,8]
def R3(l:List Ah)(U:l.length<=sm):Aa prog 63 [.d (.slice (Ag l))] (.d (.slice (Bq (l.map (·.name))))):=by
 refine cB func63 ?_;refine sR q4r ?_;refine sR q4r ?_;refine A0.pp 3 1 3 rfl<|kR q4r λV u1=>?_;refine A0.bb (A0.ii l (X:=Unit) (λj _=>[(0,.d (.slice (Ag l))),(3,.acc 3),(4,A5 j)]) (λj _=>[(3,.rows 1 (Bq ((l.take j).map (·.name))))])
  (λj _=>True) () trivial sS (by simp[ble,A7,Bq]) ?_ ?_)
 .intro _ L;rw[Ci];refine Ai B3 q4r λE u2=>?_;refine A0.ss rfl ?_;simp only[A4,Ac,Af];refine u1 _ _<|sR q4r ?_;exact aR
 .intro j _ d hd J O tk I L;rw[tk];refine Ai I q4r λE u2=>?_;refine gI u2 ?_;clear u2 E;refine sK λE u2=>A0.bb ?_
  (refine lV q4r λK z=>?_;refine ci (F4 hd) ?_;refine⟨by simp,by simp only[Bc,D4];unfold lim sm at*;omega,?_⟩;(try refine ev ?_);apply z;clear z K;try simp only[A4,Ac])
  refine u2 _ _ ?_;clear u2 E;refine lT q4r ?_;exact⟨(),trivial,sS,by simp[ble,A7,Bq]⟩
def C4k:∀a b:A2,(Op.bytesLess a b=true↔Bt a b = -1)/\(Op.bytesLess b a=true↔Bt a b=1)/\(Bt a b = -1\/Bt a b=0\/Bt a b=1)
 |[],[]=>by simp[Op.bytesLess,Bt]
 |[],_::_=>by simp[Op.bytesLess,Bt]
 |_::_,[]=>by simp[Op.bytesLess,Bt]
 |x::xs,y::ys=>by
  obtain⟨O,V,W⟩:=C4k xs ys;simp only[Op.bytesLess,Bt,Vp,Bb,Dp,Vk];by_cases E:x<y
  .have L:¬y<x:=λh=>Zc x (UInt8.lt_trans E h);have I:¬y=x:=λh=>by subst h;exact Zc _ E
   simp[E,L,I]
  .by_cases J:y<x
   .have I:¬x=y:=λh=>by subst h;exact Zc _ J
    simp[E,J,I]
   .have U:x=y:=by
     rcases Ar7 x.toNat y.toNat with h|h|h
     .exact absurd (Ak0.2 h) E
     .exact UInt8.toNat_inj.1 h
     .exact absurd (Ak0.2 h) J
    subst U;simp[Zc,O,V,W]
def C5r:∀a:A2,Bt a a=0
 |[]=>rfl
 |x::xs=>by rw[Bt,A6 (Zc x),A6 (Zc x)];exact C5r xs
def Se:∀{a b:A2},Bt a b=0↔a=b
 |[],[]=>by simp[Bt]
 |[],_::_=>by simp[Bt]
 |_::_,[]=>by simp[Bt]
 |x::xs,y::ys=>by
  rw[Bt];by_cases I:x<y
  .have E:¬x=y:=λh=>by subst h;exact Zc _ I
   simp[I,E]
  .by_cases J:y<x
   .have E:¬x=y:=λh=>by subst h;exact Zc _ J
    simp[I,J,E]
   .have L:x=y:=by
     rcases Ar7 x.toNat y.toNat with h|h|h
     .exact absurd (Ak0.2 h) I
     .exact UInt8.toNat_inj.1 h
     .exact absurd (Ak0.2 h) J
    subst L;simp[Zc,Se]
def D2j(a:A2):Aa prog 267 [Bm a] (Aw false):=by refine cB func267 ?_;refine sR [0,2] ?_;refine sR [0,2] ?_;exact aR
abbrev Wu:List Nat:=[0,1,4,5,6,11,12,13,16,19]
def G6u(a b:A2):Aa prog 179 [Bm a,Bm b] (A5 (Bt a b)):=by
 obtain⟨L,O,U⟩:=C4k a b;refine cB func179 ?_;refine sR Wu ?_;refine sC (D2j a) Wu ?_;refine sC (D2j b) Wu ?_;refine kR Wu λI u1=>?_;refine kI u1 ?_;clear u1 I;refine kR Wu λI u1=>?_;refine kI u1 ?_;clear u1 I;refine kR Wu λI u1=>?_;refine A0.N2 rfl u1 (λJ=>?_) (λJ=>?_)
 .refine sR Wu ?_;rw[L.1 J];exact aR
 clear u1 I;refine kR Wu λI u1=>?_;refine A0.N2 rfl u1 (λE=>?_) (λE=>?_)
 .refine sR Wu ?_;rw[O.1 E];exact aR
 clear u1 I;refine sR Wu ?_;have:Bt a b=0:=by
  rcases U with h|h|h
  .rw[L.2 h]at J;simp at J
  .exact h
  .rw[O.2 h]at E;simp at E
 rw[this];exact aR
def F7i(a b:A2):Aa prog 103 [Bm a,Bm b] (A5 (Bt a b)):=by refine cB func103 ?_;refine sR [0,1,4] ?_;refine sC (G6u a b) [0,1,4] ?_;exact aR
abbrev X1:List Nat:=[0,2,3,5,6,7,8,9,14]
def H1q(a b:Int):Aa prog 238 [.d (.slice [[.int .i64 a],[.int .i64 b]])] (A5 (if a≠0 then a else b)):=by
 refine cB func238 ?_;refine sR X1 ?_;refine sR X1 ?_;refine kR X1 λK1 u1=>?_;refine A0.bb (A0.ii [a,b] (X:=Unit) (λj _=>[(3,A5 0),(6,.d (.slice [[.int .i64 a],[.int .i64 b]])),(7,A5 2),(8,A5 j)]) (λ_ _=>[])
  (λj _=>(1<=j->a=0)/\(2<=j->b=0)) () (by simp) sS sB ?_ ?_)
 .intro _ I;refine sR X1 ?_;refine A0.stop rfl ?_;simp only[A4,Ac,Af];refine u1 _ _<|sR X1 ?_;obtain⟨O,U⟩:=I;simp only[Bg,Ca]at O U;rw[O (by omega),U (by omega)];exact aR
 .intro j _ d hd V dp tk L I;have E:(j:Int)<2:=by simpa using L
  have W:([[.int .i64 a],[.int .i64 b]]:List (List D))[j]?=some [.int .i64 d]:=by
   match j,hd,E with
   |0,hd,_=>simp at hd;subst hd;rfl
   |1,hd,_=>simp at hd;subst hd;rfl
   |j+2,_,h=>omega
  refine Ak E X1 ?_;refine A0.Er rfl<|sK λZ u2=>A0.bb ?_
  (refine sV X1 λK z=>?_;refine ci W ?_;apply z;clear z K)
  refine sR X1 ?_;refine A0.cond rfl (λJ=>?_) (λJ=>?_)
  .refine sR X1 ?_;have hv:(if a≠0 then a else b)=d:=by
    simp only[Dp,]at J
    match j,hd,I with
    |0,hd,_=>simp at hd;subst hd;rw[A8 J]
    |1,hd,I=>simp at hd;subst hd;rw[A6 (by simp[I.1 (by omega)])]
    |j+2,hd,_=>simp at hd
   rw[hv];exact aR
  .refine A0.kk (u2 _ _ ?_);clear u2 Z
   (refine lV X1 λK z=>?_;refine cl ?_;apply z;clear z K;try simp only[A4,])
   refine⟨(),?_,sS,sB⟩;simp only[Z1,Decidable.not_not]at J
   match j,hd,I with
   |0,hd,_=>simp at hd;subst hd;exact⟨λ_=>J,by omega⟩
   |1,hd,I=>simp at hd;subst hd;exact⟨λ_=>I.1 (by omega),λ_=>J⟩
   |j+2,hd,_=>simp at hd
mutual
def E6:Ty->Ty->Int
 |.mk n a _,u=>if Bt n u.name≠0 then Bt n u.name else E8 a u.args
def E8:List Ty->List Ty->Int
 |[],[]=>0
 |[],_::_=>-1
 |_::_,[]=>1
 |x::xs,y::ys=>if E6 x y≠0 then E6 x y else E8 xs ys
end
def A1b(t u:Ty):E6 t u=if Bt t.name u.name≠0 then Bt t.name u.name else E8 t.args u.args:=by cases t with|mk n a p=>rw[E6];rfl
def Pn(t u:Ty):Bool:=decide (E6 t u=0)
abbrev Ra:List Nat:=[0,1,2,6,7,8,9,10,11,12,13,14,21,31,38]
def G5j(f:FuncId)(l m:List Ty)(hl:l.length<=sm)(hf:∀t,t∈l->∀u,Aa prog f [B7 t,B7 u] (A5 (E6 t u))) :
  Aa prog 239 [Cm l,Cm m,.Bf f []] (A5 (E8 l m)):=by
 refine cB func239 ?_;refine sR Ra ?_;refine kR Ra λW u1=>?_;refine A0.bb (A0.ii l (X:=Unit) (λj _=>[(0,Cm l),(1,Cm m),(2,.Bf f []),(11,Cm l),(12,A5 l.length),(13,A5 j)]) (λ_ _=>[])
  (λj _=>j<=m.length/\E8 (l.drop j) (m.drop j)=E8 l m) () (by simp) sS sB ?_ ?_)
 .rintro _ ⟨hj,I⟩;refine Ak B3 Ra ?_;refine A0.stop rfl ?_;simp only[A4,Ac,Af];refine u1 _ _ ?_;rw[Db]at I;clear u1 W;refine kR Ra λW u1=>?_;refine A0.N2 rfl u1 (λE=>?_) (λE=>?_)
  .refine sR Ra ?_;have:E8 l m = -1:=by
    rw[<-I];have E:l.length<m.length:=by simpa using E
    rw[Gb E,E8]
   rw[this];exact aR
  .clear u1 W;refine sR Ra ?_;have:E8 l m=0:=by
    rw[<-I];have E:m.length<=l.length:=by simpa using E
    rw[Ib E,E8]
   rw[this];exact aR
 .rintro j _ d hd L dp tk U ⟨hj,I⟩;rw[dp]at I;refine Ak U Ra ?_;refine A0.Er rfl<|sK λK2 u2=>A0.bb ?_
  (refine sV Ra λK z=>?_;refine ci (Et hd) ?_;apply z;clear z K)
  refine kR Ra λK3 Z=>?_;refine A0.N2 rfl Z (λE=>?_) (λE=>?_)
  .refine sR Ra ?_;have:E8 l m=1:=by
    rw[<-I];have E:m.length<=j:=by simpa using E
    rw[Ib E,E8]
   rw[this];exact aR
  clear Z K3;have J:j<m.length:=by simpa using E
  obtain⟨e,O⟩:∃e,m[j]?=some e:=⟨_,Bi J⟩;have V:m.drop j=e::m.drop (j+1):=by rw[Gb J];rw[Bi J]at O;simp only[B5]at O;rw[O]
  rw[V,E8]at I
  (refine sV Ra λK z=>?_;refine ci (Et O) ?_;apply z;clear z K)
  refine sC (hf d L e) Ra ?_;refine sR Ra ?_;refine A0.cond rfl (λE=>?_) (λE=>?_)
  .refine sR Ra ?_;rw[A8 (by simpa using E)]at I;rw[<-I];exact aR
  rw[A6 (by simpa using E)]at I;refine A0.kk (u2 _ _ ?_);clear u2 K2;refine lT Ra ?_;exact⟨(),⟨by omega,I⟩,sS,sB⟩
def F0h:∀(t:Ty),t.Sm->∀u:Ty,Aa prog 160 [B7 t,B7 u] (A5 (E6 t u)):=by
 intro t
 induction t using Ty.induct with
 |h t J =>
 intro hs u;rw[A1b];have E:=G5j 160 t.args u.args hs.len (λx I y=>J x I (hs.arg x I) y);refine cB func160 ?_;refine sR [0,1,2,3,4] ?_
 (refine sG [0,1,2,3,4] [] 9 [] λK z=>?_;refine ev ?_;refine cc (F7i t.name u.name) ?_;refine cc E ?_;refine cc (H1q _ _) ?_;apply z;clear z K)
 exact aR
def B8n(t u:Ty)(hs:t.Sm):Aa prog 86 [B7 t,B7 u] (Aw (Pn t u)):=by unfold Pn;refine cB func86 ?_;refine sR [0,1,2,3,4] ?_;refine sC (F0h t hs u) [0,1,2,3,4] ?_;exact aR
inductive Ty.Lm:Ty->Prop where
 |mk (n:A2) (a:List Ty) (p:Int):a.length<=sm->(∀t,t∈a->Ty.Lm t)->Ty.Lm (.mk n a p)
def Ty.Lm.len{t:Ty}(h:t.Lm):t.args.length<=sm:=by cases h;assumption
def Ty.Lm.arg{t:Ty}(h:t.Lm):∀u,u∈t.args->u.Lm:=by cases h;assumption
def Ty.Sm.lm:∀{t:Ty},t.Sm->t.Lm:=λh=>by induction h with|mk n a p _ E _ I=>exact .mk n a p E I
abbrev Pv:List Nat:=[0,1,2,3,4,5,6,11,28,43,51,58]
def D7m:∀(t:Ty),t.Lm->∀u:Ty,Aa prog 96 [B7 t,B7 u] (A5 (E6 t u)):=by
 intro t
 induction t using Ty.induct with
 |h t ih =>
 intro hs u;have a2:=hs.len;rw[A1b];refine cB func96 ?_;refine sR Pv ?_;refine kR Pv λJ u1=>?_;refine A0.N2 rfl u1 (λE=>?_) (λE=>?_)
 .refine sC (B2w t.name u.name) Pv ?_;rw[A8 (λh=>(by simpa using E:¬t.name=u.name) (Se.1 h))];exact aR
 clear u1 J;have a0:t.name=u.name:=by simpa using E
 rw[A6 (by rw[a0];simp[C5r])];refine kR Pv λJ u1=>?_;have V:∀(j:Nat) sl bx,sle sl [(2,.box 2 0),(3,.box 3 0)]->ble bx [(2,.cells [.d (.str t.name),Cm t.args,A5 t.pos]),(3,.cells [.d (.str u.name),Cm u.args,A5 u.pos])]->j<=t.args.length->j<=u.args.length->(t.args.length=j\/u.args.length=j)->E8 (t.args.drop j) (u.args.drop j)=E8 t.args u.args->J sl bx:=by
  intro j sl bx h1 h2 a4 a3 a5 I;refine u1 _ _ (A0.ww h1 h2 ?_);clear u1 J;refine kR Pv λJ u1=>?_;refine A0.N2 rfl u1 (λE=>?_) (λE=>?_)
  .refine sR Pv ?_;have:E8 t.args u.args = -1:=by
    rw[<-I];have E:t.args.length<u.args.length:=by simpa using E
    have:t.args.length=j:=by omega
    rw[Ib (by omega),Gb (show j<u.args.length by omega),E8]
   rw[this];exact aR
  clear u1 J;refine kR Pv λJ u1=>?_;refine A0.N2 rfl u1 (λO=>?_) (λO=>?_)
  .refine sR Pv ?_;have:E8 t.args u.args=1:=by
    rw[<-I];have E:u.args.length<t.args.length:=by simpa using O
    rw[Gb (show j<t.args.length by omega),Ib (show u.args.length<=j by omega),E8]
   rw[this];exact aR
  clear u1 J;refine sR Pv ?_;have:E8 t.args u.args=0:=by
   rw[<-I];have h1:u.args.length<=t.args.length:=by simpa using E
   have h2:t.args.length<=u.args.length:=by simpa using O
   rw[Ib (by omega),Ib (by omega),E8]
  rw[this];exact aR
 refine A0.bb (A0.ii t.args (X:=Unit) (λj _=>[(2,.box 2 0),(3,.box 3 0),(5,A5 j)]) (λ_ _=>[(2,.cells [.d (.str t.name),Cm t.args,A5 t.pos]),(3,.cells [.d (.str u.name),Cm u.args,A5 u.pos])])
  (λj _=>j<=u.args.length/\E8 (t.args.drop j) (u.args.drop j)=E8 t.args u.args) () (by simp) sS sB ?_ ?_)
 .rintro _ ⟨hj,I⟩;refine Ai B3 Pv λZ u2=>?_;refine A0.ss rfl ?_;simp only[A4,Ac,Af];exact V t.args.length _ _ sS sB (Bs _) hj (.inl rfl) I
 .rintro j _ d hd L dp tk U ⟨hj,I⟩;refine sK λZ u2=>?_;by_cases W:(j:Int)<(u.args.length:Int)
  .obtain⟨e,he⟩:∃e,u.args[j]?=some e:=⟨_,Bi (by omega)⟩;have a1:u.args.drop j=e::u.args.drop (j+1):=by
    rw[Gb (by omega)];rw[Bi (by omega)]at he;simp only[B5]at he;rw[he]
   rw[dp,a1,E8]at I;refine Ei U W Pv ?_;refine gI u2 ?_;clear u2 Z;refine sK λZ u2=>A0.bb ?_
   (refine sG Pv [] 10 [] λK z=>?_;refine ev ?_;refine ci (Et hd) ?_;refine ci (Et he) ?_;refine cc (ih d L (hs.arg d L) e) ?_;apply z;clear z K)
   refine sR Pv ?_;refine A0.cond rfl (λE=>?_) (λE=>?_)
   .refine sR Pv ?_;rw[A8 (by simpa using E)]at I;rw[<-I];exact aR
   rw[A6 (by simpa using E)]at I;refine A0.kk (u2 _ _ ?_);clear u2 Z;refine lT Pv ?_;exact⟨(),⟨by omega,I⟩,sS,sB⟩
  .refine Ei U W Pv ?_;refine A0.ss rfl ?_;simp only[A4,Ac,Af];exact V j _ _ sS sB (by omega) hj (.inr (by omega)) I
def C9j(t:Ty)(h:t.Sm)(u:Ty):Aa prog 96 [B7 t,B7 u] (A5 (E6 t u)):=D7m t h.lm u
def A8d(t u:Ty)(hs:t.Lm):Aa prog 42 [B7 t,B7 u] (Aw (Pn t u)):=by unfold Pn;refine cB func42 ?_;refine sR [0,1,2,3,4] ?_;refine sC (D7m t hs u) [0,1,2,3,4] ?_;exact aR
def H0g(t u:Ty)(hs:t.Sm):Aa prog 42 [B7 t,B7 u] (Aw (Pn t u)):=A8d t u hs.lm
abbrev exS(e:Ex):List SV:=[.d (.int .i64 e.kind),.d (.str e.name),.d (.str e.type.name),.d (.slice (Ax e.type.args)),.d (.int .i64 e.type.pos),.d (.slice (Ax e.targs)),.d (.slice (Eb e.kids)),.d (.int .i64 e.pos)]
def S9:List Ty->List Ty->Bool
 |[],[]=>true
 |x::xs,y::ys=>Pn x y && S9 xs ys
 |_,_=>false
def D1c:∀{l m:List Ty},S9 l m=true->l.length=m.length
 |[],[],_=>rfl
 |x::xs,y::ys,h=>by simp only[S9,Bb]at h;simp[D1c h.2]
 |[],_::_,h=>by simp[S9]at h
 |_::_,[],h=>by simp[S9]at h
mutual
def A8a:Ex->Ex->Bool
 |.mk k n t a ks _,u=>decide (k=u.kind) && decide (n=u.name) && Pn t u.type && S9 a u.targs && Tr ks u.kids
def Tr:List Ex->List Ex->Bool
 |[],[]=>true
 |x::xs,y::ys=>A8a x y && Tr xs ys
 |_,_=>false
end
def G1w(e u:Ex):A8a e u=(decide (e.kind=u.kind) && decide (e.name=u.name) && Pn e.type u.type && S9 e.targs u.targs && Tr e.kids u.kids):=by cases e with|mk k n t a ks p=>rw[A8a];rfl
def D0k:∀{l m:List Ex},Tr l m=true->l.length=m.length
 |[],[],_=>rfl
 |x::xs,y::ys,h=>by rw[Tr,Bb]at h;simp[D0k h.2]
 |[],_::_,h=>by simp[Tr]at h
 |_::_,[],h=>by simp[Tr]at h
def A5x{α:Type}{l:List α}{j:Nat}(h:j<l.length):∃e,l[j]?=some e/\l.drop j=e::l.drop (j+1):=⟨l[j],Bi h,Gb h⟩
abbrev Xt:List Nat:=[0,1,4,5,10,14,26]
def G5c(l m:List Ty)(hl:l.length<=sm)(hs:∀t,t∈l->t.Lm):Aa prog 188 [Cm l,Cm m] (Aw (S9 l m)):=by
 refine cB func188 ?_;refine sR Xt ?_;refine kR Xt λW u1=>?_;refine A0.N2 rfl u1 (λE=>?_) (λE=>?_)
 .refine sR Xt ?_;have:S9 l m=false:=by
   cases h:S9 l m with
   |false=>rfl
   |true=>have:=D1c h;simp[this]at E
  rw[this];exact aR
 clear u1 W;have V:l.length=m.length:=by
  have:(l.length:Int)=m.length:=by simpa using E
  omega
 refine kR Xt λW u1=>?_;refine A0.bb (A0.ii l (X:=Unit) (λj _=>[(0,Cm l),(1,Cm m),(5,A5 j)]) (λ_ _=>[])
  (λj _=>S9 (l.drop j) (m.drop j)=S9 l m) () (by simp) sS sB ?_ ?_)
 .intro _ I;refine Ai B3 Xt λL u2=>?_;refine A0.ss rfl ?_;simp only[A4,Ac,Af];refine u1 _ _<|sR Xt ?_;rw[Db,V,Db]at I;rw[<-I];exact aR
 .intro j _ d hd J Z tk O I;obtain⟨e,he,U⟩:=A5x (l:=m) (j:=j) (by omega);rw[Z,U,S9]at I;refine Ai O Xt λL u2=>?_;refine gI u2 ?_;clear u2 L;refine sK λL u2=>A0.bb ?_
  (refine sG Xt [] 8 [] λK z=>?_;refine ev ?_;refine ci (Et hd) ?_;refine ci (Et he) ?_;refine cc (A8d d e (hs d J)) ?_;apply z;clear z K)
  refine A0.cond rfl (λE=>?_) (λE=>?_)
  .refine sR Xt ?_;simp only[Js]at E;rw[E,C3]at I;rw[<-I];exact aR
  simp only[S7]at E;rw[E,Cj]at I;refine A0.kk (u2 _ _ ?_);clear u2 L;refine lT Xt ?_;exact⟨(),I,sS,sB⟩
inductive Ex.Lm:Ex->Prop where
 |mk (k:Int) (n:A2) (t:Ty) (a:List Ty) (ks:List Ex) (p:Int):t.Lm->a.length<=sm->(∀t,t∈a->t.Lm)->ks.length<=sm->(∀e,e∈ks->Ex.Lm e)->Ex.Lm (.mk k n t a ks p)
def Ex.Lm.type{e:Ex}(h:e.Lm):e.type.Lm:=by cases h;assumption
def Ex.Lm.targs{e:Ex}(h:e.Lm):e.targs.length<=sm/\∀t,t∈e.targs->t.Lm:=by cases h;exact⟨by assumption,by assumption⟩
def Ex.Lm.kids{e:Ex}(h:e.Lm):e.kids.length<=sm/\∀t,t∈e.kids->t.Lm:=by cases h;exact⟨by assumption,by assumption⟩
def Ex.Sm.lm:∀{e:Ex},e.Sm->e.Lm:=by
 intro e
 induction e using Ex.induct with
 |h e I =>
 intro h;obtain⟨k,n,t,a,ks,p⟩:=e;exact .mk k n t a ks p h.type.lm h.targs.1 (λu E=>(h.targs.2 u E).lm) h.kids.1 λu E=>I u E (h.kids.2 u E)
abbrev N5:List Nat:=[0,1,2,3,4,5,42,47,61]
def G0c:∀(a:Ex),a.Lm->∀b:Ex,Aa prog 122 [D3 a,D3 b] (Aw (A8a a b)):=by
 intro a
 induction a using Ex.induct with
 |h a ih =>
 intro hs b;have a2:=hs.kids.1;have O:=G5c a.targs b.targs hs.targs.1 hs.targs.2;have I:=A8d a.type b.type hs.type;rw[G1w];refine cB func122 ?_;refine sR N5<|sK λK1 u1=>?_;by_cases E:a.kind=b.kind
 .by_cases J:a.name=b.name
  .rcases Eu (Pn a.type b.type)with h3|h3
   .rw[h3]at I;rcases Eu (S9 a.targs b.targs)with h4|h4
    .rw[h4]at O
     (refine sQ N5 λK z=>?_;refine Fm E J ?_;refine cc I ?_;refine cc O ?_;apply z;clear z K)
     refine A0.N2 rfl u1 (λL=>?_) (λL=>?_)
     .refine sR N5 ?_;have:Tr a.kids b.kids=false:=by
       cases h:Tr a.kids b.kids with
       |false=>rfl
       |true=>have:=D0k h;simp[this]at L
      rw[this,Rc];exact aR
     clear u1 K1;simp only[E,J,h3,h4,Va,Cj];have a1:a.kids.length=b.kids.length:=by
      have:(a.kids.length:Int)=b.kids.length:=by simpa using L
      omega
     refine kR N5 λK1 u1=>?_;refine A0.bb (A0.ii a.kids (X:=Unit) (λj _=>[(2,.box 2 0),(3,.box 3 0),(5,A5 j)]) (λ_ _=>[(2,.cells (exS a)),(3,.cells (exS b))])
      (λj _=>Tr (a.kids.drop j) (b.kids.drop j)=Tr a.kids b.kids) () (by simp) sS (by simp[ble,A7,E,J]) ?_ ?_)
     .intro _ U;refine Ai B3 N5 λW u2=>?_;refine A0.ss rfl ?_;simp only[A4,Ac,Af];refine u1 _ _<|sR N5 ?_;rw[Db,a1,Db]at U;rw[<-U,Tr];exact aR
     .intro j _ d hd V dp tk Z U;obtain⟨e,he,a0⟩:=A5x (l:=b.kids) (j:=j) (by omega);rw[dp,a0,Tr]at U;refine Ai Z N5 λW u2=>?_;refine gI u2 ?_;clear u2 W;refine sK λW u2=>A0.bb ?_
      (refine sG N5 [] 10 [] λK z=>?_;refine ev ?_;refine ci (G8 hd) ?_;refine ci (G8 he) ?_;refine cc (ih d V (hs.kids.2 d V) e) ?_;apply z;clear z K)
      refine A0.cond rfl (λL=>?_) (λL=>?_)
      .refine sR N5 ?_;simp only[Js]at L;rw[L,C3]at U;rw[<-U];exact aR
      simp only[S7]at L;rw[L,Cj]at U;refine A0.kk (u2 _ _ ?_);clear u2 W;refine lT N5 ?_;exact⟨(),U,sS,sB⟩
    .rw[h4]at O
     (refine sQ N5 λK z=>?_;refine Fm E J ?_;refine cc I ?_;refine cc O ?_;apply z;clear z K)
     refine tI ?_;refine sR N5 ?_;simp only[E,J,h3,h4,Va,Cj,C3];exact aR
   .rw[h3]at I
    (refine sQ N5 λK z=>?_;refine Fm E J ?_;refine cc I ?_;apply z;clear z K)
    refine tI ?_;refine sR N5 ?_;simp only[E,J,h3,Va,Cj,C3];exact aR
  .refine Ei E J N5 ?_;refine tI ?_;refine sR N5 ?_;simp only[E,J,Va,Ar1,Cj,C3];exact aR
 .refine Ak E N5 ?_;refine tI ?_;refine sR N5 ?_;simp only[E,Ar1,C3];exact aR
def Ep(env:List Ah)(t:Ty):Int:=if t.args.length=0 then Dr (λf=>decide (f.name=t.name)) env else -1
abbrev Xj:List Nat:=[0,1,3,4,5,15,25]
def A6w(env:List Ah)(t:Ty)(hl:env.length<=sm):Aa prog 91 [.d (.slice (Ag env)),B7 t] (A5 (Ep env t)):=by
 unfold Ep;refine cB func91 ?_;refine sR Xj ?_;refine kR Xj λK1 u1=>?_;have I:∀sl bx,(if t.args.length=0 then Dr (λf=>decide (f.name=t.name)) env else -1) = -1->K1 sl bx:=by intro sl bx h;refine u1 _ _<|sR Xj ?_;rw[h];exact aR
 by_cases O:t.args.length=0
 .have E:(t.args.length:Int)=0:=by omega
  refine A0.bb (A0.ii env (X:=Unit) (λj _=>[(0,.d (.slice (Ag env))),(3,.box 3 0),(5,A5 j)]) (λ_ _=>[(3,.cells [.d (.str t.name),Cm t.args,A5 t.pos])])
   (λj _=>∀y,y∈env.take j->(λf:Ah=>decide (f.name=t.name)) y=false) () (by simp) sS sB ?_ ?_)
  .intro _ J;refine Ai B3 Xj λL u2=>?_;refine A0.ss rfl ?_;simp only[A4,Ac,Af];rw[Ci]at J;exact I _ _ (by rw[A8 O,Tg J])
  .intro j _ d hd Z dp tk U J;refine Ng U E Xj λL u2=>?_;refine gI u2 ?_;clear u2 L;refine sK λL u2=>A0.bb ?_
   (refine sG Xj [] 7 [] λK z=>?_;refine ev ?_;refine ci (F4 hd) ?_;apply z;clear z K)
   refine A0.cond rfl (λV=>?_) (λV=>?_)
   .refine sR Xj ?_;rw[A8 O,Tt hd V J];exact aR
   refine A0.kk (u2 _ _ ?_);clear u2 L;refine lT Xj ?_;refine⟨(),?_,sS,sB⟩;rw[tk];intro y hy;rcases Bz.1 hy with hy|hy
   .exact J y hy
   .simp only[B1,E5,Ea]at hy;rw[hy];exact V
 .have E:¬(t.args.length:Int)=0:=by omega
  refine A0.bb (A0.ii ([]:List Nat) (X:=Unit) (λj _=>[(0,.d (.slice (Ag env))),(3,.box 3 0),(5,A5 0)]) (λ_ _=>[(3,.cells [.d (.str t.name),Cm t.args,A5 t.pos])])
   (λj _=>True) () trivial sS sB ?_ ?_)
  .intro _ J;refine sK λL u2=>?_;by_cases W:(0:Int)<(env.length:Int)
   .refine Ei E W Xj ?_;refine A0.ss rfl ?_;simp only[A4,Ac,Af];exact I _ _ (by rw[A6 O])
   .refine Ak W Xj ?_;refine A0.ss rfl ?_;simp only[A4,Ac,Af];exact I _ _ (by rw[A6 O])
  .intro j _ d hd;simp at hd
def E9d(t:Ty)(x:Ah):Aa prog 171 [S8 x,.A9 (Bo t) 0] (Aw (decide (x.name=t.name))):=by refine cB func171 ?_;refine sR [0,1,2,3] ?_;refine sR [0,1,2,3] ?_;exact aR
def Cs(env:List Ah)(t:Ty):Option Ty:=if Ep env t<0 then none else(env[(Ep env t).toNat]?).map (·.bound)
def Yj:Option Ty->SV
 |some b=>.tuple [B7 b,Aw true]
 |none=>.tuple [B7 (.mk [] [] 0),Aw false]
theorem A5v{env:List Ah}{t:Ty}(h:¬Ep env t<0):∃f,env[(Ep env t).toNat]?=some f/\(Ep env t).toNat<env.length/\t.args.length=0:=by
 unfold Ep Dr at h |-;by_cases E:t.args.length=0
 .simp only[A8 E]at h |-;cases I:env.findIdx? (λf=>decide (f.name=t.name))with
  |none=>rw[I]at h;simp at h
  |some i =>have:=(Ah1.1 I).1;simp only[Je];exact⟨env[i],Bi this,this,E⟩
 .simp only[A6 E]at h;omega
abbrev A2b:List Nat:=[0,1,3,4,5,6,7,19]
def B9u(env:List Ah)(t:Ty)(hl:env.length<=sm)(hs:∀f,f∈env->f.Sm):Aa prog 98 [.d (.slice (Ag env)),B7 t] (Yj (Cs env t)):=by
 have Z:=F7r 171 [.A9 (Bo t) 0] (λx=>rfl) (λf=>decide (f.name=t.name)) env hl (λx _=>E9d t x);unfold Cs;have I:=A5v (env:=env) (t:=t);have U:t.args.length=0->Ep env t=Dr (λf=>decide (f.name=t.name)) env:=λh=>by unfold Ep;rw[A8 h]
 have J:¬t.args.length=0->Ep env t = -1:=λh=>by unfold Ep;rw[A6 h]
 generalize Ep env t=i at*;generalize Dr (λf:Ah=>decide (f.name=t.name)) env=i' at*;refine cB func98 ?_;refine sR A2b ?_;refine sR A2b ?_;refine A0.zz 3 rfl rfl<|A0.ww (sl':=[(0,.d (.slice (Ag env))),(3,.A9 (Bo t) 0),(4,.box 4 0),(6,.Bf 171 [.A9 (Bo t) 0])]) (bx':=[(4,.cells [.d (.str []),.d .nil,.d (.int .i64 0)])])
  (by simp[L7,SV.sub,SV.L8,sle,Ay,Ae,Bo]) (by simp[Jo,Aq.sub,SV.L8,SV.sub,ble,A7,Cd]) ?_
 refine sC Z A2b<|sK λK1 u1=>?_;by_cases ha:t.args.length=0
 .obtain rfl:=U ha;have E:¬(0:Int)<(t.args.length:Int):=by omega
  refine Ak E A2b ?_;refine A0.N2 rfl u1 (λW=>?_) (λW=>?_)
  .refine sR A2b ?_;rw[A8 (by simpa using W)];exact aR
  clear u1 K1;have L:¬i<0:=by simpa using W
  obtain⟨f,V,a0,_⟩:=I L;have O:=C6 V;rw[A6 L,V];have h0:0<=i:=by omega
  (refine sV A2b λK z=>?_;refine ci (F4 V) ?_;refine cc (A3r f.bound (hs f O).bound) ?_;apply z;clear z K)
  exact aR
 .have E:(0:Int)<(t.args.length:Int):=by omega
  rw[J ha];refine Ak E A2b ?_;refine tI ?_;refine sR A2b ?_;exact aR
def F7(p:Prog)(nm:A2):Option Decl:=p.decls.find? (λd=>d.Fv nm)
def Em(p:Prog)(nm:A2):List Ah:=match F7 p nm with
 |some d=>d.A1
 |none=>[]
abbrev q1s:List Nat:=[0,1,2,4,5,10]
def B9o(p:Prog)(nm:A2):Aa prog 139 [Ct p,Bm nm] (.d (.slice (Ag (Em p nm)))):=by
 refine C8.bd (Enters.of func139 rfl (by decide)) λO=>?_;have J:=B3y O.1;have hl:=J.decls.1;refine cB func139 ?_;refine sR q1s ?_;refine sC (A9g p nm) q1s<|sK λU u1=>?_;rcases B0n nm p.decls 0 with⟨I,L⟩|⟨k,d,I,L,V⟩
 .rw[I];have E:Em p nm=[]:=by simp[Em,F7,L]
  refine sR q1s ?_;refine tI ?_;refine sR q1s ?_;rw[E];exact aR
 .rw[L];have E:Em p nm=d.A1:=by simp[Em,F7,V]
  have Z:¬((0+k:Nat):Int)<0:=by omega
  have W:((0+k:Nat):Int).toNat=k:=by omega
  refine sR q1s ?_;refine kI u1 ?_;clear u1 U
  (refine sV q1s λK z=>?_;refine ci (Dx I) ?_;apply z;clear z K)
  rw[E];exact aR
def Bh(p:Prog)(x:Ty)(k:Int):Bool:=decide (kindOf p x.name=k) && decide ((Em p x.name).length=x.args.length)
def A2u(p:Prog)(x:Ty)(k:Int):Aa prog 60 [Ct p,B7 x,A5 k] (Aw (Bh p x k)):=by
 unfold Bh;have L:=B9o p x.name;have I:=B0d p x.name;generalize kindOf p x.name=k' at*;generalize Em p x.name=l at*;refine cB func60 ?_;refine sR [0,1,2,3,4,6] ?_;by_cases E:k'=k
 .have J:((l.length:Int)=(x.args.length:Int))↔l.length=x.args.length:=by omega
  (refine sG [0,1,2,3,4,6] [] 15 [] λK z=>?_;refine ev ?_;refine⟨_,.inl ⟨_,rfl,I,rfl⟩,?_⟩;(try refine Ap E ?_);refine cc L ?_;apply z;clear z K)
  simp only[E,J,Va,Cj];exact aR
 ·(refine sG [0,1,2,3,4,6] [] 15 [] λK z=>?_;refine ev ?_;refine⟨_,.inl ⟨_,rfl,I,rfl⟩,?_⟩;(try refine Ap E ?_);apply z;clear z K)
  simp only[E,Ar1,C3];exact aR
mutual
def isVal:Ex->Bool
 |.mk k _ _ _ ks _=>E7t ks && decide (k=3)
def E7t:List Ex->Bool
 |[]=>true
 |e::es=>isVal e && E7t es
end
abbrev q2s:List Nat:=[0,1,4,5,9,18]
def B1g(l:List A3)(m:A2)(V:l.length<=sm):Aa prog 62 [.d (.slice (B0 l)),Bm m] (A5 (Dr (λs=>decide (s.name=m)) l)):=by
 refine cB func62 ?_;refine sR q2s ?_;refine kR q2s λW u1=>?_;refine A0.bb (A0.ii l (X:=Unit) (λj _=>[(0,.d (.slice (B0 l))),(1,Bm m),(5,A5 j)]) (λ_ _=>[])
  (λj _=>∀y,y∈l.take j->(λs:A3=>decide (s.name=m)) y=false) () (by simp) sS sB ?_ ?_)
 .intro _ E;rw[Ci]at E;refine Ai B3 q2s λI u2=>?_;refine A0.ss rfl ?_;simp only[A4,Ac,Af];refine u1 _ _<|sR q2s ?_;rw[Tg E];exact aR
 .intro j _ d hd O U tk J E;refine Ai J q2s λI u2=>?_;refine gI u2 ?_;clear u2 I;refine sK λI u2=>A0.bb ?_
  (refine sV q2s λK z=>?_;refine ci (D1 hd) ?_;apply z;clear z K)
  refine A0.cond rfl (λL=>?_) (λL=>?_)
  .refine sR q2s ?_;rw[Tt hd L E];exact aR
  refine A0.kk (u2 _ _ ?_);clear u2 I;refine lT q2s ?_;refine⟨(),?_,sS,sB⟩;rw[tk];intro y hy;rcases Bz.1 hy with hy|hy
  .exact E y hy
  .simp only[B1,E5,Ea]at hy;rw[hy];exact L
def Inv.G7u{C:Ctx}{S:Nat->Prop}{w:World}{β:Names}{bx:Ab}{b:Nat}{cs cs':List SV}(h:Inv C S w β bx)(hb:(b,Aq.cells cs)∈bx)(hr:∀vs,Bv S w β cs vs->Bv S w β cs' vs) :
  Inv C S w β ((b,.cells cs')::Cd b bx):=by
 have E:∀k c,(k,c)∈(b,Aq.cells cs')::Cd b bx->(k=b/\c=.cells cs')\/(k≠b/\(k,c)∈bx):=by
  intro k c hk;rcases B1.1 hk with he|hk
  .simp only[Fp]at he;exact .inl he
  .exact .inr (Ee.1 hk)
 exact{ h with
  box:=λk c hk=>by
   rcases E k c hk with⟨rfl,rfl⟩|⟨_,hk⟩
   .obtain⟨O,ty,vs,h1,W,h3⟩:=h.box _ _ hb;exact⟨O,ty,vs,h1,W,hr vs h3⟩
   .exact h.box k c hk
  Ba:=λk c hk=>by
   rcases E k c hk with⟨rfl,rfl⟩|⟨_,hk⟩
   .exact h.Ba _ _ hb
   .exact h.Ba k c hk
  inj:=λk c L V hk I O h1 W=>by
   rcases E k c hk with⟨e1,e2⟩|⟨hn,hm⟩ <;> rcases E L V I with⟨e3,e4⟩|⟨a0,J⟩
   .rw[e1,e2,e3,e4];exact⟨rfl,rfl⟩
   .rw[e1]at h1;exact absurd (h.inj _ _ _ _ hb J O h1 W).1.symm a0
   .rw[e3]at W;exact absurd (h.inj _ _ _ _ hm hb O h1 W).1 hn
   .exact h.inj _ _ _ _ hm J O h1 W
  one:=λk Y st L Y' st' hk I=>by
   rcases E _ _ hk with⟨_,e2⟩|⟨_,hm⟩
   .cases e2
   .rcases E _ _ I with⟨_,e4⟩|⟨_,J⟩
    .cases e4
    .exact h.one _ _ _ _ _ _ hm J
  Fo:=λk Y st hk=>by
   rcases E _ _ hk with⟨_,e2⟩|⟨_,hm⟩
   .cases e2
   .have Z:∀L V,(L,V)∈(b,Aq.cells cs')::Cd b bx->∃y,(L,y)∈bx:=λL V I=>by
     rcases E _ _ I with⟨rfl,_⟩|⟨_,J⟩
     .exact⟨_,hb⟩
     .exact⟨_,J⟩
    obtain⟨h1,W,h3,h4,B,h5,h6⟩:=h.Fo k Y st hm;exact⟨h1,W,h3,λL V I=>(Z L V I).elim λy hy=>h4 L y hy,B,h5,λO U=>⟨(h6 O U).1,(h6 O U).2.1,(h6 O U).2.2.1,λL V I=>(Z L V I).elim λy hy=>(h6 O U).2.2.2 L y hy⟩⟩ }
def A0.Rb{ro:Option Nat}{P:Program}{n:Nat}{Q:Exit->SL->Ab->Prop}{sl:SL}{bx:Ab}{c:Code}(k sz b i:Nat){cs:List SV}(hb:A7 bx b=some (.cells cs))(W:cs[i]?=some (.d .nil))(L:b≠k)
  (h:A0 ro P n c Q (W9 k sl) ((b,.cells ((cs.map (Ly k)).set i (.acc k)))::Cd b ((k,.rows sz [])::H8 k (Cd k bx))))(I:k<=999999:=by decide):A0 ro P n c Q sl bx:=by
 intro C S w β a hs;obtain⟨V,h2⟩:=hs.inv.Tb (k:=k) (w':=w) (c:=.rows sz []) { base:=none,sz:=sz } I (by simp) (λ_ _ _=>rfl) rfl rfl rfl (Bs _) (λ_=>B9a);have E:(b,Aq.cells (cs.map (Ly k)))∈(k,Aq.rows sz [])::H8 k (Cd k bx):=by
  refine Aq3 _ ?_;have:∀{l:Ab} {x:Aq},(b,x)∈l->(b,x.Sc k)∈H8 k l:=by
   intro l
   induction l with
   |nil=>intro x hx;simp at hx
   |cons p l Z =>
    intro x hx;obtain⟨q,y⟩:=p;rcases B1.1 hx with O|hx
    .simp only[Fp]at O;obtain⟨rfl,rfl⟩:=O;exact Ar4 ..
    .exact Aq3 _ (Z hx)
  exact this (Ee.2 ⟨L,Gu hb⟩)
 have h3:=V.G7u (cs':=(cs.map (Ly k)).set i (.acc k)) E (by
  intro vs hr;refine⟨by simpa using hr.1,?_⟩;intro j x v hx U;rw[Ao5]at hx;split at hx
  .rename_i J;subst J;split at hx
   .simp only[B5]at hx;subst hx;have:=hr.2 i (.d .nil) v (by simp[W,Ly,SV.has]) U;cases this with
    |d _ _ hq =>cases hq;have:=Am.acc (S:=S) (w:=w) (β:=Ed β k { base:=none,sz:=sz }) k;rw[Gw]at this;exact this
   .simp at hx
  .exact hr.2 j x v hx U)
 refine h C S w _ a ⟨h3,hs.size,hs.defers,?_⟩;intro u;rw[A7h];exact(hs.slot u).Sc h2
abbrev Lk:List Nat:=[0,1,2,3,6,7,8,9,10,20,29,33,53,67]
def E2e(vars:List A2)(args:List Ty)(hC:∀(i:Nat)(u:Ty),args[i]?=some u->Aa prog 64 [B7 u,Cc [],Cm []] (B7 u)):∀t:Ty,t.Sm->Aa prog 64 [B7 t,Cc vars,Cm args] (B7 (t.subst vars args)):=by
 intro t
 induction t using Ty.induct with
 |h t ih =>
 intro a1;have a4:=a1.len;refine C8.bd (Enters.of func64 rfl (by decide)) λa2=>?_;have hv:=(A5c a2.2.1).1;have E:=Wo vars args t;refine cB func64 ?_;refine sR Lk ?_;refine kR Lk λK1 u1=>?_;have V:(t.args.length=0/\0<=D5 t.name vars 0/\D5 t.name vars 0<args.length)=False->∀sl bx,sle sl [(1,Cc vars),(2,Cm args),(3,.box 3 0),(6,.box 6 0)] ->
   ble bx [(3,.cells [.d (.str t.name),Cm t.args,A5 t.pos]),(6,.cells [.d (.str []),.d .nil,.d (.int .i64 0)])]->K1 sl bx:=by
  intro hc sl bx h1 h2;refine u1 _ _ (A0.ww h1 h2 ?_);clear u1 K1;rw[A6 (by rw[hc];exact id)]at E;refine sR Lk ?_;refine A0.Rb 67 3 9 1 rfl rfl (by decide)<|kR Lk λK1 u1=>?_;refine A0.bb (A0.ii t.args (X:=Unit) (λj _=>[(1,Cc vars),(2,Cm args),(3,.box 3 0),(6,.box 6 0),(9,.box 9 0),(10,A5 j)])
   (λj _=>[(3,.cells [.d (.str t.name),Cm t.args,A5 t.pos]),(6,.cells [.d (.str []),.d .nil,.d (.int .i64 0)]),(9,.cells [.d (.str t.name),.acc 67,A5 t.pos]),(67,.rows 3 (Ax ((t.args.take j).map (Ty.subst vars args))))])
   (λj _=>True) () trivial sS (by simp[ble,A7,Dj]) ?_ ?_)
  .intro _ _;rw[Ci];refine Ai B3 Lk λJ u2=>?_;refine A0.ss rfl ?_;simp only[A4,Ac,Af];refine u1 _ _<|sR Lk ?_;rw[E];exact aR
  .intro j _ d hd I dp tk U _;rw[tk];refine Ai U Lk λJ u2=>?_;refine gI u2 ?_;clear u2 J;refine sK λJ u2=>A0.bb ?_
   (refine lG Lk [] 11 [] λK z=>?_;refine ev ?_;refine ci (Et hd) ?_;refine cc (ih d I (a1.arg d I)) ?_;refine⟨by simp,by simp only[Bc,D4];unfold lim sm at*;omega,?_⟩;(try refine ev ?_);apply z;clear z K;try simp only[A4,Ac])
   refine u2 _ _ ?_;clear u2 J
   (refine lV Lk λK z=>?_;refine cl ?_;apply z;clear z K;try simp only[A4,])
   exact⟨(),trivial,sS,by simp[ble,A7,Dj,Bo]⟩
 by_cases ha:t.args.length=0
 .have O:(t.args.length:Int)=0:=by omega
  refine A0.bb (A0.ii vars (X:=Unit) (λj _=>[(1,Cc vars),(2,Cm args),(3,.box 3 0),(6,.box 6 0),(7,A5 j)])
   (λ_ _=>[(3,.cells [.d (.str t.name),Cm t.args,A5 t.pos]),(6,.cells [.d (.str []),.d .nil,.d (.int .i64 0)])])
   (λj _=>D5 t.name (vars.drop j) j=D5 t.name vars 0) () rfl sS sB ?_ ?_)
  .intro _ L;refine Ai B3 Lk λJ u2=>?_;refine A0.ss rfl ?_;simp only[A4,Ac,Af];rw[Db,D5]at L;exact V (by rw[<-L];simp) _ _ sS sB
  .intro j _ d hd I dp tk U L;rw[dp,D5]at L;refine Ng U O Lk λJ u2=>?_;refine gI u2 ?_;clear u2 J;refine sK λJ u2=>A0.bb ?_
   (refine sG Lk [] 6 [] λK z=>?_;refine ev ?_;refine ci (Ko hd) ?_;apply z;clear z K)
   refine A0.cond rfl (λhc=>?_) (λhc=>?_)
   .have hn:d=t.name:=by simpa using hc
    rw[A8 hn.symm]at L;rw[<-L]at E;have e0:(0:Int)<=(j:Int):=by omega
    refine kR Lk λK3 u3=>?_;refine A0.N2 rfl u3 (λW=>?_) (λW=>?_)
    .have a3:¬(j:Int)<(args.length:Int):=by
      have:=W;simp only[Dp]at this;omega
     rw[A6 (λh=>a3 h.2.2),Zp ha]at E;refine sR Lk ?_;rw[E,show t.args=[] from Zp ha];exact aR
    clear u3 K3;have Z:(j:Int)<(args.length:Int):=by have:=W;simp only[Z1]at this;omega
    rw[A8 ⟨ha,e0,Z⟩]at E;have hx:args[j]?=some args[j]:=Bi (by omega);rw[Je,hx,Dz]at E;generalize args[j]=u at*
    (refine sV Lk λK z=>?_;refine ci (Et hx) ?_;refine cc (hC _ u hx) ?_;apply z;clear z K)
    refine sR Lk ?_;refine sR Lk ?_;rw[E];exact aR
   .have hn:¬d=t.name:=by simpa using hc
    rw[A6 (λh=>hn h.symm)]at L;refine A0.kk (u2 _ _ ?_);clear u2 J
    (refine lV Lk λK z=>?_;refine cl ?_;apply z;clear z K;try simp only[A4,])
    exact⟨(),L,sS,sB⟩
 .have O:¬(t.args.length:Int)=0:=by omega
  have a0:(t.args.length=0/\0<=D5 t.name vars 0/\D5 t.name vars 0<args.length)=False:=by simp[ha]
  refine A0.bb (A0.ii ([]:List Nat) (X:=Unit) (λj _=>[(1,Cc vars),(2,Cm args),(3,.box 3 0),(6,.box 6 0),(7,A5 0)])
   (λ_ _=>[(3,.cells [.d (.str t.name),Cm t.args,A5 t.pos]),(6,.cells [.d (.str []),.d .nil,.d (.int .i64 0)])])
   (λj _=>True) () trivial sS sB ?_ ?_)
  .intro _ _;refine sK λJ u2=>?_;by_cases he:(0:Int)<(vars.length:Int)
   .refine Ei O he Lk ?_;refine A0.ss rfl ?_;simp only[A4,Ac,Af];exact V a0 _ _ sS sB
   .refine Ak he Lk ?_;refine A0.ss rfl ?_;simp only[A4,Ac,Af];exact V a0 _ _ sS sB
  .intro j _ d hd;simp at hd
def H2o(t:Ty)(h:t.Sm):Aa prog 64 [B7 t,Cc [],Cm []] (B7 t):=by have:=E2e [] [] (by simp) t h;rw[A2w]at this;exact this
def Pm(vars:List A2)(args:List Ty)(I:∀u,u∈args->u.Sm)(t:Ty)(h:t.Sm):Aa prog 64 [B7 t,Cc vars,Cm args] (B7 (t.subst vars args)) :=
 E2e vars args (λi u E=>H2o u (I u (C6 E))) t h
abbrev q4s:List Nat:=[0,1,2,6,7,8,12]
def F3w(vars:List A2)(args:List Ty)(O:∀u,u∈args->u.Sm)(l:List Ty)(W:l.length<=sm)(hs:∀t,t∈l->t.Sm) :
  Aa prog 143 [Cm l,Cc vars,Cm args] (Cm (l.map (Ty.subst vars args))):=by
 refine cB func143 ?_;refine sR q4s ?_;refine sR q4s ?_;refine A0.pp 7 3 7 rfl<|kR q4s λV u1=>?_;refine A0.bb (A0.ii l (X:=Unit) (λj _=>[(0,Cm l),(1,Cc vars),(2,Cm args),(7,.acc 7),(8,A5 j)]) (λj _=>[(7,.rows 3 (Ax ((l.take j).map (Ty.subst vars args))))])
  (λj _=>True) () trivial sS (by simp[ble,A7,Dj]) ?_ ?_)
 .intro _ L;rw[Ci];refine Ai B3 q4s λI u2=>?_;refine A0.ss rfl ?_;simp only[A4,Ac,Af];refine u1 _ _<|sR q4s ?_;exact aR
 .intro j _ d hd E U tk J L;rw[tk];refine Ai J q4s λI u2=>?_;refine gI u2 ?_;clear u2 I;refine sK λI u2=>A0.bb ?_
  (refine lV q4s λK z=>?_;refine ci (Et hd) ?_;refine cc (Pm vars args O d (hs d E)) ?_;refine⟨by simp,by simp only[Bc,D4];unfold lim sm at*;omega,?_⟩;(try refine ev ?_);apply z;clear z K;try simp only[A4,Ac])
  refine u2 _ _ ?_;clear u2 I;refine lT q4s ?_;exact⟨(),trivial,sS,by simp[ble,A7,Dj,Bo]⟩
end Go.Abs
