/- several texts in one -/
import Derived.Test.YtjneockcgjfhaaaGreatDoorKFB
set_option linter.all false
set_option maxHeartbeats 1000000
set_option maxRecDepth 100000
namespace Go.Abs
open Go Go.Proofs Tryz
def Cw{α:Type}(p:α->Bool)(l:List α):Int:=match l.findIdx? p with
 |some i=>i
 |none=>-1
theorem Tb{α:Type}{p:α->Bool}{l:List α}(h:∀x,x∈l->p x=false):Cw p l = -1:=by unfold Cw;rw[Ar1.2 h]
def Sc{α:Type}{p:α->Bool}{l:List α}{j:Nat}{x:α}(I:l[j]?=some x)(J:p x=true)(h:∀y,y∈l.take j->p y=false):Cw p l=j:=by
 unfold Cw;have:l.findIdx? p=some j:=by rw[Ai3];obtain⟨E,L⟩:=Aw.1 I;refine⟨E,by rw[L];exact J,?_⟩;intro i O;have:=h l[i] (List.mem_take_iff_getElem.2 ⟨i,by omega,by simp⟩);simpa using this
 rw[this]
abbrev Yy:List Nat:=[0,1,4,5,7,8,9,16]
def G8p(f:FuncId)(caps:List SV)(O:∀x:Ak,H6 [] (Sa x::caps)=some (Sa x::caps))(p:Ak->Bool)(l:List Ak)(W:l.length<=sm)(hs:∀t,t∈l->Ab prog f (Sa t::caps) (.d (.bool (p t)))) :Ab prog 252 [.d (.slice (Ax l)),.Bk f caps] (A7 (Cw p l)):=by
 refine cB func252 ?_;refine sR Yy ?_;refine kR Yy λZ u1=>?_;refine A0.bb (A0.ii l (X:=Unit) (λj _=>[(0,.d (.slice (Ax l))),(1,.Bk f caps),(7,A7 l.length),(8,A7 j)]) (λ_ _=>[]) (λj _=>∀y,y∈l.take j->p y=false) () (by simp) sS sB ?_ ?_);intro _ E;rw[Cx]at E;refine Ap B6 Yy ?_;refine A0.stop rfl ?_;simp only[A5,A9,Ac];refine u1 _ _<|sR Yy ?_;rw[Tb E];exact aR
 .intro j _ d hd I V tk L E;refine Ap L Yy ?_;refine A0.Ha rfl<|sK λU u2=>A0.bb<|sR Yy ?_
  refine sV Yy λK z=>?_;refine ci (Fc hd) ?_;refine⟨_,.inl ⟨_,O d,hs d I,rfl⟩,?_⟩;(try refine ev ?_);apply z;clear z K;refine A0.cond rfl (λJ=>?_) (λJ=>?_);refine sR Yy ?_;rw[Sc hd J E];exact aR;refine A0.kk (u2 _ _ ?_);clear u2 U;refine lT Yy ?_;refine⟨(),?_,sS,sB⟩;rw[tk];intro y hy;rcases C6.1 hy with hy|hy;exact E y hy;simp only[B5,Fb,Fg]at hy;rw[hy];exact J
abbrev q2t:List Nat:=[0,1,4,5,7,8,9,16]
def F3r(f:FuncId)(caps:List SV)(O:∀x:Param,H6 [] (Sy x::caps)=some (Sy x::caps))(p:Param->Bool)(l:List Param)(W:l.length<=sm)(hs:∀t,t∈l->Ab prog f (Sy t::caps) (.d (.bool (p t)))) :Ab prog 179 [.d (.slice (Ay l)),.Bk f caps] (A7 (Cw p l)):=by
 refine cB func179 ?_;refine sR q2t ?_;refine kR q2t λZ u1=>?_;refine A0.bb (A0.ii l (X:=Unit) (λj _=>[(0,.d (.slice (Ay l))),(1,.Bk f caps),(7,A7 l.length),(8,A7 j)]) (λ_ _=>[]) (λj _=>∀y,y∈l.take j->p y=false) () (by simp) sS sB ?_ ?_);intro _ E;rw[Cx]at E;refine Ap B6 q2t ?_;refine A0.stop rfl ?_;simp only[A5,A9,Ac];refine u1 _ _<|sR q2t ?_;rw[Tb E];exact aR
 .intro j _ d hd I V tk L E;refine Ap L q2t ?_;refine A0.Ha rfl<|sK λU u2=>A0.bb<|sR q2t ?_
  refine sV q2t λK z=>?_;refine ci (Dx hd) ?_;refine⟨_,.inl ⟨_,O d,hs d I,rfl⟩,?_⟩;(try refine ev ?_);apply z;clear z K;refine A0.cond rfl (λJ=>?_) (λJ=>?_);refine sR q2t ?_;rw[Sc hd J E];exact aR;refine A0.kk (u2 _ _ ?_);clear u2 U;refine lT q2t ?_;refine⟨(),?_,sS,sB⟩;rw[tk];intro y hy;rcases C6.1 hy with hy|hy;exact E y hy;simp only[B5,Fb,Fg]at hy;rw[hy];exact J
abbrev Z6:List Nat:=[0,1,4,5,7,8,9,16]
def G7n(f:FuncId)(caps:List SV)(O:∀x:A4,H6 [] (E0 x::caps)=some (E0 x::caps))(p:A4->Bool)(l:List A4)(W:l.length<=sm)(hs:∀t,t∈l->Ab prog f (E0 t::caps) (.d (.bool (p t)))) :Ab prog 269 [.d (.slice (B9 l)),.Bk f caps] (A7 (Cw p l)):=by
 refine cB func269 ?_;refine sR Z6 ?_;refine kR Z6 λZ u1=>?_;refine A0.bb (A0.ii l (X:=Unit) (λj _=>[(0,.d (.slice (B9 l))),(1,.Bk f caps),(7,A7 l.length),(8,A7 j)]) (λ_ _=>[]) (λj _=>∀y,y∈l.take j->p y=false) () (by simp) sS sB ?_ ?_);intro _ E;rw[Cx]at E;refine Ap B6 Z6 ?_;refine A0.stop rfl ?_;simp only[A5,A9,Ac];refine u1 _ _<|sR Z6 ?_;rw[Tb E];exact aR
 .intro j _ d hd I V tk L E;refine Ap L Z6 ?_;refine A0.Ha rfl<|sK λU u2=>A0.bb<|sR Z6 ?_
  refine sV Z6 λK z=>?_;refine ci (De hd) ?_;refine⟨_,.inl ⟨_,O d,hs d I,rfl⟩,?_⟩;(try refine ev ?_);apply z;clear z K;refine A0.cond rfl (λJ=>?_) (λJ=>?_);refine sR Z6 ?_;rw[Sc hd J E];exact aR;refine A0.kk (u2 _ _ ?_);clear u2 U;refine lT Z6 ?_;refine⟨(),?_,sS,sB⟩;rw[tk];intro y hy;rcases C6.1 hy with hy|hy;exact E y hy;simp only[B5,Fb,Fg]at hy;rw[hy];exact J
abbrev q4t:List Nat:=[0,2,3,5,6,7,8,9]
def C0c(l:List Ak)(U:l.length<=sm):Ab prog 175 [.d (.slice (Ax l))] (.d (.slice (Ba (l.map (·.name))))):=by
 refine cB func175 ?_;refine sR q4t ?_;refine sR q4t ?_;refine A0.pp 3 1 3 rfl<|kR q4t λV u1=>?_;refine A0.bb (A0.ii l (X:=Unit) (λj _=>[(3,.acc 3),(6,.d (.slice (Ax l))),(7,A7 l.length),(8,A7 j)]) (λj _=>[(3,.rows 1 (Ba ((l.take j).map (·.name))))]) (λj _=>True) () trivial sS (by simp[ble,A8,Ba]) ?_ ?_)
 intro _ J;rw[Cx];refine Ap B6 q4t ?_;refine A0.stop rfl ?_;simp only[A5,A9,Ac];refine u1 _ _<|sR q4t ?_;exact aR
 .intro j _ d hd I O tk E J;rw[tk];refine Ap E q4t ?_;refine A0.Ha rfl<|sK λL u2=>A0.bb ?_
  refine sV q4t λK z=>?_;refine ci (Fc hd) ?_;apply z;clear z K;(refine lV q4t λK z=>?_;refine⟨by simp,by simp only[Bc,D0];unfold lim sm at*;omega,?_⟩;(try refine ev ?_);apply z;clear z K;try simp only[A5,A9]);refine u2 _ _ ?_;clear u2 L;refine lT q4t ?_;exact⟨(),trivial,sS,by simp[ble,A8,Ba]⟩
abbrev q5t:List Nat:=[0,2,3,4,8]
def Qh(l:List Ak)(U:l.length<=sm):Ab prog 48 [.d (.slice (Ax l))] (.d (.slice (Ba (l.map (·.name))))):=by
 refine cB func48 ?_;refine sR q5t ?_;refine sR q5t ?_;refine A0.pp 3 1 3 rfl<|kR q5t λV u1=>?_;refine A0.bb (A0.ii l (X:=Unit) (λj _=>[(0,.d (.slice (Ax l))),(3,.acc 3),(4,A7 j)]) (λj _=>[(3,.rows 1 (Ba ((l.take j).map (·.name))))]) (λj _=>True) () trivial sS (by simp[ble,A8,Ba]) ?_ ?_)
 intro _ L;rw[Cx];refine Ae B6 q5t λE u2=>?_;refine A0.ss rfl ?_;simp only[A5,A9,Ac];refine u1 _ _<|sR q5t ?_;exact aR
 intro j _ d hd J O tk I L;rw[tk];refine Ae I q5t λE u2=>?_;refine gI u2 ?_;clear u2 E;refine sK λE u2=>A0.bb ?_;(refine lV q5t λK z=>?_;refine ci (Fc hd) ?_;refine⟨by simp,by simp only[Bc,D0];unfold lim sm at*;omega,?_⟩;(try refine ev ?_);apply z;clear z K;try simp only[A5,A9]);refine u2 _ _ ?_;clear u2 E;refine lT q5t ?_;exact⟨(),trivial,sS,by simp[ble,A8,Ba]⟩
def C5k:∀a b:A2,(Op.bytesLess a b=true↔Bw a b = -1)/\(Op.bytesLess b a=true↔Bw a b=1)/\(Bw a b = -1\/Bw a b=0\/Bw a b=1)
 |[],[]=>by simp[Op.bytesLess,Bw]
 |[],_::_=>by simp[Op.bytesLess,Bw]
 |_::_,[]=>by simp[Op.bytesLess,Bw]
 |x::xs,y::Z=>by
  obtain⟨O,W,U⟩:=C5k xs Z;simp only[Op.bytesLess,Bw,Xu,Bi,E4,Wy];by_cases E:x<y
  .have L:¬y<x:=λh=>Zc x (UInt8.lt_trans E h);have I:¬y=x:=λh=>by subst h;exact Zc _ E
   simp[E,L,I]
  .by_cases J:y<x
   .have I:¬x=y:=λh=>by subst h;exact Zc _ J
    simp[E,J,I]
   .have V:x=y:=by rcases As2 x.toNat y.toNat with h|h|h;exact absurd (Ak0.2 h) E;exact UInt8.toNat_inj.1 h;exact absurd (Ak0.2 h) J
    subst V;simp[Zc,O,W,U]
def C2t:∀a:A2,Bw a a=0
 |[]=>rfl
 |x::xs=>by rw[Bw,A3 (Zc x),A3 (Zc x)];exact C2t xs
def Tx:∀{a b:A2},Bw a b=0↔a=b
 |[],[]=>by simp[Bw]
 |[],_::_=>by simp[Bw]
 |_::_,[]=>by simp[Bw]
 |x::xs,y::O=>by
  rw[Bw];by_cases I:x<y
  .have E:¬x=y:=λh=>by subst h;exact Zc _ I
   simp[I,E]
  .by_cases J:y<x
   .have E:¬x=y:=λh=>by subst h;exact Zc _ J
    simp[I,J,E]
   .have L:x=y:=by rcases As2 x.toNat y.toNat with h|h|h;exact absurd (Ak0.2 h) I;exact UInt8.toNat_inj.1 h;exact absurd (Ak0.2 h) J
    subst L;simp[Zc,Tx]
def E1j(a:A2):Ab prog 220 [B4 a] (B1 false):=by refine cB func220 ?_;refine sR [0,2] ?_;refine sR [0,2] ?_;exact aR
abbrev Yh:List Nat:=[0,1,4,5,6,11,12,13,16,19]
def G5w(a b:A2):Ab prog 191 [B4 a,B4 b] (A7 (Bw a b)):=by
 obtain⟨L,O,U⟩:=C5k a b;refine cB func191 ?_;refine sR Yh ?_;refine sC (E1j a) Yh ?_;refine sC (E1j b) Yh ?_;refine kR Yh λI u1=>?_;refine kI u1 ?_;clear u1 I;refine kR Yh λI u1=>?_;refine kI u1 ?_;clear u1 I;refine kR Yh λI u1=>?_;refine A0.Nh rfl u1 (λJ=>?_) (λJ=>?_);refine sR Yh ?_;rw[L.1 J];exact aR;clear u1 I;refine kR Yh λI u1=>?_;refine A0.Nh rfl u1 (λE=>?_) (λE=>?_);refine sR Yh ?_;rw[O.1 E];exact aR;clear u1 I;refine sR Yh ?_;have:Bw a b=0:=by rcases U with h|h|h;rw[L.2 h]at J;simp at J;exact h;rw[O.2 h]at E;simp at E
 rw[this];exact aR
def G4m(a b:A2):Ab prog 160 [B4 a,B4 b] (A7 (Bw a b)):=by refine cB func160 ?_;refine sR [0,1,4] ?_;refine sC (G5w a b) [0,1,4] ?_;exact aR
abbrev X8:List Nat:=[0,2,3,5,6,7,8,9,14]
def F6b(a b:Int):Ab prog 159 [.d (.slice [[.int .i64 a],[.int .i64 b]])] (A7 (if a≠0 then a else b)):=by
 refine cB func159 ?_;refine sR X8 ?_;refine sR X8 ?_;refine kR X8 λK1 u1=>?_;refine A0.bb (A0.ii [a,b] (X:=Unit) (λj _=>[(3,A7 0),(6,.d (.slice [[.int .i64 a],[.int .i64 b]])),(7,A7 2),(8,A7 j)]) (λ_ _=>[]) (λj _=>(1<=j->a=0)/\(2<=j->b=0)) () (by simp) sS sB ?_ ?_);intro _ I;refine sR X8 ?_;refine A0.stop rfl ?_;simp only[A5,A9,Ac];refine u1 _ _<|sR X8 ?_;obtain⟨O,V⟩:=I;simp only[Ar,Az]at O V;rw[O (by omega),V (by omega)];exact aR
 .intro j _ d hd U dp tk L I;have E:(j:Int)<2:=by simpa using L
  have Z:([[.int .i64 a],[.int .i64 b]]:List (List D))[j]?=some [.int .i64 d]:=by
   match j,hd,E with
   |0,hd,_=>simp at hd;subst hd;rfl
   |1,hd,_=>simp at hd;subst hd;rfl
   |j+2,_,h=>omega
  refine Ap E X8 ?_;refine A0.Ha rfl<|sK λK2 u2=>A0.bb ?_
  refine sV X8 λK z=>?_;refine ci Z ?_;apply z;clear z K;refine sR X8 ?_;refine A0.cond rfl (λJ=>?_) (λJ=>?_)
  .refine sR X8 ?_;have W:(if a≠0 then a else b)=d:=by
    simp only[E4,]at J
    match j,hd,I with
    |0,hd,_=>simp at hd;subst hd;rw[A6 J]
    |1,hd,I=>simp at hd;subst hd;rw[A3 (by simp[I.1 (by omega)])]
    |j+2,hd,_=>simp at hd
   rw[W];exact aR
  .refine A0.kk (u2 _ _ ?_);clear u2 K2
   (refine lV X8 λK z=>?_;refine cl ?_;apply z;clear z K;try simp only[A5,])
   refine⟨(),?_,sS,sB⟩;simp only[Ai7,Decidable.not_not]at J
   match j,hd,I with
   |0,hd,_=>simp at hd;subst hd;exact⟨λ_=>J,by omega⟩
   |1,hd,I=>simp at hd;subst hd;exact⟨λ_=>I.1 (by omega),λ_=>J⟩
   |j+2,hd,_=>simp at hd
mutual
def E6:Ty->Ty->Int
 |.mk n a _,u=>if Bw n u.name≠0 then Bw n u.name else E7 a u.args
def E7:List Ty->List Ty->Int
 |[],[]=>0
 |[],_::_=>-1
 |_::_,[]=>1
 |x::xs,y::E=>if E6 x y≠0 then E6 x y else E7 xs E
end
def A3r(t u:Ty):E6 t u=if Bw t.name u.name≠0 then Bw t.name u.name else E7 t.args u.args:=by cases t with|mk n a p=>rw[E6];rfl
def Ns(t u:Ty):Bool:=decide (E6 t u=0)
abbrev Rt:List Nat:=[0,1,2,6,7,8,9,10,11,12,13,14,21,31,38]
def F6h(f:FuncId)(l m:List Ty)(hl:l.length<=sm)(hf:∀t,t∈l->∀u,Ab prog f [Be t,Be u] (A7 (E6 t u))) :Ab prog 161 [Co l,Co m,.Bk f []] (A7 (E7 l m)):=by
 refine cB func161 ?_;refine sR Rt ?_;refine kR Rt λW u1=>?_;refine A0.bb (A0.ii l (X:=Unit) (λj _=>[(0,Co l),(1,Co m),(2,.Bk f []),(11,Co l),(12,A7 l.length),(13,A7 j)]) (λ_ _=>[]) (λj _=>j<=m.length/\E7 (l.drop j) (m.drop j)=E7 l m) () (by simp) sS sB ?_ ?_)
 .rintro _ ⟨hj,I⟩;refine Ap B6 Rt ?_;refine A0.stop rfl ?_;simp only[A5,A9,Ac];refine u1 _ _ ?_;rw[D3]at I;clear u1 W;refine kR Rt λW u1=>?_;refine A0.Nh rfl u1 (λE=>?_) (λE=>?_)
  .refine sR Rt ?_;have:E7 l m = -1:=by
    rw[<-I];have E:l.length<m.length:=by simpa using E
    rw[Gv E,E7]
   rw[this];exact aR
  .clear u1 W;refine sR Rt ?_;have:E7 l m=0:=by
    rw[<-I];have E:m.length<=l.length:=by simpa using E
    rw[Jf E,E7]
   rw[this];exact aR
 .rintro j _ d hd L dp tk U ⟨hj,I⟩;rw[dp]at I;refine Ap U Rt ?_;refine A0.Ha rfl<|sK λK2 u2=>A0.bb ?_
  refine sV Rt λK z=>?_;refine ci (Ev hd) ?_;apply z;clear z K;refine kR Rt λK3 Z=>?_;refine A0.Nh rfl Z (λE=>?_) (λE=>?_)
  .refine sR Rt ?_;have:E7 l m=1:=by
    rw[<-I];have E:m.length<=j:=by simpa using E
    rw[Jf E,E7]
   rw[this];exact aR
  clear Z K3;have J:j<m.length:=by simpa using E
  obtain⟨e,O⟩:∃e,m[j]?=some e:=⟨_,Br J⟩;have V:m.drop j=e::m.drop (j+1):=by rw[Gv J];rw[Br J]at O;simp only[B0]at O;rw[O]
  rw[V,E7]at I;refine sV Rt λK z=>?_;refine ci (Ev O) ?_;apply z;clear z K;refine sC (hf d L e) Rt ?_;refine sR Rt ?_;refine A0.cond rfl (λE=>?_) (λE=>?_);refine sR Rt ?_;rw[A6 (by simpa using E)]at I;rw[<-I];exact aR;rw[A3 (by simpa using E)]at I;refine A0.kk (u2 _ _ ?_);clear u2 K2;refine lT Rt ?_;exact⟨(),⟨by omega,I⟩,sS,sB⟩
def F9r:∀(t:Ty),t.Sm->∀u:Ty,Ab prog 122 [Be t,Be u] (A7 (E6 t u)):=by
 intro t
 induction t using Ty.induct with
 |h t J =>
 intro hs u;rw[A3r];have E:=F6h 122 t.args u.args hs.len (λx I y=>J x I (hs.arg x I) y);refine cB func122 ?_;refine sR [0,1,2,3,4] ?_
 (refine sG [0,1,2,3,4] [] 9 [] λK z=>?_;refine ev ?_;refine cc (G4m t.name u.name) ?_;refine cc E ?_;refine cc (F6b _ _) ?_;apply z;clear z K)
 exact aR
def A9o(t u:Ty)(hs:t.Sm):Ab prog 62 [Be t,Be u] (B1 (Ns t u)):=by unfold Ns;refine cB func62 ?_;refine sR [0,1,2,3,4] ?_;refine sC (F9r t hs u) [0,1,2,3,4] ?_;exact aR
inductive Ty.Lm:Ty->Prop where
 |mk (n:A2) (a:List Ty) (p:Int):a.length<=sm->(∀t,t∈a->Ty.Lm t)->Ty.Lm (.mk n a p)
def Ty.Lm.len{t:Ty}(h:t.Lm):t.args.length<=sm:=by cases h;assumption
def Ty.Lm.arg{t:Ty}(h:t.Lm):∀u,u∈t.args->u.Lm:=by cases h;assumption
def Ty.Sm.lm:∀{t:Ty},t.Sm->t.Lm:=λh=>by induction h with|mk n a p _ E _ I=>exact .mk n a p E I
abbrev R4:List Nat:=[0,1,2,3,4,5,6,11,28,43,51,58]
def E6o:∀(t:Ty),t.Lm->∀u:Ty,Ab prog 102 [Be t,Be u] (A7 (E6 t u)):=by
 intro t
 induction t using Ty.induct with
 |h t ih =>
 intro hs u;have a2:=hs.len;rw[A3r];refine cB func102 ?_;refine sR R4 ?_;refine kR R4 λL u1=>?_;refine A0.Nh rfl u1 (λE=>?_) (λE=>?_)
 .refine sC (B4z t.name u.name) R4 ?_;rw[A6 (λh=>(by simpa using E:¬t.name=u.name) (Tx.1 h))];exact aR
 clear u1 L;have a0:t.name=u.name:=by simpa using E
 rw[A3 (by rw[a0];simp[C2t])];refine kR R4 λL u1=>?_;have V:∀(j:Nat) sl bx,sle sl [(2,.box 2 0),(3,.box 3 0)]->ble bx [(2,.cells [.d (.str t.name),Co t.args,A7 t.pos]),(3,.cells [.d (.str u.name),Co u.args,A7 u.pos])]->j<=t.args.length->j<=u.args.length->(t.args.length=j\/u.args.length=j)->E7 (t.args.drop j) (u.args.drop j)=E7 t.args u.args->L sl bx:=by
  intro j sl bx h1 h2 a5 a4 a3 I;refine u1 _ _ (A0.ww h1 h2 ?_);clear u1 L;refine kR R4 λL u1=>?_;refine A0.Nh rfl u1 (λE=>?_) (λE=>?_)
  .refine sR R4 ?_;have:E7 t.args u.args = -1:=by
    rw[<-I];have E:t.args.length<u.args.length:=by simpa using E
    have:t.args.length=j:=by omega
    rw[Jf (by omega),Gv (show j<u.args.length by omega),E7]
   rw[this];exact aR
  clear u1 L;refine kR R4 λL u1=>?_;refine A0.Nh rfl u1 (λO=>?_) (λO=>?_)
  .refine sR R4 ?_;have:E7 t.args u.args=1:=by
    rw[<-I];have E:u.args.length<t.args.length:=by simpa using O
    rw[Gv (show j<t.args.length by omega),Jf (show u.args.length<=j by omega),E7]
   rw[this];exact aR
  clear u1 L;refine sR R4 ?_;have:E7 t.args u.args=0:=by
   rw[<-I];have h1:u.args.length<=t.args.length:=by simpa using E
   have h2:t.args.length<=u.args.length:=by simpa using O
   rw[Jf (by omega),Jf (by omega),E7]
  rw[this];exact aR
 refine A0.bb (A0.ii t.args (X:=Unit) (λj _=>[(2,.box 2 0),(3,.box 3 0),(5,A7 j)]) (λ_ _=>[(2,.cells [.d (.str t.name),Co t.args,A7 t.pos]),(3,.cells [.d (.str u.name),Co u.args,A7 u.pos])]) (λj _=>j<=u.args.length/\E7 (t.args.drop j) (u.args.drop j)=E7 t.args u.args) () (by simp) sS sB ?_ ?_)
 .rintro _ ⟨hj,I⟩;refine Ae B6 R4 λK2 u2=>?_;refine A0.ss rfl ?_;simp only[A5,A9,Ac];exact V t.args.length _ _ sS sB (Bq _) hj (.inl rfl) I
 .rintro j _ d hd J dp tk U ⟨hj,I⟩;refine sK λK2 u2=>?_;by_cases W:(j:Int)<(u.args.length:Int)
  .obtain⟨e,Z⟩:∃e,u.args[j]?=some e:=⟨_,Br (by omega)⟩;have a1:u.args.drop j=e::u.args.drop (j+1):=by
    rw[Gv (by omega)];rw[Br (by omega)]at Z;simp only[B0]at Z;rw[Z]
   rw[dp,a1,E7]at I;refine Er U W R4 ?_;refine gI u2 ?_;clear u2 K2;refine sK λK2 u2=>A0.bb ?_
   (refine sG R4 [] 10 [] λK z=>?_;refine ev ?_;refine ci (Ev hd) ?_;refine ci (Ev Z) ?_;refine cc (ih d J (hs.arg d J) e) ?_;apply z;clear z K)
   refine sR R4 ?_;refine A0.cond rfl (λE=>?_) (λE=>?_)
   .refine sR R4 ?_;rw[A6 (by simpa using E)]at I;rw[<-I];exact aR
   rw[A3 (by simpa using E)]at I;refine A0.kk (u2 _ _ ?_);clear u2 K2;refine lT R4 ?_;exact⟨(),⟨by omega,I⟩,sS,sB⟩
  .refine Er U W R4 ?_;refine A0.ss rfl ?_;simp only[A5,A9,Ac];exact V j _ _ sS sB (by omega) hj (.inr (by omega)) I
def C1h(t:Ty)(h:t.Sm)(u:Ty):Ab prog 102 [Be t,Be u] (A7 (E6 t u)):=E6o t h.lm u
def B0j(t u:Ty)(hs:t.Lm):Ab prog 112 [Be t,Be u] (B1 (Ns t u)):=by unfold Ns;refine cB func112 ?_;refine sR [0,1,2,3,4] ?_;refine sC (E6o t hs u) [0,1,2,3,4] ?_;exact aR
def E9g(t u:Ty)(hs:t.Sm):Ab prog 112 [Be t,Be u] (B1 (Ns t u)):=B0j t u hs.lm
abbrev D5(e:Ex):List SV:=[.d (.int .i64 e.kind),.d (.str e.name),.d (.str e.type.name),.d (.slice (Ag e.type.args)),.d (.int .i64 e.type.pos),.d (.slice (Ag e.targs)),.d (.slice (Bj e.kids)),.d (.int .i64 e.pos)]
def Jy:List Ty->List Ty->Bool
 |[],[]=>true
 |x::xs,y::E=>Ns x y && Jy xs E
 |_,_=>false
def C6n:∀{l m:List Ty},Jy l m=true->l.length=m.length
 |[],[],_=>rfl
 |x::xs,y::E,h=>by simp only[Jy,Bi]at h;simp[C6n h.2]
 |[],_::_,h=>by simp[Jy]at h
 |_::_,[],h=>by simp[Jy]at h
mutual
def Sh:Ex->Ex->Bool
 |.mk k n t a ks _,u=>decide (k=u.kind) && decide (n=u.name) && Ns t u.type && Jy a u.targs && Kk ks u.kids
def Kk:List Ex->List Ex->Bool
 |[],[]=>true
 |x::xs,y::E=>Sh x y && Kk xs E
 |_,_=>false
end
def C2n(e u:Ex):Sh e u=(decide (e.kind=u.kind) && decide (e.name=u.name) && Ns e.type u.type && Jy e.targs u.targs && Kk e.kids u.kids):=by cases e with|mk k n t a ks p=>rw[Sh];rfl
def C8a:∀{l m:List Ex},Kk l m=true->l.length=m.length
 |[],[],_=>rfl
 |x::xs,y::E,h=>by rw[Kk,Bi]at h;simp[C8a h.2]
 |[],_::_,h=>by simp[Kk]at h
 |_::_,[],h=>by simp[Kk]at h
def A0f{α:Type}{l:List α}{j:Nat}(h:j<l.length):∃e,l[j]?=some e/\l.drop j=e::l.drop (j+1):=⟨l[j],Br h,Gv h⟩
abbrev Y0:List Nat:=[0,1,4,5,10,14,26]
def G3e(l m:List Ty)(hl:l.length<=sm)(hs:∀t,t∈l->t.Lm):Ab prog 140 [Co l,Co m] (B1 (Jy l m)):=by
 refine cB func140 ?_;refine sR Y0 ?_;refine kR Y0 λW u1=>?_;refine A0.Nh rfl u1 (λE=>?_) (λE=>?_)
 .refine sR Y0 ?_;have:Jy l m=false:=by
   cases h:Jy l m with
   |false=>rfl
   |true=>have:=C6n h;simp[this]at E
  rw[this];exact aR
 clear u1 W;have O:l.length=m.length:=by
  have:(l.length:Int)=m.length:=by simpa using E
  omega
 refine kR Y0 λW u1=>?_;refine A0.bb (A0.ii l (X:=Unit) (λj _=>[(0,Co l),(1,Co m),(5,A7 j)]) (λ_ _=>[]) (λj _=>Jy (l.drop j) (m.drop j)=Jy l m) () (by simp) sS sB ?_ ?_);intro _ I;refine Ae B6 Y0 λL u2=>?_;refine A0.ss rfl ?_;simp only[A5,A9,Ac];refine u1 _ _<|sR Y0 ?_;rw[D3,O,D3]at I;rw[<-I];exact aR
 intro j _ d hd J Z tk U I;obtain⟨e,he,V⟩:=A0f (l:=m) (j:=j) (by omega);rw[Z,V,Jy]at I;refine Ae U Y0 λL u2=>?_;refine gI u2 ?_;clear u2 L;refine sK λL u2=>A0.bb ?_;refine sG Y0 [] 8 [] λK z=>?_;refine ev ?_;refine ci (Ev hd) ?_;refine ci (Ev he) ?_;refine cc (B0j d e (hs d J)) ?_;apply z;clear z K;refine A0.cond rfl (λE=>?_) (λE=>?_);refine sR Y0 ?_;simp only[Jj]at E;rw[E,C8]at I;rw[<-I];exact aR;simp only[Qc]at E;rw[E,Cr]at I;refine A0.kk (u2 _ _ ?_);clear u2 L;refine lT Y0 ?_;exact⟨(),I,sS,sB⟩
inductive Ex.Lm:Ex->Prop where
 |mk (k:Int) (n:A2) (t:Ty) (a:List Ty) (ks:List Ex) (p:Int):t.Lm->a.length<=sm->(∀t,t∈a->t.Lm)->ks.length<=sm->(∀e,e∈ks->Ex.Lm e)->Ex.Lm (.mk k n t a ks p)
def Ex.Lm.type{e:Ex}(h:e.Lm):e.type.Lm:=by cases h;assumption
def Ex.Lm.targs{e:Ex}(h:e.Lm):e.targs.length<=sm/\∀t,t∈e.targs->t.Lm:=by cases h;exact⟨by assumption,by assumption⟩
def Ex.Lm.kids{e:Ex}(h:e.Lm):e.kids.length<=sm/\∀t,t∈e.kids->t.Lm:=by cases h;exact⟨by assumption,by assumption⟩
def Ex.Sm.lm:∀{e:Ex},e.Sm->e.Lm:=by
 intro e
 induction e using Ex.induct with
 |h e I =>
 intro h;obtain⟨k,n,t,a,ks,p⟩:=e;exact .mk k n t a ks p h.type.lm h.targs.1 (λu E=>(h.targs.2 u E).lm) h.kids.1 λu E=>I u E (h.kids.2 u E)
abbrev P9:List Nat:=[0,1,2,3,4,5,42,47,61]
def F6o:∀(a:Ex),a.Lm->∀b:Ex,Ab prog 86 [Bg a,Bg b] (B1 (Sh a b)):=by
 intro a
 induction a using Ex.induct with
 |h a ih =>
 intro hs b;have a2:=hs.kids.1;have O:=G3e a.targs b.targs hs.targs.1 hs.targs.2;have I:=B0j a.type b.type hs.type;rw[C2n];refine cB func86 ?_;refine sR P9<|sK λK1 u1=>?_;by_cases E:a.kind=b.kind
 .by_cases J:a.name=b.name
  .rcases Fj (Ns a.type b.type)with h3|h3
   .rw[h3]at I;rcases Fj (Jy a.targs b.targs)with h4|h4
    .rw[h4]at O
     (refine sQ P9 λK z=>?_;refine Du E J ?_;refine cc I ?_;refine cc O ?_;apply z;clear z K)
     refine A0.Nh rfl u1 (λL=>?_) (λL=>?_)
     .refine sR P9 ?_;have:Kk a.kids b.kids=false:=by
       cases h:Kk a.kids b.kids with
       |false=>rfl
       |true=>have:=C8a h;simp[this]at L
      rw[this,Sf];exact aR
     clear u1 K1;simp only[E,J,h3,h4,Ra,Cr];have Z:a.kids.length=b.kids.length:=by
      have:(a.kids.length:Int)=b.kids.length:=by simpa using L
      omega
     refine kR P9 λK1 u1=>?_;refine A0.bb (A0.ii a.kids (X:=Unit) (λj _=>[(2,.box 2 0),(3,.box 3 0),(5,A7 j)]) (λ_ _=>[(2,.cells (D5 a)),(3,.cells (D5 b))]) (λj _=>Kk (a.kids.drop j) (b.kids.drop j)=Kk a.kids b.kids) () (by simp) sS (by simp[ble,A8,E,J]) ?_ ?_)
     .intro _ V;refine Ae B6 P9 λW u2=>?_;refine A0.ss rfl ?_;simp only[A5,A9,Ac];refine u1 _ _<|sR P9 ?_;rw[D3,Z,D3]at V;rw[<-V,Kk];exact aR
     .intro j _ d hd U dp tk a0 V;obtain⟨e,he,a1⟩:=A0f (l:=b.kids) (j:=j) (by omega);rw[dp,a1,Kk]at V;refine Ae a0 P9 λW u2=>?_;refine gI u2 ?_;clear u2 W;refine sK λW u2=>A0.bb ?_
      (refine sG P9 [] 10 [] λK z=>?_;refine ev ?_;refine ci (Ck hd) ?_;refine ci (Ck he) ?_;refine cc (ih d U (hs.kids.2 d U) e) ?_;apply z;clear z K)
      refine A0.cond rfl (λL=>?_) (λL=>?_)
      .refine sR P9 ?_;simp only[Jj]at L;rw[L,C8]at V;rw[<-V];exact aR
      simp only[Qc]at L;rw[L,Cr]at V;refine A0.kk (u2 _ _ ?_);clear u2 W;refine lT P9 ?_;exact⟨(),V,sS,sB⟩
    .rw[h4]at O
     (refine sQ P9 λK z=>?_;refine Du E J ?_;refine cc I ?_;refine cc O ?_;apply z;clear z K)
     refine tI ?_;refine sR P9 ?_;simp only[E,J,h3,h4,Ra,Cr,C8];exact aR
   .rw[h3]at I
    (refine sQ P9 λK z=>?_;refine Du E J ?_;refine cc I ?_;apply z;clear z K)
    refine tI ?_;refine sR P9 ?_;simp only[E,J,h3,Ra,Cr,C8];exact aR
  .refine Er E J P9 ?_;refine tI ?_;refine sR P9 ?_;simp only[E,J,Ra,Zj,Cr,C8];exact aR
 .refine Ap E P9 ?_;refine tI ?_;refine sR P9 ?_;simp only[E,Zj,C8];exact aR
def Fi(env:List Ak)(t:Ty):Int:=if t.args.length=0 then Cw (λf=>decide (f.name=t.name)) env else -1
abbrev Yd:List Nat:=[0,1,3,4,5,15,25]
def B0h(env:List Ak)(t:Ty)(hl:env.length<=sm):Ab prog 98 [.d (.slice (Ax env)),Be t] (A7 (Fi env t)):=by
 unfold Fi;refine cB func98 ?_;refine sR Yd ?_;refine kR Yd λK1 u1=>?_;have E:∀sl bx,(if t.args.length=0 then Cw (λf=>decide (f.name=t.name)) env else -1) = -1->K1 sl bx:=by intro sl bx h;refine u1 _ _<|sR Yd ?_;rw[h];exact aR
 by_cases O:t.args.length=0
 .have I:(t.args.length:Int)=0:=by omega
  refine A0.bb (A0.ii env (X:=Unit) (λj _=>[(0,.d (.slice (Ax env))),(3,.box 3 0),(5,A7 j)]) (λ_ _=>[(3,.cells [.d (.str t.name),Co t.args,A7 t.pos])]) (λj _=>∀y,y∈env.take j->(λf:Ak=>decide (f.name=t.name)) y=false) () (by simp) sS sB ?_ ?_);intro _ J;refine Ae B6 Yd λL u2=>?_;refine A0.ss rfl ?_;simp only[A5,A9,Ac];rw[Cx]at J;exact E _ _ (by rw[A6 O,Tb J]);intro j _ d hd W dp tk V J;refine P4 V I Yd λL u2=>?_;refine gI u2 ?_;clear u2 L;refine sK λL u2=>A0.bb ?_;refine sG Yd [] 7 [] λK z=>?_;refine ev ?_;refine ci (Fc hd) ?_;apply z;clear z K;refine A0.cond rfl (λU=>?_) (λU=>?_);refine sR Yd ?_;rw[A6 O,Sc hd U J];exact aR;refine A0.kk (u2 _ _ ?_);clear u2 L;refine lT Yd ?_;refine⟨(),?_,sS,sB⟩;rw[tk];intro y hy;rcases C6.1 hy with hy|hy;exact J y hy;simp only[B5,Fb,Fg]at hy;rw[hy];exact U
 .have I:¬(t.args.length:Int)=0:=by omega
  refine A0.bb (A0.ii ([]:List Nat) (X:=Unit) (λj _=>[(0,.d (.slice (Ax env))),(3,.box 3 0),(5,A7 0)]) (λ_ _=>[(3,.cells [.d (.str t.name),Co t.args,A7 t.pos])]) (λj _=>True) () trivial sS sB ?_ ?_);intro _ J;refine sK λL u2=>?_;by_cases Z:(0:Int)<(env.length:Int);refine Er I Z Yd ?_;refine A0.ss rfl ?_;simp only[A5,A9,Ac];exact E _ _ (by rw[A3 O]);refine Ap Z Yd ?_;refine A0.ss rfl ?_;simp only[A5,A9,Ac];exact E _ _ (by rw[A3 O]);intro j _ d hd;simp at hd
def G7o(t:Ty)(x:Ak):Ab prog 251 [Sa x,.Aj (Bs t) 0] (B1 (decide (x.name=t.name))):=by refine cB func251 ?_;refine sR [0,1,2,3] ?_;refine sR [0,1,2,3] ?_;exact aR
def Ct(env:List Ak)(t:Ty):Option Ty:=if Fi env t<0 then none else(env[(Fi env t).toNat]?).map (·.bound)
def B4k:Option Ty->SV
 |some b=>.tuple [Be b,B1 true]
 |none=>.tuple [Be (.mk [] [] 0),B1 false]
theorem A7k{env:List Ak}{t:Ty}(h:¬Fi env t<0):∃f,env[(Fi env t).toNat]?=some f/\(Fi env t).toNat<env.length/\t.args.length=0:=by
 unfold Fi Cw at h |-;by_cases E:t.args.length=0
 .simp only[A6 E]at h |-;cases I:env.findIdx? (λf=>decide (f.name=t.name))with
  |none=>rw[I]at h;simp at h
  |some i =>have:=(Ai3.1 I).1;simp only[Hx];exact⟨env[i],Br this,this,E⟩
 simp only[A3 E]at h;omega
abbrev A2e:List Nat:=[0,1,3,4,5,6,7,19]
def D5z(env:List Ak)(t:Ty)(hl:env.length<=sm)(hs:∀f,f∈env->f.Sm):Ab prog 229 [.d (.slice (Ax env)),Be t] (B4k (Ct env t)):=by
 have Z:=G8p 251 [.Aj (Bs t) 0] (λx=>rfl) (λf=>decide (f.name=t.name)) env hl (λx _=>G7o t x);unfold Ct;have O:=A7k (env:=env) (t:=t);have V:t.args.length=0->Fi env t=Cw (λf=>decide (f.name=t.name)) env:=λh=>by unfold Fi;rw[A6 h]
 have L:¬t.args.length=0->Fi env t = -1:=λh=>by unfold Fi;rw[A3 h]
 generalize Fi env t=i at*;generalize Cw (λf:Ak=>decide (f.name=t.name)) env=i' at*;refine cB func229 ?_;refine sR A2e ?_;refine sR A2e ?_;refine A0.zz 3 rfl rfl<|A0.ww (sl':=[(0,.d (.slice (Ax env))),(3,.Aj (Bs t) 0),(4,.box 4 0),(6,.Bk 251 [.Aj (Bs t) 0])]) (bx':=[(4,.cells [.d (.str []),.d .nil,.d (.int .i64 0)])]) (by simp[M6,SV.sub,SV.Kj,sle,Av,Af,Bs]) (by simp[Ld,Aq.sub,SV.Kj,SV.sub,ble,A8,C5]) ?_
 refine sC Z A2e<|sK λK1 u1=>?_;by_cases ha:t.args.length=0
 .obtain rfl:=V ha;have E:¬(0:Int)<(t.args.length:Int):=by omega
  refine Ap E A2e ?_;refine A0.Nh rfl u1 (λW=>?_) (λW=>?_);refine sR A2e ?_;rw[A6 (by simpa using W)];exact aR;clear u1 K1;have J:¬i<0:=by simpa using W
  obtain⟨f,U,a0,_⟩:=O J;have I:=Bm U;rw[A3 J,U];have h0:0<=i:=by omega
  refine sV A2e λK z=>?_;refine ci (Fc U) ?_;refine cc (B4u f.bound (hs f I).bound) ?_;apply z;clear z K;exact aR
 .have E:(0:Int)<(t.args.length:Int):=by omega
  rw[L ha];refine Ap E A2e ?_;refine tI ?_;refine sR A2e ?_;exact aR
def Fk(p:Prog)(nm:A2):Option Decl:=p.decls.find? (λd=>d.J3 nm)
def Ey(p:Prog)(nm:A2):List Ak:=match Fk p nm with
 |some d=>d.A1
 |none=>[]
abbrev q1u:List Nat:=[0,1,2,4,5,10]
def B8z(p:Prog)(nm:A2):Ab prog 105 [Cq p,B4 nm] (.d (.slice (Ax (Ey p nm)))):=by
 refine Ch.bd (Enters.of func105 rfl (by decide)) λI=>?_;have J:=B4j I.1;have hl:=J.decls.1;refine cB func105 ?_;refine sR q1u ?_;refine sC (A7a p nm) q1u<|sK λZ u1=>?_;rcases A8g nm p.decls 0 with⟨E,O⟩|⟨k,d,E,O,U⟩
 .rw[E];have L:Ey p nm=[]:=by simp[Ey,Fk,O]
  refine sR q1u ?_;refine tI ?_;refine sR q1u ?_;rw[L];exact aR
 .rw[O];have L:Ey p nm=d.A1:=by simp[Ey,Fk,U]
  have W:¬((0+k:Nat):Int)<0:=by omega
  have V:((0+k:Nat):Int).toNat=k:=by omega
  refine sR q1u ?_;refine kI u1 ?_;clear u1 Z;refine sV q1u λK z=>?_;refine ci (Ek E) ?_;apply z;clear z K;rw[L];exact aR
def Bb(p:Prog)(x:Ty)(k:Int):Bool:=decide (kindOf p x.name=k) && decide ((Ey p x.name).length=x.args.length)
def A0m(p:Prog)(x:Ty)(k:Int):Ab prog 43 [Cq p,Be x,A7 k] (B1 (Bb p x k)):=by
 unfold Bb;have L:=B8z p x.name;have I:=A8z p x.name;generalize kindOf p x.name=k' at*;generalize Ey p x.name=l at*;refine cB func43 ?_;refine sR [0,1,2,3,4,6] ?_;by_cases E:k'=k
 .have J:((l.length:Int)=(x.args.length:Int))↔l.length=x.args.length:=by omega
  (refine sG [0,1,2,3,4,6] [] 15 [] λK z=>?_;refine ev ?_;refine⟨_,.inl ⟨_,rfl,I,rfl⟩,?_⟩;(try refine Ah E ?_);refine cc L ?_;apply z;clear z K)
  simp only[E,J,Ra,Cr];exact aR
 ·(refine sG [0,1,2,3,4,6] [] 15 [] λK z=>?_;refine ev ?_;refine⟨_,.inl ⟨_,rfl,I,rfl⟩,?_⟩;(try refine Ah E ?_);apply z;clear z K)
  simp only[E,Zj,C8];exact aR
mutual
def isVal:Ex->Bool
 |.mk k _ _ _ ks _=>Te ks && decide (k=3)
def Te:List Ex->Bool
 |[]=>true
 |e::es=>isVal e && Te es
end
def A4h(e:Ex):isVal e=(Te e.kids && decide (e.kind=3)):=by cases e with|mk k n t a ks p=>rw[isVal];rfl
abbrev q2u:List Nat:=[0,1,2,3,8,17]
def F2t:∀e:Ex,e.Sm->Ab prog 113 [Bg e] (B1 (isVal e)):=by
 intro e
 induction e using Ex.induct with
 |h e W =>
 intro hs;have V:=hs.kids.1;rw[A4h];refine cB func113 ?_;refine sR q2u ?_;refine kR q2u λZ u1=>?_;refine A0.bb (A0.ii e.kids (X:=Unit) (λj _=>[(1,.box 1 0),(3,A7 j)]) (λ_ _=>[(1,.cells (D5 e))]) (λj _=>Te (e.kids.drop j)=Te e.kids) () rfl sS (by simp[ble,A8,Bp,Bs,Gs,E9,Dm,B3,Ai]) ?_ ?_)
 .intro _ E;refine Ae B6 q2u λL u2=>?_;refine A0.ss rfl ?_;simp only[A5,A9,Ac];refine u1 _ _<|sR q2u ?_;rw[D3,Te]at E;rw[<-E,Cr];exact aR
 .intro j _ d hd I U tk O E;rw[U,Te]at E;refine Ae O q2u λL u2=>?_;refine gI u2 ?_;clear u2 L;refine sK λL u2=>A0.bb ?_
  (refine sV q2u λK z=>?_;refine ci (Ck hd) ?_;refine cc (W d I (hs.kids.2 d I)) ?_;apply z;clear z K)
  refine A0.cond rfl (λJ=>?_) (λJ=>?_)
  .refine sR q2u ?_;simp only[Jj]at J;rw[J,C8]at E;rw[<-E,C8];exact aR
  simp only[Qc]at J;rw[J,Cr]at E;refine A0.kk (u2 _ _ ?_);clear u2 L
  (refine lV q2u λK z=>?_;refine cl ?_;apply z;clear z K;try simp only[A5,A9,Ac])
  exact⟨(),E,sS,(by simp[ble,A8,Bp,Bs,Gs,E9,Dm,B3,Ai])⟩
abbrev q3u:List Nat:=[0,1,4,5,9,18]
def B4i(l:List A4)(m:A2)(V:l.length<=sm):Ab prog 46 [.d (.slice (B9 l)),B4 m] (A7 (Cw (λs=>decide (s.name=m)) l)):=by
 refine cB func46 ?_;refine sR q3u ?_;refine kR q3u λW u1=>?_;refine A0.bb (A0.ii l (X:=Unit) (λj _=>[(0,.d (.slice (B9 l))),(1,B4 m),(5,A7 j)]) (λ_ _=>[]) (λj _=>∀y,y∈l.take j->(λs:A4=>decide (s.name=m)) y=false) () (by simp) sS sB ?_ ?_);intro _ E;rw[Cx]at E;refine Ae B6 q3u λI u2=>?_;refine A0.ss rfl ?_;simp only[A5,A9,Ac];refine u1 _ _<|sR q3u ?_;rw[Tb E];exact aR
 intro j _ d hd O U tk L E;refine Ae L q3u λI u2=>?_;refine gI u2 ?_;clear u2 I;refine sK λI u2=>A0.bb ?_;refine sV q3u λK z=>?_;refine ci (De hd) ?_;apply z;clear z K;refine A0.cond rfl (λJ=>?_) (λJ=>?_);refine sR q3u ?_;rw[Sc hd J E];exact aR;refine A0.kk (u2 _ _ ?_);clear u2 I;refine lT q3u ?_;refine⟨(),?_,sS,sB⟩;rw[tk];intro y hy;rcases C6.1 hy with hy|hy;exact E y hy;simp only[B5,Fb,Fg]at hy;rw[hy];exact J
def Inv.F6u{C:Ctx}{S:Nat->Prop}{w:World}{β:Names}{bx:Aa}{b:Nat}{cs cs':List SV}(h:Inv C S w β bx)(hb:(b,Aq.cells cs)∈bx)(hr:∀vs,Bz S w β cs vs->Bz S w β cs' vs) :Inv C S w β ((b,.cells cs')::C5 b bx):=by
 have E:∀k c,(k,c)∈(b,Aq.cells cs')::C5 b bx->(k=b/\c=.cells cs')\/(k≠b/\(k,c)∈bx):=by intro k c hk;rcases B5.1 hk with he|hk;simp only[Ew]at he;exact .inl he;exact .inr (Ed.1 hk)
 exact{ h with
  box:=λk c hk=>by
   rcases E k c hk with⟨rfl,rfl⟩|⟨_,hk⟩
   .obtain⟨O,ty,vs,V,Z,h3⟩:=h.box _ _ hb;exact⟨O,ty,vs,V,Z,hr vs h3⟩
   .exact h.box k c hk
  Bh:=λk c hk=>by
   rcases E k c hk with⟨rfl,rfl⟩|⟨_,hk⟩
   .exact h.Bh _ _ hb
   .exact h.Bh k c hk
  inj:=λk c L W hk I O V Z=>by
   rcases E k c hk with⟨e1,e2⟩|⟨hn,hm⟩ <;> rcases E L W I with⟨e3,e4⟩|⟨a1,J⟩
   .rw[e1,e2,e3,e4];exact⟨rfl,rfl⟩
   .rw[e1]at V;exact absurd (h.inj _ _ _ _ hb J O V Z).1.symm a1
   .rw[e3]at Z;exact absurd (h.inj _ _ _ _ hm hb O V Z).1 hn
   .exact h.inj _ _ _ _ hm J O V Z
  one:=λk Y st L Y' st' hk I=>by
   rcases E _ _ hk with⟨_,e2⟩|⟨_,hm⟩
   .cases e2
   .rcases E _ _ I with⟨_,e4⟩|⟨_,J⟩
    .cases e4
    .exact h.one _ _ _ _ _ _ hm J
  Fp:=λk Y st hk=>by
   rcases E _ _ hk with⟨_,e2⟩|⟨_,hm⟩
   .cases e2
   .have a0:∀L W,(L,W)∈(b,Aq.cells cs')::C5 b bx->∃y,(L,y)∈bx:=λL W I=>by
     rcases E _ _ I with⟨rfl,_⟩|⟨_,J⟩
     .exact⟨_,hb⟩
     .exact⟨_,J⟩
    obtain⟨V,Z,h3,h4,B,h5,h6⟩:=h.Fp k Y st hm;exact⟨V,Z,h3,λL W I=>(a0 L W I).elim λy hy=>h4 L y hy,B,h5,λO U=>⟨(h6 O U).1,(h6 O U).2.1,(h6 O U).2.2.1,λL W I=>(a0 L W I).elim λy hy=>(h6 O U).2.2.2 L y hy⟩⟩ }
def A0.Nz{ro:Option Nat}{P:Program}{n:Nat}{Q:Exit->SL->Aa->Prop}{sl:SL}{bx:Aa}{c:Code}(k sz b i:Nat){cs:List SV}(W:A8 bx b=some (.cells cs))(hi:cs[i]?=some (.d .nil))(I:b≠k)
  (h:A0 ro P n c Q (Wr k sl) ((b,.cells ((cs.map (N7 k)).set i (.acc k)))::C5 b ((k,.rows sz [])::G7 k (C5 k bx))))(J:k<=999999:=by decide):A0 ro P n c Q sl bx:=by
 intro C S w β a hs;obtain⟨V,h2⟩:=hs.inv.Wg (k:=k) (w':=w) (c:=.rows sz []) { base:=none,sz:=sz } J (by simp) (λ_ _ _=>rfl) rfl rfl rfl (Bq _) (λ_=>B9d);have E:(b,Aq.cells (cs.map (N7 k)))∈(k,Aq.rows sz [])::G7 k (C5 k bx):=by
  refine Aq9 _ ?_;have:∀{l:Aa} {x:Aq},(b,x)∈l->(b,x.Se k)∈G7 k l:=by
   intro l
   induction l with
   |nil=>intro x hx;simp at hx
   |cons p l ih =>intro x hx;obtain⟨q,y⟩:=p;rcases B5.1 hx with U|hx;simp only[Ew]at U;obtain⟨rfl,rfl⟩:=U;exact Au2 ..;exact Aq9 _ (ih hx)
  exact this (Ed.2 ⟨I,Hs W⟩)
 have Z:=V.F6u (cs':=(cs.map (N7 k)).set i (.acc k)) E (by
  intro vs hr;refine⟨by simpa using hr.1,?_⟩;intro j x v hx O;rw[Ao9]at hx;split at hx
  .rename_i L;subst L;split at hx
   .simp only[B0]at hx;subst hx;have:=hr.2 i (.d .nil) v (by simp[hi,N7,SV.has]) O;cases this with
    |d _ _ hq =>cases hq;have:=An.acc (S:=S) (w:=w) (β:=Ej β k { base:=none,sz:=sz }) k;rw[Hp]at this;exact this
   simp at hx
  exact hr.2 j x v hx O)
 refine h C S w _ a ⟨Z,hs.size,hs.defers,?_⟩;intro u;rw[A8h];exact(hs.slot u).Se h2
abbrev Mk:List Nat:=[0,1,2,3,6,7,8,9,10,20,29,33,53,67]
def D1q(vars:List A2)(args:List Ty)(hC:∀(i:Nat)(u:Ty),args[i]?=some u->Ab prog 49 [Be u,Ce [],Co []] (Be u)):∀t:Ty,t.Sm->Ab prog 49 [Be t,Ce vars,Co args] (Be (t.subst vars args)):=by
 intro t
 induction t using Ty.induct with
 |h t ih =>
 intro a1;have a5:=a1.len;refine Ch.bd (Enters.of func49 rfl (by decide)) λa3=>?_;have hv:=(A9s a3.2.1).1;have E:=Uo vars args t;refine cB func49 ?_;refine sR Mk ?_;refine kR Mk λK1 u1=>?_;have W:(t.args.length=0/\0<=Cb t.name vars 0/\Cb t.name vars 0<args.length)=False->∀sl bx,sle sl [(1,Ce vars),(2,Co args),(3,.box 3 0),(6,.box 6 0)] ->ble bx [(3,.cells [.d (.str t.name),Co t.args,A7 t.pos]),(6,.cells [.d (.str []),.d .nil,.d (.int .i64 0)])]->K1 sl bx:=by
  intro Z sl bx h1 h2;refine u1 _ _ (A0.ww h1 h2 ?_);clear u1 K1;rw[A3 (by rw[Z];exact id)]at E;refine sR Mk ?_;refine A0.Nz 67 3 9 1 rfl rfl (by decide)<|kR Mk λK1 u1=>?_;refine A0.bb (A0.ii t.args (X:=Unit) (λj _=>[(1,Ce vars),(2,Co args),(3,.box 3 0),(6,.box 6 0),(9,.box 9 0),(10,A7 j)]) (λj _=>[(3,.cells [.d (.str t.name),Co t.args,A7 t.pos]),(6,.cells [.d (.str []),.d .nil,.d (.int .i64 0)]),(9,.cells [.d (.str t.name),.acc 67,A7 t.pos]),(67,.rows 3 (Ag ((t.args.take j).map (Ty.subst vars args))))]) (λj _=>True) () trivial sS (by simp[ble,A8,H3]) ?_ ?_)
  .intro _ _;rw[Cx];refine Ae B6 Mk λJ u2=>?_;refine A0.ss rfl ?_;simp only[A5,A9,Ac];refine u1 _ _<|sR Mk ?_;rw[E];exact aR
  .intro j _ d hd I dp tk V _;rw[tk];refine Ae V Mk λJ u2=>?_;refine gI u2 ?_;clear u2 J;refine sK λJ u2=>A0.bb ?_
   (refine lG Mk [] 11 [] λK z=>?_;refine ev ?_;refine ci (Ev hd) ?_;refine cc (ih d I (a1.arg d I)) ?_;refine⟨by simp,by simp only[Bc,D0];unfold lim sm at*;omega,?_⟩;(try refine ev ?_);apply z;clear z K;try simp only[A5,A9])
   refine u2 _ _ ?_;clear u2 J
   (refine lV Mk λK z=>?_;refine cl ?_;apply z;clear z K;try simp only[A5,])
   exact⟨(),trivial,sS,by simp[ble,A8,H3,Bs]⟩
 by_cases ha:t.args.length=0
 .have U:(t.args.length:Int)=0:=by omega
  refine A0.bb (A0.ii vars (X:=Unit) (λj _=>[(1,Ce vars),(2,Co args),(3,.box 3 0),(6,.box 6 0),(7,A7 j)]) (λ_ _=>[(3,.cells [.d (.str t.name),Co t.args,A7 t.pos]),(6,.cells [.d (.str []),.d .nil,.d (.int .i64 0)])]) (λj _=>Cb t.name (vars.drop j) j=Cb t.name vars 0) () rfl sS sB ?_ ?_)
  .intro _ L;refine Ae B6 Mk λJ u2=>?_;refine A0.ss rfl ?_;simp only[A5,A9,Ac];rw[D3,Cb]at L;exact W (by rw[<-L];simp) _ _ sS sB
  .intro j _ d hd I dp tk V L;rw[dp,Cb]at L;refine P4 V U Mk λJ u2=>?_;refine gI u2 ?_;clear u2 J;refine sK λJ u2=>A0.bb ?_
   (refine sG Mk [] 6 [] λK z=>?_;refine ev ?_;refine ci (J7 hd) ?_;apply z;clear z K)
   refine A0.cond rfl (λZ=>?_) (λZ=>?_)
   .have hn:d=t.name:=by simpa using Z
    rw[A6 hn.symm]at L;rw[<-L]at E;have e0:(0:Int)<=(j:Int):=by omega
    refine kR Mk λK3 u3=>?_;refine A0.Nh rfl u3 (λO=>?_) (λO=>?_)
    .have a4:¬(j:Int)<(args.length:Int):=by
      have:=O;simp only[E4]at this;omega
     rw[A3 (λh=>a4 h.2.2),Yj ha]at E;refine sR Mk ?_;rw[E,show t.args=[] from Yj ha];exact aR
    clear u3 K3;have a2:(j:Int)<(args.length:Int):=by have:=O;simp only[Ai7]at this;omega
    rw[A6 ⟨ha,e0,a2⟩]at E;have hx:args[j]?=some args[j]:=Br (by omega);rw[Hx,hx,Dh]at E;generalize args[j]=u at*
    (refine sV Mk λK z=>?_;refine ci (Ev hx) ?_;refine cc (hC _ u hx) ?_;apply z;clear z K)
    refine sR Mk ?_;refine sR Mk ?_;rw[E];exact aR
   .have hn:¬d=t.name:=by simpa using Z
    rw[A3 (λh=>hn h.symm)]at L;refine A0.kk (u2 _ _ ?_);clear u2 J
    (refine lV Mk λK z=>?_;refine cl ?_;apply z;clear z K;try simp only[A5,])
    exact⟨(),L,sS,sB⟩
 .have U:¬(t.args.length:Int)=0:=by omega
  have a0:(t.args.length=0/\0<=Cb t.name vars 0/\Cb t.name vars 0<args.length)=False:=by simp[ha]
  refine A0.bb (A0.ii ([]:List Nat) (X:=Unit) (λj _=>[(1,Ce vars),(2,Co args),(3,.box 3 0),(6,.box 6 0),(7,A7 0)]) (λ_ _=>[(3,.cells [.d (.str t.name),Co t.args,A7 t.pos]),(6,.cells [.d (.str []),.d .nil,.d (.int .i64 0)])]) (λj _=>True) () trivial sS sB ?_ ?_)
  .intro _ _;refine sK λJ u2=>?_;by_cases he:(0:Int)<(vars.length:Int)
   .refine Er U he Mk ?_;refine A0.ss rfl ?_;simp only[A5,A9,Ac];exact W a0 _ _ sS sB
   .refine Ap he Mk ?_;refine A0.ss rfl ?_;simp only[A5,A9,Ac];exact W a0 _ _ sS sB
  .intro j _ d hd;simp at hd
def G8u(t:Ty)(h:t.Sm):Ab prog 49 [Be t,Ce [],Co []] (Be t):=by have:=D1q [] [] (by simp) t h;rw[Q7]at this;exact this
def Q0(vars:List A2)(args:List Ty)(E:∀u,u∈args->u.Sm)(t:Ty)(h:t.Sm):Ab prog 49 [Be t,Ce vars,Co args] (Be (t.subst vars args)) :=D1q vars args (λi u I=>G8u u (E u (Bm I))) t h
abbrev q5u:List Nat:=[0,1,2,6,7,8,12]
def D7b(vars:List A2)(args:List Ty)(L:∀u,u∈args->u.Sm)(l:List Ty)(V:l.length<=sm)(hs:∀t,t∈l->t.Sm) :Ab prog 121 [Co l,Ce vars,Co args] (Co (l.map (Ty.subst vars args))):=by
 refine cB func121 ?_;refine sR q5u ?_;refine sR q5u ?_;refine A0.pp 7 3 7 rfl<|kR q5u λW u1=>?_;refine A0.bb (A0.ii l (X:=Unit) (λj _=>[(0,Co l),(1,Ce vars),(2,Co args),(7,.acc 7),(8,A7 j)]) (λj _=>[(7,.rows 3 (Ag ((l.take j).map (Ty.subst vars args))))]) (λj _=>True) () trivial sS (by simp[ble,A8,H3]) ?_ ?_)
 intro _ O;rw[Cx];refine Ae B6 q5u λI u2=>?_;refine A0.ss rfl ?_;simp only[A5,A9,Ac];refine u1 _ _<|sR q5u ?_;exact aR
 intro j _ d hd E U tk J O;rw[tk];refine Ae J q5u λI u2=>?_;refine gI u2 ?_;clear u2 I;refine sK λI u2=>A0.bb ?_;(refine lV q5u λK z=>?_;refine ci (Ev hd) ?_;refine cc (Q0 vars args L d (hs d E)) ?_;refine⟨by simp,by simp only[Bc,D0];unfold lim sm at*;omega,?_⟩;(try refine ev ?_);apply z;clear z K;try simp only[A5,A9]);refine u2 _ _ ?_;clear u2 I;refine lT q5u ?_;exact⟨(),trivial,sS,by simp[ble,A8,H3,Bs]⟩
end Go.Abs
