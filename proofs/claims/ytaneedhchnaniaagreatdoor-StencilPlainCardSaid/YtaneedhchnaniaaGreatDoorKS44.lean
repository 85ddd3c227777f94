/- layer 13's plain laws: implementing is reflexive and transitive; a declaration's own type is well formed -/
import Derived.Test.YtaneedhchnaniaaGreatDoorKS37
import Derived.Test.YtaneedhchnaniaaGreatDoorKAb21
namespace Go.Abs
set_option linter.all false
open Go Go.Proofs
set_option maxRecDepth 100000
set_option maxHeartbeats 1000000
mutual
def Ty.er:Ty→Ty
 |.mk n a _=>.mk n (Ty.erL a) 0
def Ty.erL:List Ty→List Ty
 |[]=>[]
 |t::E=>t.er::Ty.erL E
end
theorem E0g:∀l:List Ty,Ty.erL l=l.map Ty.er
 |[]=>by rw [Ty.erL];rfl
 |t::l=>by rw [Ty.erL,E0g l];rfl
theorem P7 (t:Ty):t.er=.mk t.name (t.args.map Ty.er) 0:=by cases t with| mk n a p=>rw [Ty.er,E0g];rfl
theorem R4 (n:A3)(a:List Ty)(p:Int):(Ty.mk n a p).name=n:=rfl
theorem Ip (n:A3)(a:List Ty)(p:Int):(Ty.mk n a p).args=a:=rfl
theorem mkQ (n:A3)(a:List Ty)(p:Int):(Ty.mk n a p).pos=p:=rfl
theorem B4h (t:Ty):t.er.name=t.name:=by rw [P7];rfl
theorem B4r (t:Ty):t.er.args=t.args.map Ty.er:=by rw [P7];rfl
theorem D1r:∀l m:List Ty,(∀t,t∈l→∀u,Dz t u=0↔t.er=u.er)→(Dp l m=0↔l.map Ty.er=m.map Ty.er)
 |[],[],_=>by simp [Dp]
 |[],_::_,_=>by simp [Dp]
 |_::_,[],_=>by simp [Dp]
 |x::xs,y::ys,h=>by
  have I:=h x (by simp) y;have J:=D1r xs ys fun t ht=>h t (by simp [ht]);rw [Dp];by_cases E:Dz x y=0
  ·rw [A6 (by simp [E]),J];simp [I.1 E]
  ·rw [A8 E];have:¬x.er=y.er:=fun L=>E (I.2 L);simp [E,this]
theorem B2f (t:Ty):∀u,Dz t u=0↔t.er=u.er:=by
 induction t using Ty.induct with
 |h t J =>
 intro u;have I:=D1r t.args u.args J;rw [Z3,P7 t,P7 u];by_cases E:t.name=u.name
 ·rw [A6 (by simp [Ui.2 E]),I];simp [E]
 ·have:¬Bp t.name u.name=0:=fun L=>E (Ui.1 L);rw [A8 this];simp [this,E]
theorem V8 (t u:Ty):Pj t u=true↔t.er=u.er:=by unfold Pj;rw [D8];exact B2f t u
def Ak.er (f:Ak):Ak:=⟨f.name,f.bound.er,0⟩
def Param.er (f:Param):Param:=⟨f.name,f.type.er,0⟩
def A5.er (s:A5):A5:=⟨s.name,s.A1.map Ak.er,s.params.map Param.er,s.result.er,0⟩
theorem E8b (a b:Ak):Rr a b=true↔a.er=b.er:=by unfold Rr Ak.er;rw [B1,V8,D8,Ak.mk.injEq];simp
theorem F1t (a b:Param):Rm a b=true↔a.er=b.er:=by unfold Rm Param.er;rw [B1,V8,D8,Param.mk.injEq];simp
theorem C0i {α β:Type} {p:α→α→Bool} {e:α→β} (h:∀a b,p a b=true↔e a=e b):∀l m:List α,Ff p l m=true↔l.map e=m.map e
 |[],[]=>by simp [Ff]
 |[],_::_=>by simp [Ff]
 |_::_,[]=>by simp [Ff]
 |x::xs,y::ys=>by rw [Ff,B1,h,C0i h xs ys];simp
theorem E3e (a b:A5):Nz a b=true↔a.er=b.er:=by unfold Nz A5.er;rw [B1,B1,B1,V8,D8,C0i E8b,C0i F1t,A5.mk.injEq];simp [and_assoc]
theorem Ku (vars:List A3)(args:List Ty)(t:Ty):(t.subst vars args).er=t.er.subst vars (args.map Ty.er):=by
 induction t using Ty.induct with
 |h t L =>
 rw [Uq,Uq vars (args.map Ty.er) t.er,B4h,B4r,B6,B6];by_cases E:t.args.length=0∧0≤Cy t.name vars 0∧Cy t.name vars 0 < args.length
 ·have I:(Cy t.name vars 0).toNat < args.length:=by omega
  rw [A8 E,A8 E,P7,R4,Ip];rw [D3,Ba I,E8,Dc,Dc];generalize args[(Cy t.name vars 0).toNat]=u;rw [P7 u,P7 t];rfl
 ·rw [A6 E,A6 E,P7,R4,Ip,Fx,Fx];rw [P7 t,mkQ]
  congr 1
  refine Hv fun u J=>?_;exact L u J
theorem F4t (vars:List A3)(args:List Ty)(f:Ak):(f.subst vars args).er=f.er.subst vars (args.map Ty.er):=by simp only [Ak.subst,Ak.er,Ku]
theorem D1u (vars:List A3)(args:List Ty)(f:Param):(f.subst vars args).er=f.er.subst vars (args.map Ty.er):=by simp only [Param.subst,Param.er,Ku]
theorem B7r (vars:List A3)(args:List Ty)(s:A5):(s.subst vars args).er=s.er.subst vars (args.map Ty.er):=by simp only [A5.subst,A5.er,Ku,Fx,A5.mk.injEq,S8,Qv];exact⟨Hv fun u _=>F4t vars args u,Hv fun u _=>D1u vars args u⟩
theorem A4w (l:List Ak):Ad (l.map Ak.er)=Ad l:=by simp only [Ad,Fx];rfl
theorem C4c (n:Nat):(Da n).map Ty.er=Da n:=by simp only [Da,Fx];refine Hv fun i _=>?_;simp only [Function.comp,Tz];rw [P7];rfl
theorem B3i (s:A5):s.canon.er=s.er.canon:=by
 simp only [A5.canon,A5.er,A5.mk.injEq,Qv,S8];refine⟨?_,?_,?_⟩
 ·refine Lu fun i=>?_;simp only [Ha,A5.A1,D3,Um,A4w,B6];cases s.A1[i]? with
  |none=>rfl
  |some f=>simp only [E8,Ak.er,Ku,C4c]
 ·refine Lu fun i=>?_;simp only [Je,A5.A1,A5.params,D3,Um,A4w,B6];cases s.params[i]? with
  |none=>rfl
  |some f=>simp only [E8,Param.er,Ku,C4c]
 ·rw [Ku,C4c,A4w,B6]
theorem B7p {l:List A5} (E:(l.map (·.name)).Nodup) {s t:A5} (hs:s∈l)(ht:t∈l)(h:s.name=t.name):s=t:=by
 induction l with
 |nil=>simp at hs
 |cons x l L =>
  rw [Cz,Ys] at E;rcases As.1 hs with J| hs1
  ·rcases As.1 ht with I| ht1
   ·rw [J,I]
   ·exact absurd (show x.name∈l.map (·.name) from Ax.2 ⟨t,ht1,by rw [←h,J]⟩) E.1
  ·rcases As.1 ht with I| ht1
   ·exact absurd (show x.name∈l.map (·.name) from Ax.2 ⟨s,hs1,by rw [h,I]⟩) E.1
   ·exact L E.2 hs1 ht1
theorem E8n {l:List A5} (R:(l.map (·.name)).Nodup)(w:A5):A6q l w=false↔∃s,s∈l∧s.name=w.name∧s.canon.er=w.canon.er:=by
 unfold A6q F8;rcases N1 (fun s:A5=>decide (s.name=w.name)) l with ⟨L,I⟩| ⟨j,x,L,I,V⟩
 ·rw [L,A8 (by decide)];constructor
  ·intro h;cases h
  ·rintro⟨s,hs,J,_⟩;have:=I s hs;simp [J] at this
 ·rw [L,A6 (by omega),Gr,I,Dc];have O:=Bx I;have E:x.name=w.name:=by simpa using V
  constructor
  ·intro h;refine⟨x,O,E,(E3e _ _).1 ?_⟩;cases W:Nz x.canon w.canon with
   |true=>rfl
   |false=>rw [W] at h;cases h
  ·rintro⟨s,hs,J,U⟩;obtain rfl:=B7p R hs O (J.trans E.symm);rw [(E3e _ _).2 U];rfl
theorem F5b {l:List A5} (E:(l.map (·.name)).Nodup)(m:List A5):Ic l m=[]↔∀w,w∈m→∃s,s∈l∧s.name=w.name∧s.canon.er=w.canon.er:=by unfold Ic;rw [As2,List.filter_eq_nil_iff];refine forall_congr' fun w=>forall_congr' fun _=>?_;rw [←E8n E w];simp
theorem E3s {l m:List A5} (h:l.map A5.er=m.map A5.er):∀w,w∈m→∃s,s∈l∧s.name=w.name∧s.canon.er=w.canon.er:=by
 intro w I;have:w.er∈l.map A5.er:=by rw [h];exact Ax.2 ⟨w,I,rfl⟩
 obtain⟨s,hs,E⟩:=Ax.1 this;refine⟨s,hs,?_,by rw [B3i,B3i,E]⟩;have:s.er.name=w.er.name:=by rw [E]
 exact this
theorem A3f {x y:Ty} (h:x.er=y.er):x.name=y.name∧x.args.map Ty.er=y.args.map Ty.er∧x.args.length=y.args.length:=by
 have I:x.er.name=y.er.name:=by rw [h]
 have E:x.er.args=y.er.args:=by rw [h]
 rw [B4h,B4h] at I;rw [B4r,B4r] at E;exact⟨I,E,by have:=K9 List.length E;simpa using this⟩
theorem F1k {env:List Ak} {x y:Ty} (h:x.er=y.er):Ev env x=Ev env y:=by obtain⟨I,_,E⟩:=A3f h;unfold Ev;rw [I,E]
theorem B7y {env:List Ak} {x y:Ty} (h:x.er=y.er):Ck env x=Ck env y:=by unfold Ck;rw [F1k h]
theorem A7q {p:Prog} {x y:Ty} {k:Int} (h:x.er=y.er):Bz p x k=Bz p y k:=by obtain⟨I,_,E⟩:=A3f h;unfold Bz;rw [I,E]
theorem G5p {p:Prog} {env:List Ak} {x y:Ty} (h:x.er=y.er):isIface p env x=isIface p env y:=by unfold isIface;rw [A7q h,B7y h]
theorem F6v {vars:List A3} {a b:List Ty} (h:a.map Ty.er=b.map Ty.er)(l:List A5)(j:Nat):(I7 vars a l j).map A5.er=(I7 vars b l j).map A5.er:=by unfold I7;rw [Fx,Fx];refine Hv fun s _=>?_;simp only [Function.comp,B7r,h]
theorem F8z {p:Prog} {x y:Ty} (h:x.er=y.er):(Gg p x).map A5.er=(Gg p y).map A5.er:=by
 obtain⟨I,E,_⟩:=A3f h;unfold Gg;rw [A7q h,I];split
 ·exact F6v E _ _
 ·rfl
theorem E8v {p:Prog} {x y:Ty} (h:x.er=y.er):Io p x=Io p y:=by obtain⟨I,_,E⟩:=A3f h;funext d i;unfold Io Kk;rw [A7q h,I,E]
theorem E5n {p:Prog} {x y:Ty} (h:x.er=y.er)(j:Nat):(Gk p x j).map A5.er=(Gk p y j).map A5.er:=by unfold Gk;rw [E8v h,Fx,Fx];refine Hv fun s _=>?_;simp only [Function.comp,B7r,(A3f h).2.1]
theorem B7w {p:Prog} {env:List Ak} {x y:Ty} (h:x.er=y.er):(De p env x).map A5.er=(De p env y).map A5.er:=by
 unfold De;rw [B7y h];cases Ck env y with
 |some b=>rfl
 |none =>
  simp only [Mj,L7,Hh,Et];rw [A7q h];split
  ·exact F8z h
  ·exact E5n h _
theorem C6p (p:Prog)(env:List Ak)(x:Ty):((De p env x).map (·.name)).Nodup:=by
 unfold De;split
 ·exact B6u p _
 ·split
  ·simp
  ·exact (B5f p _ _ (Cq _)).1
theorem C1q (p:Prog)(env:List Ak)(x:Ty):((Cb p env x).map (·.name)).Nodup :=
 (((Yv (De p env x)).map _).nodup_iff).2 (C6p p env x)
theorem Vf {p:Prog} {env:List Ak} {x:Ty} {s:A5}:s∈Cb p env x↔s∈De p env x:=(Yv _).mem_iff
theorem B0e {p:Prog} {env:List Ak} {x y:Ty}:Ic (Cb p env x) (Cb p env y)=[]↔∀w,w∈De p env y→∃s,s∈De p env x∧s.name=w.name∧s.canon.er=w.canon.er:=by rw [F5b (C1q p env x)];simp only [Vf]
theorem C1x (p:Prog)(env:List Ak)(x:Ty):Dj p env x x=true:=by
 unfold Dj;split
 ·rw [D8,B0e];exact fun w E=>⟨w,E,rfl,rfl⟩
 ·exact (V8 x x).2 rfl
theorem A0a {p:Prog} {env:List Ak} {x y z:Ty} (I:Dj p env x y=true)(E:Dj p env y z=true):Dj p env x z=true:=by
 unfold Dj at *;by_cases O:isIface p env z=true
 ·rw [A8 O] at E ⊢;rw [D8,B0e] at E ⊢;have L:∀w,w∈De p env y→∃s,s∈De p env x∧s.name=w.name∧s.canon.er=w.canon.er:=by
   by_cases J:isIface p env y=true
   ·rw [A8 J,D8,B0e] at I;exact I
   ·rw [A6 J,V8] at I;exact E3s (B7w I)
  intro w R;obtain⟨s,hs,U,W⟩:=E w R;obtain⟨r,hr,V,Z⟩:=L s hs;exact⟨r,hr,V.trans U,Z.trans W⟩
 ·rw [A6 O,V8] at E ⊢;have J:¬isIface p env y=true:=by rw [G5p E];exact O
  rw [A6 J,V8] at I;exact I.trans E
theorem D1n (l:List Ak)(E:A3):(Cy E (Ad l) 0 = -1)∨∃(k:Nat)(f:Ak),l[k]? = some f∧f.name=E∧Cy E (Ad l) 0=(k:Int):=by
 rcases A0d E (Ad l) 0 with ⟨h,_⟩| ⟨k,I,J⟩
 ·exact .inl h
 ·unfold Ad at I;rw [D3,Ij] at I;obtain⟨f,L,O⟩:=I;exact .inr ⟨k,f,L,O,by rw [J];simp⟩
def G1o (p:Prog)(e:Ex):Ex × Int:=if e.kind=3 then (e,2) else match e.kids[0]? with
 |none=>(e,4)
 |some v=>if e.kind=2 then F0o p e v else if e.kind=4 then G3e p e v else if e.kind=5 then G2m p e v else (e,4)
mutual
def B8q (p:Prog):Ex→Ex × Int
 |.mk k n t a ks q=>match D3n p ks with
  |some (E,o)=>if o=1 then (.mk k n t a E q,1) else (.mk k n t a ks q,o)
  |none=>G1o p (.mk k n t a ks q)
def D3n (p:Prog):List Ex→Option (List Ex × Int)
 |[]=>none
 |k::ks=>if isVal k=true then (D3n p ks).map fun r=>(k::r.1,r.2) else some ((B8q p k).1::ks,(B8q p k).2)
end
def C5e (p:Prog):Nat→Ex→Prop
 | 0,e=>e.Sm
 |n+1,e=>e.Sm∧((B8q p e).2=1→C5e p n (B8q p e).1)
theorem C5e.sm {p:Prog}:∀{n:Nat} {e:Ex},C5e p n e→e.Sm
 | 0,_,h=>h
 |_+1,_,h=>h.1
end Go.Abs
