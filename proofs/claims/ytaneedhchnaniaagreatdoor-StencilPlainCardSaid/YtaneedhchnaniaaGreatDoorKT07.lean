/- substitution of types: composition, exchange; names that a type has -/
import Derived.Test.YtaneedhchnaniaaGreatDoorKS44
import Derived.Test.YtaneedhchnaniaaGreatDoorKS58
set_option linter.all false
namespace Go.Abs
open Go Go.Proofs
set_option maxRecDepth 100000
set_option maxHeartbeats 1000000
inductive Ty.Lf (S:A3→Prop):Ty→Prop where
 |mk (n:A3) (a:List Ty) (p:Int):(a=[]→S n)→(∀t,t∈a→Ty.Lf S t)→Ty.Lf S (.mk n a p)
variable {t:Ty}
theorem Ty.Lf.name {S:A3→Prop} (h:t.Lf S)(E:t.args=[]):S t.name:=by cases h with| mk n a p I J=>exact I E
theorem Ty.Lf.arg {S:A3→Prop} (h:t.Lf S):∀u,u∈t.args→u.Lf S:=by cases h with| mk n a p I E=>exact E
theorem Ty.Lf.of {S:A3→Prop} (I:t.args=[]→S t.name)(E:∀u,u∈t.args→u.Lf S):t.Lf S:=by cases t with| mk n a p=>exact .mk n a p I E
theorem Ty.Lf.mono {S T:A3→Prop} (h:t.Lf S)(hs:∀n,S n→T n):t.Lf T:=by
 induction t using Ty.induct with
 |h t I=>exact .of (fun J=>hs _ (h.name J)) fun u E=>I u E (h.arg u E)
def Hd (vars:List A3)(args:List Ty)(n:A3):Option Ty:=if 0≤Cy n vars 0∧Cy n vars 0 < args.length then args[(Cy n vars 0).toNat]? else none
theorem A8h (vars:List A3)(args:List Ty)(t:Ty):t.subst vars args=match (if t.args=[] then Hd vars args t.name else none) with
  |some u=>.mk u.name u.args t.pos
  |none=>.mk t.name (t.args.map (Ty.subst vars args)) t.pos:=by
 rw [Uq];unfold Hd;by_cases E:t.args=[]
 ·rw [A8 E];by_cases I:0≤Cy t.name vars 0∧Cy t.name vars 0 < args.length
  ·have J:(Cy t.name vars 0).toNat < args.length:=by omega
   rw [A8 ⟨by rw [E];rfl,I⟩,A8 I,Ba J];rfl
  ·rw [A6 fun h=>I h.2,A6 I]
 ·rw [A6 E,A6 fun h=>E (Rk h.1)]
theorem Qf {vars:List A3} {args:List Ty} {t u:Ty} (E:t.args=[])(h:Hd vars args t.name=some u):t.subst vars args=.mk u.name u.args t.pos:=by rw [A8h,A8 E,h]
theorem Ih {vars:List A3} {args:List Ty} (h:t.args=[]→Hd vars args t.name=none):t.subst vars args=.mk t.name (t.args.map (Ty.subst vars args)) t.pos:=by
 rw [A8h];by_cases E:t.args=[]
 ·rw [A8 E,h E]
 ·rw [A6 E]
variable {n:A3}
theorem Ng {vars:List A3} {args:List Ty} (h:n ∉ vars):Hd vars args n=none:=by
 unfold Hd;rcases A0d n vars 0 with ⟨E,_⟩| ⟨k,E,I⟩
 ·rw [A6 (by omega)]
 ·exact absurd (Bx E) h
theorem A2m {vars:List A3} {args:List Ty} (h:n∈vars)(L:vars.length≤args.length):∃(k:Nat)(u:Ty),Cy n vars 0=k∧vars[k]? = some n∧args[k]? = some u∧Hd vars args n=some u:=by
 unfold Hd;rcases A0d n vars 0 with ⟨_,I⟩| ⟨k,J,I⟩
 ·exact absurd h I
 ·have O:=(Ay.1 J).1;have E:k < args.length:=by omega
  refine⟨k,args[k],by rw [I];simp,J,Ba E,?_⟩;rw [I,A8 (by omega)];simp only [I2,Gr];exact Ba E
theorem B5c {vars:List A3} {args:List Ty} {u:Ty} (h:Hd vars args n=some u):n∈vars∧u∈args:=by
 have I:u∈args:=by
  unfold Hd at h;split at h
  ·exact Bx h
  ·cases h
 refine⟨We fun E=>?_,I⟩;rw [Ng E] at h;cases h
theorem C5g (f:Ty→Ty)(vars:List A3)(args:List Ty)(n:A3):Hd vars (args.map f) n=(Hd vars args n).map f:=by
 unfold Hd;rw [B6];split
 ·rw [D3]
 ·rfl
theorem D1t (v:List A3)(a:List Ty)(u:Ty)(q:Int):(Ty.mk u.name u.args q).subst v a=.mk (u.subst v a).name (u.subst v a).args q:=by
 by_cases E:u.args=[]
 ·cases I:Hd v a u.name with
  |some w=>rw [Qf (t:=.mk u.name u.args q) (u:=w) E I,Qf E I];rfl
  |none=>rw [Ih (t:=.mk u.name u.args q) fun _=>I,Ih fun _=>I];rfl
 ·rw [Ih (t:=.mk u.name u.args q) fun h=>absurd h E,Ih (t:=u) fun h=>absurd h E];rfl
theorem A7v (I:List A3)(U:List Ty)(L:List A3)(R:List Ty)(Z:I.length≤U.length)(t:Ty)(h:t.Lf fun n=>n∈I∨n ∉ L):(t.subst I U).subst L R=t.subst I (U.map (Ty.subst L R)):=by
 induction t using Ty.induct with
 |h t ih =>
 by_cases E:t.args=[]
 ·by_cases O:t.name∈I
  ·obtain⟨k,u,_,_,_,J⟩:=A2m O Z;rw [Qf E J,Qf (u:=u.subst L R) E (by rw [C5g,J];rfl),D1t]
  ·have V:t.name ∉ L:=(h.name E).resolve_left O;have W:∀a,t.subst I a=t:=fun a=>by
    rw [Ih fun _=>Ng O,E];cases t;simp only [Ty.args] at E;subst E;rfl
   rw [W,W,Ih fun _=>Ng V,E];cases t;simp only [Ty.args] at E;subst E;rfl
 ·rw [Ih fun h=>absurd h E,Ih (t:=t) fun h=>absurd h E,Ih fun h=>absurd h (by simpa [Ip] using E)];simp only [Ip,R4,mkQ,Fx]
  congr 1
  exact Hv fun u J=>ih u J (h.arg u J)
theorem E2w {v:List A3} {a:List Ty} (h:t.Lf fun n=>n ∉ v):t.subst v a=t:=by
 induction t using Ty.induct with
 |h t I =>
 rw [Ih fun J=>Ng (h.name J)];rw [Hv (g:=id) fun u E=>I u E (h.arg u E)];cases t;simp [Ty.name,Ty.args,Ty.pos]
theorem G0p {O:List A3} {U:List Ty} {J:List A3} {I:List Ty} (hd:∀n,n∈O→n ∉ J)(hc:∀u,u∈I→u.Lf fun n=>n ∉ O)(t:Ty):(t.subst O U).subst J I=(t.subst J I).subst O (U.map (Ty.subst J I)):=by
 induction t using Ty.induct with
 |h t ih =>
 by_cases E:t.args=[]
 ·have V:∀v a,Hd v a t.name=none→t.subst v a=t:=fun v a hh=>by
   rw [Ih fun _=>hh,E];cases t;simp only [Ty.args] at E;subst E;rfl
  cases L:Hd O U t.name with
  |some u =>have Z:=hd _ (B5c L).1;rw [V J I (Ng Z),Qf E L,Qf (u:=u.subst J I) E (by rw [C5g,L];rfl),D1t]
  |none =>
   rw [V O U L];cases W:Hd J I t.name with
   |some w =>have R:=hc w (B5c W).2;rw [Qf E W,E2w];exact .of (fun h=>R.name h) fun x hx=>R.arg x hx
   |none =>rw [V J I W,V];rw [C5g,L];rfl
 ·rw [Ih fun h=>absurd h E,Ih (t:=t) fun h=>absurd h E,Ih fun h=>absurd h (by simpa [Ip] using E),Ih fun h=>absurd h (by simpa [Ip] using E)];simp only [Ip,R4,mkQ,Fx]
  congr 1
  exact Hv fun u L=>ih u L
theorem F3y {S T:A3→Prop} {v:List A3} {a:List Ty} (R:∀n,S n→Hd v a n=none→T n)(O:∀u,u∈a→u.Lf T) {t:Ty} (h:t.Lf S):(t.subst v a).Lf T:=by
 induction t using Ty.induct with
 |h t U =>
 by_cases J:t.args=[]
 ·cases E:Hd v a t.name with
  |some u =>rw [Qf J E];have:=O u (B5c E).2;exact .of (fun I=>this.name I) fun x L=>this.arg x L
  |none =>rw [Ih fun _=>E,J];exact .of (fun _=>R _ (h.name J) E) (by simp [Ip])
 ·rw [Ih fun I=>absurd I J];refine .of (fun I=>absurd I (by simpa [Ip] using J)) fun x L=>?_;simp only [Ip,Ax] at L;obtain⟨u,E,rfl⟩:=L;exact U u E (h.arg u E)
theorem D3w (n:A3):∀(v:List A3)(i:Nat),Cy n v i=if n∈v then Cy n v 0+i else -1:=by
 intro v
 induction v with
 |nil=>intro i;rfl
 |cons x v I =>
  intro i;rw [Cy,Cy];by_cases E:n=x
  ·rw [A8 E,A8 E,A8 (by simp [E])];simp
  ·rw [A6 E,A6 E,I (i+1),I (0+1)];simp only [As,E,false_or];split <;> omega
theorem F6d {α:Type} (p:α→Bool)(x:α)(l:List α):Dy p (x::l)=if p x=true then 0 else if Dy p l = -1 then -1 else Dy p l+1:=by
 unfold Dy;rw [List.findIdx?_cons];by_cases E:p x=true
 ·rw [A8 E,A8 E];rfl
 ·rw [A6 E,A6 E];cases l.findIdx? p with
  |none=>simp
  |some j=>simp only [E8];rw [A6 (by omega)];omega
theorem A5y {α:Type} (g:α→A3)(E:A3):∀l:List α,Dy (fun f=>decide (g f=E)) l=Cy E (l.map g) 0
 |[]=>rfl
 |x::l=>by
  rw [F6d,A5y g E l,Cz,Cy,D3w E (l.map g) (0+1)];by_cases I:E=g x
  ·rw [A8 I,A8 (by simp [I])];rfl
  ·rw [A6 I,A6 (by simpa using fun h=>I h.symm)];rcases A0d E (l.map g) 0 with ⟨J,L⟩| ⟨k,J,L⟩
   ·rw [A8 J,A6 L]
   ·rw [A6 (by omega),A8 (Bx J)];omega
theorem B0k {E I:List A3} {L Z:List Ty} (hl:E.length=L.length)(n:A3):Hd (E++I) (L++Z) n=if n∈E then Hd E L n else Hd I Z n:=by
 have U:∀(E:List A3) (i:Nat),Cy n (E++I) i=if n∈E then Cy n E i else Cy n I (i+E.length):=by
  intro E
  induction E with
  |nil=>intro i;simp
  |cons x E ih =>
   intro i;rw [S9,Cy,Cy,ih];by_cases V:n=x
   ·rw [A8 V,A8 (by simp [V]),A8 V]
   ·simp only [As,V,false_or,Et,Bg];rw [show i+1+E.length=i+(E.length+1) by omega]
 have W:=D3w n;unfold Hd;rw [U E 0];by_cases R:n∈E
 ·rw [A8 R,A8 R];obtain⟨k,u,h1,O,J,h4⟩:=A2m R (args:=L) (by omega);have hk:=(Ay.1 J).1;rw [h1,A8 (by rw [B3];omega),A8 (by omega)];simp only [Gr];rw [J6 hk]
 ·rw [A6 R,A6 R,W I (0+E.length)];by_cases O:n∈I
  ·rw [A8 O];rcases A0d n I 0 with ⟨_,J⟩| ⟨k,J,h4⟩
   ·exact absurd O J
   ·rw [h4];by_cases hk:k < Z.length
    ·rw [A8 (by rw [B3];omega),A8 (by omega)];rw [show (((0+k:Nat):Int)+((0+E.length:Nat):Int)).toNat=L.length+k by omega,Jh (by omega)];rw [show L.length+k - L.length=k by omega,show (((0+k:Nat):Int)).toNat=k by omega]
    ·rw [A6 (by rw [B3];omega),A6 (by omega)]
  ·rw [A6 O,A6 (by omega)];rcases A0d n I 0 with ⟨J,_⟩| ⟨k,J,_⟩
   ·rw [A6 (by omega)]
   ·exact absurd (Bx J) O
theorem F7d {I R:List A3} {L W:List Ty} (U:I.length=L.length) {t:Ty} (h:t.Lf fun n=>n∈I∨n ∉ R):t.subst (I++R) (L++W)=t.subst I L:=by
 induction t using Ty.induct with
 |h t V =>
 rw [A8h,A8h I L];by_cases E:t.args=[]
 ·rw [A8 E,A8 E,B0k U,E];by_cases J:t.name∈I
  ·rw [A8 J];rfl
  ·rw [A6 J,Ng J,Ng ((h.name E).resolve_left J)];rfl
 ·rw [A6 E,A6 E];simp only;rw [Hv fun u O=>V u O (h.arg u O)]
def A5.Lf (S:A3→Prop)(s:A5):Prop:=(∀f,f∈s.A1→f.bound.Lf S)∧(∀f,f∈s.params→f.type.Lf S)∧s.result.Lf S
variable {s:A5}
theorem A5.Lf.mono {S T:A3→Prop} (h:s.Lf S)(hs:∀n,S n→T n):s.Lf T:=⟨fun f E=>(h.1 f E).mono hs,fun f E=>(h.2.1 f E).mono hs,h.2.2.mono hs⟩
theorem D8x (E:List A3)(J:List Ty)(L:List A3)(R:List Ty)(I:E.length≤J.length)(s:A5)(h:s.Lf fun n=>n∈E∨n ∉ L):(s.subst E J).subst L R=s.subst E (J.map (Ty.subst L R)):=by
 simp only [A5.subst,Fx,A5.mk.injEq,Qv,S8];refine⟨Hv fun f O=>?_,Hv fun f O=>?_,A7v _ _ _ _ I _ h.2.2⟩
 ·simp only [Function.comp,Ak.subst,A7v _ _ _ _ I _ (h.1 f O)]
 ·simp only [Function.comp,Param.subst,A7v _ _ _ _ I _ (h.2.1 f O)]
def Mi (n:A3):Prop:=∃i,n=Ec i
theorem F8h (i:Nat) {S:A3→Prop} (h:∀n,Mi n→S n):(Tz i).Lf S:=.of (fun _=>h _ ⟨i,rfl⟩) (by simp [Tz,Ip])
theorem F0f (n:Nat) {S:A3→Prop} (h:∀n,Mi n→S n):∀u,u∈Da n→u.Lf S:=fun u E=>by unfold Da at E;obtain⟨i,_,rfl⟩:=Ax.1 E;exact F8h i h
theorem C8t {S T:A3→Prop} (h:s.Lf fun n=>n∈Ad s.A1∨S n)(hs:∀n,S n→T n)(L:∀n,Mi n→T n):s.canon.Lf T:=by
 have key:∀t:Ty,t.Lf (fun n=>n∈Ad s.A1∨S n)→(t.subst (Ad s.A1) (Da s.A1.length)).Lf T:=fun t ht =>
  F3y (S:=fun n=>n∈Ad s.A1∨S n) (fun n R J=>R.elim (fun U=>by obtain⟨_,_,_,_,_,O⟩:=A2m U (args:=Da s.A1.length) (by simp [Ad,Da]);rw [O] at J;cases J) (hs n)) (F0f _ L) ht
 refine⟨fun f E=>?_,fun f E=>?_,key _ h.2.2⟩
 ·simp only [A5.canon,Ha,A5.A1] at E;obtain⟨i,I,rfl⟩:=List.mem_mapIdx.1 E;exact key _ (h.1 _ (F7 I))
 ·simp only [A5.canon,Je,A5.params] at E;obtain⟨i,I,rfl⟩:=List.mem_mapIdx.1 E;exact key _ (h.2.1 _ (F7 I))
structure A5.Cn (s:A5):Prop where
 fs:Ad s.A1=(List.range s.A1.length).map Ec
 ps:∀f,f∈s.params→f.name=[]
theorem B3w (s:A5):s.canon.Cn:=by
 refine⟨?_,fun f E=>?_⟩
 ·refine List.ext_getElem (by simp [Ad,A5.canon,Ha]) fun i I L=>?_;simp only [List.getElem_map,List.getElem_range];simp only [Ad,B6] at I;simp only [Ad,List.getElem_map,A5.canon,Ha,A5.A1,List.getElem_mapIdx];rw [A8];simpa [A5.canon,Ha] using I
 ·simp only [A5.canon,Je,A5.params] at E;obtain⟨i,J,rfl⟩:=List.mem_mapIdx.1 E;simp [J]
theorem A5.Cn.subst (h:s.Cn)(v:List A3)(a:List Ty):(s.subst v a).Cn:=by
 refine⟨?_,fun f E=>?_⟩
 ·simp only [A5.subst,B6];rw [←h.fs];simp only [Ad,Fx];rfl
 ·simp only [A5.subst] at E;obtain⟨g,I,rfl⟩:=Ax.1 E;exact h.ps g I
theorem C0x {n:Nat} (t:Ty):t.subst ((List.range n).map Ec) (Da n)=t:=by
 induction t using Ty.induct with
 |h t V =>
 rw [A8h];cases E:(if t.args=[] then Hd ((List.range n).map Ec) (Da n) t.name else none) with
 |none =>simp only;rw [Hv (g:=id) fun u E=>V u E];cases t;simp [Ty.name,Ty.args,Ty.pos]
 |some u =>
  split at E
  ·rename_i O;obtain⟨k,w,Z,J,I,W⟩:=A2m (B5c E).1 (args:=Da n) (by simp [Da]);rw [W] at E;simp only [Av] at E;subst E;have L:k < n:=by have:=(Ay.1 I).1;simpa [Da] using this
   have R:t.name=Ec k:=by rw [D3,Ww L] at J;simpa using J.symm
   have U:w=Tz k:=by unfold Da at I;rw [D3,Ww L] at I;simpa using I.symm
   subst U;cases t;simp only [Ty.name,Ty.args,Ty.pos] at *;subst O;subst R;rfl
  ·cases E
theorem A5.Cn.canon (h:s.Cn):s.canon=s:=by
 cases s with| mk O fs ps r q =>
 have J:=h.fs;have L:=h.ps;simp only [A5.A1,A5.params] at J L;simp only [A5.canon,A5.mk.injEq,Qv,S8,A5.A1,A5.params,Ha,Je];rw [J];refine⟨?_,?_,C0x _⟩
 ·refine Lu fun i=>?_;rw [Um];cases h:fs[i]? with
  |none=>rfl
  |some f =>
   have E:=(Ay.1 h).1;have I:(Ad fs)[i]? = some f.name:=by unfold Ad;rw [D3,h];rfl
   rw [J,D3,Ww E] at I;simp only [E8,Av] at I;simp only [E8,C0x,A8 E,I]
 ·refine Lu fun i=>?_;rw [Um];cases h:ps[i]? with
  |none=>rfl
  |some f =>have E:=(Ay.1 h).1;simp only [E8,C0x,A8 E,←L f (Bx h)]
theorem F7e {p:Prog} {x:Ty} :∀s,s∈Gg p x→s.Cn:=by
 intro s hs;unfold Gg at hs;by_cases E:Bz p x 2=true
 ·rw [A8 E] at hs;unfold Yx I7 at hs;obtain⟨y,_,rfl⟩:=Ax.1 hs;exact (B3w _).subst _ _
 ·rw [A6 E] at hs;cases hs
theorem C1g {p:Prog} {env:List Ak} {x:Ty} :∀s,s∈De p env x→s.Cn:=by
 intro s hs;unfold De at hs;by_cases I:Bz p ((Ck env x).getD x) 2=true
 ·rw [A8 I] at hs;exact F7e s hs
 ·rw [A6 I] at hs;by_cases E:(Ck env x).isSome=true
  ·rw [A8 E] at hs;cases hs
  ·rw [A6 E] at hs;unfold Gk at hs;obtain⟨y,_,rfl⟩:=Ax.1 hs;exact (B3w _).subst _ _
theorem C2e {u:Ty} {q:Int} :(Ty.mk u.name u.args q).er=u.er:=by rw [P7,P7 u];rfl
theorem B1j {p:Prog} {env:List Ak} {x y:Ty} (h:Dj p env x y=true):∀w,w∈De p env y→∃s,s∈De p env x∧s.er=w.er:=by
 intro w E;unfold Dj at h;split at h
 ·rw [D8,B0e] at h;obtain⟨s,hs,_,I⟩:=h w E;rw [(C1g s hs).canon,(C1g w E).canon] at I;exact⟨s,hs,I⟩
 ·rw [V8] at h;have:w.er∈(De p env x).map A5.er:=by rw [B7w h];exact Ax.2 ⟨w,E,rfl⟩
  obtain⟨s,hs,J⟩:=Ax.1 this;exact⟨s,hs,J⟩
theorem D5j {p:Prog} {env:List Ak} {x y:Ty} (J:isIface p env y=true)(h:∀w,w∈De p env y→∃s,s∈De p env x∧s.er=w.er):Dj p env x y=true:=by unfold Dj;rw [A8 J,D8,B0e];intro w I;obtain⟨s,hs,E⟩:=h w I;exact⟨s,hs,by have:=K9 A5.name E;simpa [A5.er] using this,by rw [B3i,B3i,E]⟩
theorem Xi {p:Prog} {env:List Ak} {x y:Ty} (h:x.er=y.er):Dj p env x y=true:=by
 by_cases E:isIface p env y=true
 ·refine D5j E fun w J=>?_;have:w.er∈(De p env x).map A5.er:=by rw [B7w h];exact Ax.2 ⟨w,J,rfl⟩
  obtain⟨s,hs,I⟩:=Ax.1 this;exact⟨s,hs,I⟩
 ·unfold Dj;rw [A6 E,V8];exact h
theorem G2p {p:Prog} {env:List Ak} {x y E I:Ty} (L:x.er=E.er)(J:y.er=I.er)(h:Dj p env x y=true):Dj p env E I=true :=
 A0a (A0a (Xi L.symm) h) (Xi J)
end Go.Abs
/- a program whose heads are in order: what substitution of types keeps: fields, method sets, implementing, well-formedness -/
namespace Go.Abs
open Go Go.Proofs
structure PW (p:Prog):Prop where
 name:∀n,kindOf p n≠0→¬Mi n
 bnd:∀x d,Gb p x=some d→∀f,f∈d.A1→f.bound.Lf fun n=>n∈Ad d.A1∨kindOf p n≠0
 fld:∀x d,Gb p x=some d→d.kind=1→∀f,f∈d.fields→f.type.Lf fun n=>n∈Ad d.A1∨kindOf p n≠0
 spc:∀x d,Gb p x=some d→d.kind=2→∀s,s∈d.sigs→s.Lf fun n=>n∈Ad s.A1∨(n∈Ad d.A1∨kindOf p n≠0)
 Yy:∀d,d∈p.decls→d.kind=3→d.sig.Lf fun n=>n∈Ad d.sig.A1∨(n∈d.vars∨kindOf p n≠0)
structure Sb (p:Prog)(env env':List Ak)(v:List A3)(a:List Ty):Prop where
 names:v=Ad env
 len:a.length=v.length
 fresh:∀n,n∈v→kindOf p n=0∧¬Mi n
 F3k:∀n,n∈Ad env'→kindOf p n=0
 clean:∀u,u∈a→u.Lf fun n=>¬Mi n
 iface:∀f,f∈env→isIface p env f.bound=true
 bnd:∀(i:Nat) (f:Ak) (u:Ty),env[i]? = some f→a[i]? = some u→Dj p env' u (f.bound.subst v a)=true
theorem B2s {p:Prog} {env:List Ak} {t:Ty} (h:∀n,n∈Ad env→kindOf p n=0)(J:kindOf p t.name≠0):Ck env t=none:=by
 unfold Ck;rw [A8];unfold Ev;split
 ·rcases N1 (fun f:Ak=>decide (f.name=t.name)) env with ⟨L,_⟩| ⟨j,x,_,I,E⟩
  ·omega
  ·have:=h x.name (Ax.2 ⟨x,Bx I,rfl⟩);simp only [D8] at E;rw [E] at this;exact absurd this J
 ·omega
theorem D9c {env:List Ak} {t b:Ty} (h:Ck env t=some b):∃(k:Nat)(f:Ak),env[k]? = some f∧b=f.bound∧t.args=[]∧Cy t.name (Ad env) 0=k∧f.name=t.name:=by
 unfold Ck at h;split at h
 ·cases h
 ·rename_i E;unfold Ev at h E;split at E
  ·rename_i J;rw [A8 J] at h;rw [A5y] at h E;rcases D1n env t.name with O| ⟨k,f,L,R,I⟩
   ·unfold Ad at O;rw [O] at E;exact absurd (by decide) E
   ·unfold Ad at I;rw [I,Gr,L] at h;simp only [E8,Av] at h;exact⟨k,f,L,h.symm,Rk J,I,R⟩
  ·exact absurd (by decide) E
theorem D4z {env:List Ak} {t:Ty} (h:Ck env t=none)(L:t.args=[]):t.name ∉ Ad env:=by
 intro O;unfold Ck Ev at h;have E:t.args.length=0:=by rw [L];rfl
 rw [A8 E,A5y] at h;rcases D1n env t.name with W| ⟨k,f,R,V,J⟩
 ·rcases A0d t.name (Ad env) 0 with ⟨_,I⟩| ⟨k,I,U⟩
  ·exact I O
  ·omega
 ·unfold Ad at J;rw [J,A6 (by omega),Gr,R] at h;cases h
theorem Tv {p:Prog} {t:Ty} {k:Int} (h:Bz p t k=true):kindOf p t.name=k∧(Fj p t.name).length=t.args.length:=by unfold Bz at h;simpa using h
theorem D5m {p:Prog} {t u:Ty} {k:Int} (h:Bz p t k=true)(I:u.name=t.name)(E:u.args.length=t.args.length):Bz p u k=true:=by unfold Bz at *;rw [I,E];exact h
section
variable {p:Prog} {env env':List Ak} {v:List A3} {a:List Ty}
theorem Sb.node (sb:Sb p env env' v a) {t:Ty} (h:Ck env t=none):t.subst v a=.mk t.name (t.args.map (Ty.subst v a)) t.pos :=
 Ih fun E=>Ng (by rw [sb.names];exact D4z h E)
theorem Sb.D0x (sb:Sb p env env' v a):∀n,n∈Ad env→kindOf p n=0:=fun n E=>(sb.fresh n (by rw [sb.names];exact E)).1
theorem Sb.inst (sb:Sb p env env' v a) {t:Ty} {k:Int} (J:k≠0)(h:Bz p t k=true):t.subst v a=.mk t.name (t.args.map (Ty.subst v a)) t.pos∧Bz p (t.subst v a) k=true∧Ck env t=none∧Ck env' (t.subst v a)=none:=by
 have I:=(Tv h).1;have L:=B2s (t:=t) sb.D0x (by rw [I];exact J);have E:=sb.node L;refine⟨E,?_,L,?_⟩
 ·rw [E];exact D5m h rfl (by simp [Ip])
 ·rw [E];exact B2s sb.F3k (by rw [R4,I];exact J)
theorem Sb.C8h (sb:Sb p env env' v a) {t:Ty} (h:isIface p env t=true):isIface p env' (t.subst v a)=true:=by unfold isIface at h ⊢;rw [B1] at h ⊢;obtain⟨_,E,_,I⟩:=sb.inst (by decide) h.1;exact⟨E,by rw [I];rfl⟩
theorem Sb.var (sb:Sb p env env' v a) {t b:Ty} (h:Ck env t=some b):∃(k:Nat)(f:Ak)(u:Ty),env[k]? = some f∧b=f.bound∧t.args=[]∧a[k]? = some u∧t.subst v a=.mk u.name u.args t.pos:=by
 obtain⟨k,f,J,O,I,W,L⟩:=D9c h;have U:t.name∈v:=by rw [sb.names,←L];exact Ax.2 ⟨f,Bx J,rfl⟩
 obtain⟨E,u,Z,g2,R,V⟩:=A2m U (args:=a) (by rw [sb.len];exact Cq _);have:E=k:=by rw [sb.names,W] at Z;omega
 subst this;exact⟨E,f,u,J,O,I,R,Qf I V⟩
theorem Sb.out (sb:Sb p env env' v a) {n:A3} (h:Mi n∨kindOf p n≠0):n ∉ v:=fun E=>by
 obtain⟨J,I⟩:=sb.fresh n E;rcases h with h| h
 ·exact I h
 ·exact h J
theorem C0j (R:PW p)(sb:Sb p env env' v a) {t:Ty} (h:Bz p t 2=true):Gg p (t.subst v a)=(Gg p t).map (A5.subst v a):=by obtain⟨U,O,_,_⟩:=sb.inst (by decide) h;obtain⟨d,hd,I,J⟩:=Lo (by decide) h;unfold Gg;rw [A8 O,A8 h,U,R4,hd,Dc];unfold Yx I7;rw [Ip,Fx];refine Hv fun s hs=>?_;have L:s.1∈d.sigs:=Iq (V5 (L8.1 hs).1);simp only [Function.comp];refine (D8x _ _ _ _ (by rw [←J];simp [Ad]) _ ?_).symm;refine C8t (R.spc _ d hd I s.1 L) (fun n E=>?_) fun n E=>.inr (sb.out (.inl E));exact E.imp_right fun h=>sb.out (.inr h)
theorem F8m (hp:PW p)(sb:Sb p env env' v a) {t:Ty} (h:Bz p t 1=true)(j:Nat):Gk p (t.subst v a) j=(Gk p t j).map (A5.subst v a):=by
 obtain⟨R,W,_,_⟩:=sb.inst (by decide) h;have hb:Io p (t.subst v a)=Io p t:=by funext d i;unfold Io Kk;rw [W,h,R,R4,Ip,B6]
 unfold Gk;rw [hb,Fx,R,Ip];refine Hv fun s hs=>?_;obtain⟨U,L⟩:=L8.1 hs;have O:s.1∈p.decls:=Iq (V5 U);unfold Io at L;simp only [B1,D8] at L;obtain⟨⟨hk,J⟩,I⟩:=L;have a0:s.1.vars.length=t.args.length:=by
  unfold Kk at I;rw [A8 h] at I;split at I
  ·rename_i d' E;split at I
   ·rename_i hc;rw [I,Gr] at E;have:p.decls[s.2]? = some s.1:=by
     obtain⟨_,V,Z⟩:=List.mem_zipIdx U;rw [Z];simp only [I2,Cw] at V;simp only [As4,List.getElem_take];exact Ba _
    rw [this] at E;cases E;exact hc.2
   ·omega
  ·omega
 simp only [Function.comp];refine (D8x _ _ _ _ (by omega) _ ?_).symm;refine C8t (hp.Yy s.1 O hk) (fun n J=>?_) fun n J=>.inr (sb.out (.inl J));exact J.imp_right fun h=>sb.out (.inr h)
theorem E0x (L:PW p)(sb:Sb p env env' v a) {t:Ty} (h:Bz p t 1=true):C5 p (t.subst v a)=(C5 p t).map (Param.subst v a):=by obtain⟨R,J,_,_⟩:=sb.inst (by decide) h;obtain⟨d,hd,E,I⟩:=Lo (by decide) h;unfold C5;rw [A8 J,A8 h,R,R4,hd,Dc];unfold fieldsD;rw [Ip,Fx];refine Hv fun f U=>?_;simp only [Function.comp,Param.subst,Param.mk.injEq,Qv,S8];refine (A7v _ _ _ _ (by rw [←I];simp [Ad]) _ ?_).symm;exact (L.fld _ d hd E f U).mono fun n O=>O.imp_right fun h=>sb.out (.inr h)
theorem B6z {p:Prog} {env:List Ak} {t:Ty} (h:isIface p env t=true):De p env t=Gg p t:=by
 unfold isIface at h;rw [B1] at h;unfold De;cases E:Ck env t with
 |some b=>rw [E] at h;simp at h
 |none=>rw [Mj,A8 h.1]
theorem G3f {p:Prog} {env:List Ak} {x y:Ty} (h:x.er=y.er) {s:A5} (hs:s∈De p env x):∃E,E∈De p env y∧E.er=s.er:=by
 have:s.er∈(De p env y).map A5.er:=by rw [←B7w h];exact Ax.2 ⟨s,hs,rfl⟩
 obtain⟨E,I,J⟩:=Ax.1 this;exact⟨E,I,J⟩
theorem D0c (R:PW p)(sb:Sb p env env' v a) {t:Ty} {s:A5} (hs:s∈De p env t):∃s',s'∈De p env' (t.subst v a)∧s'.er=(s.subst v a).er:=by
 cases hb:Ck env t with
 |some b =>
  obtain⟨k,f,u,I,rfl,h3,h4,h5⟩:=sb.var hb;have J:=sb.iface f (Bx I);have U:=sb.C8h J;have E:=J;unfold isIface at E;rw [B1] at E;have Z:s∈Gg p f.bound:=by unfold De at hs;rw [hb,Dc,A8 E.1] at hs;exact hs
  have a1:=C0j R sb E.1;obtain⟨w,hw,a0⟩:=B1j (sb.bnd k f u I h4) (s.subst v a) (by rw [B6z U,a1];exact Ax.2 ⟨s,Z,rfl⟩);obtain⟨w',O,he⟩:=G3f (y:=t.subst v a) (by rw [h5,C2e]) hw;exact⟨w',O,he.trans a0⟩
 |none =>
  have key:∀k,k≠0→Bz p t k=true→Ck env' (t.subst v a)=none:=fun k hk h=>(sb.inst hk h).2.2.2;unfold De at hs;rw [hb] at hs;simp only [Mj,L7,Hh,Et] at hs;split at hs
  ·rename_i L;have V:=key 2 (by decide) L;refine⟨s.subst v a,?_,rfl⟩;unfold De;rw [V,Mj,A8 (sb.inst (by decide) L).2.1,C0j R sb L];exact Ax.2 ⟨s,hs,rfl⟩
  ·rename_i L;by_cases I:Bz p t 1=true
   ·have V:=key 1 (by decide) I;refine⟨s.subst v a,?_,rfl⟩;have J:=(sb.inst (by decide) I).2.1;have W:¬Bz p (t.subst v a) 2=true:=fun h=>by have:=(Tv h).1;have:=(Tv J).1;omega
    unfold De;rw [V,Mj,A6 W];simp only [L7,Hh,Et];rw [F8m R sb I];exact Ax.2 ⟨s,hs,rfl⟩
   ·rw [C6d I] at hs;simp at hs
theorem B3n (V:PW p)(sb:Sb p env env' v a) {t u:Ty} (h:Dj p env t u=true):Dj p env' (t.subst v a) (u.subst v a)=true:=by
 by_cases J:isIface p env u=true
 ·have I:=sb.C8h J;refine D5j I fun w U=>?_;have E:=J;unfold isIface at E;rw [B1] at E;rw [B6z I,C0j V sb E.1] at U;obtain⟨w0,R,rfl⟩:=Ax.1 U;obtain⟨s,hs,L⟩:=B1j h w0 (by rw [B6z J];exact R);obtain⟨Z,O,W⟩:=D0c V sb hs;exact⟨Z,O,by rw [W,B7r,B7r,L]⟩
 ·unfold Dj at h;rw [A6 J,V8] at h;exact Xi (by rw [Ku,Ku,h])
end
theorem Yw {p:Prog} {env fs:List Ak} {args:List Ty}:Gt p env fs args < 0↔∀(i:Nat)(f:Ak)(u:Ty),fs[i]? = some f→args[i]? = some u→Dj p env u (f.bound.subst (Ad fs) args)=true:=by
 unfold Gt;constructor
 ·intro h i f u O I;rcases N1 (A5i p env fs args) (fs.zip args) with ⟨_,J⟩| ⟨j,z,R,_⟩
  ·have:=J (f,u) (Bx (by rw [Ak6];exact⟨O,I⟩:(fs.zip args)[i]? = some (f,u)));unfold A5i at this;simpa using this
  ·omega
 ·intro h;rw [Th]
  ·decide
  ·intro z L;obtain⟨i,E⟩:=Ls L;obtain⟨f,u⟩:=z;rw [Ak6] at E;unfold A5i;simp only [h i f u E.1 E.2,As7]
theorem C3g {p:Prog} {env:List Ak}:∀{l:List Ty},Lz p env l=none↔∀t,t∈l→C0 p env t=none
 |[]=>by simp [Lz]
 |t::l=>by
  rw [Lz];cases h:C0 p env t with
  |some q=>simp [h]
  |none=>simp only [C3g (l:=l),As,forall_eq_or_imp,h,Qv]
theorem A7h {p:Prog} {env:List Ak} {t:Ty}:C0 p env t=none↔(Ck env t).isSome=true∨(kindOf p t.name≠0∧(Fj p t.name).length=t.args.length∧(∀u,u∈t.args→C0 p env u=none)∧Gt p env (Fj p t.name) t.args < 0):=by
 rw [D5z];by_cases E:(Ck env t).isSome=true
 ·rw [A8 E];simp [E]
 rw [A6 E];by_cases I:kindOf p t.name=0∨(Fj p t.name).length≠t.args.length
 ·rw [A8 I];simp only [reduceCtorEq,Aw4,Nb];exact⟨E,fun h=>I.elim h.1 fun g=>g h.2.1⟩
 rw [A6 I];obtain⟨O,J⟩:=Nb.1 I;rw [←C3g];cases R:Lz p env t.args with
 |some q=>simp [E]
 |none =>
  simp only;split
  ·rename_i L;simp only [reduceCtorEq,Aw4,Nb];exact⟨E,fun h=>by omega⟩
  ·rename_i L;simp only [true_iff];exact .inr ⟨O,We J,trivial,by omega⟩
theorem Yj {p:Prog} {env:List Ak} {t:Ty} (h:C0 p env t=none):t.Lf fun n=>n∈Ad env∨kindOf p n≠0:=by
 induction t using Ty.induct with| _ t O=>?_
 rcases A7h.1 h with E| ⟨V,_,R,_⟩
 ·obtain⟨b,E⟩:=Us.1 E;obtain⟨k,f,U,_,J,_,L⟩:=D9c E;exact .of (fun _=>.inl (by rw [←L];exact Ax.2 ⟨f,Bx U,rfl⟩)) (by simp [J])
 ·exact .of (fun _=>.inr V) fun u I=>O u I (R u I)
theorem C6a {p:Prog} {env:List Ak} {t:Ty}:∀{u:Ty},t.er=u.er→C0 p env t=none→C0 p env u=none:=by
 induction t using Ty.induct with| _ t ih=>?_
 intro u Z h;obtain⟨J,R,O⟩:=A3f Z;rw [A7h] at h ⊢;rw [←B7y Z];refine h.imp_right fun⟨h1,h2,h3,W⟩=>⟨by rw [←J];exact h1,by rw [←J,←O];exact h2,fun w I=>?_,?_⟩
 ·obtain⟨i,U⟩:=Ls I;have E:i < t.args.length:=by rw [O];exact (Ay.1 U).1
  have L:t.args[i]? = some t.args[i]:=Ba E;have:(t.args.map Ty.er)[i]? = (u.args.map Ty.er)[i]?:=by rw [R]
  rw [D3,D3,L,U] at this;exact ih _ (F7 E) (by simpa using this) (h3 _ (F7 E))
 ·rw [Yw] at W ⊢;intro i f w V I;rw [←J] at V;have E:i < t.args.length:=by rw [O];exact (Ay.1 I).1
  have L:t.args[i]? = some t.args[i]:=Ba E;have:(t.args.map Ty.er)[i]? = (u.args.map Ty.er)[i]?:=by rw [R]
  rw [D3,D3,L,I] at this;have h5:=W i f _ V L;refine G2p (by simpa using this) ?_ h5;rw [←J,Ku,Ku,R]
section
variable {p:Prog} {env env':List Ak} {v:List A3} {a:List Ty}
theorem A6g {p:Prog} {n:A3} (h:kindOf p n≠0):∃d,Gb p n=some d∧d.kind=kindOf p n∧Fj p n=d.A1:=by
 unfold kindOf at h ⊢;unfold Fj Gb;cases E:p.decls.find? (fun d=>d.Iu n) with
 |none=>rw [E] at h;simp at h
 |some d=>exact⟨d,rfl,rfl,rfl⟩
theorem Zt (V:PW p)(sb:Sb p env env' v a)(Z:∀u,u∈a→C0 p env' u=none) {t:Ty} (h:C0 p env t=none):C0 p env' (t.subst v a)=none:=by
 induction t using Ty.induct with| _ t ih=>?_
 rcases A7h.1 h with I| ⟨R,U,h3,W⟩
 ·obtain⟨b,I⟩:=Us.1 I;obtain⟨k,f,u,g1,_,g3,g4,g5⟩:=sb.var I;exact C6a (by rw [g5,C2e]) (Z u (Bx g4))
 ·have I:=B2s (t:=t) sb.D0x R;have he:=sb.node I;rw [he,A7h];refine .inr ⟨R,by rw [Ip,R4,B6];exact U,fun w E=>?_,?_⟩
  ·rw [Ip] at E;obtain⟨u,J,rfl⟩:=Ax.1 E;exact ih u J (h3 u J)
  ·rw [Yw] at W ⊢;rw [Ip,R4];intro i f w L E;rw [D3,Ij] at E;obtain⟨u,J,rfl⟩:=E;have:=B3n V sb (W i f u L J);obtain⟨d,hd,_,O⟩:=A6g R;rw [A7v] at this
   ·exact this
   ·rw [←U];simp [Ad]
   ·rw [O] at L ⊢;exact (V.bnd _ d hd f (Bx L)).mono fun n hn=>hn.imp_right fun h=>sb.out (.inr h)
end
end Go.Abs
/- typing: inversion; what a substitution of types and of values keeps -/
namespace Go.Abs
open Go Go.Proofs
theorem B5s {c:Dd} {x:Ty}:Ld c x=true↔Bz c.p x 1=true∧Ck c.env x=none:=by
 unfold Ld;have:(Ck c.env x=none)↔Ev c.env x < 0:=by
  unfold Ck;constructor
  ·intro h;refine We fun E=>?_;rw [A6 E] at h;obtain⟨f,I,_⟩:=A7d E;rw [I] at h;cases h
  ·intro h;rw [A8 h]
 rw [this,B1,D8];exact And.comm
def Xq (c:Dd)(I:List Ty)(E:List Ex):Prop:=I.length=E.length∧∀(i:Nat)(w:Ty)(k:Ex),I[i]? = some w→E[i]? = some k→∃K,Em c k=(K,none)∧Dj c.p c.env K w=true
theorem B1w {c:Dd}:∀(O:List Ty)(J:List Ex),O.length=J.length→(Tc c O J (J.map (Em c))=none↔∀(i:Nat)(w:Ty)(k:Ex),O[i]? = some w→J[i]? = some k→∃K,Em c k=(K,none)∧Dj c.p c.env K w=true)
 |[],[],_=>by simp [Tc]
 |[],_::_,h=>by simp at h
 |_::_,[],h=>by simp at h
 |w::O,e::J,h=>by
  have Z:=B1w (c:=c) O J (by simpa using h);rw [Cz,Tc];have hf:B1v c w e (Em c e)=none↔∃K,Em c e=(K,none)∧Dj c.p c.env K w=true:=by
   unfold B1v;obtain⟨t,o⟩:=Em c e;cases o with
   |some q=>simp
   |none =>
    simp only [Df,S8];constructor
    ·intro h;split at h
     ·rename_i V;exact⟨t,rfl,V⟩
     ·cases h
    ·rintro⟨K,rfl,V⟩;rw [A8 V]
  constructor
  ·intro U i w' W R L;cases I:B1v c w e (Em c e) with
   |some q=>rw [I] at U;cases U
   |none =>
    rw [I] at U;cases i with
    |zero=>simp only [Iz,Av] at R L;subst R;subst L;exact hf.1 I
    |succ i=>exact Z.1 U i w' W (by simpa using R) (by simpa using L)
  ·intro E;rw [hf.2 (E 0 w e rfl rfl)];exact Z.2 fun i w' W R L=>E (i+1) w' W (by simpa using R) (by simpa using L)
theorem B3h {o:Option Int} {t u:Ty}:orI o t=(u,none)↔o=none∧u=t:=by
 unfold orI;cases o with
 |some q=>simp [J1]
 |none=>simp [eq_comm]
theorem A0e {n:Int} {t:Ty}:J1 n=(t,none)↔False:=by simp [J1]
theorem B2y {c:Dd} {e:Ex} {x:Ty} {s:A5}:P4 c e x=.inr s↔s∈De c.p c.env x∧s.name=e.name∧s.A1.length=e.targs.length∧(∀t,t∈e.targs→C0 c.p c.env t=none)∧Gt c.p c.env s.A1 e.targs < 0∧e.kids.length=s.params.length+1:=by
 have E:∀I:A5,(if F8 (Cb c.p c.env x) e.name < 0∨I.A1.length≠e.targs.length then (.inl e.pos:Int ⊕ A5) else
  match Lz c.p c.env e.targs with
  |some q=>.inl q
  |none=>if 0≤Gt c.p c.env I.A1 e.targs then .inl ((e.targs[(Gt c.p c.env I.A1 e.targs).toNat]?).getD default).pos else
   if e.kids.length≠I.params.length+1 then .inl e.pos else .inr I)=.inr s↔0≤F8 (Cb c.p c.env x) e.name∧I=s∧s.A1.length=e.targs.length∧(∀t,t∈e.targs→C0 c.p c.env t=none)∧Gt c.p c.env s.A1 e.targs < 0∧e.kids.length=s.params.length+1:=by
  intro I;rw [←C3g];by_cases h1:F8 (Cb c.p c.env x) e.name < 0∨I.A1.length≠e.targs.length
  ·rw [A8 h1];simp only [reduceCtorEq,Aw4];rintro⟨L,rfl,J,_⟩;rcases h1 with h1| h1
   ·omega
   ·exact h1 J
  rw [A6 h1];obtain⟨L,J⟩:=Nb.1 h1;have J:=We J;cases hL:Lz c.p c.env e.targs with
  |some q=>simp
  |none =>
   simp only;by_cases h4:0≤Gt c.p c.env I.A1 e.targs
   ·rw [A8 h4];simp only [reduceCtorEq,Aw4];rintro⟨_,rfl,_,_,O,_⟩;omega
   rw [A6 h4];by_cases O:e.kids.length≠I.params.length+1
   ·rw [A8 O];simp only [reduceCtorEq,Aw4];rintro⟨_,rfl,_,_,_,h6⟩;exact O h6
   rw [A6 O];constructor
   ·intro h;cases h;exact⟨by omega,rfl,J,trivial,by omega,We O⟩
   ·rintro⟨_,rfl,_⟩;rfl
 unfold P4;rcases N1 (fun s:A5=>decide (s.name=e.name)) (Cb c.p c.env x) with ⟨h1,L⟩| ⟨j,y,h1,L,J⟩
 ·have U:F8 (Cb c.p c.env x) e.name = -1:=h1;constructor
  ·intro h;split at h
   ·cases h
   ·exact absurd ((E _).1 h).1 (by omega)
  ·rintro⟨V,W,_⟩;have:=L s (Vf.2 V);simp [W] at this
 ·have U:F8 (Cb c.p c.env x) e.name=j:=h1;rw [U,Gr,L];simp only;rw [←U];refine (E y).trans ?_;have Z:=Bx L;have R:y.name=e.name:=by simpa using J
  constructor
  ·rintro⟨_,rfl,g⟩;exact⟨Vf.1 Z,R,g⟩
  ·rintro⟨V,W,g⟩;exact⟨by omega,B7p (C1q _ _ _) Z (Vf.2 V) (R.trans W.symm),g⟩
theorem C4y {α:Type} (l:List Param)(E:A3)(F:Param→α)(d:α)(y:α)(hd:y≠d) :
  ((match l[(Hn l E).toNat]? with| some f=>if Hn l E < 0 then d else F f| none=>d)=y)↔∃(k:Nat) (f:Param),Hn l E=k∧l[k]? = some f∧F f=y:=by
 rcases N1 (fun f:Param=>decide (f.name=E)) l with ⟨L,I⟩| ⟨j,x,L,I,U⟩
 ·have J:Hn l E = -1:=L;rw [J];constructor
  ·intro h;split at h <;> exact absurd h.symm hd
  ·rintro⟨k,f,h,_⟩;omega
 ·have J:Hn l E=j:=L;rw [J,Gr,I];simp only;rw [A6 (by omega)];constructor
  ·intro h;exact⟨j,x,rfl,I,h⟩
  ·rintro⟨k,f,V,O,R⟩;have:k=j:=by omega
   subst this;rw [I] at O;cases O;exact R
theorem Tb {c:Dd} {e:Ex} {t:Ty}:Em c e=(t,none) ↔
  (e.kind=1∧∃(k:Nat) (f:Param),Hn c.vars e.name=k∧c.vars[k]? = some f∧t=f.type) ∨
  (e.kind=3∧C0 c.p c.env e.type=none∧Ld c e.type=true∧Xq c ((C5 c.p e.type).map (·.type)) e.kids∧t=e.type) ∨
  ∃(v:Ex) (vs:List Ex) (x:Ty),e.kids=v::vs∧Em c v=(x,none) ∧
   ((e.kind=2∧∃s,P4 c e x=.inr s∧Xq c (W8 s e.targs) vs∧t=s.result.subst (Ad s.A1) e.targs) ∨
    (e.kind=4∧Ld c x=true∧∃(k:Nat) (f:Param),Hn (C5 c.p x) e.name=k∧(C5 c.p x)[k]? = some f∧t=f.type) ∨
    (e.kind=5∧C0 c.p c.env e.type=none∧(c.strict=true→Qw c x e.type=true)∧t=e.type)):=by
 rw [C6c];unfold B6m;by_cases k1:e.kind=1
 ·rw [A8 k1];unfold C4e;refine (C4y c.vars e.name (fun f=>(f.type,(none:Option Int))) (J1 e.pos) (t,none) (by simp [J1])).trans ?_;constructor
  ·rintro⟨k,f,I,E,J⟩;exact .inl ⟨k1,k,f,I,E,by simpa using J.symm⟩
  ·rintro (⟨_,k,f,I,E,J⟩| ⟨h,_⟩| ⟨_,_,_,_,_,h| h| h⟩)
   ·exact⟨k,f,I,E,by rw [J]⟩
   all_goals omega
 rw [A6 k1];by_cases k3:e.kind=3
 ·rw [A8 k3];unfold C3e;constructor
  ·intro h;split at h
   ·exact (A0e.1 h).elim
   ·rename_i O;split at h
    ·exact (A0e.1 h).elim
    ·rename_i hs;obtain⟨I,E⟩:=B3h.1 h;have a2:Ld c e.type=true:=by cases hh:Ld c e.type with| true=>rfl| false=>exact absurd (.inl hh) hs
     have V:(C5 c.p e.type).length=e.kids.length:=We fun hh=>hs (.inr hh);exact .inr (.inl ⟨k3,O,a2,⟨by simpa using V,(B1w _ _ (by simpa using V)).1 I⟩,E⟩)
  ·rintro (⟨h,_⟩| ⟨_,O,hs,W,rfl⟩| ⟨_,_,_,_,_,h| h| h⟩)
   ·omega
   ·rw [O];simp only;have V:(C5 c.p e.type).length=e.kids.length:=by simpa using W.1
    rw [A6 (by rw [hs];simp [V])];exact B3h.2 ⟨(B1w _ _ W.1).2 W.2,rfl⟩
   all_goals omega
 rw [A6 k3];by_cases k2:e.kind≠2∧e.kind≠4∧e.kind≠5
 ·rw [A8 k2];constructor
  ·intro h;exact (A0e.1 h).elim
  ·rintro (⟨h,_⟩| ⟨h,_⟩| ⟨_,_,_,_,_,h| h| h⟩) <;> omega
 rw [A6 k2];cases U:e.kids with
 |nil =>
  constructor
  ·intro h;exact (A0e.1 h).elim
  ·rintro (⟨h,_⟩| ⟨h,_⟩| ⟨_,_,_,h,_⟩)
   ·omega
   ·omega
   ·cases h
 |cons v vs =>
  simp only [Cz];have Z:∀Q:Prop,((e.kind=1∧Q)∨(e.kind=3∧C0 c.p c.env e.type=none∧Ld c e.type=true∧Xq c ((C5 c.p e.type).map (·.type)) (v::vs)∧t=e.type)∨∃(v':Ex) (L:List Ex) (x:Ty),v::vs=v'::L∧Em c v'=(x,none) ∧
   ((e.kind=2∧∃s,P4 c e x=.inr s∧Xq c (W8 s e.targs) L∧t=s.result.subst (Ad s.A1) e.targs) ∨
    (e.kind=4∧Ld c x=true∧∃(k:Nat) (f:Param),Hn (C5 c.p x) e.name=k∧(C5 c.p x)[k]? = some f∧t=f.type) ∨
    (e.kind=5∧C0 c.p c.env e.type=none∧(c.strict=true→Qw c x e.type=true)∧t=e.type)))↔∃x,Em c v=(x,none) ∧
   ((e.kind=2∧∃s,P4 c e x=.inr s∧Xq c (W8 s e.targs) vs∧t=s.result.subst (Ad s.A1) e.targs) ∨
    (e.kind=4∧Ld c x=true∧∃(k:Nat) (f:Param),Hn (C5 c.p x) e.name=k∧(C5 c.p x)[k]? = some f∧t=f.type) ∨
    (e.kind=5∧C0 c.p c.env e.type=none∧(c.strict=true→Qw c x e.type=true)∧t=e.type)):=by
   intro Q;constructor
   ·rintro (⟨h,_⟩| ⟨h,_⟩| ⟨v',L,x,I,E,J⟩)
    ·omega
    ·omega
    ·cases I;exact⟨x,E,J⟩
   ·rintro⟨x,E,J⟩;exact .inr (.inr ⟨v,vs,x,rfl,E,J⟩)
  rw [Z];rcases hv:Em c v with ⟨x,o⟩
  cases o with
  |some q =>simp only [A0e,Aw4];rintro⟨y,h,_⟩;cases h
  |none =>
   simp only;have hx:∀R:Ty→Prop,(∃y,(x,(none:Option Int))=(y,none)∧R y)↔R x:=fun R=>⟨fun⟨y,h,r⟩=>by cases h;exact r,fun r=>⟨x,rfl,r⟩⟩;rw [hx];by_cases e2:e.kind=2
   ·rw [A8 e2];unfold B9w;constructor
    ·intro h;split at h
     ·exact (A0e.1 h).elim
     ·rename_i s hs;obtain⟨I,E⟩:=B3h.1 h;have V:=(B2y.1 hs).2.2.2.2.2;rw [U,Bg] at V;rw [U] at I;have a0:(W8 s e.targs).length=vs.length:=by unfold W8;rw [B6];omega
      exact .inl ⟨e2,s,hs,⟨a0,(B1w _ _ a0).1 I⟩,E⟩
    ·rintro (⟨_,s,hs,W,rfl⟩| ⟨h,_⟩| ⟨h,_⟩)
     ·rw [hs];simp only;rw [U];exact B3h.2 ⟨(B1w _ _ W.1).2 W.2,rfl⟩
     all_goals omega
   rw [A6 e2];by_cases e4:e.kind=4
   ·rw [A8 e4];unfold C3a;constructor
    ·intro h;split at h
     ·exact (A0e.1 h).elim
     ·rename_i hs;obtain⟨k,f,I,E,J⟩:=(C4y (C5 c.p x) e.name (fun f=>(f.type,(none:Option Int))) (J1 e.pos) (t,none) (by simp [J1])).1 h;exact .inr (.inl ⟨e4,by simpa using hs,k,f,I,E,by simpa using J.symm⟩)
    ·rintro (⟨h,_⟩| ⟨_,hs,k,f,I,E,J⟩| ⟨h,_⟩)
     ·omega
     ·rw [A6 (by rw [hs];simp)];exact (C4y (C5 c.p x) e.name (fun f=>(f.type,(none:Option Int))) (J1 e.pos) (t,none) (by simp [J1])).2 ⟨k,f,I,E,by rw [J]⟩
     ·omega
   rw [A6 e4];unfold C1e;constructor
   ·intro h;split at h
    ·exact (A0e.1 h).elim
    ·rename_i O;split at h
     ·exact (A0e.1 h).elim
     ·rename_i hs;exact .inr (.inr ⟨by omega,O,fun a1=>by cases hp:Qw c x e.type with| true=>rfl| false=>exact absurd ⟨a1,hp⟩ hs,by simpa using h.symm⟩)
   ·rintro (⟨h,_⟩| ⟨h,_⟩| ⟨_,O,hs,rfl⟩)
    ·omega
    ·omega
    ·rw [O];simp only;rw [A6];rintro⟨I,E⟩;rw [hs I] at E;cases E
theorem F4h {p:Prog} {x y:Ty} (h:x.er=y.er):(C5 p x).map Param.er=(C5 p y).map Param.er:=by
 obtain⟨I,E,_⟩:=A3f h;unfold C5;rw [A7q h,I];split
 ·unfold fieldsD;rw [Fx,Fx];refine Hv fun f _=>?_;simp only [Function.comp,D1u,E]
 ·rfl
theorem B5d {α β:Type} {f:α→β} {l m:List α} (h:l.map f=m.map f) {i:Nat} {x:α} (I:l[i]? = some x):∃y,m[i]? = some y∧f y=f x:=by
 have:(l.map f)[i]? = (m.map f)[i]?:=by rw [h]
 rw [D3,D3,I] at this;cases E:m[i]? with
 |none=>rw [E] at this;cases this
 |some y=>rw [E] at this;exact⟨y,rfl,by simpa using this.symm⟩
theorem C3z {s E:A5} (h:E.er=s.er):E.name=s.name∧E.A1.map Ak.er=s.A1.map Ak.er∧E.params.map Param.er=s.params.map Param.er∧E.result.er=s.result.er:=by unfold A5.er at h;rw [A5.mk.injEq] at h;exact⟨h.1,h.2.1,h.2.2.1,h.2.2.2.1⟩
theorem E5z {p:Prog} {env:List Ak} {x y:Ty} (I:Bz p y 1=true)(h:Dj p env x y=true):x.er=y.er:=by
 have J:¬isIface p env y=true:=fun E=>by unfold isIface at E;rw [B1] at E;have:=(Tv E.1).1;have:=(Tv I).1;omega
 unfold Dj at h;rw [A6 J,V8] at h;exact h
section
variable {p:Prog} {env env':List Ak} {v:List A3} {a:List Ty}
theorem G4y (hp:PW p)(sb:Sb p env env' v a)(ha:∀u,u∈a→C0 p env' u=none) {st:Bool} {vars J:List Param} {e O:Ex} {t:Ty}
  (hk:O.kind=e.kind) (hn:O.name=e.name) (ht:O.type=e.type.subst v a) (hg:O.targs=e.targs.map (Ty.subst v a)) (hl:O.kids.length=e.kids.length) (h1:e.kind≠1)
  (h:Em ⟨p,st,env,vars⟩ e=(t,none))
  (ih:∀(i:Nat) (k k':Ex) (K:Ty),e.kids[i]? = some k→O.kids[i]? = some k'→Em ⟨p,st,env,vars⟩ k=(K,none)→∃K',Em ⟨p,false,env',J⟩ k'=(K',none)∧Dj p env' K' (K.subst v a)=true) :
  ∃t',Em ⟨p,false,env',J⟩ O=(t',none)∧Dj p env' t' (t.subst v a)=true:=by
 have kids:∀(W I:List Ty) (es Z:List Ex) (off:Nat),Xq ⟨p,st,env,vars⟩ W es→es.length=Z.length→I.length=W.length →
   (∀(i:Nat) (k:Ex),es[i]? = some k→e.kids[i+off]? = some k)→(∀(i:Nat) (k:Ex),Z[i]? = some k→O.kids[i+off]? = some k) →
   (∀(i:Nat) (w w':Ty),W[i]? = some w→I[i]? = some w'→w'.er=(w.subst v a).er)→Xq ⟨p,false,env',J⟩ I Z:=by
  intro W I es Z off hK aj U h1 h2 h3;refine⟨by rw [U,hK.1,aj],fun i w' k' L R=>?_⟩;have hi:i < W.length:=by rw [←U];exact (Ay.1 L).1
  have hw:W[i]? = some W[i]:=Ba hi;have am:i < es.length:=by rw [←hK.1];exact hi
  have a':es[i]? = some es[i]:=Ba am;obtain⟨K,c1,c2⟩:=hK.2 i _ _ hw a';obtain⟨K',d1,d2⟩:=ih (i+off) _ k' K (h1 i _ a') (h2 i k' R) c1;exact⟨K',d1,A0a d2 (A0a (B3n hp sb c2) (Xi (h3 i _ w' hw L).symm))⟩
 rcases Tb.1 h with ⟨h,_⟩| ⟨k3,hc,hs,hK,rfl⟩| ⟨w,W,x,a0,hx,a3⟩
 ·exact absurd h h1
 ·obtain⟨i1,i2⟩:=B5s.1 hs;obtain⟨_,j2,_,j4⟩:=sb.inst (by decide) i1;have hf:=E0x hp sb i1;refine⟨O.type,Tb.2 (.inr (.inl ⟨by omega,?_,?_,?_,rfl⟩)),?_⟩
  ·rw [ht];exact Zt hp sb ha hc
  ·rw [ht];exact B5s.2 ⟨j2,j4⟩
  ·refine kids _ _ _ _ 0 hK hl.symm ?_ (fun i k h=>h) (fun i k h=>h) ?_
   ·rw [ht];show ((C5 p (e.type.subst v a)).map (·.type)).length=((C5 p e.type).map (·.type)).length;rw [hf];simp
   ·intro i y y' L R;rw [ht] at R;have R:((C5 p (e.type.subst v a)).map (·.type))[i]? = some y':=R;have L:((C5 p e.type).map (·.type))[i]? = some y:=L;rw [hf,Fx,D3,Ij] at R;rw [D3,Ij] at L;obtain⟨f,f1,rfl⟩:=L;obtain⟨f',f2,rfl⟩:=R;rw [f1] at f2;cases f2;rfl
  ·rw [ht];exact C1x _ _ _
 ·have aa:0 < O.kids.length:=by rw [hl,a0];simp
  cases E:O.kids with
  |nil=>rw [E] at aa;simp at aa
  |cons w' I =>
   have U:I.length=W.length:=by rw [a0,E] at hl;simpa using hl
   obtain⟨x',a6,a8⟩:=ih 0 w w' x (by rw [a0];rfl) (by rw [E];rfl) hx;rcases a3 with ⟨k2,s,hs,hK,rfl⟩| ⟨k4,hs,k,f,V,a5,rfl⟩| ⟨k5,hc,_,rfl⟩
   ·obtain⟨s1,s2,s3,s4,s5,s6⟩:=B2y.1 hs;simp only at s1 s2 s3 s4 s5 s6;obtain⟨r1,ah,ao⟩:=D0c hp sb s1;obtain⟨s',ac,ad⟩:=B1j a8 r1 ah;obtain⟨q1,q2,q3,q4⟩:=C3z (ad.trans ao);have ag:=(C1g s s1).fs;have a1:∀n,n∈Ad s.A1→Mi n:=fun n hn=>by
     rw [ag] at hn;obtain⟨i,_,rfl⟩:=Ax.1 hn;exact⟨i,rfl⟩
    have ak:Ad s'.A1=Ad s.A1:=by rw [←A4w s'.A1,q2,A4w];simp only [A5.subst,Ad,Fx];rfl
    have a4:∀(b b':Ty),b'.er=(b.subst v a).er→(b'.subst (Ad s'.A1) O.targs).er=((b.subst (Ad s.A1) e.targs).subst v a).er:=by intro b b' hb;rw [G0p (fun n hn=>sb.out (.inl (a1 n hn))) (fun u hu=>(sb.clean u hu).mono fun n hn hm=>hn (a1 n hm)),Ku,Ku,hb,ak,hg]
    have ai:s'.A1.length=s.A1.length:=by have:=K9 List.length q2;simpa [A5.subst] using this
    have a9:s'.params.length=s.params.length:=by have:=K9 List.length q3;simpa [A5.subst] using this
    have ab:P4 ⟨p,false,env',J⟩ O x'=.inr s':=by
     rw [B2y];simp only;refine⟨ac,by rw [q1,hn];exact s2,by rw [ai,s3,hg,B6],fun u hu=>?_,?_,by rw [hl,a9];exact s6⟩
     ·rw [hg] at hu;obtain⟨u0,ap,rfl⟩:=Ax.1 hu;exact Zt hp sb ha (s4 u0 ap)
     ·rw [Yw] at s5 ⊢;intro i f' u' f1 f2;obtain⟨g,L,R⟩:=B5d q2 f1;simp only [A5.subst] at L;rw [D3,Ij] at L;obtain⟨f,f3,rfl⟩:=L;rw [hg,D3,Ij] at f2;obtain⟨u,f4,rfl⟩:=f2;have hb:=K9 Ak.bound R;exact A0a (B3n hp sb (s5 i f u f3 f4)) (Xi (a4 f.bound f'.bound hb.symm).symm)
    refine⟨_,Tb.2 (.inr (.inr ⟨w',I,x',E,a6,.inl ⟨by omega,s',ab,?_,rfl⟩⟩)),?_⟩
    ·refine kids _ _ _ _ 1 hK U.symm (by simp [W8,a9]) (fun i k h=>by rw [a0,Ny];exact h) (fun i k h=>by rw [E,Ny];exact h) ?_;intro i y y' L R;unfold W8 at L R;rw [D3,Ij] at L R;obtain⟨f,f1,rfl⟩:=L;obtain⟨f',f2,rfl⟩:=R;obtain⟨g,h1,h2⟩:=B5d q3 f2;simp only [A5.subst] at h1;rw [D3,f1] at h1;simp only [E8,Av] at h1;subst h1;exact a4 _ _ (K9 Param.type h2).symm
    ·exact Xi (a4 _ _ q4)
   ·obtain⟨i1,i2⟩:=B5s.1 hs;obtain⟨_,j2,_,j4⟩:=sb.inst (by decide) i1;have a2:=E5z j2 a8;have a7:(C5 p x').map Param.er=((C5 p x).map (Param.subst v a)).map Param.er:=by rw [←E0x hp sb i1];exact F4h a2
    have af:(C5 p x').map (·.name)=(C5 p x).map (·.name):=by have:=K9 (List.map Param.name) a7;simp only [Fx] at this;exact this
    have ae:(((C5 p x).map (Param.subst v a)))[k]? = some (f.subst v a):=by have a5:(C5 p x)[k]? = some f:=a5;rw [D3,a5];rfl
    obtain⟨f',f1,f2⟩:=B5d a7.symm ae;refine⟨f'.type,Tb.2 (.inr (.inr ⟨w',I,x',E,a6,.inr (.inl ⟨by omega,?_,k,f',?_,f1,rfl⟩)⟩)),?_⟩
    ·exact B5s.2 ⟨by rw [A7q a2];exact j2,by simp only;rw [B7y a2];exact j4⟩
    ·have V:Hn (C5 p x) e.name=k:=V;show Hn (C5 p x') O.name=k;unfold Hn at V ⊢;rw [A5y,af,hn,←A5y,V]
    ·exact Xi (K9 Param.type f2)
   ·refine⟨O.type,Tb.2 (.inr (.inr ⟨w',I,x',E,a6,.inr (.inr ⟨by omega,?_,(fun h=>by cases h),rfl⟩)⟩)),?_⟩
    ·rw [ht];exact Zt hp sb ha hc
    ·rw [ht];exact C1x _ _ _
theorem Ya (v:List A3)(a:List Ty)(e:Ex):e.subst v a=.mk e.kind e.name (e.type.subst v a) (e.targs.map (Ty.subst v a)) (e.kids.map (Ex.subst v a)) e.pos:=by unfold Ex.subst;rw [A1b];cases e;rfl
theorem F9w (names:List A3)(E:List Ex)(e:Ex):e.Qi names E=B1h names E (e.Ue (e.kids.map (Ex.Qi names E))):=by unfold Ex.Qi;rw [A1b]
end
end Go.Abs
/- a step keeps the type of an expression, or makes it smaller -/
namespace Go.Abs
open Go Go.Proofs
theorem D3i (u:Nat):(Lib.decDigits u).foldl (fun a b=>10*a+(b.toNat - 48)) 0=u:=by
 induction u using Nat.strongRecOn with| _ u E=>?_
 rw [Lib.decDigits];split
 ·rename_i h;simp only [Li,Tu];rw [UInt8.toNat_ofNat'];omega
 ·rename_i h;rw [List.foldl_append,E (u / 10) (by omega)];simp only [Li,Tu];rw [UInt8.toNat_ofNat'];omega
theorem E8c {i j:Nat} (h:Ec i=Ec j):i=j:=by unfold Ec Lib.itoa at h;simp only [Aq4,Qv] at h;rw [A6 (by omega),A6 (by omega)] at h;have:=K9 (List.foldl (fun a b=>10*a+(b.toNat - 48)) 0) h;rw [D3i,D3i] at this;omega
theorem E7t {n k:Nat} (h:k < n):Cy (Ec k) ((List.range n).map Ec) 0=k:=by
 rcases A0d (Ec k) ((List.range n).map Ec) 0 with ⟨_,E⟩| ⟨j,I,E⟩
 ·exact absurd (Ax.2 ⟨k,Xs.2 h,rfl⟩) E
 ·have J:j < n:=by have:=(Ay.1 I).1;simpa using this
  rw [D3,Ww J] at I;have:=E8c (by simpa using I);rw [E,this];simp
theorem A6i {n:A3} (h:isName n=true):¬Mi n:=by
 rintro⟨i,rfl⟩;have E:cls (UInt8.toNat 36)≠1:=by decide
 unfold Ec isName at h;simp only [B1,D8] at h;exact E h.1.1
theorem D9v {p:Prog}:∀{l pre:List Ak},A1d p pre l=none→∀(i:Nat)(f:Ak),l[i]? = some f→kindOf p f.name=0∧f.name ∉ Ad pre∧f.name ∉ Ad (l.take i)
 |[],_,_=>by simp
 |x::l,pre,h=>by
  intro i f E;rw [A1d] at h;split at h
  ·cases h
  ·rename_i O;obtain⟨U,L⟩:=Nb.1 O;cases i with
   |zero=>simp only [Iz,Av] at E;subst E;exact⟨We U,L,by simp [Ad]⟩
   |succ i =>obtain⟨R,I,J⟩:=D9v h i f (by simpa using E);simp only [Ad,Fz,Bw,Nb,Cz,Hr,Qt] at I;refine⟨R,I.1,?_⟩;simp only [Wk,Ad,Cz,As,Nb];exact⟨I.2,J⟩
theorem C7s {p:Prog} {all:List Ak}:∀{l:List Ak},A0t p all l=none→∀f,f∈l→C0 p all f.bound=none∧isIface p all f.bound=true
 |[],_=>by simp
 |x::l,h=>by
  rw [A0t] at h;intro f hf;split at h
  ·cases h
  ·rename_i E;split at h
   ·rename_i I;rcases As.1 hf with rfl| hf
    ·exact⟨E,I⟩
    ·exact C7s h f hf
   ·cases h
theorem A2g {p:Prog} {env l:List Ak} (h:Y4 p env l=none):(∀(i:Nat)(f:Ak),l[i]? = some f→kindOf p f.name=0∧f.name ∉ Ad env∧f.name ∉ Ad (l.take i))∧∀f,f∈l→C0 p (env++l) f.bound=none∧isIface p (env++l) f.bound=true:=by
 unfold Y4 at h;split at h
 ·cases h
 ·rename_i E;exact⟨D9v E,C7s h⟩
theorem C1r {p:Prog} {env:List Ak}:∀{l:List Param} {pre:List A3},Tm p env pre l=none→∀f,f∈l→C0 p env f.type=none
 |[],_,_=>by simp
 |x::l,pre,h=>by
  rw [Tm] at h;intro f hf;split at h
  ·cases h
  ·split at h
   ·cases h
   ·rename_i E;rcases As.1 hf with rfl| hf
    ·exact E
    ·exact C1r h f hf
theorem A3z {p:Prog} {env:List Ak} {s:A5} (h:Mn p env s=none):Y4 p env s.A1=none∧(∀f,f∈s.params→C0 p (env++s.A1) f.type=none)∧C0 p (env++s.A1) s.result=none:=by
 unfold Mn at h;split at h
 ·cases h
 ·rename_i I;split at h
  ·cases h
  ·rename_i E;exact⟨I,C1r E,h⟩
theorem D5r {p:Prog} {env:List Ak}:∀{l:List A5} {pre:List A3},Wg p env pre l=none→∀s,s∈l→Mn p env s=none
 |[],_,_=>by simp
 |x::l,pre,h=>by
  rw [Wg] at h;intro s hs;split at h
  ·cases h
  ·split at h
   ·cases h
   ·rename_i E;rcases As.1 hs with rfl| hs
    ·exact E
    ·exact D5r h s hs
theorem E2e {p:Prog}:∀{l pre:List A3},A0h p pre l=false→∀(i:Nat)(v:A3),l[i]? = some v→kindOf p v=0∧v ∉ pre∧v ∉ l.take i
 |[],_,_=>by simp
 |x::l,pre,h=>by
  intro i f E;rw [A0h,Wf,Vh] at h;obtain⟨R,L⟩:=Nb.1 h.1;cases i with
  |zero=>simp only [Iz,Av] at E;subst E;exact⟨We R,L,by simp⟩
  |succ i =>obtain⟨O,I,J⟩:=E2e h.2 i f (by simpa using E);simp only [Bw,Nb,Qt] at I;refine⟨O,I.1,?_⟩;simp only [Wk,As,Nb];exact⟨I.2,J⟩
def HW (p:Prog):Prop:=∀(i:Nat)(d:Decl),p.decls[i]? = some d→Wb p i d=none
theorem A5x {p:Prog} {x:A3} {d:Decl} (h:Gb p x=some d):(d.kind=1∨d.kind=2)∧d.name=x∧d∈p.decls:=by unfold Gb at h;have E:=Av4 h;have I:=An1 h;unfold Decl.Iu at E;simp only [B1,Ta,D8] at E;exact⟨E.1,E.2,I⟩
theorem A0f {p:Prog} (I:HW p) {x:A3} {d:Decl} (h:Gb p x=some d):Y4 p [] d.A1=none∧(d.kind=1→∀f,f∈d.fields→C0 p d.A1 f.type=none)∧(d.kind=2→∀s,s∈d.sigs→Mn p d.A1 s=none):=by
 obtain⟨R,V,L⟩:=A5x h;obtain⟨i,J⟩:=Ls L;have E:=I i d J;unfold Wb at E;rw [A8 R] at E;unfold B0u at E;split at E
 ·cases E
 ·split at E
  ·cases E
  ·rename_i U;refine⟨U,fun k1=>?_,fun k2=>?_⟩
   ·rw [A8 k1] at E;split at E
    ·cases E
    ·rename_i O;exact C1r O
   ·rw [A6 (by omega)] at E;exact D5r E
theorem B4j {p:Prog} (L:HW p) {d:Decl} (hd:d∈p.decls)(U:d.kind=3):kindOf p d.name=1∧d.vars.length=(Fj p d.name).length∧A0h p [] d.vars=false∧Mn p (H2 p d) d.sig=none:=by
 obtain⟨i,O⟩:=Ls hd;have E:=L i d O;unfold Wb at E;rw [A6 (by omega),A8 U] at E;unfold B0o at E;split at E
 ·cases E
 ·rename_i I;obtain⟨I,J⟩:=Nb.1 I;split at E
  ·cases E
  ·rename_i R;split at E
   ·cases E
   ·cases V:Mn p (H2 p d) d.sig with
    |some q=>rw [V] at E;cases E
    |none=>exact⟨We I,We J,by simpa using R,rfl⟩
theorem D6t {p:Prog} {d:Decl} (h:d.vars.length=(Fj p d.name).length):Ad (H2 p d)=d.vars:=by unfold H2 Ad;rw [Fx];exact List.map_snd_zip (by omega)
theorem C1o {p:Prog} (hr:p.right=true) {d:Decl} (hd:d∈p.decls):isName d.name=true∧(∀v,v∈d.vars→isName v=true)∧(d.kind=3→∀f,f∈d.sig.A1→isName f.name=true):=by unfold Prog.right at hr;rw [B1,Cf] at hr;have h:=hr.1 d hd;unfold Decl.right at h;simp only [B1,Cf] at h;refine⟨h.1,h.2.2.2.2.1,fun I f J=>?_⟩;have E:=h.2.2.2.2.2;unfold Decl.Sv at E;rw [A8 I] at E;unfold A5.right Pv at E;simp only [B1,Cf] at E;exact (E.2.2.1.1.1.2 f J).1
theorem A7w {p:Prog} (hr:p.right=true)(R:HW p):PW p:=by
 refine⟨fun n I=>?_,fun x d hd f E=>?_,fun x d hd O f E=>?_,fun x d hd O s hs=>?_,fun d hd O=>?_⟩
 ·obtain⟨d,hd,_,_⟩:=A6g I;obtain⟨_,J,L⟩:=A5x hd;rw [←J];exact A6i (C1o hr L).1
 ·exact Yj (by have:=((A2g (A0f R hd).1).2 f E).1;simpa using this)
 ·exact Yj ((A0f R hd).2.1 O f E)
 ·obtain⟨V,J,L⟩:=A3z ((A0f R hd).2.2 O s hs);have key:∀t:Ty,C0 p (d.A1++s.A1) t=none→t.Lf fun n=>n∈Ad s.A1∨(n∈Ad d.A1∨kindOf p n≠0):=fun t ht =>
   (Yj ht).mono fun n I=>by
    unfold Ad at I ⊢;rw [Fz,Bw] at I;rcases I with (h| h)| h
    ·exact .inr (.inl h)
    ·exact .inl h
    ·exact .inr (.inr h)
  exact⟨fun f E=>key _ ((A2g V).2 f E).1,fun f E=>key _ (J f E),key _ L⟩
 ·obtain⟨_,Z,_,W⟩:=B4j R hd O;obtain⟨V,J,L⟩:=A3z W;have U:=D6t Z;have key:∀t:Ty,C0 p (H2 p d++d.sig.A1) t=none→t.Lf fun n=>n∈Ad d.sig.A1∨(n∈d.vars∨kindOf p n≠0):=fun t ht =>
   (Yj ht).mono fun n I=>by
    rw [←U];unfold Ad at I ⊢;rw [Fz,Bw] at I;rcases I with (h| h)| h
    ·exact .inr (.inl h)
    ·exact .inl h
    ·exact .inr (.inr h)
  exact⟨fun f E=>key _ ((A2g V).2 f E).1,fun f E=>key _ (J f E),key _ L⟩
theorem D1w {F:List A3} {vars E:List A3} {A B:List Ty} {n:Nat} {K:A3→Prop} (hF:F.length=n)(hB:B.length=n)(hA:vars.length=A.length)(L:E=(List.range n).map Ec)
  (hd:∀m,m∈vars→m ∉ F) (hv:∀m,m∈vars→¬Mi m) (hK:∀m,K m→¬Mi m) (hc:∀u,u∈A→u.Lf fun n=>¬Mi n) (b:Ty) (hb:b.Lf fun m=>m∈F∨(m∈vars∨K m)) :
  ((b.subst F (Da n)).subst vars A).subst E B=b.subst (vars++F) (A++B):=by
 have J:∀m,m∈E→Mi m:=fun m V=>by rw [L] at V;obtain⟨i,_,rfl⟩:=Ax.1 V;exact⟨i,rfl⟩
 induction b using Ty.induct with| _ b ih=>?_
 by_cases I:b.args=[]
 ·have e0:∀v a,Hd v a b.name=none→b.subst v a=b:=fun v a Z=>by
   rw [Ih fun _=>Z,I];cases b;simp only [Ty.args] at I;subst I;rfl
  by_cases R:b.name∈vars
  ·have U:=hd _ R;obtain⟨k,u,_,_,W,g4⟩:=A2m R (args:=A) (by omega);have a0:=hc u (Bx W);rw [e0 F _ (Ng U),Qf I g4,Qf (vars:=vars++F) (u:=u) I (by rw [B0k hA,A8 R];exact g4),E2w];exact .of (fun h V=>a0.name h (J _ V)) fun x hx=>(a0.arg x hx).mono fun m V a3=>V (J _ a3)
  ·by_cases U:b.name∈F
   ·obtain⟨k,u,g1,g2,W,g4⟩:=A2m U (args:=Da n) (by simp [Da,hF]);have hk:k < n:=by have:=(Ay.1 W).1;simpa [Da] using this
    have hu:u=Tz k:=by unfold Da at W;rw [D3,Ww hk] at W;simpa using W.symm
    subst hu;obtain⟨O,w,k1,k2,k3,k4⟩:=A2m U (args:=B) (by omega);have a1:O=k:=by omega
    subst a1;rw [Qf I g4];show Ty.subst E B (Ty.subst vars A (.mk (Ec O) [] b.pos))=_;have a2:Hd E B (Ec O)=some w:=by unfold Hd;rw [L,E7t hk,A8 (by omega),Gr];exact k3
    rw [Ih (t:=.mk (Ec O) [] b.pos) fun _=>Ng fun Z=>hv _ Z ⟨O,rfl⟩];show Ty.subst E B (.mk (Ec O) [] b.pos)=_;rw [Qf (t:=.mk (Ec O) [] b.pos) (u:=w) rfl a2,Qf (vars:=vars++F) (u:=w) I (by rw [B0k hA,A6 R];exact k4)];rfl
   ·have h3:K b.name:=by
     rcases hb.name I with h| h| h
     ·exact absurd h U
     ·exact absurd h R
     ·exact h
    rw [e0 F _ (Ng U),e0 vars _ (Ng R),e0 E _ (Ng fun Z=>hK _ h3 (J _ Z)),e0 (vars++F) _ (by rw [B0k hA,A6 R,Ng U])]
 ·rw [Ih fun h=>absurd h I,Ih (t:=.mk _ _ _) fun h=>absurd h (by simpa [Ip] using I),Ih (t:=.mk _ _ _) fun h=>absurd h (by simpa [Ip] using I),Ih (t:=b) fun h=>absurd h I];simp only [Ip,R4,mkQ,Fx]
  congr 1
  exact Hv fun u hu=>ih u hu (hb.arg u hu)
abbrev F4q (p:Prog):Dd:=⟨p,false,[],[]⟩
theorem B6g {p:Prog} {x:Ty} {s:A5} (V:Bz p x 1=true)(hs:s∈De p [] x):∃d,d∈p.decls∧d.kind=3∧d.name=x.name∧d.vars.length=x.args.length∧s=d.sig.canon.subst d.vars x.args∧Jm p x s.name=some d:=by
 unfold De at hs;have hb:Ck [] x=none:=by unfold Ck Ev;split <;> simp [Dy]
 rw [hb] at hs;simp only [Mj,L7,Hh,Et] at hs;have L:¬Bz p x 2=true:=fun h=>by have:=(Tv h).1;have:=(Tv V).1;omega
 rw [A6 L] at hs;unfold Gk at hs;rw [Ax] at hs;obtain⟨⟨d,i⟩,hd,rfl⟩:=hs;rw [L8] at hd;have W:=hd.2;unfold Io at W;simp only [B1,D8] at W;obtain⟨⟨Z,hn⟩,I⟩:=W;have J:p.decls[i]? = some d:=by have:=hd.1;rw [Cs] at this;obtain⟨_,L,U⟩:=List.mem_zipIdx this;simp only [As4] at U;rw [U];exact Ba _
 have E:Mf p x.name d.sig.name=(i:Int)∧d.vars.length=x.args.length:=by
  unfold Kk at I;rw [A8 V] at I;split at I
  ·rename_i d' O;split at I
   ·rename_i hc;rw [I,Gr,J] at O;cases O;exact⟨I,hc.2⟩
   ·omega
  ·omega
 refine⟨d,Bx J,Z,hn,E.2,rfl,?_⟩;show Jm p x d.sig.name=some d;unfold Jm;rw [A8 V];have hf:p.decls.find? (J7 x.name d.sig.name)=some d:=by
  unfold Mf Dy at E;cases h:p.decls.findIdx? (J7 x.name d.sig.name) with
  |none=>rw [h] at E;have:=E.1;simp only at this;omega
  |some j =>
   rw [h] at E;have hj:j=i:=by have:=E.1;simp only at this;omega
   subst hj;obtain⟨h1,L,U⟩:=Ah8.1 h;have R:p.decls[j]=d:=by rw [Ba h1] at J;simpa using J
   rw [At9];refine⟨by rw [R] at L;exact L,j,h1,R,fun k Z=>?_⟩;have:=U k Z;simpa using this
 rw [hf];simp only [E.2,Af]
theorem G1w {l:List A3} (h:∀(i:Nat)(v:A3),l[i]? = some v→v ∉ l.take i) {i:Nat} {v:A3} (E:l[i]? = some v):Cy v l 0=i:=by
 have:=Uj (p:=fun x:A3=>decide (x=v)) E (by simp) fun y I=>by simp only [Vh];rintro rfl;exact h i _ E I
 rw [←this,A5y (fun x:A3=>x) v l,List.map_id']
theorem F1j {vars:List A3} {args:List Ty} {n:A3} {k:Nat} {u:Ty} (h:Cy n vars 0=k)(E:args[k]? = some u):Hd vars args n=some u:=by unfold Hd;rw [h,A8 ⟨by omega,by have:=(Ay.1 E).1;omega⟩,Gr];exact E
section
variable {p:Prog}
theorem F2j {p:Prog} {d:Decl} (I:∀(i:Nat)(v:A3),d.vars[i]? = some v→v ∉ d.vars.take i) {F:List A3} {A B:List Ty} (L:d.vars.length=A.length):((H0 d.vars).map (Ty.subst (d.vars++F) (A++B))).map Ty.er=A.map Ty.er:=by
 refine Lu fun i=>?_;simp only [H0,Fx,D3];cases E:d.vars[i]? with
 |none =>
  have:A[i]? = none:=by rw [List.getElem?_eq_none_iff] at E ⊢;omega
  rw [this];rfl
 |some v =>
  have O:=(Ay.1 E).1;have J:A[i]? = some (A[i]'(by omega)):=Ba (by omega);rw [J];simp only [E8,Function.comp]
  congr 1
  rw [Qf (t:=.mk v [] 0) (u:=A[i]'(by omega)) rfl]
  ·exact C2e
  ·rw [R4,B0k L,A8 (Bx E)];exact F1j (G1w I E) J
structure C7r (p:Prog)(d:Decl)(x:Ty)(targs:List Ty):Prop where
 sb:Sb p (H2 p d++d.sig.A1) [] (d.vars++Ad d.sig.A1) (x.args++targs)
 wf:∀u,u∈x.args++targs→C0 p [] u=none
 self:((A7s d).subst (d.vars++Ad d.sig.A1) (x.args++targs)).er=x.er
 inst:∀b:Ty,C0 p (H2 p d++d.sig.A1) b=none→((b.subst (Ad d.sig.A1) (Da d.sig.A1.length)).subst d.vars x.args).subst (Ad d.sig.canon.A1) targs=b.subst (d.vars++Ad d.sig.A1) (x.args++targs)
theorem called (hr:p.right=true)(hw:HW p) {d:Decl} (hd:d∈p.decls)(hk:d.kind=3) {x:Ty} (hx:C0 p [] x=none)(hi:Bz p x 1=true)(I:d.name=x.name) {targs:List Ty} (a9:d.sig.A1.length=targs.length)
  (ht:∀t,t∈targs→C0 p [] t=none) (hb:Gt p [] (d.sig.canon.subst d.vars x.args).A1 targs < 0):C7r p d x targs:=by
 have hp:=A7w hr hw;obtain⟨m1,m2,m3,m4⟩:=B4j hw hd hk;obtain⟨s1,s2,s3⟩:=A3z m4;obtain⟨f1,f2⟩:=A2g s1;have U:=D6t m2;obtain⟨x1,x2⟩:=Tv hi;have a0:d.vars.length=x.args.length:=by rw [m2,I,x2]
 have hv:=E2e m3;obtain⟨r1,r2,r3⟩:=C1o hr hd;have ad:(∀u,u∈x.args→C0 p [] u=none)∧Gt p [] (Fj p x.name) x.args < 0:=by
  rcases A7h.1 hx with h| ⟨_,_,h3,h4⟩
  ·have:Ck [] x=none:=by unfold Ck Ev;split <;> simp [Dy]
   rw [this] at h;cases h
  ·exact⟨h3,h4⟩
 have aa:∀u,u∈x.args++targs→C0 p [] u=none:=fun u O=>(Bw.1 O).elim (ad.1 u) (ht u);have a':∀u,u∈x.args++targs→u.Lf fun n=>¬Mi n:=fun u O=>(Yj (aa u O)).mono fun n I=>I.elim (by simp [Ad]) (hp.name n);have a4:(Ad d.sig.A1).length=d.sig.A1.length:=by simp [Ad]
 have ab:∀m,m∈d.vars→m ∉ Ad d.sig.A1:=fun m hm hf=>by obtain⟨f,Z,ah⟩:=Ax.1 hf;obtain⟨i,hi⟩:=Ls Z;exact (f1 i f hi).2.1 (by rw [U,ah];exact hm)
 have a3:Ad d.sig.canon.A1=(List.range d.sig.A1.length).map Ec:=by rw [(B3w d.sig).fs];simp [A5.canon,Ha]
 have R:∀b:Ty,C0 p (H2 p d++d.sig.A1) b=none→((b.subst (Ad d.sig.A1) (Da d.sig.A1.length)).subst d.vars x.args).subst (Ad d.sig.canon.A1) targs=b.subst (d.vars++Ad d.sig.A1) (x.args++targs):=fun b hb =>
  D1w (K:=fun n=>kindOf p n≠0) a4 a9.symm a0 a3 ab (fun m hm=>A6i (r2 m hm)) hp.name (fun u O=>a' u (Au9 _ O)) b
   ((Yj hb).mono fun n I=>by
    unfold Ad at I;rw [Fz,Bw] at I;rcases I with (h| h)| h
    ·exact .inr (.inl (by rw [←U];exact h))
    ·exact .inl h
    ·exact .inr (.inr h))
 have J:Ad (H2 p d++d.sig.A1)=d.vars++Ad d.sig.A1:=by rw [←U];unfold Ad;rw [Fz]
 have a8:kindOf p d.name≠0:=by omega
 obtain⟨W,a6,ak,V⟩:=A6g a8;obtain⟨t1,t2⟩:=A2g (A0f hw a6).1;have a5:=F2j (p:=p) (d:=d) (fun i v h=>(hv i v h).2.2) (F:=Ad d.sig.A1) (A:=x.args) (B:=targs) a0;have E:∀n,n∈d.vars++Ad d.sig.A1→kindOf p n=0∧¬Mi n:=fun n I=>by
  rcases Bw.1 I with h| h
  ·obtain⟨i,hi⟩:=Ls h;exact⟨(hv i n hi).1,A6i (r2 n h)⟩
  ·obtain⟨f,Z,rfl⟩:=Ax.1 h;obtain⟨i,hi⟩:=Ls Z;exact⟨(f1 i f hi).1,A6i (r3 hk f Z)⟩
 have a2:∀n,n∈Ad (H2 p d++d.sig.A1)→kindOf p n=0:=fun n I=>(E n (by rw [←J];exact I)).1;have a7:∀(l:Ak),l∈W.A1→∀a:List Ty,(l.bound.subst (Ad W.A1) a).name=l.bound.name∧(l.bound.subst (Ad W.A1) a).args.length=l.bound.args.length∧Bz p l.bound 2=true:=by
  intro l hl a;have L:=(t2 l hl).2;simp only [Wa] at L;unfold isIface at L;rw [B1] at L;have a1:Ck W.A1 l.bound=none:=by
   cases hh:Ck W.A1 l.bound with
   |none=>rfl
   |some y=>rw [hh] at L;simp at L
  have:l.bound.subst (Ad W.A1) a=.mk l.bound.name (l.bound.args.map (Ty.subst (Ad W.A1) a)) l.bound.pos:=Ih fun ha=>Ng (D4z a1 ha);rw [this];exact⟨rfl,by simp [Ip],L.1⟩
 refine⟨⟨J.symm,by rw [B3,B3,a4,a0,a9],E,by simp [Ad],a',fun f hf=>?_,fun i f u hf O=>?_⟩,aa,?_,R⟩
 ·rcases Bw.1 hf with hf| hf
  ·unfold H2 at hf;obtain⟨⟨l,w⟩,hz,rfl⟩:=Ax.1 hf;have hl:l∈W.A1:=by rw [←V];exact (Av6 hz).1
   obtain⟨g1,g2,g3⟩:=a7 l hl (H0 d.vars);unfold isIface;simp only;rw [V,B1];refine⟨D5m g3 g1 g2,?_⟩;rw [B2s a2 (by rw [g1,(Tv g3).1];decide)];rfl
  ·exact (f2 f hf).2
 ·by_cases am:i < d.vars.length
  ·have ac:(H2 p d).length=d.vars.length:=by have:=K9 List.length U;simpa [Ad] using this
   rw [J6 (by omega)] at hf O;unfold H2 at hf;rw [D3,Ij] at hf;obtain⟨⟨l,w⟩,hz,rfl⟩:=hf;rw [Ak6] at hz;have ag:=Yw.1 ad.2 i l u (by rw [←I];exact hz.1) O;refine A0a ag (Xi ?_);simp only;rw [←I,V];have hl:l∈W.A1:=by rw [←V];exact Bx hz.1
   rw [A7v _ _ _ _ (by rw [←V];simp [Ad,H0];omega) _ ((hp.bnd _ W a6 l hl).mono fun n I=>I.imp_right fun h hm=>h (E n hm).1),Ku,Ku,a5]
  ·have ac:(H2 p d).length=d.vars.length:=by have:=K9 List.length U;simpa [Ad] using this
   rw [Jh (by omega)] at hf O;rw [ac] at hf;rw [←a0] at O;have ai:=Bx hf;have af:(d.sig.canon.subst d.vars x.args).A1[i - d.vars.length]? = some ⟨Ec (i - d.vars.length),(f.bound.subst (Ad d.sig.A1) (Da d.sig.A1.length)).subst d.vars x.args,f.pos⟩:=by have ae:=(Ay.1 hf).1;simp only [A5.subst,A5.canon,Ha];rw [D3,Um,hf];simp only [E8,Ak.subst,A8 ae]
   have:=Yw.1 hb _ _ u af O;simp only at this;have aj:Ad (d.sig.canon.subst d.vars x.args).A1=Ad d.sig.canon.A1:=by simp only [A5.subst,Ad,Fx];rfl
   rw [aj,R _ (f2 f ai).1] at this;exact this
 ·rw [A8h];have a1:(if (A7s d).args=[] then Hd (d.vars++Ad d.sig.A1) (x.args++targs) (A7s d).name else none)=none:=by
   split
   ·refine Ng fun hm=>?_;have:=(E _ hm).1;exact a8 this
   ·rfl
  rw [a1];simp only [A7s,Ip,R4,mkQ];rw [P7,P7 x];simp only [R4,Ip];rw [a5,I]
end
end Go.Abs
/- no expression with a type is stuck -/
namespace Go.Abs
open Go Go.Proofs
end Go.Abs
/- what StepKeeps asks of a step, out of keeps -/
namespace Go.Abs
open Go Go.Proofs
end Go.Abs
/- a program that is well typed, strictly or not, is never stuck, however many steps it makes -/
namespace Go.Abs
open Go Go.Proofs
theorem C6w {c:Dd} {I:List Ty} {E:List Ex} (R:∀x,x∈E→∀t,Em c x=(t,none)→Em { c with strict:=false } x=(t,none))(h:Xq c I E):Xq { c with strict:=false } I E :=
 ⟨h.1,fun i w k O J=>by obtain⟨K,U,L⟩:=h.2 i w k O J;exact⟨K,R k (Bx J) K U,L⟩⟩
theorem lax (c:Dd):∀(e:Ex)(t:Ty),Em c e=(t,none)→Em { c with strict:=false } e=(t,none):=by
 intro e
 induction e using Ex.induct with| _ e R=>?_
 intro t h;refine Tb.2 ?_;rcases Tb.1 h with h1| ⟨h3,h4,U,L,O⟩| ⟨v,vs,x,I,W,Z⟩
 ·exact .inl h1
 ·exact .inr (.inl ⟨h3,h4,U,C6w R L,O⟩)
 ·have E:∀y,y∈v::vs→∀t,Em c y=(t,none)→Em { c with strict:=false } y=(t,none):=fun y J=>R y (by rw [I];exact J);refine .inr (.inr ⟨v,vs,x,I,E v (by simp) x W,?_⟩);rcases Z with ⟨k2,s,hs,V,ht⟩| h4| ⟨k5,L,_,O⟩
  ·exact .inl ⟨k2,s,hs,C6w (fun y J=>E y (by simp [J])) V,ht⟩
  ·exact .inr (.inl h4)
  ·exact .inr (.inr ⟨k5,L,(fun h=>by cases h),O⟩)
theorem D6m:∀l:List Ex,(∀x,x∈l→x.One)→Ex.A2r l
 |[],_=>trivial
 |x::l,h=>by rw [Ex.A2r];exact⟨h x (by simp),D6m l fun y E=>h y (by simp [E])⟩
theorem Ex.One.of {e:Ex} (h:C5t e)(E:∀x,x∈e.kids→x.One):e.One:=by cases e with| mk k n t a ks q=>rw [Ex.One];exact⟨h,D6m ks E⟩
theorem C9v {e:Ex} (f:Ex→Ex)(n:A3)(t:Ty)(a:List Ty)(q:Int)(h:e.One)(L:∀x,x∈e.kids→(f x).One):(Ex.mk e.kind n t a (e.kids.map f) q).One :=
 .of ⟨fun O=>by show e.kids.map f=[];rw [h.out.1.1 O];rfl,fun J=>by show (e.kids.map f).length=1;rw [B6];exact h.out.1.2 J⟩ fun x I=>by obtain⟨y,E,rfl⟩:=Ax.1 I;exact L y E
theorem Ex.One.subst (v:List A3)(a:List Ty):∀{e:Ex},e.One→(e.subst v a).One:=by
 intro e
 induction e using Ex.induct with| _ e I=>?_
 intro h;rw [Ya];exact C9v _ _ _ _ _ h fun y E=>I y E (h.out.2 y E)
theorem Ex.One.Qi {names:List A3} {E:List Ex} (R:∀x,x∈E→x.One):∀{e:Ex},e.One→(e.Qi names E).One:=by
 intro e
 induction e using Ex.induct with| _ e L=>?_
 intro h;rw [F9w];have J:(e.Ue (e.kids.map (Ex.Qi names E))).One:=C9v _ _ _ _ _ h fun y I=>L y I (h.out.2 y I);unfold B1h;split
 ·cases O:E[(Cy (e.Ue (e.kids.map (Ex.Qi names E))).name names 0).toNat]? with
  |none=>exact J
  |some u=>exact R u (Bx O)
 ·exact J
theorem D2b {p:Prog} (hr:p.right=true):(∀d,d∈p.decls→d.kind=3→d.body.One)∧p.main.One:=by unfold Prog.right at hr;simp only [B1,Cf] at hr;refine⟨fun d hd E=>?_,Ex.D7p _ hr.2⟩;have:=hr.1 d hd;unfold Decl.right Decl.Sv at this;rw [A8 E] at this;simp only [B1] at this;exact Ex.D7p _ this.2.2.2.2.2.2.2.2
theorem C6y {p:Prog} {st:Bool}:∀{l:List Decl} {i:Nat},(Zr p st l i).bad=false→(Dg ⟨p,st,[],[]⟩ p.main).2.bad=false
 |[],_,h=>h
 |x::l,i,h=>by
  rw [Zr] at h;cases E:Wb p i x with
  |some q=>rw [E] at h;cases h
  |none =>
   rw [E] at h;simp only at h;split at h
   ·rename_i I;rw [I] at h;cases h
   ·exact C6y h
end Go.Abs
