/- the types and calls of castingsref21.Find can be named -/
import Derived.Test.YtaneedhchnaniaaGreatDoorKT07
import Derived.Test.YtaneedhchnaniaaGreatDoorKW28
set_option linter.all false
namespace Go.Abs
open Go
set_option maxRecDepth 100000
set_option maxHeartbeats 4000000
theorem Ty.Mg.arg {t:Ty} (h:t.Mg):∀u,u∈t.args→u.Mg:=fun u E=>by
 cases h with
 |loc i p L=>simp [Ty.args] at E
 |Uk n a p R J O I=>exact I u E
structure A5.Mq (s:A5):Prop where
 A1:s.A1.length≤100000
 params:∀f,f∈s.params→f.type.Mg
 result:s.result.Mg
theorem A5.Ni.mq {B:Nat} {s:A5} (h:s.Ni B):s.Mq:=⟨by have:=h.A1.1;omega,fun f E=>(h.params.2 f E).mg,h.result.mg⟩
theorem A5.Mq.subst {v:List A3} {I:List Ty} (E:∀u,u∈I→u.Mg) {s:A5} (h:s.Mq):(s.subst v I).Mq:=by refine⟨by simp only [A5.subst,B6];exact h.A1,fun f J=>?_,Ty.Mg.subst E h.result⟩;obtain⟨x,L,rfl⟩:=Ax.1 J;exact Ty.Mg.subst E (h.params x L)
theorem A5.Mq.canon {s:A5} (h:s.Mq):s.canon.Mq:=by
 have O:=h.A1;have hs:∀u,u∈Da s.A1.length→u.Mg:=fun u I=>by obtain⟨i,E,rfl⟩:=Ax.1 I;exact C9x i (by have:=Xs.1 E;omega)
 refine⟨by simp only [A5.canon,Xr];exact h.A1,fun f L=>?_,Ty.Mg.subst hs h.result⟩;obtain⟨i,x,J,E,rfl⟩:=mem_mapIdx L;exact Ty.Mg.subst hs (h.params x (Bx J))
theorem D0q {p:Prog} (hs:p.Sm)(ht:∀d,d∈p.decls→d.Tl)(hr:p.right=true) {x:Ty} (R:∀u,u∈x.args→u.Mg):∀s,s∈De p [] x→s.Mq:=by
 intro s E;have key:∀{v:List A3} {y:A5},y.Ni 120000→(y.canon.subst v x.args).Mq:=fun h=>A5.Mq.subst R h.mq.canon;have U:Ck [] x=none:=by simp [Ck,Ev,Dy]
 unfold De at E;rw [U] at E;simp only [Mj,L7,Hh,Et] at E;split at E
 ·rename_i O;unfold Gg at E;rw [A8 O] at E;obtain⟨d,hd,_⟩:=Lo (by decide) O;rw [hd,Dc] at E;unfold Yx I7 at E;obtain⟨⟨y,i⟩,J,rfl⟩:=Ax.1 E;have L:=Iq (V5 (L8.1 J).1);exact key ((Prog.A9o hs ht hr (Nh hd)).1 y L)
 ·unfold Gk at E;obtain⟨⟨d,i⟩,J,rfl⟩:=Ax.1 E;have L:d∈p.decls:=Iq (V5 (L8.1 J).1);have I:=(L8.1 J).2;unfold Io at I;simp only [B1,D8] at I;exact key ((Prog.A9o hs ht hr L).2 (by first| exact I.1.1.1| exact I.1.1| exact I.1))
theorem D9e {p:Prog} (hs:p.Sm)(hr:p.right=true) {x:Ty} (L:∀u,u∈x.args→u.Mg):∀f,f∈C5 p x→f.type.Mg:=by
 intro f E;unfold C5 at E;split at E
 ·rename_i O;obtain⟨d,hd,_⟩:=Lo (by decide) O;rw [hd,Dc] at E;unfold fieldsD at E;obtain⟨y,J,rfl⟩:=Ax.1 E;have I:=Nh hd;simp only [Prog.right,B1,Cf] at hr;have h:=hr.1 d I;simp only [Decl.right,Lx,B1,Cf] at h;exact Ty.Mg.subst L (Ty.A3w ((hs.decls.2 d I).fields.2 y J).type (h.2.2.1 y J).2)
 ·simp at E
inductive Ex.Mq:Ex→Prop where
 |mk (e:Ex):(e.kind=3∨e.kind=5→e.type.Mg)→(∀t,t∈e.targs→t.Mg)→(∀x,x∈e.kids→Ex.Mq x)→Ex.Mq e
theorem Ex.Mq.type {e:Ex} (h:e.Mq):e.kind=3∨e.kind=5→e.type.Mg:=by cases h;assumption
theorem Ex.Mq.targs {e:Ex} (h:e.Mq):∀t,t∈e.targs→t.Mg:=by cases h;assumption
theorem Ex.Mq.kids {e:Ex} (h:e.Mq):∀x,x∈e.kids→x.Mq:=by cases h;assumption
theorem Ex.Mq.subst {v:List A3} {a:List Ty} (I:∀u,u∈a→u.Mg):∀{e:Ex},e.Mq→(e.subst v a).Mq:=by
 intro e
 induction e using Ex.induct with| _ e L=>?_
 intro h;rw [W7];refine .mk _ (fun O=>Ty.Mg.subst I (h.type O)) (fun t ht=>?_) fun x J=>?_
 ·obtain⟨u,E,rfl⟩:=Ax.1 ht;exact Ty.Mg.subst I (h.targs u E)
 ·obtain⟨u,E,rfl⟩:=Ax.1 J;exact L u E (h.kids u E)
theorem Ex.B4v:∀{e:Ex},e.Sm→e.right=true→e.Mq:=by
 intro e
 induction e using Ex.induct with| _ e J=>?_
 intro hs h;rw [Ex.A2w,B1,B1] at h;refine .mk _ (fun hk=>Ty.A3w hs.type ?_) (fun t ht=>Ty.A3w (hs.targs.2 t ht) ?_) fun x I=>J x I (hs.kids.2 x I) (A8f h.1 x I)
 ·have E:=h.2.2;unfold Ex.Rc at E;rw [A8 (by unfold Ex.typed;rcases hk with hk| hk <;> rw [hk] <;> rfl)] at E;simp only [B1] at E;exact E.1.1
 ·have E:=h.2.1;unfold Ex.B2x at E;rw [Cf] at E;have:=E t ht;simp only [B1] at this;exact this.2
theorem F1u {c:Dd} {e:Ex} {x:Ty} {g:A5} (h:P4 c e x=.inr g):g∈De c.p c.env x:=by
 unfold P4 at h;split at h
 ·cases h
 ·rename_i y E;split at h
  ·cases h
  split at h
  ·cases h
  split at h
  ·cases h
  split at h
  ·cases h
  cases h;exact Vf.1 (Bx E)
theorem F2y {p:Prog} (hs:p.Sm)(ht:∀d,d∈p.decls→d.Tl)(hr:p.right=true) {vars:List Param} (hv:∀f,f∈vars→f.type.Mg):∀e:Ex,e.Mq→(Dg ⟨p,false,[],vars⟩ e).2.bad=false→(Dg ⟨p,false,[],vars⟩ e).1.Mg:=by
 intro e
 induction e using Ex.induct with| _ e Z=>?_
 intro U;rw [B4p];have R:∀(u z:Ty × Ey),u.1.Mg→Rp u=z→z.2.bad=false→z.1.Mg:=fun u z hu E I=>by
  unfold Rp at E;split at E
  ·subst E;cases I
  ·subst E;exact hu
 obtain⟨z,E⟩:∃z,A2v ⟨p,false,[],vars⟩ e (e.kids.map (Dg ⟨p,false,[],vars⟩))=z:=⟨_,rfl⟩;rw [E];intro I;unfold A2v at E;split at E
 ·unfold A4a at E;split at E
  ·rename_i f V;split at E
   ·subst E;cases I
   ·subst E;exact hv f (Bx V)
  ·subst E;cases I
 split at E
 ·rename_i k3;unfold B2j at E;split at E
  ·subst E;cases I
  ·split at E
   ·subst E;cases I
   ·subst E;exact U.type (.inl k3)
 split at E
 ·subst E;cases I
 rename_i hk;split at E
 ·subst E;cases I
 ·rename_i v zs J;cases O:e.kids with
  |nil=>rw [O] at J;simp at J
  |cons w ws =>
   rw [O] at J;simp only [Cz,Aq4] at J;obtain⟨rfl,rfl⟩:=J;have hw:=Z w (by rw [O];simp) (U.kids w (by rw [O];simp));clear Z;generalize Dg ⟨p,false,[],vars⟩ w=v at *;generalize ws.map (Dg ⟨p,false,[],vars⟩)=zs at *;split at E
   ·rename_i L;rw [←E,L] at I;cases I
   ·rename_i L;have W:=hw (by simpa using L);split at E
    ·unfold A5f at E;split at E
     ·subst E;cases I
     ·rename_i g hg;have hm:=F1u hg;refine R _ z ?_ E I;exact Ty.Mg.subst U.targs (D0q hs ht hr W.arg g hm).result
    split at E
    ·unfold Zs at E;split at E
     ·subst E;cases I
     ·split at E
      ·rename_i f V;split at E
       ·subst E;cases I
       ·exact R (f.type,_) z (D9e hs hr W.arg f (Bx V)) E I
      ·subst E;cases I
    ·rename_i k2 k4;unfold B0i at E;split at E
     ·subst E;cases I
     ·split at E
      ·subst E;cases I
      ·subst E;exact U.type (.inr (by omega))
structure Ap.Mq (s:Ap):Prop where
 types:∀t,t∈s.types→t.Mg
 calls:∀c,c∈s.calls→∀t,t∈c.targs→t.Mg
theorem Ap.Mq.lg {s:Ap} (h:s.Mq)(b:Bool):Ap.Mq { s with D7:=b }:=⟨h.types,h.calls⟩
theorem foldI {α β:Type} {Q:β→Prop} {f:β→α→β}:∀(l:List α) {s:β},(∀s a,a∈l→Q s→Q (f s a))→Q s→Q (l.foldl f s)
 |[],_,_,h=>h
 |a::l,s,E,h=>foldI l (fun s b I=>E s b (by simp [I])) (E s a (by simp) h)
theorem B2k {s:Ap} (hs:s.Mq) {x:Ty} (E:x.Mg):(G9 s x).Mq:=by
 unfold G9;split
 ·exact⟨hs.types,hs.calls⟩
 ·refine⟨fun t ht=>?_,hs.calls⟩;rcases (A3x (cmp:=Dz) (x:=x) s.types).2 t ht with rfl| h
  ·exact E
  ·exact hs.types t h
theorem F7k {s:Ap} (hs:s.Mq) {x:Au} (E:∀t,t∈x.targs→t.Mg):(Gz s x).Mq:=by
 unfold Gz;split
 ·exact⟨hs.types,hs.calls⟩
 ·refine⟨hs.types,fun t ht=>?_⟩;rcases (A3x (cmp:=Bj) (x:=x) s.calls).2 t ht with rfl| h
  ·exact E
  ·exact hs.calls t h
section
variable {p:Prog} (hs:p.Sm) (ht:∀d,d∈p.decls→d.Tl) (hr:p.right=true)
include hs ht hr
theorem D5u {vars:List Param} (L:∀f,f∈vars→f.type.Mg) {s:Ap} (h:s.Mq) {e:Ex} (O:e.Mq):(Lq p s e vars).Mq:=by
 refine foldI _ (fun s x E h=>?_) h;have E:=B2a (Q:=Ex.Mq) (fun e h x E=>h.kids x E) e O x E;unfold Ju;split
 ·exact B2k h (E.type (by assumption))
 split
 ·split
  ·exact h
  ·rename_i v vs I;unfold T6;split
   ·exact⟨h.types,h.calls⟩
   ·rename_i J;exact F7k (x:=⟨(Dg ⟨p,false,[],vars⟩ v).1,x.name,x.targs⟩) (B2k (h.lg _) (F2y hs ht hr L v (E.kids v (by rw [I];simp)) (by simpa using J))) E.targs
 ·exact h
theorem G5k {s:Ap} (h:s.Mq) {x:Ty} (Z:x.Mg) {c:Au} (hc:∀t,t∈c.targs→t.Mg):(Qe p s x c).Mq:=by
 have R:∀u,u∈R3 x c→u.Mg:=fun u W=>(Bw.1 W).elim (Z.arg u) (hc u);unfold Qe;rcases E2d p x c.name with O| ⟨j,d,O,hd,U⟩
 ·rw [A8 O];exact h
 rw [O,A6 (by omega),Gr,hd];have J:=Bx hd;have I:=hs.decls.2 d J;have E:d.right=true:=by unfold Prog.right at hr;simp only [B1,Cf] at hr;exact hr.1 d J
 unfold Decl.right Decl.Sv at E;rw [A8 U] at E;simp only [B1,Cf] at E;have L:=((Prog.A9o hs ht hr J).2 U).mq;refine D5u hs ht hr (fun f hf=>?_) h (Ex.Mq.subst R (Ex.B4v I.body E.2.2.2.2.2.2.2.2));obtain⟨g,hg,rfl⟩:=Ax.1 hf;refine Ty.Mg.subst R ?_;unfold Mu at hg;rcases As.1 hg with rfl| hg
 ·refine .Uk _ _ _ E.1 I.name (by rw [H0,B6];exact I.vars.1) fun t ht=>?_;obtain⟨v,V,rfl⟩:=Ax.1 ht;exact .Uk _ _ _ (E.2.2.2.2.1 v V) (I.vars.2 v V) (by simp) (by simp)
 ·exact L.params g hg
theorem F2w {x:Ty} (O:x.Mg) {out:Ap} (R:out.Mq) {c:Au} (J:∀t,t∈c.targs→t.Mg):(Kh p x out c).Mq:=by
 unfold Kh;split
 ·exact R
 ·rename_i g E;have I:g.Mq:=by
   unfold Rf at E;split at E
   ·cases E
   ·split at E
    ·cases E
    ·rename_i V L;split at E
     ·cases E;exact D0q hs ht hr O.arg _ (Vf.1 (Bx L))
     ·cases E
  refine G5k hs ht hr (B2k (foldI _ (fun s t ht h=>?_) R) (Ty.Mg.subst J I.result)) O J;obtain⟨q,U,rfl⟩:=Ax.1 ht;exact B2k h (Ty.Mg.subst J (I.params q U))
theorem G3m {s:Ap} (h:s.Mq):(Km p s).Mq:=by
 refine foldI _ (fun o x I E=>?_) h;have I:=h.types x I;refine foldI _ (fun o c L E=>F2w hs ht hr I E (h.calls c L)) ?_;split
 ·refine foldI _ (fun s t ht h=>?_) E;obtain⟨f,J,rfl⟩:=Ax.1 ht;exact B2k h (D9e hs hr I.arg f J)
 ·exact E
theorem D1x:∀(k:Nat) {s:Ap} (n:Int),s.Mq→(Gn p k s n).1.Mq
 | 0,_,_,_=>⟨by simp [Gn],by simp [Gn]⟩
 |k+1,s,n,h=>by
  have E:Ap.Mq Pf:=⟨by simp,by simp⟩;rw [Gn];split
  ·split
   ·exact E
   ·exact h
  ·split
   ·exact E
   ·exact D1x k _ (G3m hs ht hr h)
theorem F0m:(Hw p).1.Mq:=by
 have E:p.main.Mq:=by unfold Prog.right at hr;simp only [B1] at hr;exact Ex.B4v hs.main hr.2
 exact D1x hs ht hr _ _ (D5u hs ht hr (by simp) ⟨by simp,by simp⟩ E)
end
theorem C5m {p:Prog}:∀(k:Nat)(s:Ap)(n:Int),(Gn p k s n).2=true→Ud (Gn p k s n).1=false
 | 0,s,n,h=>by simp [Gn] at h
 |k+1,s,n,h=>by
  rw [Gn] at h ⊢;split at h
  ·rename_i I;rw [A8 I];split at h
   ·cases h
   ·rename_i E;rw [A6 E];simpa using E
  ·rename_i I;rw [A6 I];split at h
   ·cases h
   ·rename_i E;rw [A6 E];exact C5m k _ _ h
theorem E3u {s:Ap} (h:Ud s=false):s.types.length+s.calls.length≤60∧(∀t,t∈s.types→t.Dr≤3600)∧∀c,c∈s.calls→Ty.C9 c.targs≤3600:=by
 have E:=C6e h;unfold Ud at h;simp only [Wf,List.any_eq_false,D8] at h;refine⟨by unfold Eo at E;exact E,fun t ht=>?_,fun c J=>?_⟩
 ·have I:=h.1 t ht;have:=Ty.A0p t 0 (by omega);omega
 ·have I:=h.2.1 c J;have:=Ty.A0p (.mk [] c.targs 0) 0 (by omega);rw [Ty.U8] at this;simp only [Ty.name,Ty.args,Ch] at this;omega
structure Ap.Fd (s:Ap):Prop where
 sm:s.Sm
 types:∀t,t∈s.types→t.Ni 12000
 targs:∀c,c∈s.calls→(∀t,t∈c.targs→t.Ni 12000)∧Ty.C9 c.targs≤3600
 len:s.types.length+s.calls.length≤60
theorem F8x {p:Prog} (L:p.Fit)(ht:∀d,d∈p.decls→d.Tl)(hr:p.right=true)(h:(Hw p).2=true):(Hw p).1.Fd:=by have U:=C5m _ _ _ h;obtain⟨O,R,J⟩:=E3u U;have I:=F0m L.sm ht hr;refine⟨D7t L,fun t ht=>⟨I.types t ht,by have:=R t ht;omega⟩,fun c E=>⟨fun t ht=>⟨I.calls c E t ht,?_⟩,J c E⟩,O⟩;have:=J c E;have:=A6w ht;omega
theorem Ap.Fd.Fp {p:Prog} {s:Ap} (h:s.Fd) {x:Ty} (E:x∈s.types):∀c,c∈Go.Abs.Fp p s.calls x→c.Ni:=fun c J=>by obtain⟨d,hd,rfl⟩:=Ax.1 J;have hd:=(L8.1 hd).1;obtain⟨L,O⟩:=h.targs d hd;have I:=h.sm.calls.2 d hd;exact⟨⟨h.sm.types.2 x E,I.name,I.targs⟩,h.types x E,L,by show Ty.C9 d.targs≤_;omega⟩
end Go.Abs
/- bodies of instances: names that can be made of them; what the program and the reference make of them is the same up to places -/
namespace Go.Abs
set_option maxRecDepth 100000
set_option maxHeartbeats 4000000
open Go Go.Proofs
abbrev W1 (t:Ty):Ty:=.mk t.mg [] t.pos
inductive Ex.Rs:Ex→Prop where
 |mk (e:Ex):(e.kind=3∨e.kind=5∨e.type.name=[]∧e.type.args=[])→(e.kind=2∨e.targs=[])→(∀x,x∈e.kids→Ex.Rs x)→Ex.Rs e
variable {e:Ex}
theorem Ex.Rs.type (h:e.Rs):e.kind=3∨e.kind=5∨e.type.name=[]∧e.type.args=[]:=by cases h;assumption
theorem Ex.Rs.targs (h:e.Rs):e.kind=2∨e.targs=[]:=by cases h;assumption
theorem Ex.Rs.kids (h:e.Rs):∀x,x∈e.kids→x.Rs:=by cases h;assumption
theorem Ex.C4j:∀{e:Ex},e.right=true→e.Rs:=by
 intro e
 induction e using Ex.induct with| _ e J=>?_
 intro h;rw [Ex.A2w,B1,B1] at h;refine .mk _ ?_ ?_ fun x I=>J x I (A8f h.1 x I)
 ·have E:=h.2.2;unfold Ex.Rc at E;split at E
  ·rename_i ht;unfold Ex.typed at ht;simp only [Ta,D8] at ht;exact ht.elim .inl fun h=>.inr (.inl h)
  ·simp only [B1,D8] at E;exact .inr (.inr ⟨E.1.1.1.2,Ao0.1 E.1.1.2⟩)
 ·have E:=h.2.1;unfold Ex.B2x at E;rw [Cf] at E;cases ht:e.targs with
  |nil=>exact .inr rfl
  |cons t L =>have:=E t (by rw [ht];simp);simp only [B1,D8] at this;exact .inl this.1
theorem C8e {v:List A3} (I:([]:A3) ∉ v) {a:List Ty} {t:Ty} (E:t.name=[])(J:t.args=[]):t.subst v a=.mk [] [] t.pos:=by rw [Ih fun _=>Ng (by rw [E];exact I),E,J];rfl
theorem D8n (q:Int):(Ty.mk [] [] q).mg=[]:=by rw [Ty.A5c];simp [Ty.name,Ty.args,G2,J5]
theorem Ex.Rs.subst {v:List A3} (O:([]:A3) ∉ v) {a:List Ty}:∀{e:Ex},e.Rs→(e.subst v a).Rs:=by
 intro e
 induction e using Ex.induct with| _ e L=>?_
 intro h;rw [W7];refine .mk _ ?_ ?_ fun x J=>?_
 ·rcases h.type with h| h| ⟨R,I⟩
  ·exact .inl h
  ·exact .inr (.inl h)
  ·exact .inr (.inr (by show (e.type.subst v a).name=[]∧(e.type.subst v a).args=[];rw [C8e O R I];exact⟨rfl,rfl⟩))
 ·rcases h.targs with h| h
  ·exact .inl h
  ·exact .inr (by show e.targs.map _=[];rw [h];rfl)
 ·obtain⟨u,E,rfl⟩:=Ax.1 J;exact L u E (h.kids u E)
theorem C8o (v:List A3)(a:List Ty)(t:Ty):(t.subst v a).pos=t.pos:=by rw [Uq];split <;> rfl
theorem F3o {v:List A3} (V:([]:A3) ∉ v) {a b:List Ty} (E:a.map Ty.er=b.map Ty.er):∀e:Ex,e.Rs→Ew (e.subst v a)=Ew (e.subst v b):=by
 intro e
 induction e using Ex.induct with| _ e R=>?_
 intro h;have U:(e.kids.map (Ex.subst v a)).map Ew=(e.kids.map (Ex.subst v b)).map Ew:=by rw [Fx,Fx];exact Hv fun x J=>R x J (h.kids x J)
 have I:∀t:Ty,(t.subst v a).mg=(t.subst v b).mg:=fun t=>C0s (by rw [Ku,Ku,E]);have L:∀t:Ty,(t.subst v a).pos=(t.subst v b).pos:=fun t=>by rw [C8o,C8o]
 have O:G3 e.name (e.targs.map (Ty.subst v a))=G3 e.name (e.targs.map (Ty.subst v b)):=by rw [G3,G3,D2s];rw [Fx,Fx];exact Hv fun t _=>by simp only [Function.comp,Ku,E]
 rw [Uz,Uz,W7,W7];show Ex.mk e.kind (if e.kind=2 then G3 e.name (e.targs.map (Ty.subst v a)) else e.name) (.mk (e.type.subst v a).mg [] (e.type.subst v a).pos) [] ((e.kids.map (Ex.subst v a)).map Ew) e.pos=Ex.mk e.kind (if e.kind=2 then G3 e.name (e.targs.map (Ty.subst v b)) else e.name) (.mk (e.type.subst v b).mg [] (e.type.subst v b).pos) [] ((e.kids.map (Ex.subst v b)).map Ew) e.pos;rw [U,I,L,O]
theorem E1a:∀e:Ex,e.Rs→Hc W1 G3 e=Ew e:=by
 intro e
 induction e using Ex.induct with| _ e U=>?_
 intro h;have V:e.kids.map (Hc W1 G3)=e.kids.map Ew:=Hv fun x O=>U x O (h.kids x O);rw [D8o,Uz,V];unfold B8a;by_cases J:e.kind=3∨e.kind=5
 ·rw [A8 J,A6 (by omega),h.targs.resolve_left (by omega)]
 rw [A6 J];have ht:=(h.type.resolve_left (by omega)).resolve_left (by omega);have I:∀t:Ty,t.name=[]→t.args=[]→t=.mk t.mg [] t.pos:=fun t R L=>by obtain⟨n,a,q⟩:=t;simp only [Ty.name,Ty.args] at R L;subst R;subst L;rw [D8n];rfl
 have E:=I e.type ht.1 ht.2;by_cases k2:e.kind=2
 ·rw [A8 k2,A8 k2,←E]
 ·rw [A6 k2,A6 k2,h.targs.resolve_left k2,←E]
inductive Ex.Nq (B:Nat):Ex→Prop where
 |mk (e:Ex):(e.kind=3∨e.kind=5→e.type.Ni B)→(∀t,t∈e.targs→t.Ni B)→Ty.C9 e.targs≤B→(∀x,x∈e.kids→Ex.Nq B x)→Ex.Nq B e
variable {B:Nat}
theorem Ex.Nq.type (h:e.Nq B):e.kind=3∨e.kind=5→e.type.Ni B:=by cases h;assumption
theorem Ex.Nq.targs (h:e.Nq B):(∀t,t∈e.targs→t.Ni B)∧Ty.C9 e.targs≤B:=by cases h;exact⟨by assumption,by assumption⟩
theorem Ex.Nq.kids (h:e.Nq B):∀x,x∈e.kids→x.Nq B:=by cases h;assumption
theorem Ex.Mq.nq :∀{e:Ex},e.Mq→e.Uo≤B→e.Nq B:=by
 intro e
 induction e using Ex.induct with| _ e L=>?_
 intro h I;rw [Ex.D3m] at I;refine .mk _ (fun J=>⟨h.type J,by omega⟩) (fun t ht=>⟨h.targs t ht,by have:=A6w ht;omega⟩) (by omega) fun x E=>L x E (h.kids x E) (by have:=C8r E;omega)
theorem D1c {v:List A3} {I:List Ty} {M:Nat} (J:4≤M)(E:∀u,u∈I→u.Dr≤M):∀l:List Ty,4*Ty.C9 (l.map (Ty.subst v I))≤Ty.C9 l*M
 |[]=>by simp [Ty.C9]
 |x::l=>by have O:=E1y (v:=v) J E x;have L:=D1c (v:=v) J E l;rw [Cz,Ty.C9,Ty.C9,Ei];omega
theorem Ex.Nq.subst {B M:Nat} (J:4≤M) {v:List A3} {a:List Ty} (I:∀u,u∈a→u.Ni M):∀{e:Ex},e.Nq B→(e.subst v a).Nq (B*M / 4):=by
 intro e
 induction e using Ex.induct with| _ e O=>?_
 intro h;rw [W7];refine .mk _ (fun R=>Ty.Ni.subst J I (h.type R)) (fun t ht=>?_) ?_ fun x L=>?_
 ·obtain⟨u,E,rfl⟩:=Ax.1 ht;exact Ty.Ni.subst J I (h.targs.1 u E)
 ·rw [At8 (by decide),Tf];exact Dk (D1c J (fun u E=>(I u E).len) e.targs) (H4 _ h.targs.2)
 ·obtain⟨u,E,rfl⟩:=Ax.1 L;exact O u E (h.kids u E)
theorem D8s (V:B≤10000000000000):∀{e:Ex},e.Sm→e.Nq B→Rx W1 G3 e:=by
 intro e
 induction e using Ex.induct with| _ e R=>?_
 intro hs h;obtain⟨k,n,t,a,ks,q⟩:=e;have L:=h.type;have J:=h.targs;have U:=h.kids;refine .mk _ _ _ _ _ _ (fun I=>B9n t (L I).mg (by have:=(L I).len;simp only [Ex.type] at this;omega)) (fun I=>B9i n hs.name a hs.targs.1 (fun u O=>(J.1 u O).mg) (by have:=J.2;simp only [Ex.targs] at this;omega)) fun x E=>R x E (hs.kids.2 x E) (U x E)
theorem Decl.B7f (d:Decl)(n:Int)(L:0≤n)(h:d.count n≤2000):d.body.Uo≤240000:=by
 unfold Decl.count at h;generalize O:n+1+((d.name.length / 50:Nat):Int)+((d.recv.length / 50:Nat):Int)=m at h;obtain⟨V,U⟩:=C0c d.A1 m;obtain⟨E,W⟩:=C3j d.fields (C7 d.A1 m);obtain⟨c1,R⟩:=D7z d.sigs (D5 d.fields (C7 d.A1 m));obtain⟨I,J⟩:=A2t d.vars (Eh d.sigs (D5 d.fields (C7 d.A1 m)));generalize Z:Ii d.vars (Eh d.sigs (D5 d.fields (C7 d.A1 m)))=z at *;unfold Decl.Ry at h;obtain⟨f1,_⟩:=A5.Gv d.sig z;split at h
 ·have g2:=Ex.B5b d.body (d.sig.count z) h;omega
 ·omega
theorem G4i:N3 Ik (fun d=>d.body.Uo≤240000):=Ly Ik Decl.count (fun d=>d.body.Uo≤240000) (fun _=>rfl) (fun _ _ _=>rfl) (fun x k=>(Decl.Gv x k).1) (fun x k E h=>Decl.B7f x k E h)
theorem Prog.B7f (p:Prog)(h:p.count≤600):(∀d,d∈p.decls→d.body.Uo≤240000)∧p.main.Uo≤240000:=by unfold Prog.count at h;have L:=Ex.F4 p.main 0;obtain⟨I,E⟩:=G4i p.decls (p.main.count 0);have J:=Ex.B5b p.main 0 (by omega);exact⟨(E (by omega) (by omega)).2,by omega⟩
def Rg (F:Ex→Ex)(p:Prog)(c:Au):Option Decl:=match Jm p c.on c.name with
 |none=>none
 |some d=>match Fk p c with
  |none=>none
  |some g=>some ⟨3,c.on.mg,[],[],[],d.recv,[],⟨g.name,[],Jy g.params d.sig.params,g.result,0⟩,F (N4 d c.on c),0⟩
theorem B4k {p:Prog} (hr:p.right=true) {d:Decl} (hd:d∈p.decls)(I:d.kind=3):(∀v,v∈d.vars→isName v=true)∧(∀f,f∈d.sig.A1→isName f.name=true)∧d.body.right=true:=by
 have E:d.right=true:=by unfold Prog.right at hr;simp only [B1,Cf] at hr;exact hr.1 d hd
 unfold Decl.right Decl.Sv at E;rw [A8 I] at E;simp only [B1,Cf] at E;refine⟨E.2.2.2.2.1,?_,E.2.2.2.2.2.2.2.2⟩;have:=E.2.2.2.2.2.2.2.1;simp only [A5.right,Pv,Lx,B1,Cf] at this;exact fun f J=>(this.1.1.2 f J).1
theorem B8y {p:Prog} (hr:p.right=true) {d:Decl} (hd:d∈p.decls)(J:d.kind=3):([]:A3) ∉ V0 d:=by
 obtain⟨O,E,_⟩:=B4k hr hd J;intro h;rcases Bw.1 h with h| h
 ·have:=O _ h;simp [isName] at this
 ·obtain⟨f,I,L⟩:=Ax.1 h;have:=E f I;rw [L] at this;simp [isName] at this
theorem A9c {p:Prog} {x:Ty} {m:A3} {d:Decl} (h:Jm p x m=some d):d∈p.decls∧d.kind=3∧Bz p x 1=true∧d.vars.length=x.args.length:=by
 unfold Jm at h;split at h
 ·rename_i J;split at h
  ·rename_i L E;split at h
   ·rename_i I;cases h;have:=Av4 E;unfold J7 at this;simp only [B1,D8] at this;exact⟨An1 E,this.1.1,J,I⟩
   ·cases h
  ·cases h
 ·cases h
theorem D1j (p:Prog)(x:Ty)(m:A3):(Kk p x m < 0∧Jm p x m=none)∨∃(j:Nat)(d:Decl),Kk p x m=j∧p.decls[j]? = some d∧Jm p x m=some d:=by
 unfold Kk Jm;by_cases I:Bz p x 1=true
 ·rw [A8 I,A8 I];unfold Mf Dy;cases h:p.decls.findIdx? (J7 x.name m) with
  |none =>
   rw [List.find?_eq_none.2 (by simpa [An2] using h)];left;refine⟨?_,rfl⟩;simp only;split
   ·rw [A6 (by omega)];decide
   ·decide
  |some j =>
   obtain⟨J,L,O⟩:=Ah8.1 h;have U:p.decls.find? (J7 x.name m)=some p.decls[j]:=At9.2 ⟨L,j,J,rfl,fun k R=>by simpa using O k R⟩;rw [U];simp only [Gr,Ba J];by_cases E:p.decls[j].vars.length=x.args.length
   ·rw [A8 ⟨by omega,E⟩,A8 E];exact .inr ⟨j,_,rfl,Ba J,rfl⟩
   ·rw [A6 fun h=>E h.2,A6 E];exact .inl ⟨by decide,rfl⟩
 ·rw [A6 I,A6 I];exact .inl ⟨by decide,rfl⟩
theorem E5w {c:Au} (E:c.Ni):∀u,u∈R3 c.on c→u.Ni 12000:=fun u I=>(Bw.1 I).elim (E.on.args u) (E.targs u)
theorem D1y {p:Prog} (R:p.count≤600)(hs:p.Sm)(hr:p.right=true) {d:Decl} (hd:d∈p.decls)(J:d.kind=3) {c:Au} (I:c.Ni):(N4 d c.on c).Nq 720000000∧(N4 d c.on c).Sm∧(N4 d c.on c).Rs:=by obtain⟨_,_,L⟩:=B4k hr hd J;have E:=(hs.decls.2 d hd).body;have U:=(Ex.B4v E L).nq ((Prog.B7f p R).1 d hd);refine⟨Ex.Nq.subst (B:=240000) (M:=12000) (by decide) (E5w I) U,Ex.Sm.subst (fun u O=>(Bw.1 O).elim (I.sm.on.arg u) (I.sm.targs.2 u)) _ E,Ex.Rs.subst (B8y hr hd J) (Ex.C4j L)⟩
theorem E5q {p:Prog} {c:Au} {g:A5} (h:Fk p c=some g):¬F8 (Cb p [] c.on) c.name < 0∧∃s,(Cb p [] c.on)[(F8 (Cb p [] c.on) c.name).toNat]? = some s∧s∈Cb p [] c.on∧s.name=c.name∧s.A1.length=c.targs.length∧g=Md c s:=by
 unfold Fk B0y at h;split at h
 ·cases h
 ·rename_i E;obtain⟨s,hs,O⟩:=C2b E;rw [hs,Dc] at h;split at h
  ·rename_i J;cases h;refine⟨E,s,hs,O,?_,J,rfl⟩;unfold F8 at hs E;rcases N1 (fun s:A5=>decide (s.name=c.name)) (Cb p [] c.on) with ⟨I,_⟩| ⟨j,y,I,L,R⟩
   ·rw [I] at E;exact absurd (by decide) E
   ·rw [I,Gr,L] at hs;cases hs;simpa using R
  ·cases h
theorem F4f (p:Prog)(V:p.count≤600)(hr:p.right=true)(c:Au)(U:c.Ni):Ac Tryz.prog 139 [.Ag (Fu p) 0,N6 c] (Yk (Rg (Hc W1 G3) p c)):=by
 have E:=Prog.Zp p V;have I:=Prog.R5 p V;unfold Rg;cases hd:Jm p c.on c.name with
 |none=>exact D0m p E.sm I hr c U (.inl hd)
 |some d =>
  cases W:Fk p c with
  |none=>exact D0m p E.sm I hr c U (.inr W)
  |some g =>
   obtain⟨h0,s,hs,hm,hn,Z,rfl⟩:=E5q W;obtain⟨J,hk,hi,_⟩:=A9c hd;obtain⟨d',_,_,_,_,he,L⟩:=B6g hi (Vf.1 hm);rw [hn,hd] at L;cases L;obtain⟨hq,R,_⟩:=D1y V E.sm hr J hk U;have O:(Hg (s.subst (Ad s.A1) c.targs).params).length=d.sig.params.length:=by rw [C0r,he];simp only [A5.subst,B6,A5.canon,Xb]
   exact G4o p E.sm I hr c U s h0 hs Z d hd O (by rw [O];exact (E.sm.decls.2 d J).sig.params.1) (E.sm.decls.2 d J) W1 G3 (D8s (B:=720000000) (by decide) R hq) R
theorem F4u {p:Prog} (hr:p.right=true) {x:Ty} {c d:Au} (L:c.on=x)(J:d.on=x)(h:Bj c d=0):Rg (Hc W1 G3) p c=Rg Ew p d:=by
 obtain⟨_,U,ht⟩:=C5p h;have ho:=C6b (p:=p) (L.trans J.symm) U ht;have R:Jm p d.on d.name=Jm p c.on c.name:=by rw [L,J,U]
 have O:d.on.mg=c.on.mg:=by rw [L,J]
 unfold Rg;rw [R,←ho,O];cases hd:Jm p c.on c.name with
 |none=>rfl
 |some m =>
  cases Fk p c with
  |none=>rfl
  |some g =>
   obtain⟨V,W,_⟩:=A9c hd;have E:=B8y hr V W;have I:=Ex.C4j (B4k hr V W).2.2;have Z:Hc W1 G3 (N4 m c.on c)=Ew (N4 m d.on d):=by unfold N4;rw [E1a _ (Ex.Rs.subst E I)];refine F3o E ?_ _ I;unfold R3;rw [Fz,Fz,L,J,ht]
   simp only [Z]
theorem C7y {p:Prog} (hr:p.right=true) {x:Ty}:∀{l m:List Au},l.length=m.length→(∀(i:Nat) c d,l[i]? = some c→m[i]? = some d→Bj c d=0)→(∀c,c∈l→c.on=x)→(∀c,c∈m→c.on=x) →
  l.filterMap (Rg (Hc W1 G3) p)=m.filterMap (Rg Ew p)∧l.filterMap (Fk p)=m.filterMap (Fk p)
 |[],[],_,_,_,_=>⟨rfl,rfl⟩
 |c::l,d::m,R,h,O,E=>by have I:=h 0 c d rfl rfl;obtain⟨W,Z⟩:=C7y hr (l:=l) (m:=m) (by simpa using R) (fun i a b U V=>h (i+1) a b (by simpa using U) (by simpa using V)) (fun c J=>O c (by simp [J])) fun c J=>E c (by simp [J]);have L:Fk p c=Fk p d:=C6b ((O c (by simp)).trans (E d (by simp)).symm) (C5p I).2.1 (C5p I).2.2;rw [As3,As3,As3,As3,L,W,Z,F4u hr (O c (by simp)) (E d (by simp)) I];exact⟨rfl,rfl⟩
def Sz (p:Prog)(cs:List Au)(x:Ty):List Decl:=A1f (Rg Ew p) p (Ze p cs x).calls x
theorem C4q {p:Prog} {cs:List Au} {x:Ty} :∀c,c∈Fp p cs x→c.on=x:=fun c h=>by obtain⟨d,_,rfl⟩:=Ax.1 h;rfl
theorem G4g {p:Prog} (hr:p.right=true) {cs:List Au} {x:Ty} (L:cs.length≤100) {I:List Au} (O:I.Perm (Fp p cs x))(hs:I.Pairwise fun a b=>Bj a b≤0) :
  A1f (Rg (Hc W1 G3) p) p (H6 I) x=Sz p cs x:=by
 obtain⟨V,J,R,U⟩:=E6p L O hs;obtain⟨f1,f2⟩:=C7y hr V J (fun c E=>C4q c (R c E)) fun c E=>C4q c (U c E);unfold Sz A1f Pk Tn;rw [f1,f2]
theorem R9.one {P:Program} {f:FuncId} {args:List SV} {E:SV} (h:R9 P f args fun r=>r=E):Ac P f args E :=
 ⟨h.1,fun C β vs L I=>(h.2 C β vs L I).mono fun _ _ ⟨r,v,S',β',O,U,J,R⟩=>⟨v,S',β',U,J,O ▸ R⟩⟩
theorem F6j (p:Prog)(J:p.count≤600)(hr:p.right=true) {s:Ap} (h:s.Fd)(x:Ty)(I:x∈s.types):Ac Tryz.prog 34 [Cv p,Vw s.types s.calls,Be x] (.d (.slice (Bu (Sz p s.calls x)))):=by have E:=Prog.Zp p J;have L:=h.len;refine R9.one (R9.imp (F5z p E.sm (Prog.R5 p J) hr s.types s.calls h.sm.calls.1 h.sm.calls.2 x (h.sm.types.2 x I) (h.types x I) (h.Fp I) (Rg (Hc W1 G3) p) fun c O=>F4f p J hr c (h.Fp I c O)) ?_);rintro r ⟨U,R,hs,rfl⟩;rw [G4g hr (by omega) R hs]
end Go.Abs
/- castingsref23.Type -/
namespace Go.Abs
set_option maxRecDepth 100000
set_option maxHeartbeats 4000000
open Go Go.Proofs
theorem E4x {p:Prog} {s:Ap} (h:s.Fd) {x:Ty} (I:x∈s.types):(Ze p s.calls x).calls.length≤sm∧∀c,c∈(Ze p s.calls x).calls→c.on=x∧c.Ni:=by
 have O:=A5w p s.calls x;have R:=h.len;have J:∀c,c∈(Ze p s.calls x).calls→c∈Fp p s.calls x:=fun c E=>by obtain⟨_,L,_⟩:=B8g (Fp p s.calls x) ⟨[],[],false⟩ (by simp [Pe]) (by simp only [Ch];omega);exact (L c E).elim id fun h=>by simp at h
 refine⟨(D4i (Fp p s.calls x) (s:=⟨[],[],false⟩) ⟨by simp,by simp⟩ (D5h (h.sm.types.2 x I) h.sm.calls.2)).calls.1,fun c E=>⟨C4q c (J c E),h.Fp I c (J c E)⟩⟩
end Go.Abs
/- programs compared with themselves; stencil.Program and castingsref23.Program; castingslaw23.sets; the walks of StencilMatchesReference and StencilTypes -/
namespace Go.Abs
set_option maxRecDepth 100000
set_option maxHeartbeats 4000000
open Go Go.Proofs
structure Decl.Lm (d:Decl):Prop where
 A1:d.A1.length≤sm∧∀f,f∈d.A1→f.bound.Lm
 fields:d.fields.length≤sm∧∀f,f∈d.fields→f.type.Lm
 sigs:d.sigs.length≤3*sm∧∀s,s∈d.sigs→s.Lm
 vars:d.vars.length≤sm
 sig:d.sig.Lm
 body:d.body.Lm
theorem G5d:Kd.Lm:=⟨by simp [Kd],by simp [Kd],.mk _ _ _ (by simp) (by simp)⟩
theorem F4s:Tj.Lm:=C6o.lm
def P2 (p:Prog)(s:Ap):Prog:=⟨Ki::s.types.flatMap (Sz p s.calls),Ew p.main⟩
theorem C8k {p:Prog} (E:p.count≤600)(hs:p.Sm)(hr:p.right=true):p.main.Nq 240000∧p.main.Rs:=by unfold Prog.right at hr;simp only [B1] at hr;exact⟨(Ex.B4v hs.main hr.2).nq (Prog.B7f p E).2,Ex.C4j hr.2⟩
theorem F2r (p:Prog)(J:p.count≤600)(hr:p.right=true) {s:Ap} (h:s.Fd)(L:(Ki::s.types.flatMap (Sz p s.calls)).length≤100000000000):Ac Tryz.prog 14 [Cv p,Vw s.types s.calls] (Cv (P2 p s)):=by have E:=Prog.Zp p J;obtain⟨R,I⟩:=C8k J E.sm hr;have:=D3r p E.sm s.types h.sm.types.1 s.calls (Sz p s.calls) W1 G3 (D8s (B:=240000) (by decide) E.sm.main R) (fun x O=>F6j p J hr h x O) L;rw [E1a _ I] at this;exact this
theorem D3a {p:Prog}:∀(k:Nat)(s:Ap)(n:Int),(Gn p k s n).2=false→(Gn p k s n).1=Pf
 | 0,s,n,_=>by simp [Gn]
 |k+1,s,n,h=>by
  rw [Gn] at h ⊢;split at h
  ·rename_i I;rw [A8 I];split at h
   ·rename_i E;rw [A8 E]
   ·cases h
  ·rename_i I;rw [A6 I];split at h
   ·rename_i E;rw [A8 E]
   ·rename_i E;rw [A6 E];exact D3a k _ _ h
abbrev Rh:List Nat:=[0,1,2,3,4,5,6,7,8,15,25,903]
theorem F4c (p:Prog)(U:p.count≤600)(hr:p.right=true):Ac Tryz.prog 13 [Cv p] (.tuple [Vw (Hw p).1.types (Hw p).1.calls,Lj (Hw p).1,B0 (Hw p).2]):=by
 have I:=Prog.Zp p U;have J:=F9g p I (Prog.Ti p U) (F4x hr) (F0z hr);have hs:=D7t I;have E:=D3a (p:=p) 64 (Lq p Pf p.main []) (-1);rw [show Gn p 64 (Lq p Pf p.main []) (-1)=Hw p from rfl] at E;unfold fiV at J;generalize Hw p=z at *;obtain⟨s,b⟩:=z;simp only at J hs E ⊢;have Z:=hs.calls.1;cases b with
 |false =>
  rw [E rfl] at J ⊢;refine cB Tryz.func13 ?_;refine sR Rh ?_;refine sC J Rh ?_;refine kR Rh fun O u1=>?_;refine tI ?_
  (refine sG Rh [] 3 [⟨[],[],[],[]⟩,⟨[],[],[2],[]⟩,⟨[2],[],[],[]⟩] fun K z=>?_;refine ev ?_;apply z;clear z K)
  exact aR
 |true =>
  refine cB Tryz.func13 ?_;refine sR Rh ?_;refine sC J Rh ?_;refine kR Rh fun O u1=>?_;refine kI u1 ?_;clear u1 O;refine sR Rh ?_;refine A0.No 903 5 7 1 rfl rfl (by decide) ?_;refine kR Rh fun O u1=>?_;refine A0.bb (A0.ii s.calls (X:=Unit) (fun j _=>[(2,.box 2 0),(3,.box 3 0),(5,.box 5 0),(7,.box 7 0),(8,A9 j)])
   (fun j _=>[(2,.cells [.d .nil,.d .nil]),(3,.cells [.d .nil,.d .nil,.d (.bool false)]),(5,.cells (Jc s)),(7,.cells [.d (.slice (Aq s.types)),.acc 903]),(903,.rows 5 (Dn (s.calls.take j)))])
   (fun _ _=>True) () trivial sS (by simp [ble,A7,Dn]) ?_ ?_)
  rotate_left
  ·intro j _ c V W dp tk R _;have hj:=(Ay.1 V).1;have e2:Dn (s.calls.take (j+1))=Dn (s.calls.take j)++[H5 c]:=by rw [tk];simp [Dn]
   have e3:(Dn (s.calls.take j)).length=j:=by rw [Jx,Cw];omega
   rw [e2];generalize Dn (s.calls.take j)=PR at *;refine sK fun L u2=>?_
   (refine sQ Rh fun K z=>?_;simp -implicitDefEqProofs only [EV,Nat.reduceEqDiff,reduceCtorEq,Mw,U6,R,Jx];apply z;clear z K)
   refine gI u2 ?_;clear u2 L;refine sK fun L u2=>?_;refine A0.bb ?_
   (refine lG Rh [] 8 [] fun K z=>?_;refine ev ?_;refine⟨by omega,_,Qd V,rfl,?_⟩;(try simp -implicitDefEqProofs only [EV,Nat.reduceAdd,Nat.reduceEqDiff,Nat.reduceBEq,Nat.reduceLeDiff,Nat.reduceMul,reduceCtorEq,A2a,B2v,B7n,H5]);refine⟨by simp,by unfold lim sm at *;omega,?_⟩;apply z;clear z K;try simp only [A4,Aa])
   refine u2 _ _ ?_;clear u2 L;refine lT Rh ?_;exact⟨(),trivial,sS,by simp [ble,A7,H5]⟩
  intro _ _;rw [Cs];refine sK fun L u2=>?_
  (refine sQ Rh fun K z=>?_;simp -implicitDefEqProofs only [EV,Nat.reduceEqDiff,reduceCtorEq,Mw,U6,B4,Jx];apply z;clear z K)
  refine A0.ss rfl ?_;simp only [A4,Aa,Af];refine u1 _ _ ?_;clear u2 L u1 O
  (refine A0.Kx 903 rfl (wk [(2,.box 2 0),(3,.box 3 0),(5,.box 5 0),(7,.box 7 0)] [(2,.cells [.d .nil,.d .nil]),(3,.cells [.d .nil,.d .nil,.d (.bool false)]),(5,.cells (Jc s)),(7,.cells [.d (.slice (Aq s.types)),.d (.slice (Dn s.calls))])] ?_))
  (refine sG Rh [] 3 [⟨[],[],[],[]⟩,⟨[],[],[2],[]⟩,⟨[2],[],[],[]⟩] fun K z=>?_;refine ev ?_;apply z;clear z K)
  exact aR
end Go.Abs
