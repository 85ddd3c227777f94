/- the types and calls of castingsref21.Find can be named -/
import Derived.Test.YtfjaahliphbklaaGreatDoorJT04
import Derived.Test.YtfjaahliphbklaaGreatDoorJW28
namespace Go.Abs
set_option linter.unusedSimpArgs false
set_option linter.unusedVariables false
open Go
set_option maxRecDepth 100000
set_option maxHeartbeats 1000000
theorem Ty.Mg.arg {t:Ty} (h:t.Mg):∀ u,u∈t.args→u.Mg:=fun u hu=>by
 cases h with
 | loc i p hi=>simp [Ty.args] at hu
 | nam n a p h1 h2 h3 h4=>exact h4 u hu
structure Sig.Mq (s:Sig):Prop where
 formals:s.formals.length≤100000
 params:∀ f,f∈s.params→f.type.Mg
 result:s.result.Mg
theorem Sig.Ni.mq {B:Nat} {s:Sig} (h:s.Ni B):s.Mq:=⟨by have:=h.formals.1;omega,fun f hf=>(h.params.2 f hf).mg,h.result.mg⟩
theorem Sig.Mq.subst {v:List Str} {ar:List Ty} (ha:∀ u,u∈ar→u.Mg) {s:Sig} (h:s.Mq):(s.subst v ar).Mq:=by refine⟨by simp only [Sig.subst,List.length_map];exact h.formals,fun f hf=>?_,Ty.Mg.subst ha h.result⟩;obtain⟨x,hx,rfl⟩:=List.mem_map.1 hf;exact Ty.Mg.subst ha (h.params x hx)
theorem Sig.Mq.canon {s:Sig} (h:s.Mq):s.canon.Mq:=by
 have hl:=h.formals;have hs:∀ u,u∈A1g s.formals.length→u.Mg:=fun u hu=>by obtain⟨i,hi,rfl⟩:=List.mem_map.1 hu;exact D4t i (by have:=List.mem_range.1 hi;omega)
 refine⟨by simp only [Sig.canon,A5b];exact h.formals,fun f hf=>?_,Ty.Mg.subst hs h.result⟩;obtain⟨i,x,hx,hi,rfl⟩:=A6w hf;exact Ty.Mg.subst hs (h.params x (List.mem_of_getElem? hx))
theorem F0s {p:Prog} (hs:p.Sm)(ht:∀ d,d∈p.decls→d.Tl)(hr:p.right=true) {x:Ty} (hn:∀ u,u∈x.args→u.Mg):∀ s,s∈C7a p [] x→s.Mq:=by
 intro s hm;have key:∀ {v:List Str} {y:Sig},y.Ni 120000→(y.canon.subst v x.args).Mq:=fun h=>Sig.Mq.subst hn h.mq.canon;have hb:A1i [] x=none:=by simp [A1i,A3u,B0h]
 unfold C7a at hm;rw [hb] at hm;simp only [Option.getD_none,Option.isSome_none,Bool.false_eq_true,if_false] at hm;split at hm
 ·rename_i hi;unfold A4h at hm;rw [if_pos hi] at hm;obtain⟨d,hd,_⟩:=A3n (by decide) hi;rw [hd,Option.getD_some] at hm;unfold D1q A9b at hm;obtain⟨⟨y,i⟩,hy,rfl⟩:=List.mem_map.1 hm;have h2:=List.mem_of_mem_take (List.fst_mem_of_mem_zipIdx (List.mem_filter.1 hy).1);exact key ((Prog.right_sig hs ht hr (A3d hd)).1 y h2)
 ·unfold A5y at hm;obtain⟨⟨d,i⟩,hy,rfl⟩:=List.mem_map.1 hm;have h2:d∈p.decls:=List.mem_of_mem_take (List.fst_mem_of_mem_zipIdx (List.mem_filter.1 hy).1);have h3:=(List.mem_filter.1 hy).2;unfold B2k at h3;simp only [Bool.and_eq_true,decide_eq_true_eq] at h3;exact key ((Prog.right_sig hs ht hr h2).2 (by first | exact h3.1.1.1 | exact h3.1.1 | exact h3.1))
theorem C6r {p:Prog} (hs:p.Sm)(hr:p.right=true) {x:Ty} (hx:∀ u,u∈x.args→u.Mg):∀ f,f∈A1c p x→f.type.Mg:=by
 intro f hf;unfold A1c at hf;split at hf
 ·rename_i hi;obtain⟨d,hd,_⟩:=A3n (by decide) hi;rw [hd,Option.getD_some] at hf;unfold B4q at hf;obtain⟨y,hy,rfl⟩:=List.mem_map.1 hf;have hdm:=A3d hd;simp only [Prog.right,Bool.and_eq_true,List.all_eq_true] at hr;have h:=hr.1 d hdm;simp only [Decl.right,A4z,Bool.and_eq_true,List.all_eq_true] at h;exact Ty.Mg.subst hx (Ty.right_Mg ((hs.decls.2 d hdm).fields.2 y hy).type (h.2.2.1 y hy).2)
 ·simp at hf
inductive Ex.Mq:Ex→Prop where
 | mk (e:Ex):(e.kind=3∨e.kind=5→e.type.Mg)→(∀ t,t∈e.targs→t.Mg)→(∀ x,x∈e.kids→Ex.Mq x)→Ex.Mq e
theorem Ex.Mq.type {e:Ex} (h:e.Mq):e.kind=3∨e.kind=5→e.type.Mg:=by cases h;assumption
theorem Ex.Mq.targs {e:Ex} (h:e.Mq):∀ t,t∈e.targs→t.Mg:=by cases h;assumption
theorem Ex.Mq.kids {e:Ex} (h:e.Mq):∀ x,x∈e.kids→x.Mq:=by cases h;assumption
theorem Ex.Mq.subst {v:List Str} {a:List Ty} (ha:∀ u,u∈a→u.Mg):∀ {e:Ex},e.Mq→(e.subst v a).Mq:=by
 intro e
 induction e using Ex.induct with | _ e ih=>?_
 intro h;rw [A7e];refine .mk _ (fun hk=>Ty.Mg.subst ha (h.type hk)) (fun t ht=>?_) fun x hx=>?_
 ·obtain⟨u,hu,rfl⟩:=List.mem_map.1 ht;exact Ty.Mg.subst ha (h.targs u hu)
 ·obtain⟨u,hu,rfl⟩:=List.mem_map.1 hx;exact ih u hu (h.kids u hu)
theorem Ex.right_Mq:∀ {e:Ex},e.Sm→e.right=true→e.Mq:=by
 intro e
 induction e using Ex.induct with | _ e ih=>?_
 intro hs h;rw [Ex.right_eq,Bool.and_eq_true,Bool.and_eq_true] at h;refine .mk _ (fun hk=>Ty.right_Mg hs.type ?_) (fun t ht=>Ty.right_Mg (hs.targs.2 t ht) ?_) fun x hx=>ih x hx (hs.kids.2 x hx) (B2z h.1 x hx)
 ·have h2:=h.2.2;unfold Ex.right1 at h2;rw [if_pos (by unfold Ex.typed;rcases hk with hk | hk <;> rw [hk] <;> rfl)] at h2;simp only [Bool.and_eq_true] at h2;exact h2.1.1
 ·have h2:=h.2.1;unfold Ex.right2 at h2;rw [List.all_eq_true] at h2;have:=h2 t ht;simp only [Bool.and_eq_true] at this;exact this.2
theorem F4b {c:TCtx} {e:Ex} {x:Ty} {g:Sig} (h:F3y c e x=.inr g):g∈C7a c.p c.env x:=by
 unfold F3y at h;split at h
 ·cases h
 ·rename_i y hy;split at h
  ·cases h
  split at h
  ·cases h
  split at h
  ·cases h
  split at h
  ·cases h
  cases h;exact B9v.1 (List.mem_of_getElem? hy)
theorem F3q {p:Prog} (hs:p.Sm)(ht:∀ d,d∈p.decls→d.Tl)(hr:p.right=true) {vars:List Param} (hv:∀ f,f∈vars→f.type.Mg):∀ e:Ex,e.Mq→(A3b ⟨p,false,[],vars⟩ e).2.bad=false→(A3b ⟨p,false,[],vars⟩ e).1.Mg:=by
 intro e
 induction e using Ex.induct with | _ e ih=>?_
 intro he;rw [C7y];have fin:∀ (u z:Ty × Res),u.1.Mg→B3s u=z→z.2.bad=false→z.1.Mg:=fun u z hu hz hb=>by
  unfold B3s at hz;split at hz
  ·subst hz;cases hb
  ·subst hz;exact hu
 obtain⟨z,hz⟩:∃ z,D7j ⟨p,false,[],vars⟩ e (e.kids.map (A3b ⟨p,false,[],vars⟩))=z:=⟨_,rfl⟩;rw [hz];intro hb;unfold D7j at hz;split at hz
 ·unfold E4s at hz;split at hz
  ·rename_i f hf;split at hz
   ·subst hz;cases hb
   ·subst hz;exact hv f (List.mem_of_getElem? hf)
  ·subst hz;cases hb
 split at hz
 ·rename_i k3;unfold G4d at hz;split at hz
  ·subst hz;cases hb
  ·split at hz
   ·subst hz;cases hb
   ·subst hz;exact he.type (.inl k3)
 split at hz
 ·subst hz;cases hb
 rename_i hk;split at hz
 ·subst hz;cases hb
 ·rename_i v zs hzs;cases hks:e.kids with
  | nil=>rw [hks] at hzs;simp at hzs
  | cons w ws =>
   rw [hks] at hzs;simp only [List.map_cons,List.cons.injEq] at hzs;obtain⟨rfl,rfl⟩:=hzs;have hw:=ih w (by rw [hks];simp) (he.kids w (by rw [hks];simp));clear ih;generalize A3b ⟨p,false,[],vars⟩ w=v at *;generalize ws.map (A3b ⟨p,false,[],vars⟩)=zs at *;split at hz
   ·rename_i hbad;rw [← hz,hbad] at hb;cases hb
   ·rename_i hbad;have hx:=hw (by simpa using hbad);split at hz
    ·unfold E4k at hz;split at hz
     ·subst hz;cases hb
     ·rename_i g hg;have hm:=F4b hg;refine fin _ z ?_ hz hb;exact Ty.Mg.subst he.targs (F0s hs ht hr hx.arg g hm).result
    split at hz
    ·unfold B9a at hz;split at hz
     ·subst hz;cases hb
     ·split at hz
      ·rename_i f hf;split at hz
       ·subst hz;cases hb
       ·exact fin (f.type,_) z (C6r hs hr hx.arg f (List.mem_of_getElem? hf)) hz hb
      ·subst hz;cases hb
    ·rename_i k2 k4;unfold C8e at hz;split at hz
     ·subst hz;cases hb
     ·split at hz
      ·subst hz;cases hb
      ·subst hz;exact he.type (.inr (by omega))
structure SetT.Mq (s:SetT):Prop where
 types:∀ t,t∈s.types→t.Mg
 calls:∀ c,c∈s.calls→∀ t,t∈c.targs→t.Mg
theorem SetT.Mq.lg {s:SetT} (h:s.Mq)(b:Bool):SetT.Mq { s with large:=b }:=⟨h.types,h.calls⟩
theorem E4a {α β:Type} {Q:β→Prop} {f:β→α→β}:∀ (l:List α) {s:β},(∀ s a,a∈l→Q s→Q (f s a))→Q s→Q (l.foldl f s)
 | [],_,_,h=>h
 | a::l,s,hf,h=>E4a l (fun s b hb=>hf s b (by simp [hb])) (hf s a (by simp) h)
theorem C0t {s:SetT} (hs:s.Mq) {x:Ty} (hx:x.Mg):(C4d s x).Mq:=by
 unfold C4d;split
 ·exact⟨hs.types,hs.calls⟩
 ·refine⟨fun t ht=>?_,hs.calls⟩;rcases (B1m (cmp:=A7c) (x:=x) s.types).2 t ht with rfl | h
  ·exact hx
  ·exact hs.types t h
theorem F9u {s:SetT} (hs:s.Mq) {x:CallT} (hx:∀ t,t∈x.targs→t.Mg):(C2o s x).Mq:=by
 unfold C2o;split
 ·exact⟨hs.types,hs.calls⟩
 ·refine⟨hs.types,fun t ht=>?_⟩;rcases (B1m (cmp:=A2t) (x:=x) s.calls).2 t ht with rfl | h
  ·exact hx
  ·exact hs.calls t h
section
variable {p:Prog} (hs:p.Sm) (ht:∀ d,d∈p.decls→d.Tl) (hr:p.right=true)
include hs ht hr
theorem D9p {vars:List Param} (hv:∀ f,f∈vars→f.type.Mg) {s:SetT} (h:s.Mq) {e:Ex} (he:e.Mq):(B0x p s e vars).Mq:=by
 refine E4a _ (fun s x hx h=>?_) h;have hx:=B5j (Q:=Ex.Mq) (fun e h x hx=>h.kids x hx) e he x hx;unfold B4c;split
 ·exact C0t h (hx.type (by assumption))
 split
 ·split
  ·exact h
  ·rename_i v vs hk;unfold D1e;split
   ·exact⟨h.types,h.calls⟩
   ·rename_i hb;exact F9u (x:=⟨(A3b ⟨p,false,[],vars⟩ v).1,x.name,x.targs⟩) (C0t (h.lg _) (F3q hs ht hr hv v (hx.kids v (by rw [hk];simp)) (by simpa using hb))) hx.targs
 ·exact h
theorem F3s {s:SetT} (h:s.Mq) {x:Ty} (hx:x.Mg) {c:CallT} (hc:∀ t,t∈c.targs→t.Mg):(C4h p s x c).Mq:=by
 have ha:∀ u,u∈B1d x c→u.Mg:=fun u hu=>(List.mem_append.1 hu).elim (hx.arg u) (hc u);unfold C4h;rcases C2i p x c.name with h0 | ⟨j,d,h0,hd,hk⟩
 ·rw [if_pos h0];exact h
 rw [h0,if_neg (by omega),Int.toNat_natCast,hd];have hdm:=List.mem_of_getElem? hd;have hds:=hs.decls.2 d hdm;have hrd:d.right=true:=by unfold Prog.right at hr;simp only [Bool.and_eq_true,List.all_eq_true] at hr;exact hr.1 d hdm
 unfold Decl.right Decl.right3 at hrd;rw [if_pos hk] at hrd;simp only [Bool.and_eq_true,List.all_eq_true] at hrd;have hsig:=((Prog.right_sig hs ht hr hdm).2 hk).mq;refine D9p hs ht hr (fun f hf=>?_) h (Ex.Mq.subst ha (Ex.right_Mq hds.body hrd.2.2.2.2.2.2.2.2));obtain⟨g,hg,rfl⟩:=List.mem_map.1 hf;refine Ty.Mg.subst ha ?_;unfold A8g at hg;rcases List.mem_cons.1 hg with rfl | hg
 ·refine .nam _ _ _ hrd.1 hds.name (by rw [A5g,List.length_map];exact hds.vars.1) fun t ht=>?_;obtain⟨v,hv,rfl⟩:=List.mem_map.1 ht;exact .nam _ _ _ (hrd.2.2.2.2.1 v hv) (hds.vars.2 v hv) (by simp) (by simp)
 ·exact hsig.params g hg
theorem F5r {x:Ty} (hx:x.Mg) {out:SetT} (ho:out.Mq) {c:CallT} (hc:∀ t,t∈c.targs→t.Mg):(B6g p x out c).Mq:=by
 unfold B6g;split
 ·exact ho
 ·rename_i g hg;have hgs:g.Mq:=by
   unfold E5b at hg;split at hg
   ·cases hg
   ·split at hg
    ·cases hg
    ·rename_i g' hg';split at hg
     ·cases hg;exact F0s hs ht hr hx.arg _ (B9v.1 (List.mem_of_getElem? hg'))
     ·cases hg
  refine F3s hs ht hr (C0t (E4a _ (fun s t ht h=>?_) ho) (Ty.Mg.subst hc hgs.result)) hx hc;obtain⟨q,hq,rfl⟩:=List.mem_map.1 ht;exact C0t h (Ty.Mg.subst hc (hgs.params q hq))
theorem E3c {s:SetT} (h:s.Mq):(B1k p s).Mq:=by
 refine E4a _ (fun o x hx ho=>?_) h;have hx:=h.types x hx;refine E4a _ (fun o c hc ho=>F5r hs ht hr hx ho (h.calls c hc)) ?_;split
 ·refine E4a _ (fun s t ht h=>?_) ho;obtain⟨f,hf,rfl⟩:=List.mem_map.1 ht;exact C0t h (C6r hs hr hx.arg f hf)
 ·exact ho
theorem E1p:∀ (k:Nat) {s:SetT} (n:Int),s.Mq→(A8x p k s n).1.Mq
 | 0,_,_,_=>⟨by simp [A8x],by simp [A8x]⟩
 | k+1,s,n,h=>by
  have h0:SetT.Mq E6k:=⟨by simp,by simp⟩;rw [A8x];split
  ·split
   ·exact h0
   ·exact h
  ·split
   ·exact h0
   ·exact E1p k _ (E3c hs ht hr h)
theorem F5j:(B0s p).1.Mq:=by
 have hm:p.main.Mq:=by unfold Prog.right at hr;simp only [Bool.and_eq_true] at hr;exact Ex.right_Mq hs.main hr.2
 exact E1p hs ht hr _ _ (D9p hs ht hr (by simp) ⟨by simp,by simp⟩ hm)
end
theorem C2f {p:Prog}:∀ (k:Nat)(s:SetT)(n:Int),(A8x p k s n).2=true→B1n (A8x p k s n).1=false
 | 0,s,n,h=>by simp [A8x] at h
 | k+1,s,n,h=>by
  rw [A8x] at h ⊢;split at h
  ·rename_i hn;rw [if_pos hn];split at h
   ·cases h
   ·rename_i hl;rw [if_neg hl];simpa using hl
  ·rename_i hn;rw [if_neg hn];split at h
   ·cases h
   ·rename_i hl;rw [if_neg hl];exact C2f k _ _ h
theorem D7o {s:SetT} (h:B1n s=false):s.types.length+s.calls.length≤60∧(∀ t,t∈s.types→t.tlen≤3600)∧∀ c,c∈s.calls→Ty.tlenL c.targs≤3600:=by
 have h1:=C7c h;unfold B1n at h;simp only [Bool.or_eq_false_iff,List.any_eq_false,decide_eq_true_eq] at h;refine⟨by unfold A4f at h1;exact h1,fun t ht=>?_,fun c hc=>?_⟩
 ·have h2:=h.1 t ht;have:=Ty.count_tlen t 0 (by omega);omega
 ·have h2:=h.2.1 c hc;have:=Ty.count_tlen (.mk [] c.targs 0) 0 (by omega);rw [Ty.tlen_eq] at this;simp only [Ty.name,Ty.args,List.length_nil] at this;omega
structure SetT.Fd (s:SetT):Prop where
 sm:s.Sm
 types:∀ t,t∈s.types→t.Ni 12000
 targs:∀ c,c∈s.calls→(∀ t,t∈c.targs→t.Ni 12000)∧Ty.tlenL c.targs≤3600
 len:s.types.length+s.calls.length≤60
theorem E0e {p:Prog} (hf:p.Fit)(ht:∀ d,d∈p.decls→d.Tl)(hr:p.right=true)(h:(B0s p).2=true):(B0s p).1.Fd:=by have h1:=C2f _ _ _ h;obtain⟨l1,l2,l3⟩:=D7o h1;have hm:=F5j hf.sm ht hr;refine⟨D8y hf,fun t ht=>⟨hm.types t ht,by have:=l2 t ht;omega⟩,fun c hc=>⟨fun t ht=>⟨hm.calls c hc t ht,?_⟩,l3 c hc⟩,l1⟩;have:=l3 c hc;have:=A5a ht;omega
theorem SetT.Fd.callsX {p:Prog} {s:SetT} (h:s.Fd) {x:Ty} (hx:x∈s.types):∀ c,c∈Go.Abs.callsX p s.calls x→c.Ni:=fun c hc=>by obtain⟨d,hd,rfl⟩:=List.mem_map.1 hc;have hd:=(List.mem_filter.1 hd).1;obtain⟨h1,h2⟩:=h.targs d hd;have h3:=h.sm.calls.2 d hd;exact⟨⟨h.sm.types.2 x hx,h3.name,h3.targs⟩,h.types x hx,h1,by show Ty.tlenL d.targs≤_;omega⟩
end Go.Abs
/- bodies of instances: names that can be made of them; what the program and the reference make of them is the same up to places -/
namespace Go.Abs
set_option linter.unusedSimpArgs false
set_option linter.unusedVariables false
open Go Go.Proofs
set_option maxRecDepth 100000
set_option maxHeartbeats 1000000
abbrev mtT (t:Ty):Ty:=.mk t.mg [] t.pos
inductive Ex.Rs:Ex→Prop where
 | mk (e:Ex):(e.kind=3∨e.kind=5∨e.type.name=[]∧e.type.args=[])→(e.kind=2∨e.targs=[])→(∀ x,x∈e.kids→Ex.Rs x)→Ex.Rs e
variable {e:Ex}
theorem Ex.Rs.type (h:e.Rs):e.kind=3∨e.kind=5∨e.type.name=[]∧e.type.args=[]:=by cases h;assumption
theorem Ex.Rs.targs (h:e.Rs):e.kind=2∨e.targs=[]:=by cases h;assumption
theorem Ex.Rs.kids (h:e.Rs):∀ x,x∈e.kids→x.Rs:=by cases h;assumption
theorem Ex.right_Rs:∀ {e:Ex},e.right=true→e.Rs:=by
 intro e
 induction e using Ex.induct with | _ e ih=>?_
 intro h;rw [Ex.right_eq,Bool.and_eq_true,Bool.and_eq_true] at h;refine .mk _ ?_ ?_ fun x hx=>ih x hx (B2z h.1 x hx)
 ·have h2:=h.2.2;unfold Ex.right1 at h2;split at h2
  ·rename_i ht;unfold Ex.typed at ht;simp only [Bool.or_eq_true,decide_eq_true_eq] at ht;exact ht.elim .inl fun h=>.inr (.inl h)
  ·simp only [Bool.and_eq_true,decide_eq_true_eq] at h2;exact .inr (.inr ⟨h2.1.1.1.2,List.length_eq_zero_iff.1 h2.1.1.2⟩)
 ·have h2:=h.2.1;unfold Ex.right2 at h2;rw [List.all_eq_true] at h2;cases ht:e.targs with
  | nil=>exact .inr rfl
  | cons t ts =>have:=h2 t (by rw [ht];simp);simp only [Bool.and_eq_true,decide_eq_true_eq] at this;exact .inl this.1
theorem F2q {v:List Str} (hv:([]:Str) ∉ v) {a:List Ty} {t:Ty} (h1:t.name=[])(h2:t.args=[]):t.subst v a=.mk [] [] t.pos:=by rw [C5u fun _=>C3p (by rw [h1];exact hv),h1,h2];rfl
theorem E0m (q:Int):(Ty.mk [] [] q).mg=[]:=by rw [Ty.mg_eq];simp [Ty.name,Ty.args,B0r,mgA]
theorem Ex.Rs.subst {v:List Str} (hv:([]:Str) ∉ v) {a:List Ty}:∀ {e:Ex},e.Rs→(e.subst v a).Rs:=by
 intro e
 induction e using Ex.induct with | _ e ih=>?_
 intro h;rw [A7e];refine .mk _ ?_ ?_ fun x hx=>?_
 ·rcases h.type with h | h | ⟨h1,h2⟩
  ·exact .inl h
  ·exact .inr (.inl h)
  ·exact .inr (.inr (by show (e.type.subst v a).name=[]∧(e.type.subst v a).args=[];rw [F2q hv h1 h2];exact⟨rfl,rfl⟩))
 ·rcases h.targs with h | h
  ·exact .inl h
  ·exact .inr (by show e.targs.map _=[];rw [h];rfl)
 ·obtain⟨u,hu,rfl⟩:=List.mem_map.1 hx;exact ih u hu (h.kids u hu)
theorem D3i (v:List Str)(a:List Ty)(t:Ty):(t.subst v a).pos=t.pos:=by rw [A4n];split <;> rfl
theorem F0n {v:List Str} (hv:([]:Str) ∉ v) {a b:List Ty} (hab:a.map Ty.er=b.map Ty.er):∀ e:Ex,e.Rs→A6c (e.subst v a)=A6c (e.subst v b):=by
 intro e
 induction e using Ex.induct with | _ e ih=>?_
 intro h;have hk:(e.kids.map (Ex.subst v a)).map A6c=(e.kids.map (Ex.subst v b)).map A6c:=by rw [List.map_map,List.map_map];exact List.map_congr_left fun x hx=>ih x hx (h.kids x hx)
 have hty:∀ t:Ty,(t.subst v a).mg=(t.subst v b).mg:=fun t=>E2a (by rw [B6a,B6a,hab]);have hp:∀ t:Ty,(t.subst v a).pos=(t.subst v b).pos:=fun t=>by rw [D3i,D3i]
 have hm:mgM e.name (e.targs.map (Ty.subst v a))=mgM e.name (e.targs.map (Ty.subst v b)):=by rw [mgM,mgM,D1g];rw [List.map_map,List.map_map];exact List.map_congr_left fun t _=>by simp only [Function.comp,B6a,hab]
 rw [C0z,C0z,A7e,A7e];show Ex.mk e.kind (if e.kind=2 then mgM e.name (e.targs.map (Ty.subst v a)) else e.name) (.mk (e.type.subst v a).mg [] (e.type.subst v a).pos) [] ((e.kids.map (Ex.subst v a)).map A6c) e.pos=Ex.mk e.kind (if e.kind=2 then mgM e.name (e.targs.map (Ty.subst v b)) else e.name) (.mk (e.type.subst v b).mg [] (e.type.subst v b).pos) [] ((e.kids.map (Ex.subst v b)).map A6c) e.pos;rw [hk,hty,hp,hm]
theorem F1g:∀ e:Ex,e.Rs→B4s mtT mgM e=A6c e:=by
 intro e
 induction e using Ex.induct with | _ e ih=>?_
 intro h;have hk:e.kids.map (B4s mtT mgM)=e.kids.map A6c:=List.map_congr_left fun x hx=>ih x hx (h.kids x hx);rw [E7d,C0z,hk];unfold F6y;by_cases k35:e.kind=3∨e.kind=5
 ·rw [if_pos k35,if_neg (by omega),h.targs.resolve_left (by omega)]
 rw [if_neg k35];have ht:=(h.type.resolve_left (by omega)).resolve_left (by omega);have hte0:∀ t:Ty,t.name=[]→t.args=[]→t=.mk t.mg [] t.pos:=fun t h1 h2=>by obtain⟨n,a,q⟩:=t;simp only [Ty.name,Ty.args] at h1 h2;subst h1;subst h2;rw [E0m];rfl
 have hte:=hte0 e.type ht.1 ht.2;by_cases k2:e.kind=2
 ·rw [if_pos k2,if_pos k2,← hte]
 ·rw [if_neg k2,if_neg k2,h.targs.resolve_left k2,← hte]
inductive Ex.Nq (B:Nat):Ex→Prop where
 | mk (e:Ex):(e.kind=3∨e.kind=5→e.type.Ni B)→(∀ t,t∈e.targs→t.Ni B)→Ty.tlenL e.targs≤B→(∀ x,x∈e.kids→Ex.Nq B x)→Ex.Nq B e
variable {B:Nat}
theorem Ex.Nq.type (h:e.Nq B):e.kind=3∨e.kind=5→e.type.Ni B:=by cases h;assumption
theorem Ex.Nq.targs (h:e.Nq B):(∀ t,t∈e.targs→t.Ni B)∧Ty.tlenL e.targs≤B:=by cases h;exact⟨by assumption,by assumption⟩
theorem Ex.Nq.kids (h:e.Nq B):∀ x,x∈e.kids→x.Nq B:=by cases h;assumption
theorem Ex.Mq.nq :∀ {e:Ex},e.Mq→e.xlen≤B→e.Nq B:=by
 intro e
 induction e using Ex.induct with | _ e ih=>?_
 intro h hl;rw [Ex.xlen_eq] at hl;refine .mk _ (fun hk=>⟨h.type hk,by omega⟩) (fun t ht=>⟨h.targs t ht,by have:=A5a ht;omega⟩) (by omega) fun x hx=>ih x hx (h.kids x hx) (by have:=D3j hx;omega)
theorem B8m {v:List Str} {ar:List Ty} {M:Nat} (h4:4≤M)(ha:∀ u,u∈ar→u.tlen≤M):∀ l:List Ty,4*Ty.tlenL (l.map (Ty.subst v ar))≤Ty.tlenL l*M
 | []=>by simp [Ty.tlenL]
 | x::l=>by have h1:=C0d (v:=v) h4 ha x;have h2:=B8m (v:=v) h4 ha l;rw [List.map_cons,Ty.tlenL,Ty.tlenL,Nat.add_mul];omega
theorem Ex.Nq.subst {B M:Nat} (h4:4≤M) {v:List Str} {a:List Ty} (ha:∀ u,u∈a→u.Ni M):∀ {e:Ex},e.Nq B→(e.subst v a).Nq (B*M / 4):=by
 intro e
 induction e using Ex.induct with | _ e ih=>?_
 intro h;rw [A7e];refine .mk _ (fun hk=>Ty.Ni.subst h4 ha (h.type hk)) (fun t ht=>?_) ?_ fun x hx=>?_
 ·obtain⟨u,hu,rfl⟩:=List.mem_map.1 ht;exact Ty.Ni.subst h4 ha (h.targs.1 u hu)
 ·rw [Nat.le_div_iff_mul_le (by decide),Nat.mul_comm];exact Nat.le_trans (B8m h4 (fun u hu=>(ha u hu).len) e.targs) (Nat.mul_le_mul_right _ h.targs.2)
 ·obtain⟨u,hu,rfl⟩:=List.mem_map.1 hx;exact ih u hu (h.kids u hu)
theorem F7s (hB:B≤10000000000000):∀ {e:Ex},e.Sm→e.Nq B→MOK mtT mgM e:=by
 intro e
 induction e using Ex.induct with | _ e ih=>?_
 intro hs h;obtain⟨k,n,t,a,ks,q⟩:=e;have h1:=h.type;have h2:=h.targs;have h3:=h.kids;refine .mk _ _ _ _ _ _ (fun hk=>C2e t (h1 hk).mg (by have:=(h1 hk).len;simp only [Ex.type] at this;omega)) (fun hk=>B6x n hs.name a hs.targs.1 (fun u hu=>(h2.1 u hu).mg) (by have:=h2.2;simp only [Ex.targs] at this;omega)) fun x hx=>ih x hx (hs.kids.2 x hx) (h3 x hx)
theorem Decl.count_xl (d:Decl)(n:Int)(h0:0≤n)(h:d.count n≤2000):d.body.xlen≤240000:=by
 unfold Decl.count at h;generalize hm:n+1+((d.name.length / 50:Nat):Int)+((d.recv.length / 50:Nat):Int)=m at h;obtain⟨a1,a2⟩:=G0k d.formals m;obtain⟨b1,b2⟩:=F9f d.fields (A0i d.formals m);obtain⟨c1,c2⟩:=G3v d.sigs (A0p d.fields (A0i d.formals m));obtain⟨e1,e2⟩:=D6s d.vars (A0u d.sigs (A0p d.fields (A0i d.formals m)));generalize hz:A2i d.vars (A0u d.sigs (A0p d.fields (A0i d.formals m)))=z at *;unfold Decl.count2 at h;obtain⟨f1,_⟩:=Sig.count_sm d.sig z;split at h
 ·have g2:=Ex.count_xlen d.body (d.sig.count z) h;omega
 ·omega
theorem G5b:LSm A2n (fun d=>d.body.xlen≤240000):=A3r A2n Decl.count (fun d=>d.body.xlen≤240000) (fun _=>rfl) (fun _ _ _=>rfl) (fun x k=>(Decl.count_sm x k).1) (fun x k h0 h=>Decl.count_xl x k h0 h)
theorem Prog.count_xl (p:Prog)(h:p.count≤600):(∀ d,d∈p.decls→d.body.xlen≤240000)∧p.main.xlen≤240000:=by unfold Prog.count at h;have h1:=Ex.count_ge p.main 0;obtain⟨a1,a2⟩:=G5b p.decls (p.main.count 0);have g2:=Ex.count_xlen p.main 0 (by omega);exact⟨(a2 (by omega) (by omega)).2,by omega⟩
def A4w (F:Ex→Ex)(p:Prog)(c:CallT):Option Decl:=match A8q p c.on c.name with
 | none=>none
 | some d=>match A6g p c with
  | none=>none
  | some g=>some ⟨3,c.on.mg,[],[],[],d.recv,[],⟨g.name,[],A8z g.params d.sig.params,g.result,0⟩,F (B6n d c.on c),0⟩
theorem B7i {p:Prog} (hr:p.right=true) {d:Decl} (hd:d∈p.decls)(hk:d.kind=3):(∀ v,v∈d.vars→A2g v=true)∧(∀ f,f∈d.sig.formals→A2g f.name=true)∧d.body.right=true:=by
 have hrd:d.right=true:=by unfold Prog.right at hr;simp only [Bool.and_eq_true,List.all_eq_true] at hr;exact hr.1 d hd
 unfold Decl.right Decl.right3 at hrd;rw [if_pos hk] at hrd;simp only [Bool.and_eq_true,List.all_eq_true] at hrd;refine⟨hrd.2.2.2.2.1,?_,hrd.2.2.2.2.2.2.2.2⟩;have:=hrd.2.2.2.2.2.2.2.1;simp only [Sig.right,A6e,A4z,Bool.and_eq_true,List.all_eq_true] at this;exact fun f hf=>(this.1.1.2 f hf).1
theorem D3o {p:Prog} (hr:p.right=true) {d:Decl} (hd:d∈p.decls)(hk:d.kind=3):([]:Str) ∉ A7j d:=by
 obtain⟨h1,h2,_⟩:=B7i hr hd hk;intro h;rcases List.mem_append.1 h with h | h
 ·have:=h1 _ h;simp [A2g] at this
 ·obtain⟨f,hf,he⟩:=List.mem_map.1 h;have:=h2 f hf;rw [he] at this;simp [A2g] at this
theorem B0m {p:Prog} {x:Ty} {m:Str} {d:Decl} (h:A8q p x m=some d):d∈p.decls∧d.kind=3∧A1w p x 1=true∧d.vars.length=x.args.length:=by
 unfold A8q at h;split at h
 ·rename_i hi;split at h
  ·rename_i d' hf;split at h
   ·rename_i hl;cases h;have:=List.find?_some hf;unfold B9w at this;simp only [Bool.and_eq_true,decide_eq_true_eq] at this;exact⟨List.mem_of_find?_eq_some hf,this.1.1,hi,hl⟩
   ·cases h
  ·cases h
 ·cases h
theorem F9w (p:Prog)(x:Ty)(m:Str):(B0q p x m < 0∧A8q p x m=none)∨∃ (j:Nat)(d:Decl),B0q p x m=j∧p.decls[j]? = some d∧A8q p x m=some d:=by
 unfold B0q A8q;by_cases hi:A1w p x 1=true
 ·rw [if_pos hi,if_pos hi];unfold B1c B0h;cases h:p.decls.findIdx? (B9w x.name m) with
  | none =>
   rw [List.find?_eq_none.2 (by simpa [List.findIdx?_eq_none_iff] using h)];left;refine⟨?_,rfl⟩;simp only;split
   ·rw [if_neg (by omega)];decide
   ·decide
  | some j =>
   obtain⟨h1,h2,h3⟩:=List.findIdx?_eq_some_iff_getElem.1 h;have hf:p.decls.find? (B9w x.name m)=some p.decls[j]:=List.find?_eq_some_iff_getElem.2 ⟨h2,j,h1,rfl,fun k hk=>by simpa using h3 k hk⟩;rw [hf];simp only [Int.toNat_natCast,List.getElem?_eq_getElem h1];by_cases hl:p.decls[j].vars.length=x.args.length
   ·rw [if_pos ⟨by omega,hl⟩,if_pos hl];exact .inr ⟨j,_,rfl,List.getElem?_eq_getElem h1,rfl⟩
   ·rw [if_neg fun h=>hl h.2,if_neg hl];exact .inl ⟨by decide,rfl⟩
 ·rw [if_neg hi,if_neg hi];exact .inl ⟨by decide,rfl⟩
theorem F6x {c:CallT} (hc:c.Ni):∀ u,u∈B1d c.on c→u.Ni 12000:=fun u hu=>(List.mem_append.1 hu).elim (hc.on.args u) (hc.targs u)
theorem D6k {p:Prog} (hp:p.count≤600)(hs:p.Sm)(hr:p.right=true) {d:Decl} (hd:d∈p.decls)(hk:d.kind=3) {c:CallT} (hc:c.Ni):(B6n d c.on c).Nq 720000000∧(B6n d c.on c).Sm∧(B6n d c.on c).Rs:=by obtain⟨_,_,hb⟩:=B7i hr hd hk;have hds:=(hs.decls.2 d hd).body;have h1:=(Ex.right_Mq hds hb).nq ((Prog.count_xl p hp).1 d hd);refine⟨Ex.Nq.subst (B:=240000) (M:=12000) (by decide) (F6x hc) h1,Ex.Sm.subst (fun u hu=>(List.mem_append.1 hu).elim (hc.sm.on.arg u) (hc.sm.targs.2 u)) _ hds,Ex.Rs.subst (D3o hr hd hk) (Ex.right_Rs hb)⟩
theorem D2y {p:Prog} {c:CallT} {g:Sig} (h:A6g p c=some g):¬ A3j (A3o p [] c.on) c.name < 0∧∃ s,(A3o p [] c.on)[(A3j (A3o p [] c.on) c.name).toNat]? = some s∧s∈A3o p [] c.on∧s.name=c.name∧s.formals.length=c.targs.length∧g=B9m c s:=by
 unfold A6g G0c at h;split at h
 ·cases h
 ·rename_i h0;obtain⟨s,hs,hm⟩:=A9e h0;rw [hs,Option.getD_some] at h;split at h
  ·rename_i hl;cases h;refine⟨h0,s,hs,hm,?_,hl,rfl⟩;unfold A3j at hs h0;rcases A2w (fun s:Sig=>decide (s.name=c.name)) (A3o p [] c.on) with ⟨h1,_⟩ | ⟨j,y,h1,h2,h3⟩
   ·rw [h1] at h0;exact absurd (by decide) h0
   ·rw [h1,Int.toNat_natCast,h2] at hs;cases hs;simpa using h3
  ·cases h
theorem E4v (p:Prog)(hp:p.count≤600)(hr:p.right=true)(c:CallT)(hc:c.Ni):A0a Tryz.prog 74 [.dptr (B0u p) 0,caV c] (dcR (A4w (B4s mtT mgM) p c)):=by
 have hfit:=Prog.count_Fit p hp;have htl:=Prog.count_Tl p hp;unfold A4w;cases hd:A8q p c.on c.name with
 | none=>exact B8g p hfit.sm htl hr c hc (.inl hd)
 | some d =>
  cases ho:A6g p c with
  | none=>exact B8g p hfit.sm htl hr c hc (.inr ho)
  | some g =>
   obtain⟨h0,s,hs,hm,hn,hl,rfl⟩:=D2y ho;obtain⟨hdm,hk,hi,_⟩:=B0m hd;obtain⟨d',_,_,_,_,he,hd'⟩:=D2x hi (B9v.1 hm);rw [hn,hd] at hd';cases hd';obtain⟨hq,hsm,_⟩:=D6k hp hfit.sm hr hdm hk hc;have hpl:(A8w (s.subst (A0d s.formals) c.targs).params).length=d.sig.params.length:=by rw [B0e,he];simp only [Sig.subst,List.length_map,Sig.canon,A4m]
   exact D4h p hfit.sm htl hr c hc s h0 hs hl d hd hpl (by rw [hpl];exact (hfit.sm.decls.2 d hdm).sig.params.1) (hfit.sm.decls.2 d hdm) mtT mgM (F7s (B:=720000000) (by decide) hsm hq) hsm
theorem F1q {p:Prog} (hr:p.right=true) {x:Ty} {c d:CallT} (h1:c.on=x)(h2:d.on=x)(h:A2t c d=0):A4w (B4s mtT mgM) p c=A4w A6c p d:=by
 obtain⟨_,hn,ht⟩:=D8s h;have ho:=C6j (p:=p) (h1.trans h2.symm) hn ht;have hmd:A8q p d.on d.name=A8q p c.on c.name:=by rw [h1,h2,hn]
 have hon:d.on.mg=c.on.mg:=by rw [h1,h2]
 unfold A4w;rw [hmd,← ho,hon];cases hd:A8q p c.on c.name with
 | none=>rfl
 | some m =>
  cases A6g p c with
  | none=>rfl
  | some g =>
   obtain⟨hm,hk,_⟩:=B0m hd;have hne:=D3o hr hm hk;have hrs:=Ex.right_Rs (B7i hr hm hk).2.2;have e1:B4s mtT mgM (B6n m c.on c)=A6c (B6n m d.on d):=by unfold B6n;rw [F1g _ (Ex.Rs.subst hne hrs)];refine F0n hne ?_ _ hrs;unfold B1d;rw [List.map_append,List.map_append,h1,h2,ht]
   simp only [e1]
theorem B3t {p:Prog} (hr:p.right=true) {x:Ty}:∀ {l m:List CallT},l.length=m.length→(∀ (i:Nat) c d,l[i]? = some c→m[i]? = some d→A2t c d=0)→(∀ c,c∈l→c.on=x)→(∀ c,c∈m→c.on=x) →
  l.filterMap (A4w (B4s mtT mgM) p)=m.filterMap (A4w A6c p)∧l.filterMap (A6g p)=m.filterMap (A6g p)
 | [],[],_,_,_,_=>⟨rfl,rfl⟩
 | c::l,d::m,hl,h,h1,h2=>by have h0:=h 0 c d rfl rfl;obtain⟨i1,i2⟩:=B3t hr (l:=l) (m:=m) (by simpa using hl) (fun i a b ha hb=>h (i+1) a b (by simpa using ha) (by simpa using hb)) (fun c hc=>h1 c (by simp [hc])) fun c hc=>h2 c (by simp [hc]);have hap:A6g p c=A6g p d:=C6j ((h1 c (by simp)).trans (h2 d (by simp)).symm) (D8s h0).2.1 (D8s h0).2.2;rw [List.filterMap_cons,List.filterMap_cons,List.filterMap_cons,List.filterMap_cons,hap,i1,i2,F1q hr (h1 c (by simp)) (h2 d (by simp)) h0];exact⟨rfl,rfl⟩
def A6t (p:Prog)(cs:List CallT)(x:Ty):List Decl:=F6z (A4w A6c p) p (A8b p cs x).calls x
theorem C2n {p:Prog} {cs:List CallT} {x:Ty} :∀ c,c∈callsX p cs x→c.on=x:=fun c h=>by obtain⟨d,_,rfl⟩:=List.mem_map.1 h;rfl
theorem F4k {p:Prog} (hr:p.right=true) {cs:List CallT} {x:Ty} (hn:cs.length≤100) {l':List CallT} (hp:l'.Perm (callsX p cs x))(hs:l'.Pairwise fun a b=>A2t a b≤0) :
  F6z (A4w (B4s mtT mgM) p) p (A4i l') x=A6t p cs x:=by
 obtain⟨h1,h2,h3,h4⟩:=E3f hn hp hs;obtain⟨f1,f2⟩:=B3t hr h1 h2 (fun c hc=>C2n c (h3 c hc)) fun c hc=>C2n c (h4 c hc);unfold A6t F6z D1p E5j;rw [f1,f2]
theorem B5n.one {P:Program} {f:FuncId} {args:List SV} {r0:SV} (h:B5n P f args fun r=>r=r0):A0a P f args r0 :=
 ⟨h.1,fun C β vs hi hv=>(h.2 C β vs hi hv).mono fun _ _ ⟨r,v,S',β',h0,h1,h2,h3⟩=>⟨v,S',β',h1,h2,h0 ▸ h3⟩⟩
theorem D1f (p:Prog)(hp:p.count≤600)(hr:p.right=true) {s:SetT} (h:s.Fd)(x:Ty)(hx:x∈s.types):A0a Tryz.prog 11 [prV p,F1i s.types s.calls,tyV x] (.d (.slice (deR (A6t p s.calls x)))):=by have hfit:=Prog.count_Fit p hp;have hlen:=h.len;refine B5n.one (B5n.imp (F6p p hfit.sm (Prog.count_Tl p hp) hr s.types s.calls h.sm.calls.1 h.sm.calls.2 x (h.sm.types.2 x hx) (h.types x hx) (h.callsX hx) (A4w (B4s mtT mgM) p) fun c hc=>E4v p hp hr c (h.callsX hx c hc)) ?_);rintro r ⟨l',hq,hs,rfl⟩;rw [F4k hr (by omega) hq hs]
end Go.Abs
/- castingsref23.Type -/
namespace Go.Abs
set_option maxHeartbeats 1000000
set_option linter.unusedSimpArgs false
set_option linter.unusedVariables false
open Go Go.Proofs
set_option maxRecDepth 100000
set_option maxHeartbeats 4000000
abbrev E3b:List Nat:=[0,1,2,3,4,5,6,7,8,9,10,11,33,64,900]
theorem E5e (p:Prog)(h:p.Sm)(ht:∀ d,d∈p.decls→d.Tl)(hr:p.right=true)(c:CallT)(hc:c.Ni)(s:Sig)(h0:¬ A3j (A3o p [] c.on) c.name < 0)(hs:(A3o p [] c.on)[(A3j (A3o p [] c.on) c.name).toNat]? = some s)(hl:s.formals.length=c.targs.length) :
  A1p Tryz.prog 33 [prV p,caV c] [] (.tuple [.agg (agS (B9m c s).name (B9m c s).result.name (.acc 900)),A0m true]) [(900,.rows 5 (paR (B9m c s).params))]:=by
 have hset:=B2e h ht hr hc.sm.on hc.on.args;have hS:=B4t p h [] (by simp) (by simp) c.on hc.sm.on;have hlen:=A3h h [] c.on;have hF:=A5v (A3o p [] c.on) c.name hlen;have hmem:=@A9e (A3o p [] c.on) c.name;rw [show B0h (fun s:Sig=>decide (s.name=c.name)) (A3o p [] c.on)=A3j (A3o p [] c.on) c.name from rfl] at hF;generalize A3o p [] c.on=l at *;generalize A3j l c.name=n at *;obtain⟨s',hs',hsl⟩:=hmem h0;rw [hs] at hs';cases hs';have hn0:0≤n:=by omega
 have hnl:n < l.length:=by have:=(List.getElem?_eq_some_iff.1 hs).1;omega
 have hsn:=hset s hsl;have hl':(s.formals.length:Int)=(c.targs.length:Int):=by omega
 have hnm:=A1u s.formals hsn.sm.formals.1;rw [show s.formals.map (·.name)=A0d s.formals from rfl] at hnm;have hM:=B1y c.name hc.sm.name c.targs hc.sm.targs.1 (fun t h=>(hc.targs t h).mg) (by have:=hc.tl;omega);have hsr:=A2j (A0d s.formals) c.targs hc.sm.targs.2 s.result hsn.sm.result;have hq:=Sig.Ni.subst (v:=A0d s.formals) (by decide:4≤12000) hc.targs hc.sm.targs.2 hsn;have hP:=A7h (s.result.subst (A0d s.formals) c.targs) hq.result.mg (Nat.le_trans hq.result.len (by decide));have hpl:=hsn.params.1;have hpp:=hsn.params.2;have hps:=hsn.sm.params.2;have e1:B9m c s=⟨mgM c.name c.targs,[],A8w (s.params.map (Param.subst (A0d s.formals) c.targs)),plT (s.result.subst (A0d s.formals) c.targs),0⟩:=rfl;rw [e1];show A1p Tryz.prog 33 [prV p,caV c] [] (.tuple [.agg (agS (mgM c.name c.targs) (s.result.subst (A0d s.formals) c.targs).mg (.acc 900)),A0m true]) [(900,.rows 5 (paR (A8w (s.params.map (Param.subst (A0d s.formals) c.targs)))))];generalize s.result.subst (A0d s.formals) c.targs=rt at *;generalize mgM c.name c.targs=nm at *;generalize hNN:A0d s.formals=nn at *;refine bB Tryz.func33 ?_;refine sR E3b ?_;refine sC hS E3b ?_;refine sC hF E3b ?_;refine sK fun K1 u1=>?_
 (refine sG E3b [] 12 [] fun K z=>?_;refine ev1 h0 ?_;refine⟨by omega,_,A0n hs,rfl,?_⟩;(try refine ev1 hl' ?_);apply z;clear z K)
 refine kI u1 ?_;clear u1 K1
 (refine sV E3b fun K z=>?_;refine ci (A0n hs) ?_;refine cc hnm ?_;apply z;clear z K)
 (refine sG E3b [] 17 [⟨[],[],[9],[9]⟩,⟨[],[],[9],[9]⟩,⟨[],[],[9],[9]⟩,⟨[],[],[9],[9]⟩,⟨[],[],[9],[9]⟩,⟨[],[],[9],[9]⟩,⟨[],[],[9],[9]⟩,⟨[],[],[9],[9]⟩,⟨[],[],[9],[9]⟩,⟨[],[],[9],[9]⟩,⟨[],[],[9],[9]⟩,⟨[],[],[9],[9]⟩,⟨[],[],[9],[9]⟩,⟨[],[],[9],[9]⟩,⟨[],[],[9],[9]⟩,⟨[],[],[9],[9]⟩,⟨[9],[9],[],[]⟩] fun K z=>?_;refine ev ?_;refine cc hM ?_;refine ci (A0n hs) ?_;refine cc hsr ?_;refine cc hP ?_;apply z;clear z K)
 refine AWp.promoteBox 900 5 9 2 rfl rfl (by decide) ?_;refine kR E3b fun K1 u1=>?_;refine AWp.bb (AWp.ii s.params (X:=Unit) (fun j _=>[(3,.box 3 0),(4,.box 4 0),(6,.d (.slice (siR l))),(7,A0g n),(8,A1m nn),(9,.box 9 0),(10,A0g j)])
  (fun j _=>[(3,.cells (caS c)),(4,.cells [.d (.str []),.d .nil,.d .nil,.d (.str []),.d .nil,.d (.int .i64 0),.d (.int .i64 0)]),(9,.cells (agS nm rt.mg (.acc 900))),(900,.rows 5 (paR (A8w ((s.params.take j).map (Param.subst nn c.targs)))))])
  (fun _ _=>True) () trivial sS (by simp [ble,A0h,paR,A8w];exact⟨rfl,rfl,rfl⟩) ?_ ?_)
 rotate_left
 ·intro j _ d hd hmem dp tk hlt _;have hj:=(List.getElem?_eq_some_iff.1 hd).1;have hit:=B3e j (by unfold sm;omega);have hil:=Lib.itoa_length_le j (by omega) (by omega);rw [← A6p] at hit;have hdn:=Ty.Ni.subst (v:=nn) (by decide:4≤12000) hc.targs (hpp d hmem);have hds:=A2j nn c.targs hc.sm.targs.2 d.type (hps d hmem).type;have hdp:=A7h (d.type.subst nn c.targs) hdn.mg (by have:=hdn.len;omega);have hd2:(s.params.map (Param.subst nn c.targs))[j]? = some (Param.subst nn c.targs d):=by rw [List.getElem?_map,hd];rfl
  have e2:paR (A8w ((s.params.take (j+1)).map (Param.subst nn c.targs)))=paR (A8w ((s.params.take j).map (Param.subst nn c.targs)))++[paC ⟨[112]++Lib.itoa (j:Nat),plT (d.type.subst nn c.targs),0⟩]:=by rw [List.map_take,B6j hd2,List.map_take];simp [paR,Param.subst]
  have e3:(paR (A8w ((s.params.take j).map (Param.subst nn c.targs)))).length=j:=by rw [B0o,B0e,List.length_map,List.length_take];omega
  rw [e2];generalize paR (A8w ((s.params.take j).map (Param.subst nn c.targs)))=PR at *;generalize d.type.subst nn c.targs=dt at *;generalize Lib.itoa (j:Nat)=ds at *;refine sK fun K2 u2=>?_
  (refine sV E3b fun K z=>?_;refine⟨by omega,_,A0n hs,rfl,?_⟩;(try refine ev1 hlt ?_);apply z;clear z K)
  refine gI u2 ?_;clear u2 K2;refine sK fun K2 u2=>?_;refine AWp.bb ?_
  (refine sG E3b [] 14 [⟨[],[],[11],[11]⟩,⟨[],[],[11],[11]⟩,⟨[],[],[11],[11]⟩,⟨[],[],[11],[11]⟩,⟨[],[],[11],[11]⟩,⟨[],[],[11],[11]⟩,⟨[],[],[11],[11]⟩,⟨[],[],[11],[11]⟩,⟨[],[],[11],[11]⟩,⟨[],[],[11],[11]⟩,⟨[],[],[11],[11]⟩,⟨[],[],[11],[11]⟩,⟨[],[],[11],[11]⟩,⟨[11],[11],[],[]⟩] fun K z=>?_;refine ev ?_;refine ci (A0n hs) ?_;refine ci (A0r hd) ?_;refine cc hds ?_;apply z;clear z K)
  (refine lG E3b [] 9 [] fun K z=>?_;refine ev ?_;refine cc hit ?_;refine⟨by (try simp only [List.length_append,List.length_cons,List.length_nil]);unfold lim;omega,?_⟩;(try refine ev1 e3 ?_);refine⟨_,.inl ⟨_,rfl,hdp,rfl⟩,?_⟩;(try refine ev1 e3 ?_);refine⟨by simp,by (try simp only [e3]);unfold lim;omega,?_⟩;(try refine ev1 e3 ?_);apply z;clear z K;try simp only [A0c,A0e])
  refine u2 _ _ ?_;clear u2 K2
  (refine lV E3b fun K z=>?_;refine cl ?_;apply z;clear z K;try simp only [A0c,])
  exact⟨(),trivial,sS,by simp [ble,A0h,paC]⟩
 intro _ _;rw [List.take_length];refine sK fun K2 u2=>?_
 (refine sV E3b fun K z=>?_;refine⟨by omega,_,A0n hs,rfl,?_⟩;(try refine ev1 Int.lt_irrefl ?_);apply z;clear z K)
 refine AWp.ss rfl ?_;simp only [TB];refine u1 _ _ ?_;clear u2 K2 u1 K1;refine sR E3b ?_;exact AWp.ret ⟨_,by rw [Tryz.results33];rfl,.inl rfl,by simp [ble,A0h]⟩
abbrev G3w:List Nat:=[0,2,3,4,17,21,28,44]
theorem E4x:A0a Tryz.prog 77 [A2d []] (A0g (-1)):=by
 obtain⟨s,hs⟩:∃ s:Str,s=[]:=⟨_,rfl⟩;rw [← hs];have h2':(s.length:Int) < 2:=by rw [hs];decide
 clear hs;refine cB Tryz.func77 ?_;refine sR G3w ?_;refine sR G3w ?_;refine kR1 h2' G3w fun K1 u1=>?_;refine tI ?_;refine sR G3w ?_;exact aR
theorem E8x (q:Int):A0a Tryz.prog 29 [tyV (.mk [] [] q)] (A2d []):=by
 have hix:=E4x;have hes:=C9b [] (by decide);have hli:=B6v [] (by decide) (by simp [Ty.tlenL]) (by simp);have e1:B0r []=[]:=by simp [B0r]
 have e2:mgA []=[]:=by simp [mgA]
 rw [e1] at hes;rw [e2] at hli;show A0a Tryz.prog 29 [.agg [.d (.str []),.d (.slice (tyR [])),.d (.int .i64 q)]] (A2d []);refine cB Tryz.func29 ?_;refine sR [0,1,2,3,14] ?_;refine sC hix [0,1,2,3,14] ?_;refine kR [0,1,2,3,14] fun K1 u1=>?_;refine kI u1 ?_;clear u1 K1
 (refine sG [0,1,2,3,14] [] 5 [] fun K z=>?_;refine ev ?_;refine cc hes ?_;refine cc hli ?_;apply z;clear z K)
 exact aR
theorem E3z (q:Int):A0a Tryz.prog 61 [tyV (.mk [] [] q)] (tyV (.mk (Ty.mk [] [] q).mg [] q)):=by
 have h1:=E8x q;rw [E0m];show A0a Tryz.prog 61 [.agg [.d (.str []),.d (.slice (tyR [])),.d (.int .i64 q)]] (tyV (.mk [] [] q));refine cB Tryz.func61 ?_;refine sR [0,1,2] ?_
 (refine sG [0,1,2] [] 4 [] fun K z=>?_;refine ev ?_;refine cc h1 ?_;apply z;clear z K)
 exact aR
theorem G3q {B:Nat} (hB:B≤10000000000000):∀ {e:Ex},e.Sm→e.Nq B→e.Rs→e.Mx:=by
 intro e
 induction e using Ex.induct with | _ e ih=>?_
 intro hs h hr;obtain⟨k,n,t,a,ks,q⟩:=e;have h1:=h.type;have h2:=h.targs;have h3:=h.kids;have h4:=hr.type;have h5:=hr.kids;refine .mk _ _ _ _ _ _ ?_ (fun hk=>⟨hs.name,hs.targs.1,fun u hu=>(h2.1 u hu).mg,by have:=h2.2;simp only [Ex.targs] at this;omega⟩) hs.kids.1 fun x hx=>ih x hx (hs.kids.2 x hx) (h3 x hx) (h5 x hx);by_cases hk:(Ex.mk k n t a ks q).kind=3∨(Ex.mk k n t a ks q).kind=5
 ·exact D7w t (h1 hk).mg (by have:=(h1 hk).len;simp only [Ex.type] at this;omega)
 ·have:=(h4.resolve_left fun h=>hk (.inl h)).resolve_left fun h=>hk (.inr h);obtain⟨tn,ta,tq⟩:=t;simp only [Ex.type,Ty.name,Ty.args] at this;obtain⟨rfl,rfl⟩:=this;exact E3z tq
theorem C2w {p:Prog} {s:SetT} (h:s.Fd) {x:Ty} (hx:x∈s.types):(A8b p s.calls x).calls.length≤sm∧∀ c,c∈(A8b p s.calls x).calls→c.on=x∧c.Ni:=by
 have hl:=A9j p s.calls x;have hn:=h.len;have hm:∀ c,c∈(A8b p s.calls x).calls→c∈callsX p s.calls x:=fun c hc=>by obtain⟨_,b2,_⟩:=B7j (callsX p s.calls x) ⟨[],[],false⟩ (by simp [A7b]) (by simp only [List.length_nil];omega);exact (b2 c hc).elim id fun h=>by simp at h
 refine⟨(B9c (callsX p s.calls x) (s:=⟨[],[],false⟩) ⟨by simp,by simp⟩ (D3g (h.sm.types.2 x hx) h.sm.calls.2)).calls.1,fun c hc=>⟨C2n c (hm c hc),h.callsX hx c (hm c hc)⟩⟩
theorem E8a {ps qs:List Param} {i:Nat} {q e:Param} (hq:ps[i]? = some q)(he:qs[i]? = some e)(dp:ps.drop i=q::ps.drop (i+1))(tk:ps.take (i+1)=ps.take i++[q])(hrl:(A8z (ps.take i) qs).length=i) :
  paR (A8z (ps.take (i+1)) qs++ps.drop (i+1))=(paR (A8z (ps.take i) qs++ps.drop i)).set i (setAll (paC q) 0 [.str e.name]):=by
 have hj:=(List.getElem?_eq_some_iff.1 hq).1;have hj2:=(List.getElem?_eq_some_iff.1 he).1;have e1:A8z (ps.take (i+1)) qs=A8z (ps.take i) qs++[⟨e.name,q.type,q.pos⟩]:=by
  unfold A8z;rw [tk,show qs=qs.take i++(e::qs.drop (i+1)) by
   conv=>lhs;rw [← List.take_append_drop i qs]
   rw [List.drop_eq_getElem_cons hj2,(List.getElem?_eq_some_iff.1 he).2]]
  rw [List.zipWith_append (by simp;omega)];have:(ps.take i).zipWith (fun a b:Param=>(⟨b.name,a.type,a.pos⟩:Param)) (qs.take i++(e::qs.drop (i+1)))=(ps.take i).zipWith (fun a b:Param=>(⟨b.name,a.type,a.pos⟩:Param)) (qs.take i):=by
   conv=>lhs;rw [← List.append_nil (ps.take i)]
   rw [List.zipWith_append (by simp;omega)];simp
  rw [this];simp
 rw [e1,dp];have hl2:(paR (A8z (ps.take i) qs)).length=i:=by rw [B0o];exact hrl
 simp only [paR,List.map_append,List.map_cons,List.append_assoc,List.cons_append,List.nil_append] at hl2 ⊢;rw [List.set_append_right _ _ (by omega),hl2,Nat.sub_self,List.set_cons_zero];rfl
abbrev A3p:List Nat:=[0,1,2,3,4,5,6,7,8,9,10,11,12,13,14,15,16,17,18,19,20,21,22,23,24,25,26,27,28,40,46,58,68,86,95,116,120,145,155,170,179,207,901,902]
set_option maxHeartbeats 8000000 in
theorem C5h (p:Prog)(hp:p.count≤600)(hr:p.right=true) {s:SetT} (h:s.Fd)(x:Ty)(hx:x∈s.types):A0a Tryz.prog 12 [prV p,seV s,tyV x] (.d (.slice (deR (A6t p s.calls x)))):=by
 have hfit:=Prog.count_Fit p hp;have htl:=Prog.count_Tl p hp;have hxs:=h.sm.types.2 x hx;have hxn:=h.types x hx;have hT:=A5n x hxn.mg (by have:=hxn.len;omega);have hM:=C9n p hfit.sm s h.sm x hxs;have hS:=B4t p hfit.sm [] (by simp) (by simp) x hxs;simp only [show foR ([]:List Formal)=[] from rfl] at hS;have hI2:=A2o p x 2;have hI1:=A2o p x 1;obtain⟨hcl,hcc⟩:=C2w (p:=p) h hx;have hsl:=A3h hfit.sm [] x;have hsn:=B2e hfit.sm htl hr hxs hxn.args;unfold A6t F6z D1p E5j;generalize (A8b p s.calls x).calls=C at *;cases hi2:A1w p x 2 with
 | true =>
  have hi1:¬ A1w p x 1=true:=fun hh=>by have:=(A7d hi2).1;have:=(A7d hh).1;omega
  rw [hi2] at hI2;rw [if_neg hi1,if_pos rfl,List.nil_append];generalize x.mg=nm at *;generalize A3o p [] x=ss at *;refine cB Tryz.func12 ?_;refine sR A3p ?_;refine sC hT A3p ?_;refine sC hM A3p ?_;refine sC hS A3p ?_;refine kC hI2 A3p fun K1 u1=>?_;refine tI ?_;clear u1 K1;refine sR A3p ?_;refine AWp.promoteBox 902 7 10 4 rfl rfl (by decide) ?_;refine kR A3p fun K1 u1=>?_;refine AWp.bb (AWp.ii C (X:=Unit) (fun j _=>[(3,.box 3 0),(8,.d (.slice (caR C))),(9,.d (.slice (siR ss))),(10,.box 10 0),(11,A0g j)])
   (fun j _=>[(3,.cells ((prC p).map .d)),(10,.cells (deI nm (.acc 902))),(902,.rows 7 (siR ((C.take j).filterMap (A6g p))))])
   (fun _ _=>True) () trivial sS (by simp [ble,A0h,siR,prC]) ?_ ?_)
  rotate_left
  ·intro j _ c hc hmem dp tk hlt _;have hj:=(List.getElem?_eq_some_iff.1 hc).1;have hm:=D3f p hfit.sm htl hr c (hcc c hmem).2;have e2:siR ((C.take (j+1)).filterMap (A6g p))=siR ((C.take j).filterMap (A6g p))++siR (A6g p c).toList:=by
    rw [List.take_succ_eq_append_getElem hj,(List.getElem?_eq_some_iff.1 hc).2,List.filterMap_append];cases hmc:A6g p c <;> simp [siR,hmc]
   have e3:(siR ((C.take j).filterMap (A6g p))).length≤j:=by simp only [siR,List.length_map];have:=List.length_filterMap_le (A6g p) (C.take j);rw [List.length_take] at this;omega
   rw [e2];generalize siR ((C.take j).filterMap (A6g p))=PR at *;refine sK fun K2 u2=>?_
   (refine sQ A3p fun K z=>?_;simp -implicitDefEqProofs only [EV,Nat.reduceEqDiff,reduceCtorEq,B1h,hlt,A1a];apply z;clear z K)
   refine gI u2 ?_;clear u2 K2;refine sK fun K2 u2=>?_;refine AWp.bb ?_;cases hmc:A6g p c with
   | none =>
    rw [hmc] at hm;unfold sgR at hm
    (refine sG A3p [] 11 [⟨[],[],[12],[12]⟩,⟨[],[],[12],[12]⟩,⟨[],[],[12],[12]⟩,⟨[],[],[12],[12]⟩,⟨[],[],[12],[12]⟩,⟨[],[],[12],[12]⟩,⟨[],[],[12],[12]⟩,⟨[],[],[12],[12]⟩,⟨[],[],[12],[12]⟩,⟨[12],[12],[],[]⟩,⟨[12],[],[],[]⟩] fun K z=>?_;refine ev ?_;refine⟨by omega,_,A1s hc,rfl,?_⟩;(try simp -implicitDefEqProofs only [EV,Nat.reduceAdd,Nat.reduceEqDiff,Nat.reduceBEq,reduceCtorEq,caC]);refine cc hm ?_;apply z;clear z K)
    refine sR A3p ?_;refine AWp.ff rfl (AWp.kk (u2 _ _ ?_));clear u2 K2;refine lT A3p ?_;exact⟨(),trivial,sS,by simp [ble,A0h,siR,prC,hmc]⟩
   | some d =>
    rw [hmc] at hm;unfold sgR at hm
    (refine sG A3p [] 11 [⟨[],[],[12],[12]⟩,⟨[],[],[12],[12]⟩,⟨[],[],[12],[12]⟩,⟨[],[],[12],[12]⟩,⟨[],[],[12],[12]⟩,⟨[],[],[12],[12]⟩,⟨[],[],[12],[12]⟩,⟨[],[],[12],[12]⟩,⟨[],[],[12],[12]⟩,⟨[12],[12],[],[]⟩,⟨[12],[],[],[]⟩] fun K z=>?_;refine ev ?_;refine⟨by omega,_,A1s hc,rfl,?_⟩;(try simp -implicitDefEqProofs only [EV,Nat.reduceAdd,Nat.reduceEqDiff,Nat.reduceBEq,reduceCtorEq,caC]);refine cc hm ?_;apply z;clear z K)
    refine sR A3p ?_;refine AWp.tt rfl ?_
    (refine lV A3p fun K z=>?_;refine⟨by simp,by unfold lim sm at *;omega,?_⟩;(try refine ev ?_);apply z;clear z K;try simp only [A0c,A0e])
    refine u2 _ _ ?_;clear u2 K2;refine lT A3p ?_;exact⟨(),trivial,sS,by simp [ble,A0h,siR,siC,prC,hmc]⟩
  intro _ _;rw [List.take_length];have hcfl:=List.length_filterMap_le (A6g p) C;generalize hCM:C.filterMap (A6g p)=cm at *;refine sK fun K2 u2=>?_
  (refine sQ A3p fun K z=>?_;simp -implicitDefEqProofs only [EV,Nat.reduceEqDiff,reduceCtorEq,B1h,Int.lt_irrefl,A1a];apply z;clear z K)
  refine AWp.ss rfl ?_;simp only [TB];refine u1 _ _ ?_;clear u2 K2 u1 K1;refine kR A3p fun K1 u1=>?_;refine AWp.bb (AWp.ii ss (X:=Unit) (fun j _=>[(9,.d (.slice (siR ss))),(10,.box 10 0),(14,A0g j)])
   (fun j _=>[(10,.cells (deI nm (.acc 902))),(902,.rows 7 (siR (cm++(ss.take j).map B7u)))])
   (fun _ _=>True) () trivial sS sB ?_ ?_)
  rotate_left
  ·intro j _ s hs hmem dp tk hlt _;have hj:=(List.getElem?_eq_some_iff.1 hs).1;have hsd:=hsn s hmem;have hdu:=C2u s (Sig.Ni.dum ⟨hsd.sm,⟨hsd.formals.1,fun f hf=>⟨(hsd.formals.2 f hf).mg,by have:=(hsd.formals.2 f hf).len;omega⟩⟩,⟨hsd.params.1,fun f hf=>⟨(hsd.params.2 f hf).mg,by have:=(hsd.params.2 f hf).len;omega⟩⟩,⟨hsd.result.mg,by have:=hsd.result.len;omega⟩⟩);have e2:siR (cm++(ss.take (j+1)).map B7u)=siR (cm++(ss.take j).map B7u)++[siC (B7u s)]:=by
    rw [List.take_succ_eq_append_getElem hj,(List.getElem?_eq_some_iff.1 hs).2];simp [siR]
   have e3:(siR (cm++(ss.take j).map B7u)).length≤2*sm+1:=by simp only [siR,List.length_map,List.length_append,List.length_take];omega
   rw [e2];generalize siR (cm++(ss.take j).map B7u)=PR at *;generalize B7u s=g at *;refine kR1 hlt A3p fun K2 u2=>?_;refine gI u2 ?_;clear u2 K2;refine sK fun K2 u2=>?_;refine AWp.bb ?_
   (refine lG A3p [] 8 [] fun K z=>?_;refine ev ?_;refine ci (A0n hs) ?_;refine cc hdu ?_;refine⟨by simp,by unfold lim sm at *;omega,?_⟩;(try refine ev ?_);apply z;clear z K;try simp only [A0c,A0e])
   refine u2 _ _ ?_;clear u2 K2;refine lT A3p ?_;exact⟨(),trivial,sS,by simp [ble,A0h,siC]⟩
  intro _ _;rw [List.take_length];refine kR1 Int.lt_irrefl A3p fun K2 u2=>?_;refine AWp.ss rfl ?_;simp only [TB];refine u1 _ _ ?_;clear u2 K2 u1 K1
  (refine AWp.publish 902 rfl (wk [(10,.box 10 0)] [(10,.cells (deI nm (.d (.slice (siR (cm++ss.map B7u))))))] ?_))
  refine sR A3p ?_;exact aR
 | false =>
 rw [hi2] at hI2;rw [if_neg (by simp:¬ false=true),List.append_nil];cases hi1:A1w p x 1 with
 | false =>rw [hi1] at hI1;rw [if_neg (by simp),show deR []=[] from rfl];refine cB Tryz.func12 ?_;refine sR A3p ?_;refine sC hT A3p ?_;refine sC hM A3p ?_;refine sC hS A3p ?_;refine kC hI2 A3p fun K1 u1=>?_;refine kI u1 ?_;clear u1 K1;refine kC hI1 A3p fun K1 u1=>?_;refine tI ?_;refine sR A3p ?_;exact aR
 | true =>
 have hF:=B3a p hfit.sm x hxs hi1;rw [hi1] at hI1;rw [if_pos rfl];have hfn:=C6y htl hr hfit.sm hxn.args;have hfl:(A1c p x).length≤sm:=A7g hfit.sm x;have hxa:=hxs.len;have hpl:=hfit.sm.decls.1;generalize hNM:x.mg=nm at *;generalize A1c p x=fs at *;generalize A3o p [] x=ss at *;refine cB Tryz.func12 ?_;refine sR A3p ?_;refine sC hT A3p ?_;refine sC hM A3p ?_;refine sC hS A3p ?_;refine kC hI2 A3p fun K1 u1=>?_;refine kI u1 ?_;clear u1 K1;refine kC hI1 A3p fun K1 u1=>?_;refine kI u1 ?_;clear u1 K1;refine sR A3p ?_;refine AWp.promoteBox 901 5 15 3 rfl rfl (by decide) ?_;refine sC hF A3p ?_;refine kR A3p fun K1 u1=>?_;refine AWp.bb (AWp.ii fs (X:=Unit) (fun j _=>[(3,.box 3 0),(5,.box 5 0),(7,A2d nm),(8,.d (.slice (caR C))),(9,.d (.slice (siR ss))),(15,.box 15 0),(16,.d (.slice (paR fs))),(17,A0g j)])
  (fun j _=>[(3,.cells ((prC p).map .d)),(5,.cells (tyS x)),(15,.cells (deH nm (.acc 901))),(901,.rows 5 (paR (plF (fs.take j))))])
  (fun _ _=>True) () trivial sS (by simp [ble,A0h,paR,plF,prC]) ?_ ?_)
 rotate_left
 ·intro j _ d hd hmem dp tk hlt _;have hj:=(List.getElem?_eq_some_iff.1 hd).1;have hdn:=hfn d hmem;have hdp:=A7h d.type hdn.mg (by have:=hdn.len;omega);have e3:(paR (plF (fs.take j))).length=j:=by simp only [paR,plF,List.length_map,List.length_take];omega
  rw [E0w hd];generalize paR (plF (fs.take j))=PR at *;refine kR1 hlt A3p fun K2 u2=>?_;refine gI u2 ?_;clear u2 K2;refine sK fun K2 u2=>?_;refine AWp.bb ?_
  (refine lG A3p [] 15 [] fun K z=>?_;refine ev ?_;refine ci (A0r hd) ?_;refine ci (A0r hd) ?_;refine⟨_,.inl ⟨_,rfl,hdp,rfl⟩,?_⟩;(try refine ev1 e3 ?_);refine⟨by simp,by (try simp only [e3]);unfold lim sm at *;omega,?_⟩;(try refine ev1 e3 ?_);apply z;clear z K;try simp only [A0c,A0e])
  refine u2 _ _ ?_;clear u2 K2;refine lT A3p ?_;exact⟨(),trivial,sS,by simp [ble,A0h,paC,prC]⟩
 intro _ _;rw [List.take_length];refine kR1 Int.lt_irrefl A3p fun K2 u2=>?_;refine AWp.ss rfl ?_;simp only [TB];refine u1 _ _ ?_;clear u2 K2 u1 K1
 (refine AWp.publish 901 rfl (wk [(3,.box 3 0),(5,.box 5 0),(7,A2d nm),(8,.d (.slice (caR C))),(9,.d (.slice (siR ss))),(15,.box 15 0)] [(3,.cells ((prC p).map .d)),(5,.cells (tyS x)),(15,.cells (deH nm (.d (.slice (paR (plF fs))))))] ?_))
 (refine AWp.seqR A3p [116] (by decide +kernel) fun K z=>?_;refine ev ?_;apply z;clear z K)
 refine kR A3p fun K1 u1=>?_;refine AWp.bb (AWp.ii C (X:=Unit) (fun j _=>[(3,.box 3 0),(5,.box 5 0),(7,A2d nm),(8,.d (.slice (caR C))),(9,.d (.slice (siR ss))),(18,.acc 116),(19,A0g j)])
  (fun j _=>[(3,.cells ((prC p).map .d)),(5,.cells (tyS x)),(116,.rows 23 (deR (headD 1 nm (plF fs) []::(C.take j).filterMap (A4w A6c p))))])
  (fun _ _=>True) () trivial sS ⟨rfl,rfl,rfl,trivial⟩ ?_ ?_)
 rotate_left
 ·intro j _ c hc hmem dp tk hlt _;have hj:=(List.getElem?_eq_some_iff.1 hc).1;obtain⟨hcx,hcn⟩:=hcc c hmem;have hmp:=C1t p hpl x c.name;have e2:deR (headD 1 nm (plF fs) []::(C.take (j+1)).filterMap (A4w A6c p))=deR (headD 1 nm (plF fs) []::(C.take j).filterMap (A4w A6c p))++deR (A4w A6c p c).toList:=by
   rw [List.take_succ_eq_append_getElem hj,(List.getElem?_eq_some_iff.1 hc).2,List.filterMap_append];cases hmc:A4w A6c p c <;> simp [deR,hmc]
  have e3:(deR (headD 1 nm (plF fs) []::(C.take j).filterMap (A4w A6c p))).length≤j+1:=by simp only [deR,List.length_map,List.length_cons];have:=List.length_filterMap_le (A4w A6c p) (C.take j);rw [List.length_take] at this;omega
  rw [e2];generalize deR (headD 1 nm (plF fs) []::(C.take j).filterMap (A4w A6c p))=PR at *;refine sK fun K2 u2=>?_
  (refine sQ A3p fun K z=>?_;simp -implicitDefEqProofs only [EV,Nat.reduceEqDiff,reduceCtorEq,B1h,hlt,A1a];apply z;clear z K)
  refine gI u2 ?_;clear u2 K2;refine AWp.seqM fun K3 u3 mK3=>?_;refine AWp.bb ?_;have skip:A4w A6c p c=none→K3 [(3,.box 3 0),(5,.box 5 0),(7,A2d nm),(8,.d (.slice (caR C))),(9,.d (.slice (siR ss))),(18,.acc 116),(19,A0g j)] [(3,.cells ((prC p).map .d)),(5,.cells (tyS x)),(116,.rows 23 PR)]:=by intro hn;refine u3 _ _ ?_;refine lT A3p ?_;exact⟨(),trivial,sS,by simp [ble,A0h,hn,deR,prC]⟩
  have hG:A4w A6c p c=match A8q p x c.name with
   | none=>none
   | some d=>match A6g p c with
    | none=>none
    | some g=>some ⟨3,nm,[],[],[],d.recv,[],⟨g.name,[],A8z g.params d.sig.params,g.result,0⟩,A6c (B6n d x c),0⟩:=by
   unfold A4w;rw [hcx,hNM] <;> rfl
  have hsg:=D3f p hfit.sm htl hr c hcn;rcases F9w p x c.name with ⟨h1,h2⟩ | ⟨i,d,h1,hdi,h2⟩
  ·rw [h2] at hG;generalize B0q p x c.name=k at *;cases ho:A6g p c with
   | none =>
    rw [ho] at hsg;unfold sgR at hsg
    (refine sG A3p [] 7 [] fun K z=>?_;refine ev ?_;refine⟨by omega,_,A1s hc,rfl,?_⟩;(try simp -implicitDefEqProofs only [EV,Nat.reduceAdd,Nat.reduceEqDiff,reduceCtorEq,caC]);refine cc hmp ?_;apply z;clear z K)
    (refine sG A3p [] 11 [⟨[],[],[21],[21]⟩,⟨[],[],[21],[21]⟩,⟨[],[],[21],[21]⟩,⟨[],[],[21],[21]⟩,⟨[],[],[21],[21]⟩,⟨[],[],[21],[21]⟩,⟨[],[],[21],[21]⟩,⟨[],[],[21],[21]⟩,⟨[],[],[21],[21]⟩,⟨[21],[21],[],[]⟩,⟨[21],[],[],[]⟩] fun K z=>?_;refine ev ?_;refine⟨by omega,_,A1s hc,rfl,?_⟩;(try simp -implicitDefEqProofs only [EV,Nat.reduceAdd,Nat.reduceEqDiff,Nat.reduceBEq,reduceCtorEq,caC]);refine cc hsg ?_;apply z;clear z K)
    refine kR1 h1 A3p fun K4 u4=>?_;refine AWp.tt rfl (AWp.xx ?_);simp only [TB];exact mK3 sS (by simp [ble,A0h,prC]) (skip hG)
   | some g =>
    rw [ho] at hsg;unfold sgR at hsg
    (refine sG A3p [] 7 [] fun K z=>?_;refine ev ?_;refine⟨by omega,_,A1s hc,rfl,?_⟩;(try simp -implicitDefEqProofs only [EV,Nat.reduceAdd,Nat.reduceEqDiff,reduceCtorEq,caC]);refine cc hmp ?_;apply z;clear z K)
    (refine sG A3p [] 11 [⟨[],[],[21],[21]⟩,⟨[],[],[21],[21]⟩,⟨[],[],[21],[21]⟩,⟨[],[],[21],[21]⟩,⟨[],[],[21],[21]⟩,⟨[],[],[21],[21]⟩,⟨[],[],[21],[21]⟩,⟨[],[],[21],[21]⟩,⟨[],[],[21],[21]⟩,⟨[21],[21],[],[]⟩,⟨[21],[],[],[]⟩] fun K z=>?_;refine ev ?_;refine⟨by omega,_,A1s hc,rfl,?_⟩;(try simp -implicitDefEqProofs only [EV,Nat.reduceAdd,Nat.reduceEqDiff,Nat.reduceBEq,reduceCtorEq,caC]);refine cc hsg ?_;apply z;clear z K)
    refine kR1 h1 A3p fun K4 u4=>?_;refine AWp.tt rfl (AWp.xx ?_);simp only [TB];exact mK3 sS (by simp [ble,A0h,prC]) (skip hG)
  rw [h2] at hG;simp only at hG;rw [h1] at hmp;have hi0:¬ (i:Int) < 0:=by omega
  cases ho:A6g p c with
  | none =>
   rw [ho] at hsg hG;unfold sgR at hsg
   (refine sG A3p [] 7 [] fun K z=>?_;refine ev ?_;refine⟨by omega,_,A1s hc,rfl,?_⟩;(try simp -implicitDefEqProofs only [EV,Nat.reduceAdd,Nat.reduceEqDiff,reduceCtorEq,caC]);refine cc hmp ?_;apply z;clear z K)
   (refine sG A3p [] 11 [⟨[],[],[21],[21]⟩,⟨[],[],[21],[21]⟩,⟨[],[],[21],[21]⟩,⟨[],[],[21],[21]⟩,⟨[],[],[21],[21]⟩,⟨[],[],[21],[21]⟩,⟨[],[],[21],[21]⟩,⟨[],[],[21],[21]⟩,⟨[],[],[21],[21]⟩,⟨[21],[21],[],[]⟩,⟨[21],[],[],[]⟩] fun K z=>?_;refine ev ?_;refine⟨by omega,_,A1s hc,rfl,?_⟩;(try simp -implicitDefEqProofs only [EV,Nat.reduceAdd,Nat.reduceEqDiff,Nat.reduceBEq,reduceCtorEq,caC]);refine cc hsg ?_;apply z;clear z K)
   refine kR1 hi0 A3p fun K4 u4=>?_;refine AWp.tt rfl (AWp.xx ?_);simp only [TB];exact mK3 sS (by simp [ble,A0h,prC]) (skip hG)
  | some g =>
   rw [ho] at hG;simp only at hG;clear skip mK3 hsg;obtain⟨hn0,sg,hsgm,hsgs,hsgn,hsgl,rfl⟩:=D2y ho;have hA:=E5e p hfit.sm htl hr c hcn sg hn0 hsgm hsgl;obtain⟨hdm,hdk,_,_⟩:=B0m h2;obtain⟨d',_,_,_,_,he,hd'⟩:=D2x hi1 (B9v.1 (by rw [← hcx];exact hsgs));rw [hsgn,h2] at hd';cases hd';have hds:=hfit.sm.decls.2 d hdm;have hpn:(B9m c sg).params.length=d.sig.params.length:=by show (A8w _).length=_;rw [B0e,List.length_map,he];simp only [Sig.subst,List.length_map,Sig.canon,A4m]
   have hres:(B9m c sg).result=.mk (B9m c sg).result.name [] 0:=rfl;have hgp:(B9m c sg).params.length≤sm:=by rw [hpn];exact hds.sig.params.1
   obtain⟨hq,hbs,hrs⟩:=D6k hp hfit.sm hr hdm hdk hcn;rw [hcx] at hq hbs hrs;have hXe:=C6s (B6n d x c) (G3q (B:=720000000) (by decide) hbs hq hrs);have hSb:=C6h (A7j d) (B1d x c) (fun u hu=>(List.mem_append.1 hu).elim (hxs.arg u) (hcn.sm.targs.2 u)) d.body hds.body;have hNm:=A1u d.sig.formals hds.sig.formals.1;have hmn:A2x (A7j d)=A2x d.vars++A2x (d.sig.formals.map (·.name)):=by simp [A7j,A2x,A0d]
   have hma:tyR (B1d x c)=tyR x.args++tyR c.targs:=by simp [B1d,A1o]
   have hvl:=hds.vars.1;have hfl2:=hds.sig.formals.1;have hctl:=hcn.sm.targs.1;have hG2:A4w A6c p c=some ⟨3,nm,[],[],[],d.recv,[],⟨(B9m c sg).name,[],A8z (B9m c sg).params d.sig.params,.mk (B9m c sg).result.name [] 0,0⟩,A6c (d.body.subst (A7j d) (B1d x c)),0⟩:=hG;clear hG;unfold B6n at hXe;generalize (B9m c sg).name=gn at *;generalize (B9m c sg).result.name=rn at *;generalize (B9m c sg).params=ps at *;generalize hNN:A7j d=NN at *;generalize hAA:B1d x c=AA at *
   (refine sG A3p [] 7 [] fun K z=>?_;refine ev ?_;refine⟨by omega,_,A1s hc,rfl,?_⟩;(try simp -implicitDefEqProofs only [EV,Nat.reduceAdd,Nat.reduceEqDiff,reduceCtorEq,caC]);refine cc hmp ?_;apply z;clear z K)
   (refine sG A3p [800137] 11 [⟨[],[],[21],[21]⟩,⟨[],[],[21],[21]⟩,⟨[],[],[21],[21]⟩,⟨[],[],[21],[21]⟩,⟨[],[],[21],[21]⟩,⟨[25],[25],[21],[21]⟩,⟨[],[],[21],[21]⟩,⟨[],[],[21],[21]⟩,⟨[],[],[21],[21]⟩,⟨[21],[21],[25],[25]⟩,⟨[21],[],[],[]⟩] fun K z=>?_;refine ev ?_;refine⟨by omega,_,A1s hc,rfl,?_⟩;(try simp -implicitDefEqProofs only [EV,Nat.reduceAdd,Nat.reduceBEq,caC,]);refine⟨_,_,_,C0s 25 rfl rfl rfl hA rfl (by decide) rfl,?_⟩;(try simp -implicitDefEqProofs only [EV,Nat.reduceAdd,Nat.reduceEqDiff,Nat.reduceBEq,Nat.reduceLeDiff,reduceCtorEq,B6e,SV.ren,SV.renL,G3j]);apply z;clear z K)
   refine kR1 hi0 A3p fun K4 u4=>?_;refine kI u4 ?_;clear u4 K4
   (refine sV A3p fun K z=>?_;refine ci (A0t hdi) ?_;apply z;clear z K)
   refine kR A3p fun K4 u4=>?_;refine AWp.bb (AWp.ii ps (X:=Unit) (fun i _=>[(3,.box 3 0),(5,.box 5 0),(7,A2d nm),(8,.d (.slice (caR C))),(9,.d (.slice (siR ss))),(18,.acc 116),(19,A0g j),(21,.box 21 0),(23,.box 23 0),(24,A0g i)])
    (fun i _=>[(3,.cells ((prC p).map .d)),(5,.cells (tyS x)),(116,.rows 23 PR),(21,.cells (agS gn rn (.acc 25))),(23,.cells (deS d)),(25,.rows 5 (paR (A8z (ps.take i) d.sig.params++ps.drop i)))])
    (fun _ _=>True) () trivial sS (by simp [ble,A0h,A8z,prC]) ?_ ?_)
   rotate_left
   ·intro i _ q hq hmem2 hdrop2 htake2 hlt2 _;obtain⟨e,he⟩:∃ e,d.sig.params[i]? = some e:=⟨_,List.getElem?_eq_getElem (by have:=(List.getElem?_eq_some_iff.1 hq).1;omega)⟩;have hrl:(A8z (ps.take i) d.sig.params).length=i:=by
     have:=(List.getElem?_eq_some_iff.1 hq).1;simp only [A8z,List.length_zipWith,List.length_take];omega
    have hrow:(paR (A8z (ps.take i) d.sig.params++ps.drop i))[i]? = some (paC q):=A0r (by rw [List.getElem?_append_right (by omega),hrl,Nat.sub_self,hdrop2];rfl)
    have hnext:paR (A8z (ps.take (i+1)) d.sig.params++ps.drop (i+1))=(paR (A8z (ps.take i) d.sig.params++ps.drop i)).set i (setAll (paC q) 0 [.str e.name]):=E8a hq he hdrop2 htake2 hrl;have hpl2:(paR (A8z (ps.take i) d.sig.params++ps.drop i)).length=ps.length:=by rw [B0o,List.length_append,hrl,List.length_drop];have:=(List.getElem?_eq_some_iff.1 hq).1;omega
    have hj64:i≤sm:=by have:=(List.getElem?_eq_some_iff.1 hq).1;omega
    unfold sm at hj64;have hjl:i < (paR (A8z (ps.take i) d.sig.params++ps.drop i)).length:=(List.getElem?_eq_some_iff.1 hrow).1;generalize paR (A8z (ps.take i) d.sig.params++ps.drop i)=QR at *;refine kR2 hlt2 hpl2 A3p fun K5 u5=>?_;refine gI u5 ?_;clear u5 K5;refine sK fun K5 u5=>?_;refine AWp.bb ?_
    (refine lG A3p [] 10 [] fun K z=>?_;refine ev ?_;refine ci (A0r he) ?_;refine⟨by omega,hjl,paC q,[.str e.name],hrow,rfl,by simp [paC],?_⟩;(try refine ev ?_);apply z;clear z K;try simp only [A0c,A0e])
    refine u5 _ _ ?_;clear u5 K5
    (refine lV A3p fun K z=>?_;refine cl ?_;apply z;clear z K;try simp only [A0c,])
    exact⟨(),trivial,sS,by simp [ble,A0h,prC];exact hnext.symm⟩
   intro _ _;have hlast:(paR (A8z (ps.take ps.length) d.sig.params++ps.drop ps.length)).length=ps.length:=by rw [List.take_length,List.drop_length,List.append_nil,B0o];simp only [A8z,List.length_zipWith];omega
   rw [List.take_length,List.drop_length,List.append_nil] at hlast ⊢;refine kR2 Int.lt_irrefl hlast A3p fun K5 u5=>?_;refine AWp.ss rfl ?_;simp only [TB];refine u4 _ _ ?_;clear u5 K5 u4 K4
   (refine sG A3p [170] 7 [⟨[170],[170],[],[]⟩,⟨[],[],[170],[170]⟩,⟨[],[],[170],[170]⟩,⟨[170],[170],[],[]⟩,⟨[],[],[170],[170]⟩,⟨[],[],[170],[170]⟩,⟨[],[],[170],[170]⟩] fun K z=>?_;refine ev ?_;refine⟨A6m _,by (try simp only [A2x,List.length_map,List.length_nil]);unfold lim sm at *;omega,?_⟩;(try refine ev ?_);refine cc hNm ?_;refine⟨A6m _,by (try simp only [List.length_map]);unfold lim sm at *;omega,?_⟩;(try refine ev ?_);apply z;clear z K)
   (refine sG A3p [179] 9 [⟨[179],[179],[],[]⟩,⟨[],[],[179],[179]⟩,⟨[],[],[179],[179]⟩,⟨[179],[179],[],[]⟩,⟨[],[],[179],[179]⟩,⟨[],[],[179],[179]⟩,⟨[],[],[179],[179]⟩,⟨[],[],[179],[179]⟩,⟨[],[],[179],[179]⟩] fun K z=>?_;refine ev ?_;refine⟨C0f _,by (try simp only [A1o,List.length_map,List.length_nil]);unfold lim sm at *;omega,?_⟩;(try simp -implicitDefEqProofs only [EV,forall_const,implies_true,Nat.reduceAdd,Nat.reduceEqDiff,Nat.reduceBEq,Nat.reduceLeDiff,Nat.reduceSub,Nat.reduceMul,Int.reduceEq,Int.reduceLT,Int.reduceLE,Int.reduceSub,Int.reduceAdd,Int.reduceToNat,reduceCtorEq,Int.reduceNeg,TF3,TF4,TF9,F2w,B1i,A6s,B3i,B9o,B1h,B2x,C3x,C4a,C8q,G1u,B6e,E1b,C3z,E2k,B0g,caC]);refine⟨by omega,_,A1s hc,rfl,?_⟩;(try simp -implicitDefEqProofs only [EV,Nat.reduceAdd,Nat.reduceEqDiff,Nat.reduceBEq,Nat.reduceLeDiff,reduceCtorEq,B1i,A6s,caC]);refine⟨C0f _,by (try simp only [A1o,List.length_append,List.length_map,List.length_nil]);unfold lim sm at *;omega,?_⟩;(try simp -implicitDefEqProofs only [EV,forall_const,implies_true,Nat.reduceAdd,Nat.reduceEqDiff,Nat.reduceBEq,Nat.reduceLeDiff,Nat.reduceSub,Nat.reduceMul,Int.reduceEq,Int.reduceLT,Int.reduceLE,Int.reduceSub,Int.reduceAdd,Int.reduceToNat,reduceCtorEq,Int.reduceNeg,TF3,TF4,TF9,F2w,B1i,A6s,B3i,B9o,B1h,B2x,C3x,C4a,C8q,G1u,B6e,E1b,C3z,E2k,B0g,caC]);apply z;clear z K)
   rw [← hmn,← hma]
   (refine AWp.publish 170 rfl ?_;refine AWp.publish 179 rfl ?_;refine AWp.publish 25 rfl (wk [(3,.box 3 0),(5,.box 5 0),(7,A2d nm),(8,.d (.slice (caR C))),(9,.d (.slice (siR ss))),(18,.acc 116),(19,A0g j),(21,.box 21 0),(23,.box 23 0),(25,A1m NN),(26,A3s AA)] [(3,.cells ((prC p).map .d)),(5,.cells (tyS x)),(116,.rows 23 PR),(21,.cells (agS gn rn (.d (.slice (paR (A8z ps d.sig.params)))))),(23,.cells (deS d))] ?_))
   (refine sV A3p fun K z=>?_;refine cc hSb ?_;refine cc hXe ?_;apply z;clear z K)
   generalize A6c (d.body.subst NN AA)=bm at *;generalize A8z ps d.sig.params=pr at *
   (refine lV A3p fun K z=>?_;refine⟨by simp,by unfold lim sm at *;omega,?_⟩;(try refine ev ?_);apply z;clear z K;try simp only [A0c,A0e])
   refine u3 _ _ ?_;clear u3 K3;refine lT A3p ?_;exact⟨(),trivial,sS,by simp [ble,A0h,deR,deC,prC,hG2];repeat' first | rfl | constructor⟩
 intro _ _;rw [List.take_length];have hcfl:=List.length_filterMap_le (A4w A6c p) C;refine sK fun K2 u2=>?_
 (refine sQ A3p fun K z=>?_;simp -implicitDefEqProofs only [EV,Nat.reduceEqDiff,reduceCtorEq,B1h,Int.lt_irrefl,A1a];apply z;clear z K)
 refine AWp.ss rfl ?_;simp only [TB];refine u1 _ _ ?_;clear u2 K2 u1 K1;refine kR A3p fun K1 u1=>?_;refine AWp.bb (AWp.ii ss (X:=Unit) (fun j _=>[(7,A2d nm),(9,.d (.slice (siR ss))),(18,.acc 116),(28,A0g j)])
  (fun j _=>[(116,.rows 23 (deR (headD 1 nm (plF fs) []::(C.filterMap (A4w A6c p)++(ss.take j).map (C4b nm)))))])
  (fun _ _=>True) () trivial sS (by simp [ble,A0h,deR]) ?_ ?_)
 rotate_left
 ·intro j _ s hs hmem dp tk hlt _;have hj:=(List.getElem?_eq_some_iff.1 hs).1;have hsd:=hsn s hmem;have hdu:=C2u s (Sig.Ni.dum ⟨hsd.sm,⟨hsd.formals.1,fun f hf=>⟨(hsd.formals.2 f hf).mg,by have:=(hsd.formals.2 f hf).len;omega⟩⟩,⟨hsd.params.1,fun f hf=>⟨(hsd.params.2 f hf).mg,by have:=(hsd.params.2 f hf).len;omega⟩⟩,⟨hsd.result.mg,by have:=hsd.result.len;omega⟩⟩);have e2:deR (headD 1 nm (plF fs) []::(C.filterMap (A4w A6c p)++(ss.take (j+1)).map (C4b nm)))=deR (headD 1 nm (plF fs) []::(C.filterMap (A4w A6c p)++(ss.take j).map (C4b nm)))++[deC (C4b nm s)]:=by
   rw [List.take_succ_eq_append_getElem hj,(List.getElem?_eq_some_iff.1 hs).2];simp [deR]
  have e3:(deR (headD 1 nm (plF fs) []::(C.filterMap (A4w A6c p)++(ss.take j).map (C4b nm)))).length≤2*sm+1:=by simp only [deR,List.length_map,List.length_cons,List.length_append,List.length_take];omega
  rw [e2];generalize deR (headD 1 nm (plF fs) []::(C.filterMap (A4w A6c p)++(ss.take j).map (C4b nm)))=PR at *;unfold C4b;generalize B7u s=g at *;refine kR1 hlt A3p fun K2 u2=>?_;refine gI u2 ?_;clear u2 K2;refine sK fun K2 u2=>?_;refine AWp.bb ?_
  (refine lV A3p fun K z=>?_;refine ci (A0n hs) ?_;refine cc hdu ?_;refine⟨by simp,by unfold lim sm at *;omega,?_⟩;(try refine ev ?_);apply z;clear z K;try simp only [A0c,A0e])
  refine u2 _ _ ?_;clear u2 K2;refine lT A3p ?_;exact⟨(),trivial,sS,⟨rfl,trivial⟩⟩
 intro _ _;rw [List.take_length];refine kR1 Int.lt_irrefl A3p fun K2 u2=>?_;refine AWp.ss rfl ?_;simp only [TB];refine u1 _ _ ?_;clear u2 K2 u1 K1;refine sR A3p ?_;exact aR
end Go.Abs
/- programs compared with themselves; stencil.Program and castingsref23.Program; castingslaw23.sets; the walks of StencilMatchesReference and StencilTypes -/
namespace Go.Abs
set_option maxHeartbeats 1000000
set_option linter.unusedSimpArgs false
set_option linter.unusedVariables false
open Go Go.Proofs
set_option maxRecDepth 100000
set_option maxHeartbeats 4000000
theorem D0f {α:Type} {p:α→α→Bool} (h:∀ x,p x x=true):∀ l:List α,eqL p l l=true
 | []=>rfl
 | x::l=>by rw [eqL,h x,D0f h l];rfl
structure Decl.Lm (d:Decl):Prop where
 formals:d.formals.length≤sm∧∀ f,f∈d.formals→f.bound.Lm
 fields:d.fields.length≤sm∧∀ f,f∈d.fields→f.type.Lm
 sigs:d.sigs.length≤3*sm∧∀ s,s∈d.sigs→s.Lm
 vars:d.vars.length≤sm
 sig:d.sig.Lm
 body:d.body.Lm
abbrev D9w:List Nat:=[0,1,2,3,4,6,7,8,63,68,83,88,101,116]
theorem F0u (d:Decl)(h:d.Lm):A0a Tryz.prog 57 [deV d,deV d,A0m false] (A0m true):=by
 have h1:=C2r d.formals d.formals h.formals.1 h.formals.2;rw [D0f (fun x=>by simp [A7x,A5i])] at h1;have h2:=C4z d.fields d.fields h.fields.1 h.fields.2;rw [D0f (fun x=>by simp [A7s,A5i])] at h2;have h3:=C9z d.sig d.sig h.sig;rw [C4t] at h3;have h4:=B4f d.body h.body d.body;rw [C6w] at h4;have hsl:=h.sigs.1;have hvl:=h.vars;refine cB Tryz.func57 ?_;refine sR D9w ?_;refine sK fun K1 u1=>?_
 (refine sV D9w fun K z=>?_;refine cc h1 ?_;refine cc h2 ?_;apply z;clear z K)
 refine kI u1 ?_;clear u1 K1;refine kR D9w fun K1 u1=>?_;refine AWp.bb (AWp.ii d.sigs (X:=Unit) (fun j _=>[(2,A0m false),(3,.box 3 0),(4,.box 4 0),(7,A0g j)]) (fun _ _=>[(3,.cells (deS d)),(4,.cells (deS d))])
  (fun _ _=>True) () trivial sS sB ?_ ?_)
 rotate_left
 ·intro j _ s hs hmem dp tk hlt _;have h5:=C9z s s (h.sigs.2 s hmem);rw [C4t] at h5;refine kR1 hlt D9w fun K2 u2=>?_;refine gI u2 ?_;clear u2 K2;refine sK fun K2 u2=>?_;refine AWp.bb ?_
  (refine sG D9w [] 11 [] fun K z=>?_;refine ev ?_;refine ci (A0n hs) ?_;refine ci (A0n hs) ?_;refine cc h5 ?_;apply z;clear z K)
  refine AWp.ff rfl (AWp.kk (u2 _ _ ?_));clear u2 K2;refine lT D9w ?_;exact⟨(),trivial,sS,sB⟩
 intro _ _;refine kR1 Int.lt_irrefl D9w fun K2 u2=>?_;refine AWp.ss rfl ?_;simp only [TB];refine u1 _ _ ?_;clear u2 K2 u1 K1;refine kR D9w fun K1 u1=>?_;refine AWp.bb (AWp.ii d.vars (X:=Unit) (fun j _=>[(2,A0m false),(3,.box 3 0),(4,.box 4 0),(8,A0g j)]) (fun _ _=>[(3,.cells (deS d)),(4,.cells (deS d))])
  (fun _ _=>True) () trivial sS sB ?_ ?_)
 rotate_left
 ·intro j _ s hs hmem dp tk hlt _;refine kR1 hlt D9w fun K2 u2=>?_;refine gI u2 ?_;clear u2 K2;refine sK fun K2 u2=>?_;refine AWp.bb ?_
  (refine sG D9w [] 10 [] fun K z=>?_;refine ev ?_;refine ci (A2b hs) ?_;refine ci (A2b hs) ?_;apply z;clear z K)
  refine AWp.ff rfl (AWp.kk (u2 _ _ ?_));clear u2 K2;refine lT D9w ?_;exact⟨(),trivial,sS,sB⟩
 intro _ _;refine kR1 Int.lt_irrefl D9w fun K2 u2=>?_;refine AWp.ss rfl ?_;simp only [TB];refine u1 _ _ ?_;clear u2 K2 u1 K1;refine sK fun K1 u1=>?_
 (refine sV D9w fun K z=>?_;refine cc h3 ?_;refine cc h4 ?_;apply z;clear z K)
 refine kI u1 ?_;clear u1 K1;refine sR D9w ?_;exact aR
abbrev F7n:List Nat:=[0,1,2,3,4,6,7,33,38,53]
theorem E8s (q:Prog)(hl:q.decls.length≤100000000000)(hd:∀ d,d∈q.decls→d.Lm)(hm:q.main.Lm):A0a Tryz.prog 20 [prV q,prV q,A0m false] (A0m true):=by
 have h4:=B4f q.main hm q.main;rw [C6w] at h4;refine cB Tryz.func20 ?_;refine sR F7n ?_;refine kC h4 F7n fun K1 u1=>?_;refine kI u1 ?_;clear u1 K1;refine kR F7n fun K1 u1=>?_;refine AWp.bb (AWp.ii q.decls (X:=Unit) (fun j _=>[(2,A0m false),(3,.box 3 0),(4,.box 4 0),(7,A0g j)]) (fun _ _=>[(3,.cells ((prC q).map .d)),(4,.cells ((prC q).map .d))])
  (fun _ _=>True) () trivial sS (by simp [ble,A0h,prC]) ?_ ?_)
 rotate_left
 ·intro j _ s hs hmem dp tk hlt _;have h5:=F0u s (hd s hmem);refine kR1 hlt F7n fun K2 u2=>?_;refine gI u2 ?_;clear u2 K2;refine sK fun K2 u2=>?_;refine AWp.bb ?_
  (refine sG F7n [] 11 [] fun K z=>?_;refine ev ?_;refine ci (A0t hs) ?_;refine ci (A0t hs) ?_;refine cc h5 ?_;apply z;clear z K)
  refine AWp.ff rfl (AWp.kk (u2 _ _ ?_));clear u2 K2
  (refine lV F7n fun K z=>?_;refine cl ?_;apply z;clear z K;try simp only [A0c,])
  exact⟨(),trivial,sS,by simp [ble,A0h,prC]⟩
 intro _ _;refine kR1 Int.lt_irrefl F7n fun K2 u2=>?_;refine AWp.ss rfl ?_;simp only [TB];refine u1 _ _ ?_;clear u2 K2 u1 K1;refine sR F7n ?_;exact aR
theorem C9p (q:Prog)(hl:q.decls.length≤100000000000)(hd:∀ d,d∈q.decls→d.Lm)(hm:q.main.Lm):A0a Tryz.prog 8 [prV q,prV q] (A0m true):=by have h:=E8s q hl hd hm;refine cB Tryz.func8 ?_;refine sR [0,1,2,3,4] ?_;refine sC h [0,1,2,3,4] ?_;exact aR
theorem G1i:D6a.Lm:=⟨by simp [D6a],by simp [D6a],.mk _ _ _ (by simp) (by simp)⟩
theorem E7c:ex0.Lm:=F7u.lm
theorem E9b:F7v.Lm:=.mk _ _ _ (by simp) (by simp)
theorem C9s (k:Int)(nm:Str)(fs:List Param)(ss:List Sig)(h1:fs.length≤sm∧∀ f,f∈fs→f.type.Lm)(h2:ss.length≤3*sm∧∀ s,s∈ss→s.Lm):(headD k nm fs ss).Lm :=
 ⟨⟨by simp [headD],by simp [headD]⟩,h1,h2,by simp [headD],G1i,E7c⟩
theorem E8y (s:Sig):(B7u s).Lm:=⟨by simp [B7u],by simp [B7u],E9b⟩
theorem E9s:∀ {e:Ex},e.Sm→(A6c e).Lm:=by
 intro e
 induction e using Ex.induct with | _ e ih=>?_
 intro h;rw [C0z];refine .mk _ _ _ _ _ _ (.mk _ _ _ (by simp) (by simp)) (by simp) (by simp) (by rw [List.length_map];exact h.kids.1) fun x hx=>?_;obtain⟨y,hy,rfl⟩:=List.mem_map.1 hx;exact ih y hy (h.kids.2 y hy)
theorem D8o {p:Prog} (hp:p.count≤600)(hr:p.right=true) {s:SetT} (h:s.Fd) {x:Ty} (hx:x∈s.types):(A6t p s.calls x).length≤3*sm∧∀ d,d∈A6t p s.calls x→d.Lm:=by
 have hfit:=Prog.count_Fit p hp;have htl:=Prog.count_Tl p hp;have hxs:=h.sm.types.2 x hx;have hxn:=h.types x hx;obtain⟨hcl,hcc⟩:=C2w (p:=p) h hx;have hsl:=A3h hfit.sm [] x;have hsn:=B2e hfit.sm htl hr hxs hxn.args;have hfl:(A1c p x).length≤sm:=A7g hfit.sm x;have hmethl:=List.length_filterMap_le (A4w A6c p) (A8b p s.calls x).calls;have happl:=List.length_filterMap_le (A6g p) (A8b p s.calls x).calls;unfold A6t F6z D1p E5j;generalize (A8b p s.calls x).calls=C at *;refine⟨?_,fun d hd=>?_⟩
 ·rw [List.length_append];have hz:(1:Nat)≤sm:=by decide
  split
  ·rename_i hi1;rw [if_neg fun hh=>by have:=(A7d hi1).1;have:=(A7d hh).1;omega];simp only [List.length_cons,List.length_append,List.length_map,List.length_nil];omega
  ·split <;> simp <;> omega
 rcases List.mem_append.1 hd with hd | hd
 ·split at hd
  ·rcases List.mem_cons.1 hd with rfl | hd
   ·refine C9s _ _ _ _ ⟨by rw [plF,List.length_map];exact hfl,fun f hf=>?_⟩ ⟨by simp,by simp⟩;obtain⟨y,_,rfl⟩:=List.mem_map.1 hf;exact E9j _
   rcases List.mem_append.1 hd with hd | hd
   ·obtain⟨c,hc,hm⟩:=List.mem_filterMap.1 hd;obtain⟨hcx,hcn⟩:=hcc c hc;unfold A4w at hm;split at hm
    ·cases hm
    ·rename_i m hmd;split at hm
     ·cases hm
     ·rename_i g hg;cases hm;obtain⟨hdm,hdk,_,_⟩:=B0m hmd;obtain⟨_,hbs,_⟩:=D6k hp hfit.sm hr hdm hdk hcn;have hgl:=F0e (l:=A3o p [] c.on) (c:=c) (fun y hy=>by rw [hcx] at hy;exact (hsn y hy).params.1) hg;refine⟨⟨by simp,by simp⟩,⟨by simp,by simp⟩,⟨by simp,by simp⟩,by simp,⟨⟨by simp,by simp⟩,⟨?_,fun f hf=>?_⟩,hgl.result⟩,E9s hbs⟩
      ·simp only [A8z,List.length_zipWith];have:=hgl.params.1;omega
      ·obtain⟨i,hi⟩:=List.getElem?_of_mem hf;simp only [A8z,List.getElem?_zipWith] at hi;cases ha:g.params[i]? with
       | none=>rw [ha] at hi;simp at hi
       | some a =>
        cases hb:m.sig.params[i]? with
        | none=>rw [ha,hb] at hi;simp at hi
        | some b =>rw [ha,hb] at hi;simp only [Option.some.injEq] at hi;rw [← hi];exact hgl.params.2 a (List.mem_of_getElem? ha)
   ·obtain⟨s',_,rfl⟩:=List.mem_map.1 hd;exact⟨⟨by simp [C4b],by simp [C4b]⟩,⟨by simp [C4b],by simp [C4b]⟩,⟨by simp [C4b],by simp [C4b]⟩,by simp [C4b],E8y _,.mk _ _ _ _ _ _ E9b (by simp) (by simp) (by simp) (by simp)⟩
  ·simp at hd
 ·split at hd
  ·rw [List.mem_singleton.1 hd];refine C9s _ _ _ _ ⟨by simp,by simp⟩ ⟨?_,fun g hg=>?_⟩
   ·rw [List.length_append,List.length_map];omega
   ·rcases List.mem_append.1 hg with hg | hg
    ·obtain⟨c,hc,hm⟩:=List.mem_filterMap.1 hg;obtain⟨hcx,_⟩:=hcc c hc;exact F0e (l:=A3o p [] c.on) (c:=c) (fun y hy=>by rw [hcx] at hy;exact (hsn y hy).params.1) hm
    ·obtain⟨s',_,rfl⟩:=List.mem_map.1 hg;exact E8y _
  ·simp at hd
theorem D5a {f:Ty→List Decl}:∀ l:List Ty,(∀ x,x∈l→(f x).length≤3*sm)→(l.flatMap f).length≤l.length*(3*sm)
 | [],_=>by simp
 | x::l,h=>by have h1:=h x (by simp);have h2:=D5a l fun y hy=>h y (by simp [hy]);rw [List.flatMap_cons,List.length_append,List.length_cons,Nat.add_mul];omega
def D7p (p:Prog)(s:SetT):Prog:=⟨B4x::s.types.flatMap (A6t p s.calls),A6c p.main⟩
theorem B6h {p:Prog} (hp:p.count≤600)(hr:p.right=true) {s:SetT} (h:s.Fd):(B4x::s.types.flatMap (A6t p s.calls)).length≤1000000000:=by
 have h1:=D5a s.types fun x hx=>(D8o hp hr h hx).1;have h2:s.types.length*(3*sm)≤60*(3*sm):=Nat.mul_le_mul_right _ (by have:=h.len;omega);rw [List.length_cons];have h3:60*(3*sm)=180000000:=by decide
 omega
theorem D9k {p:Prog} (hp:p.count≤600)(hr:p.right=true) {s:SetT} (h:s.Fd):∀ d,d∈(D7p p s).decls→d.Lm:=by
 intro d hd;rcases List.mem_cons.1 hd with rfl | hd
 ·exact C9s _ _ _ _ ⟨by simp,by simp⟩ ⟨by simp,by simp⟩
 ·obtain⟨x,hx,hd⟩:=List.mem_flatMap.1 hd;exact (D8o hp hr h hx).2 d hd
theorem E7n {p:Prog} (hp:p.count≤600)(hs:p.Sm)(hr:p.right=true):p.main.Nq 240000∧p.main.Rs:=by unfold Prog.right at hr;simp only [Bool.and_eq_true] at hr;exact⟨(Ex.right_Mq hs.main hr.2).nq (Prog.count_xl p hp).2,Ex.right_Rs hr.2⟩
theorem B8s (p:Prog)(hp:p.count≤600)(hr:p.right=true) {s:SetT} (h:s.Fd):A0a Tryz.prog 9 [prV p,F1i s.types s.calls] (prV (D7p p s)):=by have hfit:=Prog.count_Fit p hp;obtain⟨hq,hrs⟩:=E7n hp hfit.sm hr;have:=C3d p hfit.sm s.types h.sm.types.1 s.calls (A6t p s.calls) mtT mgM (F7s (B:=240000) (by decide) hfit.sm.main hq) (fun x hx=>D1f p hp hr h x hx) (Nat.le_trans (B6h hp hr h) (by decide));rw [F1g _ hrs] at this;exact this
abbrev F8o:List Nat:=[0,1,2,3,4,5,6,8,17]
theorem D4y (p:Prog)(hp:p.count≤600)(hr:p.right=true) {s:SetT} (h:s.Fd):A0a Tryz.prog 10 [prV p,seV s] (prV (D7p p s)):=by
 have hfit:=Prog.count_Fit p hp;obtain⟨hq,hrs⟩:=E7n hp hfit.sm hr;have hX:=C6s p.main (G3q (B:=240000) (by decide) hfit.sm.main hq hrs);have hl:=B6h hp hr h;have hts:=h.sm.types.1;unfold D7p;show A0a Tryz.prog 10 [prV p,seV s] (.agg [.d (.slice (deR (B4x::s.types.flatMap (A6t p s.calls)))),.d (.int .i64 (A6c p.main).kind),.d (.str (A6c p.main).name),.d (.str (A6c p.main).type.name),.d (.slice (tyR (A6c p.main).type.args)),.d (.int .i64 (A6c p.main).type.pos),.d (.slice (tyR (A6c p.main).targs)),.d (.slice (exR (A6c p.main).kids)),.d (.int .i64 (A6c p.main).pos)]);generalize A6c p.main=e at *;refine cB Tryz.func10 ?_;refine sR F8o ?_
 (refine AWp.seqR F8o [8] (by decide +kernel) fun K z=>?_;refine ev ?_;refine cc hX ?_;apply z;clear z K)
 refine kR F8o fun K1 u1=>?_;refine AWp.bb (AWp.ii s.types (X:=Unit) (fun j _=>[(2,.box 2 0),(3,.box 3 0),(4,.box 4 0),(5,.box 5 0),(6,A0g j)])
  (fun j _=>[(2,.cells ((prC p).map .d)),(3,.cells (seS s)),(4,.cells [.d .nil,.d (.int .i64 0),.d (.str []),.d (.str []),.d .nil,.d (.int .i64 0),.d .nil,.d .nil,.d (.int .i64 0)]),(5,.cells (.acc 8::mnS e)),(8,.rows 23 (deR (B4x::(s.types.take j).flatMap (A6t p s.calls))))])
  (fun _ _=>True) () trivial sS ⟨rfl,rfl,rfl,rfl,rfl,trivial⟩ ?_ ?_)
 rotate_left
 ·intro j _ x hx hmem dp tk hlt _;have hj:=(List.getElem?_eq_some_iff.1 hx).1;have hT:=C5h p hp hr h x hmem;have e2:deR (B4x::(s.types.take (j+1)).flatMap (A6t p s.calls))=deR (B4x::(s.types.take j).flatMap (A6t p s.calls))++deR (A6t p s.calls x):=by
   rw [List.take_succ_eq_append_getElem hj,(List.getElem?_eq_some_iff.1 hx).2,List.flatMap_append];simp [deR]
  have e3:(deR (B4x::(s.types.take j).flatMap (A6t p s.calls))).length+(deR (A6t p s.calls x)).length≤1000000000:=by
   have h1:s.types.flatMap (A6t p s.calls)=(s.types.take (j+1)).flatMap (A6t p s.calls)++(s.types.drop (j+1)).flatMap (A6t p s.calls):=by rw [← List.flatMap_append,List.take_append_drop]
   have h2:(s.types.take (j+1)).flatMap (A6t p s.calls)=(s.types.take j).flatMap (A6t p s.calls)++A6t p s.calls x:=by rw [List.take_succ_eq_append_getElem hj,(List.getElem?_eq_some_iff.1 hx).2,List.flatMap_append];simp
   rw [h1,h2] at hl;simp only [List.length_cons,List.length_append] at hl;rw [B0n,B0n,List.length_cons];omega
  have e4:=D0e (A6t p s.calls x);rw [e2];generalize deR (B4x::(s.types.take j).flatMap (A6t p s.calls))=PR at *;generalize deR (A6t p s.calls x)=DR at *;refine kR1 hlt F8o fun K2 u2=>?_;refine gI u2 ?_;clear u2 K2;refine sK fun K2 u2=>?_;refine AWp.bb ?_
  (refine lG F8o [] 10 [] fun K z=>?_;refine ev ?_;refine ci (A0w hx) ?_;refine cc hT ?_;refine⟨e4,by unfold lim;omega,?_⟩;(try refine ev ?_);apply z;clear z K;try simp only [A0c,A0e])
  refine u2 _ _ ?_;clear u2 K2;refine lT F8o ?_;exact⟨(),trivial,sS,by simp [ble,A0h,prC]⟩
 intro _ _;rw [List.take_length];refine kR1 Int.lt_irrefl F8o fun K2 u2=>?_;refine AWp.ss rfl ?_;simp only [TB];refine u1 _ _ ?_;clear u2 K2 u1 K1
 (refine AWp.publish 8 rfl (wk [(4,.box 4 0),(5,.box 5 0)] [(4,.cells [.d .nil,.d (.int .i64 0),.d (.str []),.d (.str []),.d .nil,.d (.int .i64 0),.d .nil,.d .nil,.d (.int .i64 0)]),(5,.cells (.d (.slice (deR (B4x::s.types.flatMap (A6t p s.calls))))::mnS e))] ?_))
 refine sR F8o ?_;exact aR
theorem C7i {p:Prog}:∀ (k:Nat)(s:SetT)(n:Int),(A8x p k s n).2=false→(A8x p k s n).1=E6k
 | 0,s,n,_=>by simp [A8x]
 | k+1,s,n,h=>by
  rw [A8x] at h ⊢;split at h
  ·rename_i hn;rw [if_pos hn];split at h
   ·rename_i hl;rw [if_pos hl]
   ·cases h
  ·rename_i hn;rw [if_neg hn];split at h
   ·rename_i hl;rw [if_pos hl]
   ·rename_i hl;rw [if_neg hl];exact C7i k _ _ h
abbrev E1w:List Nat:=[0,1,2,3,4,5,6,7,8,15,25,903]
theorem F1e (p:Prog)(hp:p.count≤600)(hr:p.right=true):A0a Tryz.prog 7 [prV p] (.tuple [F1i (B0s p).1.types (B0s p).1.calls,seV (B0s p).1,A0m (B0s p).2]):=by
 have hfit:=Prog.count_Fit p hp;have hF:=E4i p hfit (Prog.count_Le p hp) (D4j hr) (E4g hr);have hs:=D8y hfit;have hnone:=C7i (p:=p) 64 (B0x p E6k p.main []) (-1);rw [show A8x p 64 (B0x p E6k p.main []) (-1)=B0s p from rfl] at hnone;unfold fiV at hF;generalize B0s p=z at *;obtain⟨s,b⟩:=z;simp only at hF hs hnone ⊢;have hcl:=hs.calls.1;cases b with
 | false =>
  rw [hnone rfl] at hF ⊢;refine cB Tryz.func7 ?_;refine sR E1w ?_;refine sC hF E1w ?_;refine kR E1w fun K1 u1=>?_;refine tI ?_
  (refine sG E1w [] 3 [⟨[],[],[],[]⟩,⟨[],[],[2],[]⟩,⟨[2],[],[],[]⟩] fun K z=>?_;refine ev ?_;apply z;clear z K)
  exact aR
 | true =>
  refine cB Tryz.func7 ?_;refine sR E1w ?_;refine sC hF E1w ?_;refine kR E1w fun K1 u1=>?_;refine kI u1 ?_;clear u1 K1;refine sR E1w ?_;refine AWp.promoteBox 903 5 7 1 rfl rfl (by decide) ?_;refine kR E1w fun K1 u1=>?_;refine AWp.bb (AWp.ii s.calls (X:=Unit) (fun j _=>[(2,.box 2 0),(3,.box 3 0),(5,.box 5 0),(7,.box 7 0),(8,A0g j)])
   (fun j _=>[(2,.cells [.d .nil,.d .nil]),(3,.cells [.d .nil,.d .nil,.d (.bool false)]),(5,.cells (seS s)),(7,.cells [.d (.slice (tyR s.types)),.acc 903]),(903,.rows 5 (caR (s.calls.take j)))])
   (fun _ _=>True) () trivial sS (by simp [ble,A0h,caR]) ?_ ?_)
  rotate_left
  ·intro j _ c hc hmem dp tk hlt _;have hj:=(List.getElem?_eq_some_iff.1 hc).1;have e2:caR (s.calls.take (j+1))=caR (s.calls.take j)++[caC c]:=by rw [tk];simp [caR]
   have e3:(caR (s.calls.take j)).length=j:=by rw [A1a,List.length_take];omega
   rw [e2];generalize caR (s.calls.take j)=PR at *;refine sK fun K2 u2=>?_
   (refine sQ E1w fun K z=>?_;simp -implicitDefEqProofs only [EV,Nat.reduceEqDiff,reduceCtorEq,B1h,B2x,hlt,A1a];apply z;clear z K)
   refine gI u2 ?_;clear u2 K2;refine sK fun K2 u2=>?_;refine AWp.bb ?_
   (refine lG E1w [] 8 [] fun K z=>?_;refine ev ?_;refine⟨by omega,_,A1s hc,rfl,?_⟩;(try simp -implicitDefEqProofs only [EV,Nat.reduceAdd,Nat.reduceEqDiff,Nat.reduceBEq,Nat.reduceLeDiff,Nat.reduceMul,reduceCtorEq,G3r,G4k,F8m,caC]);refine⟨by simp,by unfold lim sm at *;omega,?_⟩;(try simp -implicitDefEqProofs only [EV,forall_const,implies_true,Nat.reduceAdd,Nat.reduceEqDiff,Nat.reduceBEq,Nat.reduceLeDiff,Nat.reduceSub,Nat.reduceMul,Int.reduceEq,Int.reduceLT,Int.reduceLE,Int.reduceSub,Int.reduceAdd,Int.reduceToNat,reduceCtorEq,Int.reduceNeg,TF3,TF4,TF9,B1i,A6s,B9o,G3r,G4k,B1h,B2x,F8m,C3z,caC]);apply z;clear z K;try simp only [A0c,A0e])
   refine u2 _ _ ?_;clear u2 K2;refine lT E1w ?_;exact⟨(),trivial,sS,by simp [ble,A0h,caC]⟩
  intro _ _;rw [List.take_length];refine sK fun K2 u2=>?_
  (refine sQ E1w fun K z=>?_;simp -implicitDefEqProofs only [EV,Nat.reduceEqDiff,reduceCtorEq,B1h,B2x,Int.lt_irrefl,A1a];apply z;clear z K)
  refine AWp.ss rfl ?_;simp only [TB];refine u1 _ _ ?_;clear u2 K2 u1 K1
  (refine AWp.publish 903 rfl (wk [(2,.box 2 0),(3,.box 3 0),(5,.box 5 0),(7,.box 7 0)] [(2,.cells [.d .nil,.d .nil]),(3,.cells [.d .nil,.d .nil,.d (.bool false)]),(5,.cells (seS s)),(7,.cells [.d (.slice (tyR s.types)),.d (.slice (caR s.calls))])] ?_))
  (refine sG E1w [] 3 [⟨[],[],[],[]⟩,⟨[],[],[2],[]⟩,⟨[2],[],[],[]⟩] fun K z=>?_;refine ev ?_;apply z;clear z K)
  exact aR
abbrev F1u:List Nat:=[0,1,2,3,4,5,12]
theorem C9m (p:Prog):A0a Tryz.prog 3 [prV p] (A0m true):=by
 have haw:=C5o;have hg:=F0v p;cases gb:E6b p with
 | false =>
  rw [gb,if_neg (by simp)] at hg;refine cB Tryz.func3 ?_;refine sR F1u ?_;refine sK fun K1 u1=>?_
  (refine sV F1u fun K z=>?_;refine cc haw ?_;refine cc hg ?_;apply z;clear z K)
  refine tI ?_;refine sC haw F1u ?_;exact aR
 | true =>
 rw [gb,if_pos rfl] at hg;unfold E6b at gb;simp only [Bool.and_eq_true,decide_eq_true_eq] at gb;have hfit:=Prog.count_Fit p gb.1;have hs:=F1e p gb.1 gb.2.1;cases hb:(B0s p).2 with
 | false =>
  rw [hb] at hs;generalize (B0s p).1=s at *;refine cB Tryz.func3 ?_;refine sR F1u ?_;refine sK fun K1 u1=>?_
  (refine sV F1u fun K z=>?_;refine cc haw ?_;refine cc hg ?_;apply z;clear z K)
  refine kI u1 ?_;clear u1 K1;refine sC hs F1u ?_;refine dR F1u 8 ?_;exact aR
 | true =>
  have hfd:=E0e hfit (Prog.count_Tl p gb.1) gb.2.1 hb;rw [hb] at hs;generalize (B0s p).1=s at *;have h1:=B8s p gb.1 gb.2.1 hfd;have h2:=D4y p gb.1 gb.2.1 hfd;have h3:=C9p (D7p p s) (Nat.le_trans (B6h gb.1 gb.2.1 hfd) (by decide)) (D9k gb.1 gb.2.1 hfd) (E9s hfit.sm.main);generalize D7p p s=q at *;refine cB Tryz.func3 ?_;refine sR F1u ?_;refine sK fun K1 u1=>?_
  (refine sV F1u fun K z=>?_;refine cc haw ?_;refine cc hg ?_;apply z;clear z K)
  refine kI u1 ?_;clear u1 K1;refine sC hs F1u ?_
  (refine sG F1u [] 8 [] fun K z=>?_;refine ev ?_;refine cc h1 ?_;refine cc h2 ?_;refine cc h3 ?_;apply z;clear z K)
  exact aR
abbrev C3y:List Nat:=[0,1,2,3,4,5,6,7,8,9,16,25,27,32,56]
theorem D8p (p:Prog):A0a Tryz.prog 4 [prV p] (A0m true):=by
 have haw:=C5o;have hg:=F0v p;cases gb:E6b p with
 | false =>
  rw [gb,if_neg (by simp)] at hg;refine cB Tryz.func4 ?_;refine sR C3y ?_;refine sK fun K1 u1=>?_
  (refine sV C3y fun K z=>?_;refine cc haw ?_;refine cc hg ?_;apply z;clear z K)
  refine tI ?_;refine sC haw C3y ?_;exact aR
 | true =>
 rw [gb,if_pos rfl] at hg;unfold E6b at gb;simp only [Bool.and_eq_true,decide_eq_true_eq] at gb;have hfit:=Prog.count_Fit p gb.1;have hs:=F1e p gb.1 gb.2.1;cases hb:(B0s p).2 with
 | false =>
  rw [hb] at hs;generalize (B0s p).1=s at *;refine cB Tryz.func4 ?_;refine sR C3y ?_;refine sK fun K1 u1=>?_
  (refine sV C3y fun K z=>?_;refine cc haw ?_;refine cc hg ?_;apply z;clear z K)
  refine kI u1 ?_;clear u1 K1;refine sC hs C3y ?_;refine kR C3y fun K1 u1=>?_;refine tI ?_;refine sR C3y ?_;exact aR
 | true =>
 have hfd:=E0e hfit (Prog.count_Tl p gb.1) gb.2.1 hb;rw [hb] at hs;generalize (B0s p).1=s at *;have h1:=B8s p gb.1 gb.2.1 hfd;have hlen:=B6h gb.1 gb.2.1 hfd;have hlm:=D9k gb.1 gb.2.1 hfd;have h3:=C9p ⟨B4x::s.types.flatMap (A6t p s.calls),ex0⟩ (Nat.le_trans hlen (by decide)) hlm E7c;have htl:=hfd.sm.types.1;unfold D7p at h1;refine cB Tryz.func4 ?_;refine sR C3y ?_;refine sK fun K1 u1=>?_
 (refine sV C3y fun K z=>?_;refine cc haw ?_;refine cc hg ?_;apply z;clear z K)
 refine kI u1 ?_;clear u1 K1;refine sC hs C3y ?_;refine kR C3y fun K1 u1=>?_;refine kI u1 ?_;clear u1 K1
 (refine AWp.seqR C3y [27] (by decide +kernel) fun K z=>?_;refine ev ?_;apply z;clear z K)
 refine kR C3y fun K1 u1=>?_;refine AWp.bb (AWp.ii s.types (X:=Unit) (fun j _=>[(1,.box 1 0),(3,.box 3 0),(4,.box 4 0),(6,.acc 27),(7,A0g j)])
  (fun j _=>[(1,.cells ((prC p).map .d)),(3,.cells [.d (.slice (tyR s.types)),.d (.slice (caR s.calls))]),(4,.cells (seS s)),(27,.rows 23 (deR (B4x::(s.types.take j).flatMap (A6t p s.calls))))])
  (fun _ _=>True) () trivial sS ⟨rfl,rfl,rfl,rfl,trivial⟩ ?_ ?_)
 rotate_left
 ·intro j _ x hx hmem dp tk hlt _;have hj:=(List.getElem?_eq_some_iff.1 hx).1;have hST:=D1f p gb.1 gb.2.1 hfd x hmem;have hRT:=C5h p gb.1 gb.2.1 hfd x hmem;obtain⟨hl1,hl2⟩:=D8o gb.1 gb.2.1 hfd hmem;have hSm:=C9p ⟨A6t p s.calls x,ex0⟩ (Nat.le_trans hl1 (by decide)) hl2 E7c;have e2:deR (B4x::(s.types.take (j+1)).flatMap (A6t p s.calls))=deR (B4x::(s.types.take j).flatMap (A6t p s.calls))++deR (A6t p s.calls x):=by
   rw [List.take_succ_eq_append_getElem hj,(List.getElem?_eq_some_iff.1 hx).2,List.flatMap_append];simp [deR]
  have e3:(deR (B4x::(s.types.take j).flatMap (A6t p s.calls))).length+(deR (A6t p s.calls x)).length≤1000000000:=by
   have h1:s.types.flatMap (A6t p s.calls)=(s.types.take (j+1)).flatMap (A6t p s.calls)++(s.types.drop (j+1)).flatMap (A6t p s.calls):=by rw [← List.flatMap_append,List.take_append_drop]
   have h2:(s.types.take (j+1)).flatMap (A6t p s.calls)=(s.types.take j).flatMap (A6t p s.calls)++A6t p s.calls x:=by rw [List.take_succ_eq_append_getElem hj,(List.getElem?_eq_some_iff.1 hx).2,List.flatMap_append];simp
   rw [h1,h2] at hlen;simp only [List.length_cons,List.length_append] at hlen;rw [B0n,B0n,List.length_cons];omega
  have e4:=D0e (A6t p s.calls x);have e5:=B0n (A6t p s.calls x);rw [e2];generalize deR (B4x::(s.types.take j).flatMap (A6t p s.calls))=PR at *;unfold ex0 at hSm;generalize A6t p s.calls x=dx at *;refine kR1 hlt C3y fun K2 u2=>?_;refine gI u2 ?_;clear u2 K2;refine sK fun K2 u2=>?_;refine AWp.bb ?_
  (refine sG C3y [] 7 [] fun K z=>?_;refine ev ?_;refine ci (A0w hx) ?_;refine cc hST ?_;apply z;clear z K)
  (refine sG C3y [] 7 [] fun K z=>?_;refine ev ?_;refine ci (A0w hx) ?_;refine cc hRT ?_;apply z;clear z K)
  refine kC hSm C3y fun K3 u3=>?_;refine kI u3 ?_;clear u3 K3
  (refine lV C3y fun K z=>?_;refine⟨e4,by unfold lim;omega,?_⟩;(try refine ev ?_);apply z;clear z K;try simp only [A0c,A0e])
  refine u2 _ _ ?_;clear u2 K2;refine lT C3y ?_;exact⟨(),trivial,sS,by simp [ble,A0h,prC]⟩
 intro _ _;rw [List.take_length];refine kR1 Int.lt_irrefl C3y fun K2 u2=>?_;refine AWp.ss rfl ?_;simp only [TB];refine u1 _ _ ?_;clear u2 K2 u1 K1
 (refine AWp.publish 27 rfl (wk [(1,.box 1 0),(3,.box 3 0),(6,.d (.slice (deR (B4x::s.types.flatMap (A6t p s.calls)))))] [(1,.cells ((prC p).map .d)),(3,.cells [.d (.slice (tyR s.types)),.d (.slice (caR s.calls))])] ?_))
 unfold ex0 at h3;generalize B4x::s.types.flatMap (A6t p s.calls)=ds at *
 (refine sV C3y fun K z=>?_;refine cc h1 ?_;refine cc h3 ?_;apply z;clear z K)
 exact aR
end Go.Abs
