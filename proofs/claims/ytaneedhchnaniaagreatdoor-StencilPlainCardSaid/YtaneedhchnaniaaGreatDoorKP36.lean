/- the set that castingsref21.Find returns is closed: all that its types and calls need is in it -/
import Derived.Test.YtaneedhchnaniaaGreatDoorKW30
set_option linter.all false
namespace Go.Abs
open Go
set_option maxRecDepth 100000
set_option maxHeartbeats 1000000
def P5 (t:Ty)(l:List Ty):Prop:=∃u,u∈l∧t.er=u.er
def InC (c:Au)(l:List Au):Prop:=∃d,d∈l∧Bj c d=0
section
variable {α:Type} {cmp:α→α→Int} {x:α}
theorem A5k:∀{l:List α} {done:Bool} {out R:List α},Fe cmp x l done out=some R→(∀t,t∈out∨t∈l→t∈R)∧(done=false→x∈R)∧R.length=out.length+l.length+(if done=true then 0 else 1)
 |[],done,out,R,h=>by
  rw [Fe] at h;cases h;cases done
  ·exact⟨fun t ht=>by simpa using He ht,fun _=>by simp,by simp⟩
  ·exact⟨fun t ht=>by simpa using ht,fun h=>(by cases h),by simp⟩
 |t::l,done,out,R,h=>by
  rw [Fe] at h;split at h
  ·cases h
  split at h
  ·rename_i I E;obtain⟨k1,_,k3⟩:=A5k h;refine⟨fun u hu=>k1 u ?_,fun _=>k1 x (.inl (by simp)),?_⟩
   ·rcases hu with hu| hu
    ·exact .inl (by simp [hu])
    ·rcases As.1 hu with rfl| hu
     ·exact .inl (by simp)
     ·exact .inr hu
   ·rw [k3,E.2];simp;omega
  ·obtain⟨k1,k2,k3⟩:=A5k h;refine⟨fun u hu=>k1 u ?_,k2,?_⟩
   ·rcases hu with hu| hu
    ·exact .inl (by simp [hu])
    ·rcases As.1 hu with rfl| hu
     ·exact .inl (by simp)
     ·exact .inr hu
   ·rw [k3];simp;omega
theorem C0g:∀{l:List α} {done:Bool} {out:List α},Fe cmp x l done out=none→∃t,t∈l∧cmp x t=0
 |[],done,out,h=>by rw [Fe] at h;cases h
 |t::l,done,out,h=>by
  rw [Fe] at h;split at h
  ·rename_i I;exact⟨t,by simp,I⟩
  split at h
  ·obtain⟨u,E,h⟩:=C0g h;exact⟨u,by simp [E],h⟩
  ·obtain⟨u,E,h⟩:=C0g h;exact⟨u,by simp [E],h⟩
theorem E3g (l:List α):∀t,t∈l→t∈I1 cmp l x:=fun t ht=>by
 unfold I1;cases h:Fe cmp x l false [] with
 |none=>exact ht
 |some R=>exact (A5k h).1 t (.inr ht)
theorem E0e (hr:cmp x x=0)(l:List α):∃t,t∈I1 cmp l x∧cmp x t=0:=by
 unfold I1;cases h:Fe cmp x l false [] with
 |none=>exact C0g h
 |some R=>exact⟨x,(A5k h).2.1 rfl,hr⟩
theorem D4o (l:List α)(h:(I1 cmp l x).length=l.length):I1 cmp l x=l:=by
 unfold I1 at h ⊢;cases E:Fe cmp x l false [] with
 |none=>rfl
 |some R =>have:=(A5k E).2.2;rw [E] at h;simp at this h;omega
theorem C5r (O:∀a b c,T3 (cmp a b) (cmp b c) (cmp a c))(L:∀a b,cmp b a = - cmp a b):∀{l:List α} {done:Bool} {out R:List α},Fe cmp x l done out=some R→(out++l).Pairwise (fun a b=>cmp a b < 0) →
  (done=false→∀t,t∈out→cmp t x < 0)→(done=true→True)→R.Pairwise fun a b=>cmp a b < 0
 |[],done,out,R,h,hp,ho,_=>by
  rw [Fe] at h;cases h;rw [Ge] at hp;cases done
  ·simp only [Hh,Et];rw [Ap6];exact⟨hp,by simp,fun a J b hb=>by rw [Qt.1 hb];exact ho rfl a J⟩
  ·simpa using hp
 |t::l,done,out,R,h,hp,ho,hd=>by
  rw [Fe] at h;split at h
  ·cases h
  rename_i h0;split at h
  ·rename_i E;refine C5r O L h ?_ (fun h=>by cases h) fun _=>trivial;rw [Pg];obtain⟨Z,U,V⟩:=Ap6.1 hp;rw [Ap6];obtain⟨W,q2⟩:=Am3.1 U;refine⟨Z,Am3.2 ⟨fun u hu=>?_,U⟩,fun a J b hb=>?_⟩
   ·rcases As.1 hu with rfl| hu
    ·exact E.1
    ·exact (O x t u).1 E.1 (by have:=W u hu;omega)
   ·rcases As.1 hb with rfl| hb
    ·exact ho E.2 a J
    ·exact V a J b hb
  ·rename_i E;refine C5r O L h (by simpa using hp) (fun I u hu=>?_) hd;rcases Bw.1 hu with hu| hu
   ·exact ho I u hu
   ·rw [Qt.1 hu];have:=L x t;have:¬cmp x t < 0:=fun h=>E ⟨h,I⟩;omega
theorem D3q (J:∀a b c,T3 (cmp a b) (cmp b c) (cmp a c))(I:∀a b,cmp b a = - cmp a b) {l:List α} (E:l.Pairwise fun a b=>cmp a b < 0):(I1 cmp l x).Pairwise fun a b=>cmp a b < 0:=by
 unfold I1;cases h:Fe cmp x l false [] with
 |none=>exact E
 |some R=>exact C5r J I h (by simpa using E) (by simp) (fun h=>by cases h)
end
structure Ap.Ext (s r:Ap):Prop where
 types:∀t,t∈s.types→t∈r.types
 calls:∀c,c∈s.calls→c∈r.calls
 D7:r.D7=false→s.D7=false
theorem Ap.Ext.refl (s:Ap):s.Ext s:=⟨fun _ h=>h,fun _ h=>h,fun h=>h⟩
theorem Ap.Ext.trans {a b c:Ap} (h:a.Ext b)(k:b.Ext c):a.Ext c:=⟨fun t ht=>k.types t (h.types t ht),fun t ht=>k.calls t (h.calls t ht),fun E=>h.D7 (k.D7 E)⟩
theorem P5.ext {s r:Ap} (h:s.Ext r) {t:Ty} (k:P5 t s.types):P5 t r.types:=by obtain⟨u,E,e⟩:=k;exact⟨u,h.types u E,e⟩
theorem InC.ext {s r:Ap} (h:s.Ext r) {t:Au} (k:InC t s.calls):InC t r.calls:=by obtain⟨u,E,e⟩:=k;exact⟨u,h.calls u E,e⟩
structure Fa (f:Ap→Ap):Prop where
 ext:∀s:Ap,s.Ext (f s)
 ge:∀s,Eo s≤Eo (f s)
 id:∀s,(f s).D7=false→Eo (f s)=Eo s→f s=s
theorem Fa.one:Fa fun s=>s:=⟨Ap.Ext.refl,fun _=>Cq _,fun _ _ _=>rfl⟩
theorem Fa.comp {f g:Ap→Ap} (I:Fa f)(E:Fa g):Fa fun s=>g (f s) :=
 ⟨fun s=>(I.ext s).trans (E.ext _),fun s=>Dk (I.ge s) (E.ge _),fun s J hs=>by have R:=I.ge s;have O:=E.ge (f s);have L:=E.id (f s) J (by omega);rw [L] at J hs ⊢;exact I.id s J hs⟩
theorem Fa.fold {α:Type} {f:Ap→α→Ap}:∀l:List α,(∀a,a∈l→Fa fun s=>f s a)→Fa fun s=>l.foldl f s
 |[],_=>Fa.one
 |a::l,h=>Fa.comp (h a (by simp)) (Fa.fold l fun b E=>h b (by simp [E]))
theorem A9e {α:Type} {f:Ap→α→Ap}:∀(l:List α)(s:Ap),(∀a,a∈l→Fa fun s=>f s a)→∀a,a∈l→∃I,(f I a).Ext (l.foldl f s)
 |[],_,_,_,h=>by simp at h
 |b::l,s,hs,a,h=>by
  rcases As.1 h with rfl| h
  ·exact⟨s,(Fa.fold l fun b J=>hs b (by simp [J])).ext _⟩
  ·exact A9e l (f s b) (fun c E=>hs c (by simp [E])) a h
theorem A3p (x:Ty):Fa fun s=>G9 s x:=by
 refine⟨fun s=>?_,fun s=>B3b s x,fun s E hs=>?_⟩
 ·unfold G9;split
  ·exact⟨fun _ h=>h,fun _ h=>h,fun h=>by cases h⟩
  ·exact⟨fun t ht=>E3g _ t ht,fun _ h=>h,fun h=>h⟩
 ·unfold G9 at E hs ⊢;split at E
  ·cases E
  ·rename_i I;rw [A6 I] at hs ⊢;simp only [Eo] at hs;rw [D4o _ (by omega)]
theorem C3o (x:Au):Fa fun s=>Gz s x:=by
 refine⟨fun s=>?_,fun s=>C8p s x,fun s E hs=>?_⟩
 ·unfold Gz;split
  ·exact⟨fun _ h=>h,fun _ h=>h,fun h=>by cases h⟩
  ·exact⟨fun _ h=>h,fun t ht=>E3g _ t ht,fun h=>h⟩
 ·unfold Gz at E hs ⊢;split at E
  ·cases E
  ·rename_i I;rw [A6 I] at hs ⊢;simp only [Eo] at hs;rw [D4o _ (by omega)]
theorem B4d {s:Ap} {x:Ty} (h:(G9 s x).D7=false):P5 x (G9 s x).types:=by
 unfold G9 at h ⊢;split at h
 ·cases h
 ·rename_i E;rw [A6 E];obtain⟨t,ht,e⟩:=E0e (cmp:=Dz) (x:=x) ((B2f x x).2 rfl) s.types;exact⟨t,ht,(B2f x t).1 e⟩
theorem F8p {s:Ap} {x:Au} (h:(Gz s x).D7=false):InC x (Gz s x).calls:=by
 unfold Gz at h ⊢;split at h
 ·cases h
 ·rename_i E;rw [A6 E];exact E0e (A8k x) s.calls
theorem F9j (e:Ex)(z:Ty × Ey):Fa fun s=>T6 s e z:=by
 have I:Fa fun s=>({ s with D7:=s.D7 ||z.2.D7 }:Ap):=by
  refine⟨fun s=>⟨fun _ h=>h,fun _ h=>h,fun h=>?_⟩,fun s=>Cq _,fun s E _=>?_⟩
  ·simp only [Wf] at h;exact h.1
  ·simp only [Wf] at E;obtain⟨a,b,c⟩:=s;simp only at E ⊢;rw [E.1,E.2];rfl
 unfold T6;by_cases h:z.2.bad=true
 ·simp only [h,Af];exact I
 ·simp only [h,Et];exact Fa.comp I (Fa.comp (A3p z.1) (C3o _))
theorem D7e (p:Prog)(vars:List Param)(e:Ex):Fa fun s=>Ju p vars s e:=by
 unfold Ju;by_cases I:e.kind=3∨e.kind=5
 ·simp only [I,Af];exact A3p e.type
 simp only [I,Et];by_cases E:e.kind=2
 ·simp only [E,Af];cases e.kids with
  |nil=>exact Fa.one
  |cons v vs=>exact F9j e _
 ·simp only [E,Et];exact Fa.one
theorem F0k (p:Prog)(e:Ex)(vars:List Param):Fa fun s=>Lq p s e vars:=Fa.fold _ fun a _=>D7e p vars a
theorem E1b (p:Prog)(x:Ty)(c:Au):Fa fun s=>Qe p s x c:=by
 unfold Qe;split
 ·exact Fa.one
 ·split
  ·exact Fa.one
  ·exact F0k p _ _
theorem D4p (l:List Ty):Fa fun s=>Jn s l:=Fa.fold _ fun a _=>A3p a
theorem B7t (p:Prog)(x:Ty)(c:Au):Fa fun s=>Kh p x s c:=by
 unfold Kh;cases Rf p x c with
 |none=>exact Fa.one
 |some g=>exact Fa.comp (D4p _) (Fa.comp (A3p _) (E1b p x c))
theorem D3z (p:Prog)(s:Ap)(x:Ty):Fa fun out=>Qk p s out x:=by
 unfold Qk;by_cases h:Bz p x 1=true
 ·simp only [h,Af];exact Fa.comp (D4p _) (Fa.fold _ fun a _=>B7t p x a)
 ·simp only [h,Et];exact Fa.fold _ fun a _=>B7t p x a
theorem C7k (p:Prog)(s:Ap):Fa fun out=>s.types.foldl (Qk p s) out:=Fa.fold _ fun a _=>D3z p s a
def A4p (p:Prog)(vars:List Param)(y:Ex)(r:Ap):Prop :=
 (y.kind=3∨y.kind=5→P5 y.type r.types)∧∀v vs,y.kind=2→y.kids=v::vs→(Dg ⟨p,false,[],vars⟩ v).2.D7=false ∧
  ((Dg ⟨p,false,[],vars⟩ v).2.bad=false→P5 (Dg ⟨p,false,[],vars⟩ v).1 r.types∧InC ⟨(Dg ⟨p,false,[],vars⟩ v).1,y.name,y.targs⟩ r.calls)
theorem A4p.ext {p:Prog} {vars:List Param} {y:Ex} {s r:Ap} (h:s.Ext r)(k:A4p p vars y s):A4p p vars y r :=
 ⟨fun L=>(k.1 L).ext h,fun v vs I E=>⟨(k.2 v vs I E).1,fun J=>⟨((k.2 v vs I E).2 J).1.ext h,((k.2 v vs I E).2 J).2.ext h⟩⟩⟩
theorem E8r {p:Prog} {vars:List Param} {s:Ap} {y:Ex} (h:(Ju p vars s y).D7=false):A4p p vars y (Ju p vars s y):=by
 unfold Ju at h ⊢;by_cases E:y.kind=3∨y.kind=5
 ·simp only [E,Af] at h ⊢;exact⟨fun _=>B4d h,fun v vs I=>by omega⟩
 simp only [E,Et] at h ⊢;refine⟨fun O=>absurd O E,fun v vs I R=>?_⟩;simp only [I,Af,R] at h ⊢;unfold T6 at h ⊢;by_cases L:(Dg ⟨p,false,[],vars⟩ v).2.bad=true
 ·simp only [L,Af,Wf] at h ⊢;exact⟨h.2,fun h=>by cases h⟩
 ·rw [A6 L] at h ⊢;have E:=(C3o _).ext _ |>.D7 h
  have J:=(A3p _).ext _ |>.D7 E
  simp only [Wf] at J;exact⟨J.2,fun _=>⟨(B4d E).ext ((C3o _).ext _),F8p h⟩⟩
theorem D2i {p:Prog} {vars:List Param} {s:Ap} {e:Ex} (h:(Lq p s e vars).D7=false):∀y,y∈Bb e→A4p p vars y (Lq p s e vars):=fun y E=>by obtain⟨I,hs⟩:=A9e (Bb e) s (fun a _=>D7e p vars a) y E;exact (E8r (hs.D7 h)).ext hs
theorem D5o {s:Ap} {l:List Ty} (h:(Jn s l).D7=false):∀t,t∈l→P5 t (Jn s l).types:=fun t ht=>by obtain⟨E,hs⟩:=A9e l s (fun a _=>A3p a) t ht;exact (B4d (hs.D7 h)).ext hs
def C2s (p:Prog)(x:Ty)(c:Au)(r:Ap):Prop:=∀g,Rf p x c=some g→(∀t,t∈Y5 g c→P5 t r.types)∧P5 (Ym g c) r.types∧∀d,Jm p x c.name=some d→∀y,y∈Bb (N4 d x c)→A4p p (A2c p d x c) y r
theorem F9b {p:Prog} {x:Ty} {s:Ap} {c:Au} (h:(Kh p x s c).D7=false):C2s p x c (Kh p x s c):=by
 intro g U;unfold Kh at h ⊢;rw [U] at h ⊢;simp only at h ⊢;have I:=(E1b p x c).ext (G9 (Jn s (Y5 g c)) (Ym g c));have L:=I.D7 h;have O:=(A3p (Ym g c)).ext (Jn s (Y5 g c));have W:=O.D7 L;refine⟨fun t ht=>((D5o W t ht).ext O).ext I,(B4d L).ext I,fun d hd y R=>?_⟩;unfold Qe at h ⊢;rcases D1j p x c.name with ⟨_,J⟩| ⟨j,Z,V,E,J⟩
 ·rw [J] at hd;cases hd
 ·rw [J] at hd;cases hd;rw [V,A6 (by omega),Gr,E] at h ⊢;exact D2i h y R
structure Clo (p:Prog)(s:Ap):Prop where
 main:∀y,y∈Bb p.main→A4p p [] y s
 fields:∀x,x∈s.types→Bz p x 1=true→∀f,f∈C5 p x→P5 f.type s.types
 call:∀x,x∈s.types→∀c,c∈s.calls→C2s p x c s
 types:s.types.Pairwise fun a b=>Dz a b < 0
 calls:s.calls.Pairwise fun a b=>Bj a b < 0
theorem E9i {p:Prog} {s:Ap} (h:(Km p s).D7=false):(∀x,x∈s.types→Bz p x 1=true→∀f,f∈C5 p x→P5 f.type (Km p s).types)∧∀x,x∈s.types→∀c,c∈s.calls→C2s p x c (Km p s):=by
 have key:∀x,x∈s.types→∃o,(Qk p s o x).Ext (Km p s):=fun x J=>A9e s.types s (fun a _=>D3z p s a) x J;refine⟨fun x J U f Z=>?_,fun x J c V=>?_⟩
 ·obtain⟨o,E⟩:=key x J;have I:=E.D7 h;unfold Qk at E I;rw [A8 U] at E I;have O:=(Fa.fold s.calls fun a _=>B7t p x a).ext (Jn o ((C5 p x).map (·.type)));exact ((D5o (O.D7 I) f.type (Ax.2 ⟨f,Z,rfl⟩)).ext O).ext E
 ·obtain⟨o,E⟩:=key x J;have I:=E.D7 h;unfold Qk at E I;obtain⟨o',L⟩:=A9e s.calls (if Bz p x 1=true then Jn o ((C5 p x).map (·.type)) else o) (fun a _=>B7t p x a) c V;have e:=L.trans E;intro g W;obtain⟨k1,k2,k3⟩:=F9b (e.D7 h) g W;exact⟨fun t ht=>(k1 t ht).ext e,k2.ext e,fun d hd y R=>(k3 d hd y R).ext e⟩
structure Ap.Qr (s:Ap):Prop where
 types:s.types.Pairwise fun a b=>Dz a b < 0
 calls:s.calls.Pairwise fun a b=>Bj a b < 0
theorem Ap.Qr.lg {s:Ap} (h:s.Qr)(b:Bool):Ap.Qr { s with D7:=b }:=⟨h.types,h.calls⟩
theorem A8y {s:Ap} (h:s.Qr)(x:Ty):(G9 s x).Qr:=by
 unfold G9;split
 ·exact⟨h.types,h.calls⟩
 ·exact⟨D3q B9j C4d h.types,h.calls⟩
theorem F0a {s:Ap} (h:s.Qr)(x:Au):(Gz s x).Qr:=by
 unfold Gz;split
 ·exact⟨h.types,h.calls⟩
 ·exact⟨h.types,D3q A5v Ut h.calls⟩
theorem D6e {p:Prog} {vars:List Param} {s:Ap} (h:s.Qr)(e:Ex):(Lq p s e vars).Qr:=by
 refine foldI _ (fun s y _ h=>?_) h;unfold Ju;split
 ·exact A8y h _
 split
 ·split
  ·exact h
  ·unfold T6;split
   ·exact⟨h.types,h.calls⟩
   ·exact F0a (A8y (h.lg _) _) _
 ·exact h
theorem F9h {p:Prog} {s:Ap} (h:s.Qr):(Km p s).Qr:=by
 refine foldI _ (fun o x _ E=>foldI _ (fun o c _ E=>?_) ?_) h
 ·unfold Kh;split
  ·exact E
  ·refine (?_:Ap.Qr _);unfold Qe;have I:(G9 (Jn o (Y5 ‹A5› c)) (Ym ‹A5› c)).Qr:=A8y (foldI _ (fun s t _ h=>A8y h t) E) _;split
   ·exact I
   split
   ·exact I
   ·exact D6e I _
 ·split
  ·exact foldI _ (fun s t _ h=>A8y h t) E
  ·exact E
theorem D1a {p:Prog}:∀(k:Nat)(s:Ap)(n:Int),s.Qr→(Gn p k s n).2=true→(n = -1∨∃E:Ap,s=Km p E∧n=Eo E) →
  s.Ext (Gn p k s n).1∧(Gn p k s n).1.Qr∧∃E:Ap,(Gn p k s n).1=Km p E∧Eo E=Eo (Gn p k s n).1
 | 0,s,n,_,h,_=>by simp [Gn] at h
 |k+1,s,n,hs,h,J=>by
  rw [Gn] at h ⊢;by_cases L:n=(Eo s:Int)
  ·rw [A8 L] at h ⊢;split at h
   ·cases h
   ·rename_i I;rw [A6 I];refine⟨Ap.Ext.refl s,hs,?_⟩;rcases J with J| ⟨E,R,W⟩
    ·omega
    ·exact⟨E,R,by simp only;omega⟩
  ·rw [A6 L] at h ⊢;split at h
   ·cases h
   ·rename_i I;rw [A6 I];obtain⟨U,V,O⟩:=D1a k (Km p s) (Eo s) (F9h hs) h (.inr ⟨s,rfl,rfl⟩);exact⟨((C7k p s).ext s).trans U,V,O⟩
theorem G1e {p:Prog} (h:(Hw p).2=true):Clo p (Hw p).1:=by
 have J:=C5m _ _ _ h;rw [show (Gn p 64 (Lq p Pf p.main []) (-1)).1=(Hw p).1 from rfl] at J;have E:(Hw p).1.D7=false:=by unfold Ud at J;simp only [Wf] at J;exact J.2.2.1
 obtain⟨O,R,I,L,V⟩:=D1a 64 (Lq p Pf p.main []) (-1) (D6e ⟨by simp,by simp⟩ _) h (.inl rfl);rw [show (Gn p 64 (Lq p Pf p.main []) (-1)).1=(Hw p).1 from rfl] at O R L V;have e:Km p I=I:=(C7k p I).id I (by show (Km p I).D7=false;rw [←L];exact E) (by show Eo (Km p I)=_;rw [←L,V]);have Z:(Hw p).1=I:=L.trans e;have U:Km p (Hw p).1=(Hw p).1:=by rw [Z];exact e
 obtain⟨k1,k2⟩:=E9i (p:=p) (s:=(Hw p).1) (by rw [U];exact E);rw [U] at k1 k2;exact⟨fun y W=>(D2i (O.D7 E) y W).ext O,k1,k2,R.types,R.calls⟩
end Go.Abs
/- the types of the set that castingsref21.Find returns are well formed, its calls typed -/
namespace Go.Abs
set_option maxRecDepth 100000
set_option maxHeartbeats 4000000
open Go
structure Typed (p:Prog):Prop where
 right:p.right=true
 head:HW p
 body:∀d,d∈p.decls→(A0n p true d).bad=false
 main:∃t,Em (F4q p) p.main=(t,none)
theorem Typed.of {p:Prog} (hr:p.right=true)(I:(A4o p true).bad=false):Typed p:=by
 have E:=fun k d O=>C9e (l:=p.decls) (i:=0) I k d O;refine⟨hr,fun i d hd=>by have:=(E i d hd).1;rwa [I2] at this,fun d hd=>?_,?_⟩
 ·obtain⟨i,J⟩:=Ls hd;exact (E i d J).2
 ·have L:=C6y (l:=p.decls) (i:=0) I;exact⟨_,lax ⟨p,true,[],[]⟩ p.main _ (B9b L)⟩
theorem D1v (t:Ty):Ck [] t=none:=by unfold Ck Ev;split <;> simp [Dy]
theorem C2p {p:Prog} {t:Ty} (h:C0 p [] t=none):kindOf p t.name≠0∧(Fj p t.name).length=t.args.length∧(∀u,u∈t.args→C0 p [] u=none)∧Gt p [] (Fj p t.name) t.args < 0:=by
 rcases A7h.1 h with h| h
 ·rw [D1v] at h;cases h
 ·exact h
theorem C6k {p:Prog} {t:Ty} (h:C0 p [] t=none):Bz p t 1=true∨Bz p t 2=true:=by obtain⟨I,E,_⟩:=C2p h;obtain⟨d,hd,J,_⟩:=A6g I;have:=(A5x hd).1;unfold Bz;simp only [E,Tq,Av0,D8];omega
section
variable {p:Prog}
theorem sbD (hr:p.right=true)(V:HW p) {x:Ty} (hx:C0 p [] x=none) {d:Decl} (hd:Gb p x.name=some d):Sb p d.A1 [] (Ad d.A1) x.args∧∀u,u∈x.args→C0 p [] u=none:=by
 have hp:=A7w hr V;obtain⟨h1,W,Z,h4⟩:=C2p hx;obtain⟨d',L,_,O⟩:=A6g h1;rw [hd] at L;cases L;obtain⟨t1,t2⟩:=A2g (A0f V hd).1;rw [O] at W h4;have E:∀n,n∈Ad d.A1→kindOf p n=0∧¬Mi n:=fun n U=>by
  obtain⟨f,J,rfl⟩:=Ax.1 U;obtain⟨i,hi⟩:=Ls J;refine⟨(t1 i f hi).1,A6i ?_⟩;have I:d.right=true:=by unfold Prog.right at hr;simp only [B1,Cf] at hr;exact hr.1 d (A5x hd).2.2
  unfold Decl.right at I;simp only [Pv,B1,Cf] at I;exact (I.2.1 f J).1
 refine⟨⟨rfl,by simp [Ad,W],E,by simp [Ad],fun u R=>(Yj (Z u R)).mono fun n U=>U.elim (by simp [Ad]) (hp.name n),fun f O=>by simpa using (t2 f O).2,fun i f u O R=>Yw.1 h4 i f u O R⟩,Z⟩
theorem D5e (hr:p.right=true)(I:HW p) {x:Ty} (O:C0 p [] x=none) {f:Param} (E:f∈C5 p x):C0 p [] f.type=none:=by
 unfold C5 at E;split at E
 ·rename_i R;obtain⟨d,hd,U,_⟩:=Lo (by decide) R;rw [hd,Dc] at E;unfold fieldsD at E;obtain⟨y,J,rfl⟩:=Ax.1 E;obtain⟨sb,L⟩:=sbD hr I O hd;exact Zt (A7w hr I) sb L ((A0f I hd).2.1 U y J)
 ·simp at E
theorem E5x (hr:p.right=true)(hw:HW p) {x:Ty} (hx:C0 p [] x=none) {I:Decl} (O:Gb p x.name=some I)(hk:I.kind=2) {E:A5} (a6:E∈I.sigs) {targs:List Ty} (a5:E.A1.length=targs.length)
  (ht:∀t,t∈targs→C0 p [] t=none) (hb:Gt p [] (E.canon.subst (Ad I.A1) x.args).A1 targs < 0) :
  Sb p (I.A1++E.A1) [] (Ad I.A1++Ad E.A1) (x.args++targs)∧(∀u,u∈x.args++targs→C0 p [] u=none) ∧
  ∀b:Ty,C0 p (I.A1++E.A1) b=none→((b.subst (Ad E.A1) (Da E.A1.length)).subst (Ad I.A1) x.args).subst (Ad E.canon.A1) targs=b.subst (Ad I.A1++Ad E.A1) (x.args++targs):=by
 have hp:=A7w hr hw;obtain⟨sb,ag⟩:=sbD hr hw hx O;obtain⟨s1,s2,s3⟩:=A3z ((A0f hw O).2.2 hk E a6);obtain⟨f1,f2⟩:=A2g s1;have V:(Ad I.A1).length=x.args.length:=sb.len.symm;have a8:∀u,u∈x.args++targs→C0 p [] u=none:=fun u Z=>(Bw.1 Z).elim (ag u) (ht u);have a7:∀u,u∈x.args++targs→u.Lf fun n=>¬Mi n:=fun u Z=>(Yj (a8 u Z)).mono fun n U=>U.elim (by simp [Ad]) (hp.name n);have a4:(Ad E.A1).length=E.A1.length:=by simp [Ad]
 have a9:∀m,m∈Ad I.A1→m ∉ Ad E.A1:=fun m hm hf=>by obtain⟨f,a0,ac⟩:=Ax.1 hf;obtain⟨i,hi⟩:=Ls a0;exact (f1 i f hi).2.1 (by rw [ac];exact hm)
 have a3:Ad E.canon.A1=(List.range E.A1.length).map Ec:=by rw [(B3w E).fs];simp [A5.canon,Ha]
 have R:∀b:Ty,C0 p (I.A1++E.A1) b=none→((b.subst (Ad E.A1) (Da E.A1.length)).subst (Ad I.A1) x.args).subst (Ad E.canon.A1) targs=b.subst (Ad I.A1++Ad E.A1) (x.args++targs):=fun b hb =>
  D1w (K:=fun n=>kindOf p n≠0) a4 a5.symm V a3 a9 (fun m hm=>(sb.fresh m hm).2) hp.name (fun u Z=>a7 u (Au9 _ Z)) b
   ((Yj hb).mono fun n U=>by
    unfold Ad at U;rw [Fz,Bw] at U;rcases U with (h| h)| h
    ·exact .inr (.inl h)
    ·exact .inl h
    ·exact .inr (.inr h))
 have ad:∀f,f∈E.A1→isName f.name=true:=fun f hf=>by
  have a2:I.right=true:=by unfold Prog.right at hr;simp only [B1,Cf] at hr;exact hr.1 I (A5x O).2.2
  unfold Decl.right at a2;simp only [B1,Cf] at a2;have:=a2.2.2.2.1 E a6;simp only [A5.right,Pv,B1,Cf] at this;exact (this.1.1.2 f hf).1
 have J:∀n,n∈Ad I.A1++Ad E.A1→kindOf p n=0∧¬Mi n:=fun n U=>by
  rcases Bw.1 U with h| h
  ·exact sb.fresh n h
  ·obtain⟨f,a0,rfl⟩:=Ax.1 h;obtain⟨i,hi⟩:=Ls a0;exact⟨(f1 i f hi).1,A6i (ad f a0)⟩
 have L:Ad (I.A1++E.A1)=Ad I.A1++Ad E.A1:=by unfold Ad;rw [Fz]
 obtain⟨t1,t2⟩:=A2g (A0f hw O).1;have a1:∀n,n∈Ad (I.A1++E.A1)→kindOf p n=0:=fun n U=>(J n (by rw [←L];exact U)).1;refine⟨⟨L.symm,by rw [B3,B3,a4,V,a5],J,by simp [Ad],a7,fun f hf=>?_,fun i f u hf Z=>?_⟩,a8,R⟩
 ·rcases Bw.1 hf with hf| hf
  ·have W:=(t2 f hf).2;simp only [Wa] at W;unfold isIface at W ⊢;rw [B1] at W ⊢;refine⟨W.1,?_⟩;rw [B2s a1 (by rw [(Tv W.1).1];decide)];rfl
  ·exact (f2 f hf).2
 ·by_cases ai:i < I.A1.length
  ·rw [J6 (by omega)] at hf;rw [J6 (by rw [←V];simpa [Ad] using ai)] at Z;have ab:=sb.bnd i f u hf Z;refine A0a ab (Xi ?_);rw [F7d V ((hp.bnd _ I O f (Bx hf)).mono fun n U=>U.imp_right fun h hm=>h (by obtain⟨g,hg,rfl⟩:=Ax.1 hm;obtain⟨j,hj⟩:=Ls hg;exact (f1 j g hj).1))]
  ·rw [Jh (by omega)] at hf;have ae:x.args.length=I.A1.length:=by rw [←V];simp [Ad]
   rw [Jh (by omega),ae] at Z;have af:=Bx hf;have aa:(E.canon.subst (Ad I.A1) x.args).A1[i - I.A1.length]? = some ⟨Ec (i - I.A1.length),(f.bound.subst (Ad E.A1) (Da E.A1.length)).subst (Ad I.A1) x.args,f.pos⟩:=by have a':=(Ay.1 hf).1;simp only [A5.subst,A5.canon,Ha];rw [D3,Um,hf];simp only [E8,Ak.subst,A8 a']
   have:=Yw.1 hb _ _ u aa Z;simp only at this;have ah:Ad (E.canon.subst (Ad I.A1) x.args).A1=Ad E.canon.A1:=by simp only [A5.subst,Ad,Fx];rfl
   rw [ah,R _ (f2 f af).1] at this;exact this
theorem D4f (hr:p.right=true)(Z:HW p) {x:Ty} (hx:C0 p [] x=none) {g:A5} (I:g∈De p [] x) {targs:List Ty} (L:g.A1.length=targs.length)(ht:∀t,t∈targs→C0 p [] t=none)(hb:Gt p [] g.A1 targs < 0) :
  C0 p [] (g.result.subst (Ad g.A1) targs)=none∧∀q,q∈g.params→C0 p [] (q.type.subst (Ad g.A1) targs)=none:=by
 have hp:=A7w hr Z;rcases C6k hx with hi| hi
 ·obtain⟨d,d1,d2,d3,d4,rfl,d6⟩:=B6g hi I;have O:d.sig.A1.length=targs.length:=by rw [←L];simp [A5.subst,A5.canon,Ha]
  have E:=called hr Z d1 d2 hx hi d3 O ht hb;obtain⟨_,_,_,m4⟩:=B4j Z d1 d2;obtain⟨_,c2,V⟩:=A3z m4;have R:Ad (d.sig.canon.subst d.vars x.args).A1=Ad d.sig.canon.A1:=by simp only [A5.subst,Ad,Fx];rfl
  rw [R];refine⟨?_,fun q W=>?_⟩
  ·show C0 p [] (((d.sig.result.subst (Ad d.sig.A1) (Da d.sig.A1.length)).subst d.vars x.args).subst (Ad d.sig.canon.A1) targs)=none;rw [E.inst _ V];exact Zt hp E.sb E.wf V
  ·simp only [A5.subst,A5.canon,Je,Ax] at W;obtain⟨q1,U,rfl⟩:=W;obtain⟨i,f,hf,_,rfl⟩:=mem_mapIdx U;have hc:=c2 f (Bx hf);show C0 p [] (((f.type.subst (Ad d.sig.A1) (Da d.sig.A1.length)).subst d.vars x.args).subst (Ad d.sig.canon.A1) targs)=none;rw [E.inst _ hc];exact Zt hp E.sb E.wf hc
 ·have a0:isIface p [] x=true:=by unfold isIface;rw [hi,D1v];rfl
  rw [B6z a0] at I;unfold Gg at I;rw [A8 hi] at I;obtain⟨d,hd,hk,_⟩:=Lo (by decide) hi;rw [hd,Dc] at I;unfold Yx I7 at I;obtain⟨⟨y,i⟩,hy,rfl⟩:=Ax.1 I;have J:=Iq (V5 (L8.1 hy).1);simp only at J L hb ⊢;have O:y.A1.length=targs.length:=by rw [←L];simp [A5.subst,A5.canon,Ha]
  obtain⟨sb,wf,inst⟩:=E5x hr Z hx hd hk J O ht hb;obtain⟨_,c2,V⟩:=A3z ((A0f Z hd).2.2 hk y J);have R:Ad (y.canon.subst (Ad d.A1) x.args).A1=Ad y.canon.A1:=by simp only [A5.subst,Ad,Fx];rfl
  rw [R];refine⟨?_,fun q W=>?_⟩
  ·show C0 p [] (((y.result.subst (Ad y.A1) (Da y.A1.length)).subst (Ad d.A1) x.args).subst (Ad y.canon.A1) targs)=none;rw [inst _ V];exact Zt hp sb wf V
  ·simp only [A5.subst,A5.canon,Je,Ax] at W;obtain⟨q1,U,rfl⟩:=W;obtain⟨j,f,hf,_,rfl⟩:=mem_mapIdx U;have hc:=c2 f (Bx hf);show C0 p [] (((f.type.subst (Ad y.A1) (Da y.A1.length)).subst (Ad d.A1) x.args).subst (Ad y.canon.A1) targs)=none;rw [inst _ hc];exact Zt hp sb wf hc
theorem E2t (hr:p.right=true)(L:HW p) {st:Bool} {vars:List Param} (hv:∀f,f∈vars→C0 p [] f.type=none):∀(e:Ex)(t:Ty),Em ⟨p,st,[],vars⟩ e=(t,none)→C0 p [] t=none:=by
 intro e
 induction e using Ex.induct with| _ e U=>?_
 intro t h;rcases Tb.1 h with ⟨_,k,f,_,J,rfl⟩| ⟨_,I,_,_,rfl⟩| ⟨v,vs,x,hk,O,h⟩
 ·exact hv f (Bx J)
 ·exact I
 ·have E:=U v (by rw [hk];simp) x O;rcases h with ⟨_,s,hs,_,rfl⟩| ⟨_,_,k,f,_,J,rfl⟩| ⟨_,I,_,rfl⟩
  ·obtain⟨V,_,R,Z,W,_⟩:=B2y.1 hs;exact (D4f hr L E V R Z W).1
  ·exact D5e hr L E (Bx J)
  ·exact I
theorem G5s {c:Dd} {e:Ex} {t:Ty} (U:e.One)(ht:Em c e=(t,none)):∀x,x∈e.kids→∃K,Em c x=(K,none):=by
 have key:∀(L:List Ty) (R:List Ex),Xq c L R→∀x,x∈R→∃K,Em c x=(K,none):=fun L R I x J=>by
  obtain⟨i,V⟩:=Ls J;have O:i < L.length:=by rw [I.1];exact (Ay.1 V).1
  obtain⟨K,hk,_⟩:=I.2 i _ x (Ba O) V;exact⟨K,hk⟩
 rcases Tb.1 ht with ⟨k1,_⟩| ⟨_,_,_,I,_⟩| ⟨v,vs,x,E,J,W⟩
 ·intro x J;rw [U.out.1.1 k1] at J;simp at J
 ·exact key _ _ I
 ·intro y hy;rw [E] at hy;rcases As.1 hy with rfl| hy
  ·exact⟨x,J⟩
  ·rcases W with ⟨_,s,_,I,_⟩| ⟨k4,_⟩| ⟨Z,_⟩
   ·exact key _ _ I y hy
   ·have:=U.out.1.2 (.inl k4);rw [E] at this;have:vs=[]:=by simpa using this
    rw [this] at hy;simp at hy
   ·have:=U.out.1.2 (.inr Z);rw [E] at this;have:vs=[]:=by simpa using this
    rw [this] at hy;simp at hy
theorem G2a {c:Dd} {e:Ex} {t:Ty} (J:e.One)(ht:Em c e=(t,none)):∀y,y∈Bb e→y.One∧∃K,Em c y=(K,none) :=
 B2a (Q:=fun y=>y.One∧∃K,Em c y=(K,none)) (fun e h x E=>⟨h.1.out.2 x E,by obtain⟨K,I⟩:=h.2;exact G5s h.1 I x E⟩) e ⟨J,t,ht⟩
theorem G3g {vars:List Param} (v:List A3)(a:List Ty)(E:A3):Hn (vars.map (Param.subst v a)) E=Hn vars E:=by unfold Hn Dy;rw [List.findIdx?_map];rfl
theorem E5d {env env':List Ak} {v:List A3} {a:List Ty} (R:PW p)(sb:Sb p env env' v a)(L:∀u,u∈a→C0 p env' u=none) {st:Bool} {vars:List Param} :
  ∀(e:Ex) (t:Ty),Em ⟨p,st,env,vars⟩ e=(t,none)→∃J,Em ⟨p,false,env',vars.map (Param.subst v a)⟩ (e.subst v a)=(J,none)∧Dj p env' J (t.subst v a)=true:=by
 intro e
 induction e using Ex.induct with| _ e U=>?_
 intro t h;by_cases k1:e.kind=1
 ·rcases Tb.1 h with ⟨_,k,f,I,E,rfl⟩| ⟨h3,_⟩| ⟨_,_,_,_,_,h3| h3| h3⟩
  ·refine⟨f.type.subst v a,Tb.2 (.inl ⟨by rw [Ya];exact k1,k,Param.subst v a f,?_,?_,rfl⟩),C1x _ _ _⟩
   ·show Hn (vars.map (Param.subst v a)) (e.subst v a).name=k;rw [G3g,Ya];exact I
   ·show (vars.map (Param.subst v a))[k]? = _;have E:vars[k]? = some f:=E;rw [D3,E];rfl
  all_goals omega
 ·refine G4y R sb L (vars:=vars) (e:=e) (by rw [Ya];rfl) (by rw [Ya];rfl) (by rw [Ya];rfl) (by rw [Ya];rfl) (by rw [Ya];simp [Ex.kids]) k1 h ?_;intro i k O K I E h3;rw [Ya] at E;have E:(e.kids.map (Ex.subst v a))[i]? = some O:=E;rw [D3,I] at E;simp only [E8,Av] at E;subst E;exact U k (Bx I) K h3
structure A7j (p:Prog)(c:Au):Prop where
 on:C0 p [] c.on=none
 targs:∀t,t∈c.targs→C0 p [] t=none
 sig:∃g,g∈De p [] c.on∧g.name=c.name∧g.A1.length=c.targs.length∧Gt p [] g.A1 c.targs < 0
structure Ap.Gd (p:Prog)(s:Ap):Prop where
 types:∀t,t∈s.types→C0 p [] t=none
 calls:∀c,c∈s.calls→A7j p c
theorem Ap.Gd.lg {s:Ap} (h:s.Gd p)(b:Bool):Ap.Gd p { s with D7:=b }:=⟨h.types,h.calls⟩
theorem A9v {s:Ap} (hs:s.Gd p) {x:Ty} (E:C0 p [] x=none):(G9 s x).Gd p:=by
 unfold G9;split
 ·exact⟨hs.types,hs.calls⟩
 ·refine⟨fun t ht=>?_,hs.calls⟩;rcases (A3x (cmp:=Dz) (x:=x) s.types).2 t ht with rfl| h
  ·exact E
  ·exact hs.types t h
theorem E4v {s:Ap} (hs:s.Gd p) {x:Au} (E:A7j p x):(Gz s x).Gd p:=by
 unfold Gz;split
 ·exact⟨hs.types,hs.calls⟩
 ·refine⟨hs.types,fun t ht=>?_⟩;rcases (A3x (cmp:=Bj) (x:=x) s.calls).2 t ht with rfl| h
  ·exact E
  ·exact hs.calls t h
theorem G2o (hr:p.right=true)(R:HW p) {vars:List Param} (hv:∀f,f∈vars→C0 p [] f.type=none) {y v:Ex} {vs:List Ex} {t x:Ty} (ht:Em ⟨p,false,[],vars⟩ y=(t,none))(h2:y.kind=2)(hk:y.kids=v::vs)(J:Em ⟨p,false,[],vars⟩ v=(x,none)):A7j p ⟨x,y.name,y.targs⟩:=by
 rcases Tb.1 ht with ⟨h,_⟩| ⟨h,_⟩| ⟨v',L,x',I,E,h⟩
 ·omega
 ·omega
 rw [hk] at I;cases I;rw [J] at E;cases E;rcases h with ⟨_,s,hs,_⟩| ⟨h,_⟩| ⟨h,_⟩
 ·obtain⟨V,O,U,Z,W,_⟩:=B2y.1 hs;exact⟨E2t hr R hv v x J,Z,s,V,O,U,W⟩
 all_goals omega
theorem C9q (hr:p.right=true)(J:HW p) {vars:List Param} (O:∀f,f∈vars→C0 p [] f.type=none) {e:Ex} {t:Ty} (Z:e.One)(ht:Em ⟨p,false,[],vars⟩ e=(t,none)) {s:Ap} (hs:s.Gd p):(Lq p s e vars).Gd p:=by
 refine foldI _ (fun s y R hs=>?_) hs;obtain⟨_,K,I⟩:=G2a Z ht y R;unfold Ju;split
 ·rename_i W;refine A9v hs ?_;rcases Tb.1 I with ⟨h,_⟩| ⟨_,E,_⟩| ⟨v,vs,x,_,_,h| h| ⟨_,E,_⟩⟩
  ·omega
  ·exact E
  ·omega
  ·omega
  ·exact E
 split
 ·rename_i k2;split
  ·exact hs
  ·rename_i v vs U;unfold T6;split
   ·exact⟨hs.types,hs.calls⟩
   ·rename_i V;have L:=B9b (c:=⟨p,false,[],vars⟩) (e:=v) (by simpa using V);exact E4v (A9v (hs.lg _) (E2t hr J O v _ L)) (G2o hr J O I k2 U L)
 ·exact hs
theorem C7c {g O:A5} (h:g.er=O.er) {a:List Ty} (Z:Gt p [] O.A1 a < 0):Gt p [] g.A1 a < 0:=by
 obtain⟨_,U,_⟩:=C3z h;have W:Ad g.A1=Ad O.A1:=by rw [←A4w g.A1,U,A4w]
 refine Yw.2 fun i f u E V=>?_;obtain⟨R,I,he⟩:=B5d U E;have J:=Yw.1 Z i R u I V;refine A0a J (Xi ?_);have L:R.bound.er=f.bound.er:=by have:=K9 Ak.bound he;simpa [Ak.er] using this
 rw [Ku,Ku,W,L]
theorem D6z {x:Ty} {c:Au} (Z:A7j p c) {g:A5} (h:Rf p x c=some g):g∈De p [] x∧g.name=c.name∧g.A1.length=c.targs.length∧Dj p [] x c.on=true∧Gt p [] g.A1 c.targs < 0:=by
 unfold Rf at h;split at h
 ·cases h
 rename_i J;split at h
 ·cases h
 rename_i g' E;split at h
 ·rename_i I;cases h;have U:=Vf.1 (Bx E);have R:g.name=c.name:=by
   unfold F8 at E J;rcases N1 (fun s:A5=>decide (s.name=c.name)) (Cb p [] x) with ⟨L,_⟩| ⟨j,y,L,V,h3⟩
   ·rw [L] at J;exact absurd (by decide) J
   ·rw [L,Gr,V] at E;cases E;simpa using h3
  refine⟨U,R,I.1,I.2,?_⟩;obtain⟨g0,m0,n0,_,b0⟩:=Z.sig;obtain⟨s',W,O⟩:=B1j I.2 g0 m0;have:s'=g:=B7p (C6p p [] x) W U (by rw [R,←n0];have:=K9 A5.name O;simpa [A5.er] using this)
  subst this;exact C7c O b0
 ·cases h
theorem E4a (L:Typed p) {x:Ty} (hx:C0 p [] x=none) {c:Au} (hc:A7j p c) {g:A5} (h:Rf p x c=some g) {d:Decl} (hd:Jm p x c.name=some d) :
  d∈p.decls∧d.kind=3∧g=d.sig.canon.subst d.vars x.args∧C7r p d x c.targs∧(∀f,f∈A2c p d x c→C0 p [] f.type=none) ∧
  ∃t,Em ⟨p,false,[],A2c p d x c⟩ (N4 d x c)=(t,none)∧Dj p [] t (d.sig.result.subst (V0 d) (R3 x c))=true:=by
 have W:=A7w L.right L.head;obtain⟨g1,g2,g3,g4,g5⟩:=D6z hc h;obtain⟨J,V,U,_⟩:=A9c hd;obtain⟨d',_,_,d3,_,he,O⟩:=B6g U g1;rw [g2,hd] at O;cases O;subst he;have Z:d.sig.A1.length=c.targs.length:=by rw [←g3];simp [A5.subst,A5.canon,Ha]
 have I:=called L.right L.head J V hx U d3 Z hc.targs g5;obtain⟨_,_,_,m4⟩:=B4j L.head J V;obtain⟨_,c2,c3⟩:=A3z m4;have E:=L.body d J;unfold A0n at E;rw [A8 V] at E;unfold Up at E;have R:(Dg (Mu p true d) d.body).2.bad=false∧Dj p (H2 p d++d.sig.A1) (Dg (Mu p true d) d.body).1 d.sig.result=true:=by
  split at E
  ·cases E
  ·rename_i hh;refine⟨E,?_⟩;cases U:Dj p (H2 p d++d.sig.A1) (Dg (Mu p true d) d.body).1 d.sig.result with
   |true=>rfl
   |false=>exact absurd ⟨E,U⟩ hh
 obtain⟨t',k1,k2⟩:=E5d W I.sb I.wf (st:=true) (vars:=(Mu p true d).vars) d.body _ (B9b R.1);refine⟨J,V,rfl,I,fun f hf=>?_,t',k1,A0a k2 (B3n W I.sb R.2)⟩;obtain⟨q,hq,rfl⟩:=Ax.1 hf;rcases As.1 hq with rfl| hq
 ·exact C6a I.self.symm hx
 ·exact Zt W I.sb I.wf (c2 q hq)
theorem F6q {d:Decl} (h:d.body.One)(x:Ty)(c:Au):(N4 d x c).One:=Ex.One.subst _ _ h
theorem F7g (E:Typed p) {x:Ty} (L:C0 p [] x=none) {s:Ap} (hs:s.Gd p) {c:Au} (J:A7j p c):(Kh p x s c).Gd p:=by
 unfold Kh;split
 ·exact hs
 ·rename_i g h;obtain⟨g1,g2,R,g4,V⟩:=D6z J h;obtain⟨w1,w2⟩:=D4f E.right E.head L g1 R J.targs V;have O:(G9 (Jn s (Y5 g c)) (Ym g c)).Gd p:=A9v (foldI _ (fun s t ht h=>by
   obtain⟨q,hq,rfl⟩:=Ax.1 ht;exact A9v h (w2 q hq)) hs) w1
  unfold Qe;rcases D1j p x c.name with ⟨I,_⟩| ⟨j,d,I,hd,hm⟩
  ·rw [A8 I];exact O
  ·rw [I,A6 (by omega),Gr,hd];simp only;obtain⟨W,b2,_,_,U,t,Z,_⟩:=E4a E L J h hm;exact C9q E.right E.head U (F6q ((D2b E.right).1 d W b2) x c) Z O
theorem G2r (I:Typed p) {s:Ap} (hs:s.Gd p):(Km p s).Gd p:=by
 refine foldI _ (fun o x J E=>foldI _ (fun o c L E=>F7g I (hs.types x J) E (hs.calls c L)) ?_) hs;split
 ·refine foldI _ (fun s t ht h=>?_) E;obtain⟨f,O,rfl⟩:=Ax.1 ht;exact A9v h (D5e I.right I.head (hs.types x J) O)
 ·exact E
theorem C5v (I:Typed p):∀(k:Nat) {s:Ap} (n:Int),s.Gd p→(Gn p k s n).1.Gd p
 | 0,_,_,_=>⟨by simp [Gn],by simp [Gn]⟩
 |k+1,s,n,h=>by
  have E:Ap.Gd p Pf:=⟨by simp,by simp⟩;rw [Gn];split
  ·split
   ·exact E
   ·exact h
  ·split
   ·exact E
   ·exact C5v I k _ (G2r I h)
theorem F1w (E:Typed p):(Hw p).1.Gd p:=by obtain⟨t,ht⟩:=E.main;exact C5v E _ _ (C9q E.right E.head (by simp) (D2b E.right).2 ht ⟨by simp,by simp⟩)
end
end Go.Abs
/- names of instances are different: what a name was made of can be read from it -/
namespace Go.Abs
set_option maxRecDepth 100000
set_option maxHeartbeats 4000000
open Go
structure A5.Mc (s:A5):Prop where
 A1:∀f,f∈s.canon.A1→f.bound.Mg
 params:∀f,f∈s.canon.params→f.type.Mg
 result:s.canon.result.Mg
end Go.Abs
/- what can be looked up in the program of an instance set -/
namespace Go.Abs
set_option maxRecDepth 100000
set_option maxHeartbeats 4000000
open Go
structure Va (p:Prog)(s:Ap):Prop where
 Gi:Typed p
 few:p.count≤600
 fd:s.Fd
 Bf:Clo p s
 gd:s.Gd p
theorem Va.of {p:Prog} (E:p.count≤600)(hr:p.right=true)(I:(A4o p true).bad=false)(h:(Hw p).2=true):Va p (Hw p).1 :=
 ⟨.of hr I,E,F8x (Prog.Zp p E) (Prog.R5 p E) hr h,G1e h,F1w (.of hr I)⟩
abbrev X8 (p:Prog)(s:Ap)(x:Ty):List Au:=(Ze p s.calls x).calls
def A6r (p:Prog)(s:Ap)(x:Ty):List A5:=(X8 p s x).filterMap (Fk p)++(Cb p [] x).map Jd
def Xa (p:Prog)(s:Ap)(x:Ty):Decl:=if Bz p x 1=true then headD 1 x.mg (Ix (C5 p x)) [] else headD 2 x.mg [] (A6r p s x)
def B2h (p:Prog)(s:Ap)(x:Ty):List Decl:=if Bz p x 1=true then (X8 p s x).filterMap (Rg Ew p)++(Cb p [] x).map (A0b x.mg) else []
theorem C9t {p:Prog} {x:Ty} (h:Bz p x 1=true):¬Bz p x 2=true:=fun E=>by have:=(Tv h).1;have:=(Tv E).1;omega
theorem C0v {p:Prog} {s:Ap} {x:Ty} (h:C0 p [] x=none):Sz p s.calls x=Xa p s x::B2h p s x:=by
 unfold Sz A1f Pk Tn Xa B2h A6r;rcases C6k h with E| h2
 ·rw [A8 E,A8 E,A8 E,A6 (C9t E),Ge]
 ·have E:¬Bz p x 1=true:=fun I=>C9t I h2;rw [A6 E,A6 E,A6 E,A8 h2];rfl
section
variable {p:Prog} {s:Ap} (h:Va p s)
include h
theorem Va.sm:p.Sm:=(Prog.Zp p h.few).sm
theorem Va.tl:∀d,d∈p.decls→d.Tl:=Prog.R5 p h.few
theorem Va.mg {t:Ty} (ht:t∈s.types):t.Mg:=(h.fd.types t ht).mg
theorem Va.wf {t:Ty} (ht:t∈s.types):C0 p [] t=none:=h.gd.types t ht
theorem C2m {x:Ty} (E:x∈s.types):∀c,c∈X8 p s x→c.on=x∧c.Ni:=(E4x (p:=p) h.fd E).2
omit h in
theorem E8q (x:Ty):(Xa p s x).name=x.mg∧((Xa p s x).kind=1∨(Xa p s x).kind=2):=by
 unfold Xa;split
 ·exact⟨rfl,.inl rfl⟩
 ·exact⟨rfl,.inr rfl⟩
theorem B5j {x:Ty} (hx:x∈s.types) {c:Au} (hc:c∈X8 p s x):∃g,g∈De p [] x∧g.name=c.name∧g.A1.length=c.targs.length∧Gt p [] g.A1 c.targs < 0∧(∀t,t∈c.targs→C0 p [] t=none)∧Fk p c=some (Md c g)∧∃E,E∈s.calls∧Dj p [] x E.on=true∧c=⟨x,E.name,E.targs⟩∧Rf p x E=some g:=by
 have hl:=h.fd.len;have hm:c∈Fp p s.calls x:=by obtain⟨_,b2,_⟩:=B8g (Fp p s.calls x) ⟨[],[],false⟩ (by simp [Pe]) (by have:=A5w p s.calls x;simp only [Ch];omega);exact (b2 c hc).elim id fun h=>by simp at h
 obtain⟨E,V,rfl⟩:=Ax.1 hm;obtain⟨V,hi⟩:=L8.1 V;have O:=h.gd.calls E V;obtain⟨g0,m0,n0,l0,b0⟩:=O.sig;obtain⟨g,mg,eg⟩:=B1j hi g0 m0;obtain⟨e1,e2,_⟩:=C3z eg;have hn:g.name=E.name:=e1.trans n0;have I:g.A1.length=E.targs.length:=by rw [←l0];have:=K9 List.length e2;simpa using this
 have R:∃k,F8 (Cb p [] x) E.name=(k:Nat)∧(Cb p [] x)[k]? = some g:=by
  have J:=Vf.2 mg;obtain⟨k,hk⟩:=Ls J;unfold F8;rcases N1 (fun s:A5=>decide (s.name=E.name)) (Cb p [] x) with ⟨_,W⟩| ⟨j,y,h1,W,h3⟩
  ·have:=W g J;simp [hn] at this
  ·refine⟨j,h1,?_⟩;have:y=g:=B7p (C1q p [] x) (Bx W) J (by simp at h3;rw [h3,hn]);rw [←this];exact W
 obtain⟨k,L,U⟩:=R;have Z:Rf p x E=some g:=by unfold Rf;rw [L,A6 (by omega),Gr,U];simp only;rw [A8 ⟨I,hi⟩]
 refine⟨g,mg,hn,I,C7c eg b0,O.targs,?_,E,V,hi,rfl,Z⟩;unfold Fk B0y;simp only;rw [L,A6 (by omega),Gr,U,Dc,A8 I]
theorem G1m {x:Ty} (J:x∈s.types) {g:A5} (L:g∈Cb p [] x):g.Mc:=by have E:=(A6e h.sm h.tl h.Gi.right (h.fd.sm.types.2 x J) (h.fd.types x J).args g L).canon;exact⟨fun f I=>(E.A1.2 f I).mg,fun f I=>(E.params.2 f I).mg,E.result.mg⟩
theorem C9j {x:Ty} (I:x∈s.types)(R:Bz p x 1=true) {c:Au} (J:c∈X8 p s x):∃d g,Jm p x c.name=some d∧g=d.sig.canon.subst d.vars x.args∧Fk p c=some (Md c g)∧g.A1.length=c.targs.length ∧
  Rg Ew p c=some ⟨3,x.mg,[],[],[],d.recv,[],⟨(Md c g).name,[],Jy (Md c g).params d.sig.params,(Md c g).result,0⟩,Ew (N4 d x c),0⟩:=by
 obtain⟨g,U,W,O,_,_,L,_⟩:=B5j h I J;obtain⟨E,_⟩:=C2m h I c J;obtain⟨d,_,_,_,_,V,hd⟩:=B6g R U;rw [W] at hd;refine⟨d,g,hd,V,L,O,?_⟩;unfold Rg;rw [E,hd,L]
end
section
variable {p:Prog} {s:Ap} (h:Va p s)
include h
end
end Go.Abs
/- the program of an instance set is right, has no type parameters, and declares all its types -/
namespace Go.Abs
set_option maxRecDepth 100000
set_option maxHeartbeats 4000000
open Go
theorem C9o {s:A3} {c:UInt8} (h:c∈s)(I:c.toNat < 97):A7x s=false:=by
 unfold A7x;refine Ci fun E=>?_;have:∀b,b∈s→97≤b.toNat:=by rcases E with rfl| rfl| rfl| rfl| rfl| rfl| rfl <;> decide
 have:=this c h;omega
theorem D5b {n:A3} (h:n.all I0=true):(G2 n).all I0=true:=by
 simp only [G2,Cf,An9] at *;rintro c ⟨b,I,E⟩;split at E
 ·simp only [As,Dt,Du,or_self] at E;rw [E];decide
 ·rw [Qt.1 E];exact h _ I
theorem D2e:∀{n:A3},(95:UInt8) ∉ G2 n→G2 n=n
 |[],_=>rfl
 |c::n,h=>by
  unfold G2 at h ⊢;rw [Ar4] at h ⊢;by_cases E:c=95
  ·rw [A8 E] at h;simp at h
  ·rw [A6 E] at h ⊢;have:G2 n=n:=D2e fun I=>h (Bw.2 (.inr I));unfold G2 at this;rw [this];rfl
theorem B3k {c:UInt8} {r:A3} (h:isName (c::r)=true):cls c.toNat=1∧(c::r).all I0=true∧A7x (c::r)=false:=by unfold isName at h;simp only [B1,D8,Jo] at h;exact⟨h.1.1,h.1.2,h.2⟩
theorem D9g {c:UInt8} {r:A3} (J:cls c.toNat=1)(E:(c::r).all I0=true)(I:A7x (c::r)=false):isName (c::r)=true:=by unfold isName;simp only [B1,D8,Jo];exact⟨⟨J,E⟩,I⟩
theorem E7s {n:A3} (h:isName n=true):n.all I0=true:=by
 cases n with
 |nil=>rfl
 |cons c r=>exact (B3k h).2.1
theorem B9h {n z:A3} (J:isName n=true)(V:z.all I0=true)(hu:z=[]∨(95:UInt8)∈z):isName (G2 n++z)=true:=by
 cases n with
 |nil=>simp [isName] at J
 |cons c r =>
  obtain⟨L,O,W⟩:=B3k J;have R:c≠95:=by rintro rfl;revert L;decide
  have e:G2 (c::r)=c::G2 r:=by simp [G2,R]
  by_cases E:(95:UInt8)∈G2 (c::r)++z
  ·have U:=C9o E (by decide);have I:=D5b O;rw [e,S9] at *;refine D9g L ?_ U;rw [Na,B1] at I ⊢;rw [Xw,I.2,V];exact⟨I.1,rfl⟩
  ·rcases hu with rfl| hu
   ·rw [Ge] at E ⊢;rw [D2e E];exact J
   ·exact absurd (Bw.2 (.inr hu)) E
theorem F1c {c:UInt8} (h:48≤c.toNat∧c.toNat≤57):I0 c=true:=by
 have:cls c.toNat=2:=by unfold cls;rw [A6 (show ¬letter (c.toNat:Int) by unfold letter;omega),A8 (show 48≤(c.toNat:Int)∧(c.toNat:Int)≤57 by omega)]
 unfold I0;rw [this];decide
theorem C6x (i:Nat):(Lib.itoa (i:Int)).all I0=true:=by rw [A3j,Cf];exact fun c E=>F1c (G4v i c E)
theorem G0m (i:Nat):isName ([112]++Lib.itoa (i:Int))=true:=by
 refine D9g (by decide) ?_ ?_
 ·rw [Na,B1];exact⟨by decide,C6x i⟩
 ·obtain⟨c,r,e,I,E⟩:=D4k i;refine C9o (c:=c) ?_ (by omega);simp [A3j,e]
theorem E9w {E:A3} (hs:E.all I0=true) {l:List A3} (h:∀x,x∈l→x.all I0=true):(Lib.join l E).all I0=true:=by
 cases l with
 |nil=>rfl
 |cons x r =>
  rw [Lib.join_cons,Xw,h x (by simp),Ca];unfold Lib.joinTail;rw [Cf] at hs ⊢;intro c hc;obtain⟨z,J,hc⟩:=List.mem_flatten.1 hc;obtain⟨y,I,rfl⟩:=Ax.1 J;rcases Bw.1 hc with hc| hc
  ·exact hs c hc
  ·exact Cf.1 (h y (by simp [I])) c hc
theorem B9g {l:List Ty} (h:∀t,t∈l→t.mg.all I0=true):(J5 l).all I0=true:=by
 unfold J5;split
 ·rfl
 ·rw [Xw,Xw,E9w (by decide) fun x E=>by obtain⟨t,ht,rfl⟩:=Ax.1 E;exact h t ht];decide
theorem C7b (l:List Ty):J5 l=[]∨(95:UInt8)∈J5 l:=by
 unfold J5;split
 ·exact .inl rfl
 ·exact .inr (by simp)
theorem B1f:∀{t:Ty},t.Mg→t.mg.all I0=true:=by
 intro t h
 induction h with
 |loc i p R =>rw [Ty.A5c,A8 ⟨rfl,rfl⟩,Xw];have:(Ec i).drop 1=Lib.itoa (i:Int):=rfl;simp only [Ty.name];rw [this,C6x];decide
 |Uk n a p E O U V J =>
  rw [Ty.A5c];split
  ·rename_i L;cases n with
   |nil=>simp [isName] at E
   |cons c r =>
    have I:=(B3k E).1;have:c=36:=by simpa [Ty.name] using L.1
    subst this;exact absurd I (by decide)
  ·simp only [Ty.name,Ty.args];rw [Xw,D5b (E7s E),B9g J];rfl
theorem B8s {t:Ty} (h:t.Mg)(E:isName t.name=true):isName t.mg=true:=by
 rw [Ty.A5c];split
 ·rename_i I;cases e:t.name with
  |nil=>rw [e] at E;simp [isName] at E
  |cons c r =>
   rw [e] at E I;have L:=(B3k E).1;have:c=36:=by simpa using I.1
   subst this;exact absurd L (by decide)
 ·exact B9h E (B9g fun u J=>B1f (h.arg u J)) (C7b _)
theorem E1s {n:A3} {l:List Ty} (E:isName n=true)(h:∀t,t∈l→t.Mg):isName (G3 n l)=true :=
 B9h E (B9g fun u I=>B1f (h u I)) (C7b _)
theorem C8x {α:Type} {l:List α} {f:α→A3} (h:∀x,x∈l→(f x).all I0=true):(l.flatMap f).all I0=true:=by rw [Cf];intro c E;obtain⟨x,I,E⟩:=An9.1 E;exact Cf.1 (h x I) c E
theorem E3n {g:A5} (J:isName g.name=true)(I:∀f,f∈g.canon.A1→f.bound.Mg)(E:∀f,f∈g.canon.params→f.type.Mg)(hr:g.canon.result.Mg):isName (Wp g)=true:=by unfold Wp Me Mk;simp only [Pg];refine B9h J ?_ (.inr (by simp));simp only [Xw];rw [C8x fun f h=>by rw [Xw,B1f (I f h)];decide,C8x fun f h=>by rw [Xw,B1f (E f h)];decide,B1f hr];decide
theorem E0u {p:Prog} (hr:p.right=true) {x:Ty}:∀g,g∈De p [] x→isName g.name=true:=by
 intro s E;have U:Ck [] x=none:=by simp [Ck,Ev,Dy]
 simp only [Prog.right,B1,Cf] at hr;have hr:=hr.1;unfold De at E;rw [U] at E;simp only [Mj,L7,Hh,Et] at E;split at E
 ·rename_i R;unfold Gg at E;rw [A8 R] at E;obtain⟨d,hd,_⟩:=Lo (by decide) R;rw [hd,Dc] at E;unfold Yx I7 at E;obtain⟨⟨y,i⟩,J,rfl⟩:=Ax.1 E;have O:=Iq (V5 (L8.1 J).1);have h:=hr d (Nh hd);simp only [Decl.right,A5.right,B1,Cf] at h;exact (h.2.2.2.1 y O).1.1.1
 ·unfold Gk at E;obtain⟨⟨d,i⟩,J,rfl⟩:=Ax.1 E;have O:d∈p.decls:=Iq (V5 (L8.1 J).1);have I:=(L8.1 J).2;unfold Io at I;simp only [B1,D8] at I;have h:=hr d O;have L:d.Sv=true:=by
   simp only [Decl.right,B1] at h;exact h.2.2.2.2.2
  unfold Decl.Sv at L;rw [A8 (by first| exact I.1.1.1| exact I.1.1| exact I.1)] at L;simp only [A5.right,B1] at L;exact L.2.2.1.1.1.1
theorem C4k {n:A3} (h:isName n=true)(q:Int):(Ty.mk n [] q).right=true:=by unfold Ty.right;rw [Ty.A8o];simp [Ty.name,Ty.args,Ty.J2,h]
theorem E1h {e f:Ex} (I:e.kind=f.kind)(E:e.kids.length=f.kids.length):e.L2=f.L2:=by unfold Ex.L2;rw [I,E]
theorem D7m:∀{l:List Ex},(∀x,x∈l→x.right=true)→Ex.Vt l=true
 |[],_=>rfl
 |x::l,h=>by rw [Ex.Vt,h x (by simp),D7m fun y E=>h y (by simp [E])];rfl
theorem E0n:∀{l:List Ex} {k:Ex},k∈l→∀z,z∈Bb k→z∈Cr l
 |w::l,k,hk,z,E=>by
  rw [Cr,Bw];rcases As.1 hk with rfl| hk
  ·exact .inl E
  ·exact .inr (E0n hk z E)
theorem D2u (e:Ex):e.Rc=true↔((e.kind=3∨e.kind=5)∧e.type.right=true∧e.name=[]∧e.L2=true)∨(¬(e.kind=3∨e.kind=5)∧e.type.right=false∧e.type.name=[]∧e.type.args=[]∧isName e.name=true∧e.L2=true):=by
 unfold Ex.Rc;have ht:e.typed=true↔(e.kind=3∨e.kind=5):=by unfold Ex.typed;rw [Ta,D8,D8]
 by_cases E:e.typed=true
 ·rw [A8 E];have:=ht.1 E;simp [this,and_assoc]
 ·rw [A6 E];have:¬(e.kind=3∨e.kind=5):=fun h=>E (ht.2 h);simp [this,and_assoc]
theorem F7n {f:Ex} (O:f.kind=3∨f.kind=5→isName f.type.mg=true∧f.name=[])(R:¬(f.kind=3∨f.kind=5)→f.type.mg=[]∧isName f.name=true∧∀t,t∈f.targs→t.Mg)(U:f.L2=true):(Ew f).Rc=true:=by
 rw [Uz,D2u];have E:(Ex.mk f.kind (if f.kind=2 then G3 f.name f.targs else f.name) (.mk f.type.mg [] f.type.pos) [] (f.kids.map Ew) f.pos).L2=true:=by
  refine Eq.trans (E1h (f:=f) ?_ ?_) U
  ·rfl
  ·exact B6 ..
 by_cases I:f.kind=3∨f.kind=5
 ·exact .inl ⟨I,C4k (O I).1 _,(show (if f.kind=2 then G3 f.name f.targs else f.name)=[] by rw [A6 (by omega)];exact (O I).2),E⟩
 ·obtain⟨L,J,V⟩:=R I;refine .inr ⟨I,(show (Ty.mk f.type.mg [] f.type.pos).right=false by rw [L];rfl),L,rfl,(show isName (if f.kind=2 then G3 f.name f.targs else f.name)=true from ?_),E⟩;split
  ·exact E1s J V
  ·exact J
theorem C8n {v:List A3} (hv:([]:A3) ∉ v) {a:List Ty} {B:Nat}:∀{e:Ex},e.right=true→(e.subst v a).Nq B→(∀y,y∈Bb (e.subst v a)→y.kind=3∨y.kind=5→isName y.type.name=true)→(Ew (e.subst v a)).right=true:=by
 intro e
 induction e using Ex.induct with| _ e ih=>?_
 intro hr W hn;rw [Ex.A2w,B1,B1] at hr;obtain⟨h1,h2,h3⟩:=hr;have hk:=A8f h1;have I:=hn _ (by rw [Sd];exact An8);have V:=W.type;have U:=W.targs.1;have E:(e.subst v a).kids=e.kids.map (Ex.subst v a):=by rw [W7];rfl
 have Z:∀x,x∈(e.subst v a).kids→(Ew x).right=true:=fun x L=>by have O:=L;rw [E] at L;obtain⟨y,R,rfl⟩:=Ax.1 L;refine ih y R (hk y R) (W.kids _ O) fun z hz=>hn z ?_;rw [Sd];exact As.2 (.inr (E0n O z hz))
 have e1:(e.subst v a).kind=e.kind:=by rw [W7];rfl
 have e2:(e.subst v a).name=e.name:=by rw [W7];rfl
 have e3:(e.subst v a).type=e.type.subst v a:=by rw [W7];rfl
 have h4:=(D2u e).1 h3;rw [Ex.A2w,B1,B1];refine⟨D7m fun x L=>?_,by rw [Uz];rfl,F7n (fun J=>⟨B8s (V J).mg (I J),?_⟩) (fun J=>?_) ?_⟩
 ·rw [Uz] at L;obtain⟨y,R,rfl⟩:=Ax.1 L;exact Z y R
 ·rw [e1] at J;rw [e2];rcases h4 with h4| h4
  ·exact h4.2.2.1
  ·exact absurd J h4.1
 ·rw [e1] at J;rcases h4 with h4| h4
  ·exact absurd h4.1 J
  ·rw [e2,e3,C8e hv h4.2.2.1 h4.2.2.2.1,D8n];exact⟨rfl,h4.2.2.2.2.1,fun t ht=>(U t ht).mg⟩
 ·refine (E1h e1 (by rw [E,B6])).trans ?_;rcases h4 with h4| h4
  ·exact h4.2.2.2
  ·exact h4.2.2.2.2.2
theorem B6o:∀e:Ex,Bb (Ew e)=(Bb e).map Ew:=by
 intro e
 induction e using Ex.induct with| _ e J=>?_
 have key:∀l:List Ex,(∀x,x∈l→Bb (Ew x)=(Bb x).map Ew)→Cr (l.map Ew)=(Cr l).map Ew:=by
  intro l
  induction l with
  |nil=>intro _;rfl
  |cons x l E=>intro h;rw [Cz,Cr,Cr,h x (by simp),E fun y I=>h y (by simp [I]),Fz]
 rw [Sd,Sd e,Cz,←key _ J,show (Ew e).kids=e.kids.map Ew by rw [Uz];rfl]
theorem E0z (e:Ex):Jz (Ew e)=true:=by unfold Jz;rw [B6o,Cf];intro x E;obtain⟨y,_,rfl⟩:=Ax.1 E;rw [Uz];rfl
theorem E3c {ps J:List Param} {f:Param} (O:f∈Jy ps J):∃a b,a∈ps∧b∈J∧f=⟨b.name,a.type,a.pos⟩:=by
 obtain⟨i,E⟩:=Ls O;simp only [Jy,List.getElem?_zipWith] at E;cases I:ps[i]? with
 |none=>rw [I] at E;simp at E
 |some a =>
  cases L:J[i]? with
  |none=>rw [I,L] at E;simp at E
  |some b =>rw [I,L] at E;simp only [Av] at E;exact⟨a,b,Bx I,Bx L,E.symm⟩
theorem D7c {p:Prog} (hr:p.right=true) {d:Decl} (hd:d∈p.decls)(E:d.kind=3):isName d.recv=true∧∀f,f∈d.sig.params→isName f.name=true:=by simp only [Prog.right,B1,Cf] at hr;have hr:=hr.1 d hd;unfold Decl.right Decl.Sv at hr;rw [A8 E] at hr;simp only [A5.right,Lx,B1,Cf] at hr;exact⟨hr.2.2.2.2.2.1,fun f I=>(hr.2.2.2.2.2.2.2.1.1.2 f I).1⟩
def QT (s:Ap)(t:Ty):Prop:=t.args=[]∧(t.name=B0n∨∃u,u∈s.types∧t.name=u.mg)
theorem QT.of {s:Ap} {t:Ty} (h:P5 t s.types)(q:Int):QT s (.mk t.mg [] q):=by obtain⟨u,E,e⟩:=h;exact⟨rfl,.inr ⟨u,E,C0s e⟩⟩
theorem QT.top {s:Ap}:QT s Xe:=⟨rfl,.inl rfl⟩
section
variable {p:Prog} {s:Ap} (h:Va p s)
include h
theorem B3p {x:Ty} (J:x∈s.types):isName x.name=true:=by obtain⟨d,hd,_⟩:=A6g (C2p (h.wf J)).1;obtain⟨_,E,I⟩:=A5x hd;rw [←E];exact (C1o h.Gi.right I).1
theorem E1k {t:Ty} (ht:P5 t s.types):isName t.name=true:=by
 obtain⟨u,E,e⟩:=ht;have:t.name=u.name:=by have:=K9 Ty.name e;cases t;cases u;simp only [Ty.er,Ty.name] at this ⊢;exact this
 rw [this];exact B3p h E
theorem QT.right {t:Ty} (ht:QT s t):t.right=true:=by
 obtain⟨n,a,q⟩:=t;obtain⟨J,E⟩:=ht;simp only [Ty.args,Ty.name] at J E;subst J;rcases E with rfl| ⟨u,I,rfl⟩
 ·exact C4k (by decide) q
 ·exact C4k (B8s (h.mg I) (B3p h I)) q
structure SG (s:Ap)(w:A5):Prop where
 name:isName w.name=true
 A1:w.A1=[]
 params:∀f,f∈w.params→isName f.name=true∧QT s f.type
 result:QT s w.result
theorem SG.right {w:A5} (g:SG s w):w.right=true:=by unfold A5.right Pv Lx;rw [g.name,g.A1,QT.right h g.result];simp only [Xv,Ca,Av0,Cf,B1];exact fun f E=>⟨(g.params f E).1,QT.right h (g.params f E).2⟩
omit h in
theorem SG.q {w:A5} (g:SG s w):B3u (QT s) w:=⟨fun f E=>by rw [g.A1] at E;simp at E,fun f E=>(g.params f E).2,g.result⟩
theorem SG.call {x:Ty} (J:x∈s.types) {c:Au} (R:c∈X8 p s x) {g:A5} (L:Fk p c=some g):SG s g:=by
 obtain⟨U,W,V,g3,g4,g5,g6,c0,m0,hi,e,hs⟩:=B5j h J R;rw [g6] at L;cases L;obtain⟨n1,n2,_⟩:=h.Bf.call x J c0 m0 U hs;obtain⟨_,E⟩:=C2m h J c R;refine⟨E1s ?_ fun t ht=>(E.targs t ht).mg,rfl,fun f O=>?_,QT.of (by have:=n2;rw [e];exact this) 0⟩
 ·rw [←V];exact E0u h.Gi.right _ W
 ·unfold Md Hg at O;obtain⟨i,y,hy,Z,rfl⟩:=mem_mapIdx O;refine⟨G0m i,QT.of ?_ 0⟩;have I:=Bx hy;obtain⟨z,hz,rfl⟩:=Ax.1 I;refine n1 _ ?_;unfold Y5;rw [e];exact Ax.2 ⟨z,hz,rfl⟩
theorem SG.dum {x:Ty} (L:x∈s.types) {g:A5} (I:g∈Cb p [] x):SG s (Jd g):=by have E:=G1m h L I;exact⟨E3n (E0u h.Gi.right _ (Vf.1 I)) E.A1 E.params E.result,rfl,fun f J=>by simp [Jd] at J,QT.top⟩
structure DG (s:Ap)(d:Decl):Prop where
 right:d.right=true
 q:D0u (QT s) d
 bare:Pb d=true
omit h in
theorem C5w {k:Int} (J:k=1∨k=2) {n:A3} {fs:List Param} {ss:List A5} (I:isName n=true)(L:Lx fs=true)(hs:ss.all A5.right=true)(O:k=1→ss=[])(E:k=2→fs=[]):(headD k n fs ss).right=true:=by
 unfold Decl.right Decl.Sv;have e:(headD k n fs ss).A9x=true:=(show (decide (([]:A3)=[]) && (decide (([]:List A3).length=0) && (Nz Kd Kd && A7r Tj Tj)))=true by decide +kernel);rw [e,A6 (show ¬(headD k n fs ss).kind=3 by show ¬k=3;omega)];simp only [headD];rw [I,L,hs];rcases J with rfl| rfl
 ·rw [O rfl];rfl
 ·rw [E rfl];rfl
theorem DG.hd {x:Ty} (L:x∈s.types):DG s (Xa p s x):=by
 have V:=B8s (h.mg L) (B3p h L);have W:Jz Tj=true:=by decide +kernel
 unfold Xa;split
 ·rename_i R;have O:∀f,f∈Ix (C5 p x)→isName f.name=true∧QT s f.type:=fun f O=>by
   obtain⟨y,J,rfl⟩:=Ax.1 O;refine⟨?_,QT.of (h.Bf.fields x L R y J) 0⟩;unfold C5 at J;rw [A8 R] at J;obtain⟨d,hd,_⟩:=Lo (by decide) R;rw [hd,Dc] at J;unfold fieldsD at J;obtain⟨z,hz,rfl⟩:=Ax.1 J;have hr:=h.Gi.right;simp only [Prog.right,B1,Cf] at hr;have hr:=hr.1 d (Nh hd);simp only [Decl.right,Lx,B1,Cf] at hr;exact (hr.2.2.1 z hz).1
  refine⟨C5w (.inl rfl) V ?_ rfl (fun _=>rfl) (fun h=>by omega),⟨by simp [headD],fun f E=>(O f E).2,by simp [headD],fun I=>absurd I (by simp [headD]),fun I=>absurd I (by simp [headD])⟩,?_⟩
  ·unfold Lx;rw [Cf];exact fun f E=>by rw [(O f E).1,QT.right h (O f E).2];rfl
  ·show (decide (0+0+Kd.A1.length=0) && (Jz Tj && Rb []))=true;rw [W];rfl
 ·have hs:∀g,g∈A6r p s x→SG s g:=fun g hg=>by
   rcases Bw.1 hg with hg| hg
   ·obtain⟨c,hc,Z⟩:=Aq3.1 hg;exact SG.call h L hc Z
   ·obtain⟨g',U,rfl⟩:=Ax.1 hg;exact SG.dum h L U
  refine⟨C5w (.inr rfl) V rfl ?_ (fun h=>by omega) (fun _=>rfl),⟨by simp [headD],by simp [headD],fun g hg=>(hs g hg).q,fun I=>absurd I (by simp [headD]),fun I=>absurd I (by simp [headD])⟩,?_⟩
  ·rw [Cf];exact fun g hg=>SG.right h (hs g hg)
  ·show (decide (0+0+Kd.A1.length=0) && (Jz Tj && Rb (A6r p s x)))=true;have:Rb (A6r p s x)=true:=by
    unfold Rb;rw [Cf];exact fun g hg=>by rw [(hs g hg).A1];rfl
   rw [W,this];rfl
theorem DG.Ia {n:A3} (I:isName n=true) {r:A3} (hr:isName r=true) {g:A5} (E:SG s g) {e:Ex} (O:e.right=true)(L:Jz e=true)(J:∀y,y∈Bb e→ExQ (QT s) y):DG s ⟨3,n,[],[],[],r,[],g,e,0⟩:=by
 refine⟨?_,⟨by simp,by simp,by simp,fun _=>E.q,fun _=>J⟩,?_⟩
 ·unfold Decl.right Decl.Sv;rw [A8 (show (⟨3,n,[],[],[],r,[],g,e,0⟩:Decl).kind=3 from rfl)];show (isName n && (true && (true && (true && (true && (isName r && (true && (g.right && e.right))))))))=true;rw [I,hr,SG.right h E,O];rfl
 ·show (decide (0+0+g.A1.length=0) && (Jz e && true))=true;rw [E.A1,L];rfl
omit h in
theorem ExQ.rgl {e:Ex} (J:∀y,y∈Bb e→y.kind=3∨y.kind=5→P5 y.type s.types):∀y,y∈Bb (Ew e)→ExQ (QT s) y:=fun y E=>by rw [B6o] at E;obtain⟨z,I,rfl⟩:=Ax.1 E;rw [Uz];exact⟨fun L=>QT.of (J z I L) _,fun t ht=>by simp [Ex.targs] at ht⟩
theorem DG.of {x:Ty} (J:x∈s.types):∀d,d∈Sz p s.calls x→DG s d:=by
 intro d hd;have hn:=B8s (h.mg J) (B3p h J);rw [C0v (h.wf J)] at hd;rcases As.1 hd with rfl| hd
 ·exact DG.hd h J
 unfold B2h at hd;split at hd
 ·rename_i hi;rcases Bw.1 hd with hd| hd
  ·obtain⟨c,U,hm⟩:=Aq3.1 hd;obtain⟨d',g,e1,e2,e3,e4,e5⟩:=C9j h J hi U;rw [hm] at e5;cases e5;obtain⟨g',g1,g2,g3,g4,g5,g6,c0,m0,a1,ec,V⟩:=B5j h J U;obtain⟨I,E,_,_⟩:=A9c e1;obtain⟨_,_,Z⟩:=B4k h.Gi.right I E;obtain⟨W,a0⟩:=C2m h J c U;obtain⟨hq,_,_⟩:=D1y h.few h.sm h.Gi.right I E a0;rw [W] at hq;have R:∀y,y∈Bb (N4 d' x c)→y.kind=3∨y.kind=5→P5 y.type s.types:=fun y O=>by
    obtain⟨_,_,n3⟩:=h.Bf.call x J c0 m0 g' V;have:=n3 d' (by rw [←e1,ec]) y (by rw [ec] at O;exact O);exact this.1
   refine DG.Ia h hn ?_ ?_ (C8n (B8y h.Gi.right I E) Z hq fun y O hk=>E1k h (R y O hk)) (E0z _) (ExQ.rgl R)
   ·exact (D7c h.Gi.right I E).1
   ·have L:=SG.call h J U e3;refine⟨L.name,rfl,fun f hf=>?_,L.result⟩;obtain⟨a,b,ha,hb,rfl⟩:=E3c hf;exact⟨(D7c h.Gi.right I E).2 b hb,(L.params a ha).2⟩
  ·obtain⟨g,hg,rfl⟩:=Ax.1 hd;refine DG.Ia h hn (by decide) (SG.dum h J hg) (by rw [Ex.A2w];decide +kernel) (by decide +kernel) fun y O=>?_;rw [show Bb (Ex.mk 3 [] Xe [] [] 0)=[Ex.mk 3 [] Xe [] [] 0] from rfl,Qt] at O;rw [O];exact⟨fun _=>QT.top,fun t ht=>by simp [Ex.targs] at ht⟩
 ·simp at hd
omit h in
theorem DG.top:DG s Ki:=by refine⟨by decide +kernel,⟨by simp [Ki,headD],by simp [Ki,headD],by simp [Ki,headD],fun E=>absurd E (by decide),fun E=>absurd E (by decide)⟩,by decide +kernel⟩
theorem DG.all:∀d,d∈(P2 p s).decls→DG s d:=fun d hd=>by
 rcases As.1 hd with rfl| hd
 ·exact DG.top
 ·obtain⟨x,E,hd⟩:=An9.1 hd;exact DG.of h E d hd
theorem D6v:∀y,y∈Bb p.main→y.kind=3∨y.kind=5→P5 y.type s.types:=fun y E=>(h.Bf.main y E).1
theorem E8a:(P2 p s).right=true:=by unfold Prog.right;rw [B1,Cf];refine⟨fun d hd=>(DG.all h d hd).right,?_⟩;have hr:=h.Gi.right;unfold Prog.right at hr;rw [B1] at hr;have J:=(C8k h.few h.sm h.Gi.right).1;have:=C8n (v:=[]) (by simp) (a:=[]) (B:=240000) (e:=p.main) hr.2 (by rw [B7z];exact J) (by rw [B7z];exact fun y E I=>E1k h (D6v h y E I));rw [B7z] at this;exact this
theorem C4m:∀t,t∈M9 (P2 p s)→QT s t:=F2c (fun d hd=>(DG.all h d hd).q) (ExQ.rgl (D6v h))
theorem E3i:A4d (P2 p s)=true:=by unfold A4d Px;rw [B1,B1,Cf,Cf];exact⟨fun t ht=>by rw [(C4m h t ht).1];rfl,fun d hd=>(DG.all h d hd).bare,E0z _⟩
omit h in
theorem D1i {q:Prog} {d:Decl} (hd:d∈q.decls)(I:d.kind=1∨d.kind=2):kindOf q d.name≠0:=by
 unfold kindOf;cases E:q.decls.find? (fun e=>e.Iu d.name) with
 |none =>have:=List.find?_eq_none.1 E d hd;simp [Decl.Iu,I] at this
 |some e =>have:=Av4 E;simp only [Decl.Iu,B1,Ta,D8] at this;simp only;omega
theorem F5x:∀t,t∈M9 (P2 p s)→kindOf (P2 p s) t.name≠0:=fun t ht=>by
 obtain⟨_,E| ⟨u,I,E⟩⟩:=C4m h t ht
 ·rw [E];exact D1i (d:=Ki) An8 (.inl rfl)
 ·rw [E];have:=E8q (p:=p) (s:=s) u;rw [←this.1];refine D1i (d:=Xa p s u) (As.2 (.inr (An9.2 ⟨u,I,?_⟩))) this.2;rw [C0v (h.wf I)];exact An8
end
end Go.Abs
/- the sizes of the program of an instance set -/
namespace Go.Abs
set_option maxRecDepth 100000
set_option maxHeartbeats 4000000
open Go
theorem G3h {s:Ap} (h:s.calls.length≤101)(x:Au):(Gz s x).calls.length≤101:=by
 unfold Gz;split
 ·exact h
 ·rename_i E;unfold I1;cases e:Fe Bj x s.calls false [] with
  |none=>exact h
  |some R =>have:=(A5k e).2.2;simp only [Ch,Hh,Et] at this;simp only [Dc];omega
theorem E6n (p:Prog)(s:Ap)(x:Ty):(X8 p s x).length≤101 :=
 foldI (Q:=fun s:Ap=>s.calls.length≤101) (Fp p s.calls x) (fun s a _ h=>G3h h a) (Uf _)
theorem Decl.B9t (d:Decl)(n:Int)(L:0≤n)(h:d.count n≤2000):d.sigs.length≤2000:=by
 unfold Decl.count at h;generalize O:n+1+((d.name.length / 50:Nat):Int)+((d.recv.length / 50:Nat):Int)=m at h;obtain⟨R,_⟩:=A4v d.A1 m;obtain⟨I,_⟩:=A4q d.fields (C7 d.A1 m);obtain⟨W,E⟩:=D3p d.sigs (D5 d.fields (C7 d.A1 m));obtain⟨J,_⟩:=A2t d.vars (Eh d.sigs (D5 d.fields (C7 d.A1 m)));generalize V:Ii d.vars (Eh d.sigs (D5 d.fields (C7 d.A1 m)))=z at *;unfold Decl.Ry at h;obtain⟨f1,_⟩:=A5.Gv d.sig z;have U:=Ex.F4 d.body (d.sig.count z);split at h
 ·have:=(E (by omega) (by omega)).1;omega
 ·omega
theorem E3z:N3 Ik (fun d=>d.sigs.length≤2000):=Ly Ik Decl.count (fun d=>d.sigs.length≤2000) (fun _=>rfl) (fun _ _ _=>rfl) (fun x k=>(Decl.Gv x k).1) (fun x k E h=>Decl.B9t x k E h)
theorem Prog.B9t (p:Prog)(h:p.count≤600):p.decls.length≤2000∧∀d,d∈p.decls→d.sigs.length≤2000:=by unfold Prog.count at h;have O:=Ex.F4 p.main 0;obtain⟨L,E⟩:=E3z p.decls (p.main.count 0);obtain⟨J,I⟩:=E (by omega) (by omega);exact⟨by omega,I⟩
theorem G4n {p:Prog} (h:p.count≤600)(x:Ty):(Cb p [] x).length≤2000:=by
 obtain⟨J,I⟩:=Prog.B9t p h;unfold Cb;rw [(Yv _).length_eq];unfold De;generalize (Ck [] x).getD x=y;split
 ·rename_i E;unfold Gg;rw [A8 E];obtain⟨d,hd,_⟩:=Lo (by decide) E;rw [hd,Dc];exact Dk (B4w _ _ _ _) (I d (Nh hd))
 ·split
  ·exact Uf _
  ·exact Dk (A6f ..) J
theorem A1x (n:A3)(q:Int):(Ty.mk n [] q).Nn:=by unfold Ty.Nn;rw [Ty.A8o];simp [Ty.args,Ty.J2]
theorem C9m:∀e:Ex,(Ew e).Nn:=by
 intro e
 induction e using Ex.induct with| _ e I=>?_
 rw [Uz];refine .mk _ _ _ _ _ _ (A1x ..) (by simp) fun x J=>?_;obtain⟨y,E,rfl⟩:=Ax.1 J;exact I y E
theorem C9n {e:Ex} (h:(Bb e).length≤2000):(Ew e).Le:=by
 have I:(Bb (Ew e)).length≤2000:=by rw [B6o,B6];exact h
 refine⟨I,?_⟩;have:=B6f Vp 1 (Bb (Ew e)) fun x E=>by rw [B6o] at E;obtain⟨y,_,rfl⟩:=Ax.1 E;have:=D0d (Ew y);rw [show (Ew y).targs=[] by rw [Uz];rfl] at this;exact this
 unfold Mx Hx;omega
structure DS (d:Decl):Prop where
 le:d.Le
 nn:d.Nn
 ln:d.Ln
theorem E7m:Tj.Le:=⟨by decide +kernel,by decide +kernel⟩
theorem F3g:Tj.Nn:=.mk _ _ _ _ _ _ (A1x ..) (by simp) (by simp)
theorem F2s:Kd.Nn:=⟨by decide,by simp [Kd],by simp [Kd],A1x ..⟩
theorem Decl.Le.ln {d:Decl} (h:d.Le)(I:d.vars=[])(E:¬d.kind=3→d.sig.Lm∧d.body.Lm):d.Ln :=
 ⟨Dk h.A1 (by decide),Dk h.fields (by decide),Dk h.X3 (by decide),by rw [I];decide,E⟩
theorem DS.mk2 {d:Decl} (h:d.Le)(I:d.Nn)(J:d.vars=[])(E:¬d.kind=3→d.sig.Lm∧d.body.Lm):DS d:=⟨h,I,h.ln J E⟩
theorem DS.head (k:Int)(n:A3) {fs:List Param} {ss:List A5} (O:fs.length≤2000)(J:∀f,f∈fs→f.type.Nn)(L:ss.length≤3000)(I:∀g,g∈ss→g.Le∧g.Nn):DS (headD k n fs ss) :=
 .mk2 ⟨by simp [headD],O,L,fun g E=>(I g E).1,⟨Uf _,Uf _⟩,E7m⟩ ⟨by simp [headD],by simp [headD],by simp [headD],J,fun g E=>(I g E).2,F2s,F3g⟩ rfl fun _=>⟨G5d,F4s⟩
theorem DS.Ia (n r:A3) {g:A5} (E:g.Le∧g.Nn) {e:Ex} (L:e.Le)(I:e.Nn):DS ⟨3,n,[],[],[],r,[],g,e,0⟩ :=
 .mk2 ⟨by simp,by simp,by simp,by simp,E.1,L⟩ ⟨by simp,by simp,by simp,by simp,by simp,E.2,I⟩ rfl fun J=>absurd rfl J
section
variable {p:Prog} {s:Ap} (h:Va p s)
include h
theorem D1p {x:Ty} (E:x∈s.types) {c:Au} (R:c∈X8 p s x) {g:A5} (I:Fk p c=some g):g.Le∧g.Nn:=by
 obtain⟨U,O,g2,W,g4,Z,V,_⟩:=B5j h E R;rw [V] at I;cases I;have L:=(A6e h.sm h.tl h.Gi.right (h.fd.sm.types.2 x E) (h.fd.types x E).args U (Vf.2 O)).params.1;refine⟨⟨by simp [Md],?_⟩,by simp [Md],by simp [Md],fun f J=>?_,A1x ..⟩
 ·show (Hg _).length≤2000;unfold Hg;rw [List.length_mapIdx,B6];exact L
 ·unfold Md Hg at J;obtain⟨i,y,_,_,rfl⟩:=mem_mapIdx J;exact A1x ..
omit h in
theorem D0z (g:A5):(Jd g).Le∧(Jd g).Nn:=⟨⟨by simp [Jd],by simp [Jd]⟩,by simp [Jd],by simp [Jd],by simp [Jd],A1x ..⟩
theorem C8w {x:Ty} (J:x∈s.types):(Sz p s.calls x).length≤2102∧∀d,d∈Sz p s.calls x→DS d:=by
 have a0:=E6n p s x;have a1:=G4n h.few x;have I:=Prog.Ti p h.few;have O:=Ak1 (Rg Ew p) (X8 p s x);have Z:=Ak1 (Fk p) (X8 p s x);rw [C0v (h.wf J)];refine⟨?_,fun d hd=>?_⟩
 ·unfold B2h;rw [Bg];split
  ·rw [B3,B6];omega
  ·simp
 rcases As.1 hd with rfl| hd
 ·unfold Xa;split
  ·rename_i L;refine DS.head 1 x.mg ?_ (fun f W=>?_) (by simp) (by simp)
   ·rw [Ix,B6];unfold C5;rw [A8 L];obtain⟨d,hd,_⟩:=Lo (by decide) L;rw [hd,Dc];unfold fieldsD;rw [B6];exact (I.decls d (Nh hd)).fields
   ·obtain⟨y,_,rfl⟩:=Ax.1 W;exact A1x ..
  ·refine DS.head 2 x.mg (by simp) (by simp) ?_ fun g hg=>?_
   ·unfold A6r;rw [B3,B6];omega
   ·rcases Bw.1 hg with hg| hg
    ·obtain⟨c,R,O⟩:=Aq3.1 hg;exact D1p h J R O
    ·obtain⟨g',_,rfl⟩:=Ax.1 hg;exact D0z g'
 ·unfold B2h at hd;split at hd
  ·rename_i L;rcases Bw.1 hd with hd| hd
   ·obtain⟨c,R,O⟩:=Aq3.1 hd;obtain⟨U,g,e1,e2,e3,e4,e5⟩:=C9j h J L R;rw [O] at e5;cases e5;have E:=D1p h J R e3;have V:=(A9c e1).1;refine DS.Ia (g:=⟨(Md c g).name,[],Jy (Md c g).params U.sig.params,(Md c g).result,0⟩) (e:=Ew (N4 U x c)) x.mg U.recv ⟨⟨Uf _,?_⟩,Uf _,by simp,fun f W=>?_,E.2.result⟩ (C9n (by unfold N4;rw [C5j];exact (I.decls U V).body.list)) (C9m _)
    ·simp only [Jy,List.length_zipWith];have:=E.1.params;omega
    ·obtain⟨a,b,Z,_,rfl⟩:=E3c W;exact E.2.params a Z
   ·obtain⟨g,hg,rfl⟩:=Ax.1 hd;exact DS.Ia x.mg [114] (D0z g) (e:=.mk 3 [] Xe [] [] 0) ⟨by show (1:Nat)≤2000;decide,by show (1:Nat)≤2000;decide⟩ (.mk _ _ _ _ _ _ (A1x ..) (by simp) (by simp))
  ·simp at hd
theorem C4t:∀d,d∈(P2 p s).decls→DS d:=fun d hd=>by
 rcases As.1 hd with rfl| hd
 ·exact DS.head 1 B0n (by simp) (by simp) (by simp) (by simp)
 ·obtain⟨x,E,hd⟩:=An9.1 hd;exact (C8w h E).2 d hd
theorem F5a:(P2 p s).Le:=by
 refine⟨?_,fun d hd=>(C4t h d hd).le,C9n (Prog.Ti p h.few).main.list⟩;have key:∀l:List Ty,(∀x,x∈l→x∈s.types)→(l.flatMap (Sz p s.calls)).length≤l.length*2102:=by
  intro l
  induction l with
  |nil=>intro _;simp
  |cons x l L =>intro E;have O:=(C8w h (E x (by simp))).1;have J:=L fun y I=>E y (by simp [I]);rw [Ar4,B3,Bg];omega
 have O:=key s.types fun _ h=>h;have J:=h.fd.len;show (Ki::s.types.flatMap (Sz p s.calls)).length≤200000;rw [Bg];omega
theorem G0e:∀d,d∈(P2 p s).decls→d.Ln:=fun d hd=>(C4t h d hd).ln
theorem G3q:(P2 p s).Nn:=⟨fun d hd=>(C4t h d hd).nn,C9m _⟩
theorem F4n:∀t,t∈M9 (P2 p s)→t.Sm:=fun t ht=>by
 obtain⟨I,E⟩:=C4m h t ht;obtain⟨n,a,q⟩:=t;simp only [Ty.args,Ty.name] at I E;subst I;refine .mk _ _ _ ?_ (by simp) (by simp);rcases E with rfl| ⟨u,J,rfl⟩
 ·decide
 ·have L:=Ty.A7c u;have O:=(h.fd.types u J).len;unfold sm;omega
end
end Go.Abs
