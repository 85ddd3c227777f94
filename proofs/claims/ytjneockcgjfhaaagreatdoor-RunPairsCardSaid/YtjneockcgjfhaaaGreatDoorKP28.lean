/- the set that castingsref21.Find returns is closed: all that its types and calls need is in it -/
import Derived.Test.YtjneockcgjfhaaaGreatDoorKP27
set_option linter.all false
set_option maxHeartbeats 1000000
set_option maxRecDepth 100000
namespace Go.Abs
open Go
def Kb(t:Ty)(l:List Ty):Prop:=∃u,u∈l/\t.er=u.er
def Uy(c:B8)(l:List B8):Prop:=∃d,d∈l/\Dk c d=0
section
variable {α:Type} {cmp:α->α->Int} {x:α}
def A9e:∀{l:List α} {done:Bool} {out R:List α},Fy cmp x l done out=some R->(∀t,t∈out\/t∈l->t∈R)/\(done=false->x∈R)/\R.length=out.length+l.length+(if done=true then 0 else 1)
 |[],done,out,R,h=>by grind[Fy]
 |t::l,done,out,R,h=>by rw[Fy]at h;split at h;cases h;split at h;rename_i I E;obtain⟨k1,_,k3⟩:=A9e h;grind;obtain⟨k1,k2,k3⟩:=A9e h;grind
def C2v:∀{l:List α} {done:Bool} {out:List α},Fy cmp x l done out=none->∃t,t∈l/\cmp x t=0
 |[],done,out,h=>by rw[Fy]at h;cases h
 |t::l,done,out,h=>by rw[Fy]at h;split at h;grind;split at h;obtain⟨u,E,h⟩:=C2v h;grind;obtain⟨u,E,h⟩:=C2v h;grind
def E0u(l:List α):∀t,t∈l->t∈Iu cmp l x:=λt ht=>by
 unfold Iu;cases h:Fy cmp x l false []with
 |none=>exact ht
 |some R=>exact(A9e h).1 t (.inr ht)
def D4z(hr:cmp x x=0)(l:List α):∃t,t∈Iu cmp l x/\cmp x t=0:=by
 unfold Iu;cases h:Fy cmp x l false []with
 |none=>exact C2v h
 |some R=>exact⟨x,(A9e h).2.1 rfl,hr⟩
def E1a(l:List α)(h:(Iu cmp l x).length=l.length):Iu cmp l x=l:=by
 unfold Iu at h |-;cases E:Fy cmp x l false []with
 |none=>rfl
 |some R =>have:=(A9e E).2.2;grind
theorem C3c(E:∀a b c,T3 (cmp a b) (cmp b c) (cmp a c))(J:∀a b,cmp b a = - cmp a b):∀{l:List α} {done:Bool} {out R:List α},Fy cmp x l done out=some R->(out++l).Pairwise (λa b=>cmp a b<0) ->(done=false->∀t,t∈out->cmp t x<0)->(done=true->True)->R.Pairwise λa b=>cmp a b<0
 |[],done,out,R,h,hp,ho,_=>by
  rw[Fy]at h
  grind
 |t::l,done,out,R,h,hp,ho,hd=>by
  rw[Fy]at h;split at h
  .cases h
  rename_i h0;split at h
  .rename_i I;refine C3c E J h ?_ (λh=>by cases h) λ_=>trivial;rw[H8];obtain⟨V,L,Z⟩:=Ao5.1 hp;rw[Ao5];obtain⟨O,q2⟩:=Aj7.1 L;refine⟨V,Aj7.2 ⟨λu hu=>?_,L⟩,λa hm b W=>?_⟩
   .rcases B5.1 hu with rfl|hu
    .omega
    .exact(E x t u).1 I.1 (by have:=O u hu;omega)
   grind
  .rename_i I;refine C3c E J h (by grind) (λU u hu=>?_) hd
   grind
def C9o(J:∀a b c,T3 (cmp a b) (cmp b c) (cmp a c))(I:∀a b,cmp b a = - cmp a b){l:List α}(E:l.Pairwise λa b=>cmp a b<0):(Iu cmp l x).Pairwise λa b=>cmp a b<0:=by
 unfold Iu;cases h:Fy cmp x l false []with
 |none=>exact E
 |some R=>grind[C3c]
end
structure Am.Ext(s r:Am):Prop where
 types:∀t,t∈s.types->t∈r.types
 calls:∀c,c∈s.calls->c∈r.calls
 D9:r.D9=false->s.D9=false
theorem Am.Ext.refl(s:Am):s.Ext s:=⟨λ_ h=>h,λ_ h=>h,λh=>h⟩
def Am.Ext.trans{a b c:Am}(h:a.Ext b)(k:b.Ext c):a.Ext c:=⟨λt ht=>k.types t (h.types t ht),λt ht=>k.calls t (h.calls t ht),λE=>h.D9 (k.D9 E)⟩
def Kb.ext{s r:Am}(h:s.Ext r){t:Ty}(k:Kb t s.types):Kb t r.types:=by obtain⟨u,E,e⟩:=k;exact⟨u,h.types u E,e⟩
def Uy.ext{s r:Am}(h:s.Ext r){t:B8}(k:Uy t s.calls):Uy t r.calls:=by obtain⟨u,E,e⟩:=k;exact⟨u,h.calls u E,e⟩
structure Ff(f:Am->Am):Prop where
 ext:∀s:Am,s.Ext (f s)
 ge:∀s,Eu s<=Eu (f s)
 id:∀s,(f s).D9=false->Eu (f s)=Eu s->f s=s
theorem Ff.one:Ff λs=>s:=⟨Am.Ext.refl,λ_=>Bq _,λ_ _ _=>rfl⟩
def Ff.comp{f g:Am->Am}(I:Ff f)(E:Ff g):Ff λs=>g (f s) :=⟨λs=>(I.ext s).trans (E.ext _),λs=>Dd (I.ge s) (E.ge _),λs J hs=>by have O:=I.ge s;have U:=E.ge (f s);have L:=E.id (f s) J (by omega);rw[L]at J hs |-;exact I.id s J hs⟩
def Ff.fold{α:Type}{f:Am->α->Am}:∀l:List α,(∀a,a∈l->Ff λs=>f s a)->Ff λs=>l.foldl f s
 |[],_=>Ff.one
 |a::l,h=>Ff.comp (h a (by simp)) (Ff.fold l λb E=>h b (by grind))
def B3k{α:Type}{f:Am->α->Am}:∀(l:List α)(s:Am),(∀a,a∈l->Ff λs=>f s a)->∀a,a∈l->∃E,(f E a).Ext (l.foldl f s)
 |[],_,_,_,h=>by grind
 |b::l,s,hs,a,h=>by rcases B5.1 h with rfl|h;exact⟨s,(Ff.fold l λb I=>hs b (by grind)).ext _⟩;exact B3k l (f s b) (λc J=>hs c (by grind)) a h
def A4r(x:Ty):Ff λs=>Gr s x:=by
 refine⟨λs=>?_,λs=>B2x s x,λs E hs=>?_⟩;unfold Gr;split;exact⟨λ_ h=>h,λ_ h=>h,λh=>by cases h⟩;exact⟨λt ht=>E0u _ t ht,λ_ h=>h,λh=>h⟩
 .unfold Gr at E hs |-;split at E
  cases E;rename_i I;rw[A3 I]at hs |-;simp only[Eu]at hs;rw[E1a _ (by omega)]
def C3p(x:B8):Ff λs=>Gp s x:=by
 refine⟨λs=>?_,λs=>D6h s x,λs E hs=>?_⟩;unfold Gp;split;exact⟨λ_ h=>h,λ_ h=>h,λh=>by cases h⟩;exact⟨λ_ h=>h,λt ht=>E0u _ t ht,λh=>h⟩
 .unfold Gp at E hs |-;split at E
  cases E;rename_i I;rw[A3 I]at hs |-;simp only[Eu]at hs;rw[E1a _ (by omega)]
def B9c{s:Am}{x:Ty}(h:(Gr s x).D9=false):Kb x (Gr s x).types:=by
 unfold Gr at h |-;split at h
 cases h;rename_i E;rw[A3 E];obtain⟨t,ht,e⟩:=D4z (cmp:=E6) (x:=x) ((Ud x x).2 rfl) s.types;exact⟨t,ht,(Ud x t).1 e⟩
def F0v{s:Am}{x:B8}(h:(Gp s x).D9=false):Uy x (Gp s x).calls:=by
 unfold Gp at h |-;split at h
 cases h;rename_i E;rw[A3 E];exact D4z (D4a x) s.calls
def F9n(e:Ex)(z:Ty × F6):Ff λs=>U6 s e z:=by
 have E:Ff λs=>({ s with D9:=s.D9 ||z.2.D9 }:Am):=by refine⟨λs=>⟨λ_ h=>h,λ_ h=>h,λh=>?_⟩,λs=>Bq _,λs I _=>?_⟩;grind;simp at I;obtain⟨a,b,c⟩:=s;grind
 unfold U6;by_cases h:z.2.bad=true;grind;simp only[h,Fm];exact Ff.comp E (Ff.comp (A4r z.1) (C3p _))
def D4t(p:Prog)(vars:List Param)(e:Ex):Ff λs=>L0 p vars s e:=by
 unfold L0;by_cases E:e.kind=3\/e.kind=5;simp only[E,Ac];exact A4r e.type;simp only[E,Fm];by_cases I:e.kind=2
 .simp only[I,Ac];cases e.kids with
  |nil=>exact Ff.one
  |cons v vs=>exact F9n e _
 simp only[I,Fm];exact Ff.one
def G2v(p:Prog)(e:Ex)(vars:List Param):Ff λs=>Nk p s e vars:=Ff.fold _ λa _=>D4t p vars a
def D3i(p:Prog)(x:Ty)(c:B8):Ff λs=>S6 p s x c:=by unfold S6;split;exact Ff.one;split;exact Ff.one;exact G2v p _ _
def D9z(l:List Ty):Ff λs=>Kg s l:=Ff.fold _ λa _=>A4r a
def B6d(p:Prog)(x:Ty)(c:B8):Ff λs=>Ks p x s c:=by
 unfold Ks;cases Mo p x c with
 |none=>exact Ff.one
 |some g=>exact Ff.comp (D9z _) (Ff.comp (A4r _) (D3i p x c))
def D1n(p:Prog)(s:Am)(x:Ty):Ff λout=>Ru p s out x:=by unfold Ru;by_cases h:Bb p x 1=true;simp only[h,Ac];exact Ff.comp (D9z _) (Ff.fold _ λa _=>B6d p x a);simp only[h];exact Ff.fold _ λa _=>B6d p x a
def D9i(p:Prog)(s:Am):Ff λout=>s.types.foldl (Ru p s) out:=Ff.fold _ λa _=>D1n p s a
def Yt(p:Prog)(vars:List Param)(y:Ex)(r:Am):Prop :=(y.kind=3\/y.kind=5->Kb y.type r.types)/\∀v vs,y.kind=2->y.kids=v::vs->(Df ⟨p,false,[],vars⟩ v).2.D9=false /\ ((Df ⟨p,false,[],vars⟩ v).2.bad=false->Kb (Df ⟨p,false,[],vars⟩ v).1 r.types/\Uy ⟨(Df ⟨p,false,[],vars⟩ v).1,y.name,y.targs⟩ r.calls)
def Yt.ext{p:Prog}{vars:List Param}{y:Ex}{s r:Am}(h:s.Ext r)(k:Yt p vars y s):Yt p vars y r :=⟨λL=>(k.1 L).ext h,λv vs I E=>⟨(k.2 v vs I E).1,λJ=>⟨((k.2 v vs I E).2 J).1.ext h,((k.2 v vs I E).2 J).2.ext h⟩⟩⟩
def F4v{p:Prog}{vars:List Param}{s:Am}{y:Ex}(h:(L0 p vars s y).D9=false):Yt p vars y (L0 p vars s y):=by
 unfold L0 at h |-;by_cases E:y.kind=3\/y.kind=5
 simp only[E,Ac]at h |-;exact⟨λ_=>B9c h,λv vs J=>by omega⟩
 simp only[E,Fm]at h |-;refine⟨λU=>absurd U E,λv vs J L=>?_⟩;simp only[J,Ac,L]at h |-;unfold U6 at h |-;by_cases O:(Df ⟨p,false,[],vars⟩ v).2.bad=true
 grind
 .rw[A3 O]at h |-;have E:=(C3p _).ext _ |>.D9 h
  have I:=(A4r _).ext _ |>.D9 E
  simp at I;exact⟨I.2,λ_=>⟨(B9c E).ext ((C3p _).ext _),F0v h⟩⟩
def D3m{p:Prog}{vars:List Param}{s:Am}{e:Ex}(h:(Nk p s e vars).D9=false):∀y,y∈Cj e->Yt p vars y (Nk p s e vars):=λy E=>by obtain⟨I,hs⟩:=B3k (Cj e) s (λa _=>D4t p vars a) y E;exact(F4v (hs.D9 h)).ext hs
def E2t{s:Am}{l:List Ty}(h:(Kg s l).D9=false):∀t,t∈l->Kb t (Kg s l).types:=λt ht=>by obtain⟨E,hs⟩:=B3k l s (λa _=>A4r a) t ht;exact(B9c (hs.D9 h)).ext hs
def B1w(p:Prog)(x:Ty)(c:B8)(r:Am):Prop:=∀g,Mo p x c=some g->(∀t,t∈Wj g c->Kb t r.types)/\Kb (Vu g c) r.types/\∀d,Ga p x c.name=some d->∀y,y∈Cj (Jd d x c)->Yt p (P2 p d x c) y r
def F8m{p:Prog}{x:Ty}{s:Am}{c:B8}(h:(Ks p x s c).D9=false):B1w p x c (Ks p x s c):=by
 intro g V;unfold Ks at h |-;rw[V]at h |-;simp only at h |-;have E:=(D3i p x c).ext (Gr (Kg s (Wj g c)) (Vu g c));have O:=E.D9 h;have L:=(A4r (Vu g c)).ext (Kg s (Wj g c));have U:=L.D9 O;refine⟨λt ht=>((E2t U t ht).ext L).ext E,(B9c O).ext E,λd hd y W=>?_⟩;unfold S6 at h |-;rcases B5v p x c.name with⟨_,J⟩|⟨j,d',Z,I,J⟩
 grind;rw[J]at hd;cases hd;rw[Z,A3 (by omega),Hx,I]at h |-;exact D3m h y W
structure Clo(p:Prog)(s:Am):Prop where
 main:∀y,y∈Cj p.main->Yt p [] y s
 fields:∀x,x∈s.types->Bb p x 1=true->∀f,f∈Bo p x->Kb f.type s.types
 call:∀x,x∈s.types->∀c,c∈s.calls->B1w p x c s
 types:s.types.Pairwise λa b=>E6 a b<0
 calls:s.calls.Pairwise λa b=>Dk a b<0
def F8h{p:Prog}{s:Am}(h:(Li p s).D9=false):(∀x,x∈s.types->Bb p x 1=true->∀f,f∈Bo p x->Kb f.type (Li p s).types)/\∀x,x∈s.types->∀c,c∈s.calls->B1w p x c (Li p s):=by have key:∀x,x∈s.types->∃o,(Ru p s o x).Ext (Li p s):=λx I=>B3k s.types s (λa _=>D1n p s a) x I;refine⟨λx I hi f V=>?_,λx I c Z=>?_⟩;obtain⟨o,E⟩:=key x I;have J:=E.D9 h;unfold Ru at E J;rw[A6 hi]at E J;have O:=(Ff.fold s.calls λa _=>B6d p x a).ext (Kg o ((Bo p x).map (·.type)));exact((E2t (O.D9 J) f.type (Au.2 ⟨f,V,rfl⟩)).ext O).ext E;obtain⟨o,E⟩:=key x I;have J:=E.D9 h;unfold Ru at E J;obtain⟨o',L⟩:=B3k s.calls (if Bb p x 1=true then Kg o ((Bo p x).map (·.type))else o) (λa _=>B6d p x a) c Z;have e:=L.trans E;intro g U;obtain⟨k1,k2,k3⟩:=F8m (e.D9 h) g U;exact⟨λt ht=>(k1 t ht).ext e,k2.ext e,λd hd y W=>(k3 d hd y W).ext e⟩
structure Am.S7(s:Am):Prop where
 types:s.types.Pairwise λa b=>E6 a b<0
 calls:s.calls.Pairwise λa b=>Dk a b<0
def Am.S7.lg{s:Am}(h:s.S7)(b:Bool):Am.S7 { s with D9:=b }:=⟨h.types,h.calls⟩
def B3z{s:Am}(h:s.S7)(x:Ty):(Gr s x).S7:=by unfold Gr;split;exact⟨h.types,h.calls⟩;exact⟨C9o C5s C4a h.types,h.calls⟩
def F7p{s:Am}(h:s.S7)(x:B8):(Gp s x).S7:=by unfold Gp;split;exact⟨h.types,h.calls⟩;exact⟨h.types,C9o C7e B6r h.calls⟩
theorem E4x{p:Prog}{vars:List Param}{s:Am}(h:s.S7)(e:Ex):(Nk p s e vars).S7:=by refine foldI _ (λs y _ h=>?_) h;unfold L0;split;exact B3z h _;split;split;exact h;unfold U6;split;exact⟨h.types,h.calls⟩;exact F7p (B3z (h.lg _) _) _;omega
def F9d{p:Prog}{s:Am}(h:s.S7):(Li p s).S7:=by refine foldI _ (λo x _ E=>foldI _ (λo c _ E=>?_) ?_) h;unfold Ks;split;exact E;refine(?_:Am.S7 _);unfold S6;have I:(Gr (Kg o (Wj ‹A4› c)) (Vu ‹A4› c)).S7:=B3z (foldI _ (λs t _ h=>B3z h t) E) _;grind[E4x];split;exact foldI _ (λs t _ h=>B3z h t) E;omega
def E3c{p:Prog}:∀(k:Nat)(s:Am)(n:Int),s.S7->(Iq p k s n).2=true->(n = -1\/∃E:Am,s=Li p E/\n=Eu E) ->s.Ext (Iq p k s n).1/\(Iq p k s n).1.S7/\∃E:Am,(Iq p k s n).1=Li p E/\Eu E=Eu (Iq p k s n).1
 |0,s,n,_,h,_=>by simp[Iq]at h
 |k+1,s,n,hs,h,V=>by
  rw[Iq]at h |-;by_cases J:n=(Eu s:Int)
  .rw[A6 J]at h |-;split at h
   .cases h
   .rename_i I;rw[A3 I]
    grind[Am.Ext.refl]
  .rw[A3 J]at h |-;split at h
   .cases h
   .rename_i I;rw[A3 I];obtain⟨O,L,U⟩:=E3c k (Li p s) (Eu s) (F9d hs) h (.inr ⟨s,rfl,rfl⟩);exact⟨((D9i p s).ext s).trans O,L,U⟩
def G7i{p:Prog}(h:(Kt p).2=true):Clo p (Kt p).1:=by
 have I:=C2d _ _ _ h;rw[show(Iq p 64 (Nk p Tt p.main []) (-1)).1=(Kt p).1 from rfl]at I;have L:(Kt p).1.D9=false:=by unfold Vm at I;simp only[An3]at I;exact I.2.2.1
 obtain⟨O,J,E,U,W⟩:=E3c 64 (Nk p Tt p.main []) (-1) (E4x ⟨by simp,by simp⟩ _) h (.inl rfl);rw[show(Iq p 64 (Nk p Tt p.main []) (-1)).1=(Kt p).1 from rfl]at O J U W;have e:Li p E=E:=(D9i p E).id E (by grind[Li]) (by grind[Li]);have e1:(Kt p).1=E:=U.trans e;have Z:Li p (Kt p).1=(Kt p).1:=by rw[e1];exact e
 obtain⟨k1,k2⟩:=F8h (p:=p) (s:=(Kt p).1) (by grind);rw[Z]at k1 k2;exact⟨λy V=>(D3m (O.D9 L) y V).ext O,k1,k2,J.types,J.calls⟩
end Go.Abs
