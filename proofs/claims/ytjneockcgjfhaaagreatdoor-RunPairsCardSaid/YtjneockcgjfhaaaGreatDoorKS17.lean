/- slices.Grow of nil, slices.Concat[Formal] of two, bind.Join, table.Formals -/
import Derived.Test.YtjneockcgjfhaaaGreatDoorKS14
set_option linter.all false
set_option maxHeartbeats 1000000
set_option maxRecDepth 100000
namespace Go.Abs
open Go Go.Proofs Tryz
def B7h(E k1:Nat)(q:Nat):Nat:=if q=E then k1 else q
def E6u{P:Program}{sl:SL}{bx:Aa}{f:FuncId}{fo:Operand}{args:List Operand}{E2:List TypeId}{dst:Option Nat}{caps U:List SV}{r:SV}{W O:Nat}{E:List (List D)}(k1:Nat)
  (hf:Ao sl fo=.Bk f caps)(a7:args.map (Ao sl)++caps=U)(ad:SV.Mw U=true)(hc:Ch P f U [] r [(W,.rows O E)])(hr:r.only [W]=true)
  (h1:k1<=999999)(f1:A1v k1 bx=false) :
  OpB P sl bx dst (.call ⟨.value fo,args.toArray,E2.toArray⟩) (r.Ep (B7h W k1)) ((k1,.rows O E)::bx) [k1]:=by
 subst a7;intro o ho _ C S w β a hi ha;have a5:=ha fo (mC ho);rw[hf]at a5;generalize ab:a.eval fo=v at a5;cases a5 with
 |Bk _ _ cs g1 g2 =>
  have a8:Bz S w β (args.map (Ao sl)++caps) (args.map a.eval++cs):=(Bz.Yn _ λx hx=>ha x (mo ho (by simp[Op.operands,Call.operands];exact .inr hx))).append ⟨g1,g2⟩;have ac:Inv ⟨w,S,λ_=>False,λ_ _=>False,C.G⟩ S w β []:=hi.begin hi.C3 (λ_ h=>h);have a6:=hc.2 ⟨w,S,λ_=>False,λ_ _=>False,C.G⟩ β _ ac a8;refine Jk ?_;unfold Oper.wp;rw[A1n hc.1 ho ab,Am8];have a0:(args.toArray.map a.eval)++(⟨cs⟩:Array Value)=⟨args.map a.eval++cs⟩:=by apply Lk;simp
  rw[a0];refine a6.mono ?_;rintro e w' ⟨v,S',β',rfl,Z,hv⟩;have a':w.heap.size<=w'.heap.size:=Z.size;have a9:∀b,S' b->S b\/w.heap.size<=b:=λb I=>by rcases Z.Ei b I with h|h|h;exact .inl h;exact h.elim;exact .inr h
  have e:C9 S w S' w':=⟨Z.Fh,λb I=>Z.kept b (hi.C3 b I) id⟩;have u1:Ej β k1 (β' W) k1 =β' W:=Hp ..;have u3:∀j,j≠k1->Ej β k1 (β' W) j =β j:=λj a=>by rw[M3 a]
  have m1:(W,Aq.rows O E)∈[(W,Aq.rows O E)]:=by simp
  have L:∀b,(β' W).base=some b->¬S' b/\b<w'.heap.size/\w.heap.size<=b:=λb I=>by obtain⟨p1,p2,p3⟩:=Z.Bh W _ m1 b I;exact⟨p1,p2,p3.resolve_left id⟩
  have V:∀k c,(k,c)∈bx->k≠k1/\(∀j,c.has j=true->j≠k1):=λk c hm=>by obtain⟨a1,a2⟩:=B5r f1 k c hm;exact⟨a1,λj hj he=>by subst he;rw[a2]at hj;simp at hj⟩
  have J:∀k c,(k,c)∈(k1,Aq.rows O E)::bx->(k=k1/\c=.rows O E)\/(k,c)∈bx:=λk c hm=>by simp only[B5,Ew]at hm;exact hm
  refine⟨v,S',Ej β k1 (β' W),rfl,?_,e,hv.Ep λk aa=>?_,λj hj=>?_⟩
  .refine hi.step e a9 Z.C3 (λb I _=>Z.kept b I id) Z.os Z.tape Z.output a' ?_ ?_ (λj hj=>u3 j (by omega)) ?_;intro k c hm;rcases J k c hm with⟨rfl,rfl⟩|hm;rw[u1];exact⟨Dj.ext (c:=.rows O E) (Z.box W _ m1) (C9.refl _ _) (λ_ _=>rfl) (by simp[Aq.has]),λb I=>⟨(L b I).1,(L b I).2.1,.inl (L b I).2.2⟩⟩;obtain⟨a1,a3⟩:=V k c hm;rw[u3 k a1];refine⟨(hi.box k c hm).ext e (λb I=>Z.kept b (hi.Bh k c hm b I).2.1 id) (λj hj=>u3 j (a3 j hj)),λb I=>⟨λhs=>?_,X9 (hi.Bh k c hm b I).2.1 a',.inr ⟨k,c,hm,I⟩⟩⟩;rcases a9 b hs with h|h;exact(hi.Bh k c hm b I).1 h;have:=(hi.Bh k c hm b I).2.1;omega
   .intro k c k' c' hm hm' b I a4;have low:∀k c,(k,c)∈bx->(Ej β k1 (β' W) k).base=some b->b<w.heap.size:=λk c hm I=>by rw[u3 k (V k c hm).1]at I;exact(hi.Bh k c hm b I).2.1
    rcases J k c hm with⟨rfl,rfl⟩|hm;rw[u1]at I;rcases J k' c' hm' with⟨rfl,rfl⟩|hm';exact⟨rfl,rfl⟩;have:=low _ _ hm' a4;have:=(L b I).2.2;omega;have ae:=low _ _ hm I;rcases J k' c' hm' with⟨rfl,rfl⟩|hm';rw[u1]at a4;have:=(L b a4).2.2;omega;rw[u3 k (V k c hm).1]at I;rw[u3 k' (V k' c' hm').1]at a4;exact hi.inj k c k' c' hm hm' b I a4
   intro k Y st hm;rcases J k _ hm with⟨_,h⟩|hm;cases h;exact hm
  have:=SV.B5q hr aa;simp only[B5,Fb,Fg]at this;subst this;simp only[B7h,Ac];exact u1;simp only[B5,Fb,Fg]at hj;exact u3 j hj
def G7m{P:Program}{ρ:Go.Shelf.Ren}(L:Go.Proofs.Lays8.n4 P ρ)(sz:Nat)(a5:0<sz)(E:((P.info? (ρ.t 25)).any λi=>i.size ==sz && decide (i.bytes<=1000) && i.zero.any λz=>z.cells.size ==sz)=true)
  (hE:Enters P (ρ.f 4))(n:Nat)(hn:n<=100000000000):Ch P (ρ.f 4) [.d .nil,A7 n] [] (.acc 1) [(1,.rows sz [])]:=by
 refine⟨hE,λC β vs V U=>?_⟩;obtain⟨v0,I,a1⟩:=U.get (j:=0) (c:=.d .nil) rfl;obtain⟨v1,J,Z⟩:=U.get (j:=1) (c:=A7 n) rfl;have a0:vs=[.slice none 0 0,.int .i64 n]:=by
  have hl:=U.1
  match vs,hl with
  |[u,v],_ =>simp only[Md,Q3,B0]at I J;subst I;subst J;rw[Z.Ih];have:=a1.Gq;cases this;rfl
 subst a0;by_cases h0:n=0;subst h0;refine(Any8.slices_Grow_room L none 0 0 0 C.w0 (Bq _) (by omega) (by omega) (by omega)).mono ?_;rintro e w' ⟨rfl,rfl⟩;obtain⟨W,h2⟩:=V.Wg (k:=1) (w':=C.w0) (c:=.rows sz []) { base:=none,sz:=sz } (by decide) (by simp) (λ_ _ _=>rfl) rfl rfl rfl (Bq _) (λ_=>B9d);refine⟨_,C.S0,_,rfl,by simpa [C5,G7]using W,?_⟩;have:=An.acc (S:=C.S0) (w:=C.w0) (β:=Ej β 1 { base:=none,sz:=sz }) 1;rw[Hp]at this;simpa using this
 .generalize a2:P.info? (ρ.t 25)=oi at E;cases oi with
  |none=>simp at E
  |some i0 =>
   simp only[Option.any_some,Bi,Wy,E4]at E;obtain⟨⟨g1,g2⟩,O⟩:=E;generalize a3:i0.zero=oz at O;cases oz with
   |none=>simp at O
   |some z =>
    simp only[Option.any_some,Wy]at O;refine(Any8.slices_Grow_grow L i0 z a2 a3 (by omega) none 0 0 n [] C.w0 (Bq _) (by omega) (by have:(0+n)*i0.bytes<=(0+n)*1000:=Ak9 _ g2;omega) (by omega) (by simp) (λ_=>rfl) (by simp)).mono ?_
    rintro e w' ⟨rfl,rfl⟩;have a4:=grownCap_ge C.w0 (0+n) 0 (ρ.t 25);generalize grownCap C.w0 (0+n) 0 (ρ.t 25)=G at a4;obtain⟨W,h2⟩:=V.Wg (k:=1) (w':=C.w0.drew.alloc (.cells (([]:List Value).toArray++Builtin.zeroCells z.cells (0+n - 0)++Builtin.zeroCells z.cells (G - (0+n))) (ρ.t 25))) (c:=.rows sz []) { base:=some C.w0.heap.size,len:=0,cap:=G,sz:=sz } (by decide)
     (by intro b hb;cases hb;exact⟨λh=>by have:=V.C3 _ h;omega,by simp[-World.alloc_eq,-World.drew_eq,World.alloc,World.drew],.inl (Bq _)⟩)
     (λb hb _=>RowKit.Below.heap_alloc C.w0.drew _ b hb) rfl rfl rfl (by simp[-World.alloc_eq,-World.drew_eq,World.alloc,World.drew])
     (λ_=>by refine⟨rfl,rfl,by simp,by simp,by simp,by simp,?_⟩;refine⟨ρ.t 25,(([]:List Value).toArray++Builtin.zeroCells z.cells (0+n - 0)++Builtin.zeroCells z.cells (G - (0+n))).toList,by simp[-World.alloc_eq,-World.drew_eq,World.alloc,World.drew],?_,by simp⟩;simp only[Array.toList_append,As,Ap1,E2q,O];simp only[Az,Qe,<-Io];exact Iv _ (by omega))
    refine⟨_,C.S0,_,rfl,by simpa [C5,G7]using W,?_⟩;have:=An.acc (S:=C.S0) (w:=C.w0.drew.alloc (.cells (([]:List Value).toArray++Builtin.zeroCells z.cells (0+n - 0)++Builtin.zeroCells z.cells (G - (0+n))) (ρ.t 25))) (β:=Ej β 1 { base:=some C.w0.heap.size,len:=0,cap:=G,sz:=sz }) 1;rw[Hp]at this;simpa using this
def G7y(n:Nat)(E:n<=100000000000):Ch prog 208 [.d .nil,A7 n] [] (.acc 1) [(1,.rows 3 [])] :=G7m G3r 3 (by decide) (by kernel_rfl) (Enters.of func208 rfl (by decide)) n E
def E2g{α:Type}(E:List (List α))(j:Nat):((E.take j).map List.length).sum<=(E.map List.length).sum:=by
 induction E generalizing j with
 |nil=>simp
 |cons a l I =>
  cases j with
  |zero=>simp
  |succ j=>simp only[Am2,Cp,Nf];have:=I j;omega
theorem Qb{p:Prog}{nm:A2}{d:Decl}(h:Fk p nm=some d):d∈p.decls:=Aj0 h
def Fs{α:Type}(p:α->α->Bool):List α->List α->Bool
 |[],[]=>true
 |x::xs,y::E=>p x y && Fs p xs E
 |_,_=>false
def B3s{α:Type}{p:α->α->Bool}:∀{l m:List α},Fs p l m=true->l.length=m.length
 |[],[],_=>rfl
 |x::xs,y::E,h=>by rw[Fs,Bi]at h;simp[B3s h.2]
 |[],_::_,h=>by simp[Fs]at h
 |_::_,[],h=>by simp[Fs]at h
def Sd(a b:Ak):Bool:=decide (a.name=b.name) && Ns a.bound b.bound
def Sq(a b:Param):Bool:=decide (a.name=b.name) && Ns a.type b.type
def Pv(a b:A4):Bool:=decide (a.name=b.name) && Fs Sd a.A1 b.A1 && Fs Sq a.params b.params && Ns a.result b.result
def Ty.Sm.subst{vars:List A2}{args:List Ty}(J:∀u,u∈args->u.Sm):∀t:Ty,t.Sm->(t.subst vars args).Sm:=by
 intro t
 induction t using Ty.induct with
 |h t L =>
 intro h;rw[Uo];split
 .rename_i U;have E:(Cb t.name vars 0).toNat<args.length:=by omega
  rw[Br E,Dh];have:=J _ (Gi E);exact .mk _ _ _ this.name this.len this.arg
 .refine .mk _ _ _ h.name (by rw[Bc];exact h.len) λu O=>?_;obtain⟨x,I,rfl⟩:=Au.1 O;exact L x I (h.arg x I)
def mem_mapIdx{α β:Type}{f:Nat->α->β}{l:List α}{y:β}(h:y∈l.mapIdx f):∃i x,l[i]?=some x/\i<l.length/\y=f i x:=by obtain⟨i,I⟩:=Pu h;rw[S5,P1]at I;obtain⟨x,E,rfl⟩:=I;exact⟨i,x,E,(Aw.1 E).1,rfl⟩
theorem A4.Sm.canon{s:A4}(h:s.Sm):s.canon.Sm:=by have hs:=C2k _ h.A1.1;refine⟨h.name,⟨by simp only[A4.canon,Xj];exact h.A1.1,λf I=>?_⟩,⟨by simp only[A4.canon,Vv];exact h.params.1,λf I=>?_⟩,Ty.Sm.subst hs _ h.result⟩;obtain⟨i,x,E,J,rfl⟩:=mem_mapIdx I;have L:=h.A1.2 x (Bm E);refine⟨?_,Ty.Sm.subst hs _ L.bound⟩;simp only[J,Ac];exact Dd (E4t i (by have:=h.A1.1;omega)) (by decide);obtain⟨i,x,E,J,rfl⟩:=mem_mapIdx I;have L:=h.params.2 x (Bm E);refine⟨?_,Ty.Sm.subst hs _ L.type⟩;simp only[J,Ac];decide
def A4.Sm.subst{vars:List A2}{args:List Ty}(J:∀u,u∈args->u.Sm){s:A4}(h:s.Sm):(s.subst vars args).Sm:=by refine⟨h.name,⟨by simp only[A4.subst,Bc];exact h.A1.1,λf I=>?_⟩,⟨by simp only[A4.subst,Bc];exact h.params.1,λf I=>?_⟩,Ty.Sm.subst J _ h.result⟩;obtain⟨x,E,rfl⟩:=Au.1 I;exact⟨(h.A1.2 x E).name,Ty.Sm.subst J _ (h.A1.2 x E).bound⟩;obtain⟨x,E,rfl⟩:=Au.1 I;exact⟨(h.params.2 x E).name,Ty.Sm.subst J _ (h.params.2 x E).type⟩
def G0b(a b:Ak)(h:a.Sm):Ab prog 286 [Sa a,Sa b] (B1 (Sd a b)):=by
 have hs:=A9o a.bound b.bound h.bound;unfold Sd;refine cB func286 ?_;refine sR [0,1,2,3,4] ?_;by_cases E:a.name=b.name
 ·(refine sQ [0,1,2,3,4] λK z=>?_;refine Ah E ?_;refine cc hs ?_;apply z;clear z K)
  rw[Cc E,Cr];exact aR
 .refine Ap E [0,1,2,3,4] ?_;rw[Cu E,C8];exact aR
def H1b(a b:Param)(h:a.Sm):Ab prog 288 [Sy a,Sy b] (B1 (Sq a b)):=by
 have hs:=A9o a.type b.type h.type;unfold Sq;refine cB func288 ?_;refine sR [0,1,2,3,4] ?_;by_cases E:a.name=b.name
 ·(refine sQ [0,1,2,3,4] λK z=>?_;refine Ah E ?_;refine cc hs ?_;apply z;clear z K)
  rw[Cc E,Cr];exact aR
 .refine Ap E [0,1,2,3,4] ?_;rw[Cu E,C8];exact aR
abbrev Uz:List Nat:=[0,1,2,6,7,8,9,14,15,16,17,18,30]
def H0o(f:FuncId)(p:Ak->Ak->Bool)(l m:List Ak)(hl:l.length<=sm)(hf:∀x,x∈l->∀y,Ab prog f [Sa x,Sa y] (B1 (p x y))) :Ab prog 285 [.d (.slice (Ax l)),.d (.slice (Ax m)),.Bk f []] (B1 (Fs p l m)):=by
 refine cB func285 ?_;refine sR Uz ?_;refine kR Uz λZ I=>?_;refine A0.Nh rfl I (λE=>?_) (λE=>?_)
 .refine sR Uz ?_;have:Fs p l m=false:=by
   cases h:Fs p l m with
   |false=>rfl
   |true=>have:=B3s h;simp[this]at E
  rw[this];exact aR
 clear I Z;have U:l.length=m.length:=by
  have:(l.length:Int)=m.length:=by simpa using E
  omega
 refine kR Uz λZ I=>?_;refine A0.bb (A0.ii l (X:=Unit) (λj _=>[(1,.d (.slice (Ax m))),(2,.Bk f []),(15,.d (.slice (Ax l))),(16,A7 l.length),(17,A7 j)]) (λ_ _=>[]) (λj _=>Fs p (l.drop j) (m.drop j)=Fs p l m) () (by simp) sS sB ?_ ?_);intro _ J;refine Ap B6 Uz ?_;refine A0.stop rfl ?_;simp only[A5,A9,Ac];refine I _ _<|sR Uz ?_;rw[D3,U,D3]at J;rw[<-J];exact aR
 .intro j _ d hd O dp tk V J;obtain⟨e,he,W⟩:=A0f (l:=m) (j:=j) (by omega);rw[dp,W,Fs]at J;refine Ap V Uz ?_;refine A0.Ha rfl<|sK λK2 L=>A0.bb ?_
  refine sV Uz λK z=>?_;refine ci (Fc hd) ?_;apply z;clear z K;refine sV Uz λK z=>?_;refine ci (Fc he) ?_;apply z;clear z K;refine sC (hf d O e) Uz ?_;refine A0.cond rfl (λE=>?_) (λE=>?_);refine sR Uz ?_;simp only[Jj]at E;rw[E,C8]at J;rw[<-J];exact aR;simp only[Qc]at E;rw[E,Cr]at J;refine A0.kk (L _ _ ?_);clear L K2;refine lT Uz ?_;exact⟨(),J,sS,sB⟩
abbrev Uk:List Nat:=[0,1,2,6,7,8,9,14,15,16,17,18,30]
def G6i(f:FuncId)(p:Param->Param->Bool)(l m:List Param)(hl:l.length<=sm)(hf:∀x,x∈l->∀y,Ab prog f [Sy x,Sy y] (B1 (p x y))) :Ab prog 287 [.d (.slice (Ay l)),.d (.slice (Ay m)),.Bk f []] (B1 (Fs p l m)):=by
 refine cB func287 ?_;refine sR Uk ?_;refine kR Uk λZ I=>?_;refine A0.Nh rfl I (λE=>?_) (λE=>?_)
 .refine sR Uk ?_;have:Fs p l m=false:=by
   cases h:Fs p l m with
   |false=>rfl
   |true=>have:=B3s h;simp[this]at E
  rw[this];exact aR
 clear I Z;have U:l.length=m.length:=by
  have:(l.length:Int)=m.length:=by simpa using E
  omega
 refine kR Uk λZ I=>?_;refine A0.bb (A0.ii l (X:=Unit) (λj _=>[(1,.d (.slice (Ay m))),(2,.Bk f []),(15,.d (.slice (Ay l))),(16,A7 l.length),(17,A7 j)]) (λ_ _=>[]) (λj _=>Fs p (l.drop j) (m.drop j)=Fs p l m) () (by simp) sS sB ?_ ?_);intro _ J;refine Ap B6 Uk ?_;refine A0.stop rfl ?_;simp only[A5,A9,Ac];refine I _ _<|sR Uk ?_;rw[D3,U,D3]at J;rw[<-J];exact aR
 .intro j _ d hd O dp tk V J;obtain⟨e,he,W⟩:=A0f (l:=m) (j:=j) (by omega);rw[dp,W,Fs]at J;refine Ap V Uk ?_;refine A0.Ha rfl<|sK λK2 L=>A0.bb ?_
  refine sV Uk λK z=>?_;refine ci (Dx hd) ?_;apply z;clear z K;refine sV Uk λK z=>?_;refine ci (Dx he) ?_;apply z;clear z K;refine sC (hf d O e) Uk ?_;refine A0.cond rfl (λE=>?_) (λE=>?_);refine sR Uk ?_;simp only[Jj]at E;rw[E,C8]at J;rw[<-J];exact aR;simp only[Qc]at E;rw[E,Cr]at J;refine A0.kk (L _ _ ?_);clear L K2;refine lT Uk ?_;exact⟨(),J,sS,sB⟩
def G8w(a b:A4)(h:a.Sm):Ab prog 271 [E0 a,E0 b] (B1 (Pv a b)):=by have I:=H0o 286 Sd a.A1 b.A1 h.A1.1 (λx L y=>G0b x y (h.A1.2 x L));have J:=G6i 288 Sq a.params b.params h.params.1 (λx L y=>H1b x y (h.params.2 x L));have hr:=A9o a.result b.result h.result;unfold Pv;refine cB func271 ?_;refine sR [0,1,2,3,4] ?_;by_cases E:a.name=b.name;rcases Fj (Fs Sd a.A1 b.A1)with h3|h3;rw[h3]at I;rcases Fj (Fs Sq a.params b.params)with h4|h4;rw[h4]at J;refine sQ [0,1,2,3,4] λK z=>?_;refine Ah E ?_;refine cc I ?_;refine cc J ?_;refine cc hr ?_;apply z;clear z K;rw[Cc E,h3,h4,Cr,Cr,Cr];exact aR;rw[h4]at J;refine sQ [0,1,2,3,4] λK z=>?_;refine Ah E ?_;refine cc I ?_;refine cc J ?_;apply z;clear z K;rw[h4,Sf,C8];exact aR;rw[h3]at I;refine sQ [0,1,2,3,4] λK z=>?_;refine Ah E ?_;refine cc I ?_;apply z;clear z K;rw[h3,Sf,C8,C8];exact aR;refine Ap E [0,1,2,3,4] ?_;rw[Cu E,C8,C8,C8];exact aR
def F8r(a b:A4)(h:a.Sm)(E:b.Sm):Ab prog 256 [E0 a,E0 b] (B1 (Pv a.canon b.canon)):=by have hs:=G8w a.canon b.canon h.canon;refine cB func256 ?_;refine sR [0,1,2,3,4] ?_;refine sG [0,1,2,3,4] [] 3 [] λK z=>?_;refine ev ?_;refine cc (B6b a h) ?_;refine cc (B6b b E) ?_;refine cc hs ?_;apply z;clear z K;exact aR
abbrev Tn:List Nat:=[0,1,2,6,7,12,16,43,71]
def E9m(l m:List Ak)(hl:l.length<=sm)(hs:∀x,x∈l->x.bound.Lm) :Ab prog 137 [.d (.slice (Ax l)),.d (.slice (Ax m)),B1 false] (B1 (Fs Sd l m)):=by
 refine cB func137 ?_;refine sR Tn ?_;refine kR Tn λK1 L=>?_;refine A0.Nh rfl L (λJ=>?_) (λJ=>?_)
 .refine sR Tn ?_;have:Fs Sd l m=false:=by
   cases h:Fs Sd l m with
   |false=>rfl
   |true=>have:=B3s h;simp[this]at J
  rw[this];exact aR
 clear L K1;have Z:l.length=m.length:=by
  have:(l.length:Int)=m.length:=by simpa using J
  omega
 refine kR Tn λK1 L=>?_;refine A0.bb (A0.ii l (X:=Unit) (λj _=>[(0,.d (.slice (Ax l))),(1,.d (.slice (Ax m))),(2,B1 false),(7,A7 j)]) (λ_ _=>[]) (λj _=>Fs Sd (l.drop j) (m.drop j)=Fs Sd l m) () (by simp) sS sB ?_ ?_);intro _ I;refine Ae B6 Tn λW E=>?_;refine A0.ss rfl ?_;simp only[A5,A9,Ac];refine L _ _<|sR Tn ?_;rw[D3,Z,D3]at I;rw[<-I];exact aR
 .intro j _ d hd V dp tk a0 I;obtain⟨e,he,a1⟩:=A0f (l:=m) (j:=j) (by omega);rw[dp,a1,Fs,Sd]at I;refine Ae a0 Tn λW E=>?_;refine gI E ?_;clear E W;refine sK λW E=>A0.bb<|sK λK3 U=>?_;by_cases O:d.name=e.name
  .have a2:=B0j d.bound e.bound (hs d V)
   (refine sG Tn [] 22 [] λK z=>?_;refine ev ?_;refine⟨by omega,_,Fc hd,rfl,?_⟩;(try refine Ah O ?_);refine ci (Fc he) ?_;refine⟨by omega,_,Fc hd,rfl,?_⟩;(try refine Ah O ?_);refine ci (Fc he) ?_;refine cc a2 ?_;apply z;clear z K)
   rw[Cc O,Cr]at I;refine A0.Nh rfl U (λJ=>?_) (λJ=>?_)
   .refine sR Tn ?_;simp only[Jj]at J;rw[J,C8]at I;rw[<-I];exact aR
   clear U K3;simp only[Qc]at J;rw[J,Cr]at I;refine dR Tn 24 ?_;refine A0.ff rfl (A0.kk (E _ _ ?_));clear E W;refine lT Tn ?_;exact⟨(),I,sS,sB⟩
  ·(refine sG Tn [] 22 [] λK z=>?_;refine ev ?_;refine ci (Fc hd) ?_;refine⟨by omega,_,Fc he,rfl,?_⟩;(try refine Ah O ?_);apply z;clear z K)
   refine tI ?_;refine sR Tn ?_;rw[Cu O,C8,C8]at I;rw[<-I];exact aR
abbrev Tv:List Nat:=[0,1,2,6,7,12,16,43,71]
def G3z(l m:List Param)(hl:l.length<=sm)(hs:∀x,x∈l->x.type.Lm) :Ab prog 138 [.d (.slice (Ay l)),.d (.slice (Ay m)),B1 false] (B1 (Fs Sq l m)):=by
 refine cB func138 ?_;refine sR Tv ?_;refine kR Tv λK1 L=>?_;refine A0.Nh rfl L (λJ=>?_) (λJ=>?_)
 .refine sR Tv ?_;have:Fs Sq l m=false:=by
   cases h:Fs Sq l m with
   |false=>rfl
   |true=>have:=B3s h;simp[this]at J
  rw[this];exact aR
 clear L K1;have Z:l.length=m.length:=by
  have:(l.length:Int)=m.length:=by simpa using J
  omega
 refine kR Tv λK1 L=>?_;refine A0.bb (A0.ii l (X:=Unit) (λj _=>[(0,.d (.slice (Ay l))),(1,.d (.slice (Ay m))),(2,B1 false),(7,A7 j)]) (λ_ _=>[]) (λj _=>Fs Sq (l.drop j) (m.drop j)=Fs Sq l m) () (by simp) sS sB ?_ ?_);intro _ I;refine Ae B6 Tv λW E=>?_;refine A0.ss rfl ?_;simp only[A5,A9,Ac];refine L _ _<|sR Tv ?_;rw[D3,Z,D3]at I;rw[<-I];exact aR
 .intro j _ d hd V dp tk a0 I;obtain⟨e,he,a1⟩:=A0f (l:=m) (j:=j) (by omega);rw[dp,a1,Fs,Sq]at I;refine Ae a0 Tv λW E=>?_;refine gI E ?_;clear E W;refine sK λW E=>A0.bb<|sK λK3 U=>?_;by_cases O:d.name=e.name
  .have a2:=B0j d.type e.type (hs d V)
   (refine sG Tv [] 22 [] λK z=>?_;refine ev ?_;refine⟨by omega,_,Dx hd,rfl,?_⟩;(try refine Ah O ?_);refine ci (Dx he) ?_;refine⟨by omega,_,Dx hd,rfl,?_⟩;(try refine Ah O ?_);refine ci (Dx he) ?_;refine cc a2 ?_;apply z;clear z K)
   rw[Cc O,Cr]at I;refine A0.Nh rfl U (λJ=>?_) (λJ=>?_)
   .refine sR Tv ?_;simp only[Jj]at J;rw[J,C8]at I;rw[<-I];exact aR
   clear U K3;simp only[Qc]at J;rw[J,Cr]at I;refine dR Tv 24 ?_;refine A0.ff rfl (A0.kk (E _ _ ?_));clear E W;refine lT Tv ?_;exact⟨(),I,sS,sB⟩
  ·(refine sG Tv [] 22 [] λK z=>?_;refine ev ?_;refine ci (Dx hd) ?_;refine⟨by omega,_,Dx he,rfl,?_⟩;(try refine Ah O ?_);apply z;clear z K)
   refine tI ?_;refine sR Tv ?_;rw[Cu O,C8,C8]at I;rw[<-I];exact aR
structure A4.Lm(s:A4):Prop where
 A1:s.A1.length<=sm/\∀f,f∈s.A1->f.bound.Lm
 params:s.params.length<=sm/\∀f,f∈s.params->f.type.Lm
 result:s.result.Lm
def A4.Sm.lm{s:A4}(h:s.Sm):s.Lm:=⟨⟨h.A1.1,λf E=>(h.A1.2 f E).bound.lm⟩,⟨h.params.1,λf E=>(h.params.2 f E).type.lm⟩,h.result.lm⟩
abbrev W1:List Nat:=[0,1,2,3,4,6,37]
def E7e(a b:A4)(h:a.Lm):Ab prog 85 [E0 a,E0 b,B1 false] (B1 (Pv a b)):=by
 have I:=E9m a.A1 b.A1 h.A1.1 h.A1.2;have J:=G3z a.params b.params h.params.1 h.params.2;have hr:=B0j a.result b.result h.result;unfold Pv;refine cB func85 ?_;refine sR W1<|sK λO L=>?_;by_cases E:a.name=b.name
 rcases Fj (Fs Sd a.A1 b.A1)with h3|h3;rw[h3]at I;rcases Fj (Fs Sq a.params b.params)with h4|h4;rw[h4]at J;rcases Fj (Ns a.result b.result)with h5|h5;rw[h5]at hr;refine sQ W1 λK z=>?_;refine Ah E ?_;refine cc I ?_;refine cc J ?_;refine cc hr ?_;apply z;clear z K;refine kI L ?_;refine sR W1 ?_;rw[Cc E,h3,h4,h5];exact aR;rw[h5]at hr;refine sQ W1 λK z=>?_;refine Ah E ?_;refine cc I ?_;refine cc J ?_;refine cc hr ?_;apply z;clear z K;refine tI ?_;refine sR W1 ?_;rw[h5,Sf];exact aR;rw[h4]at J;refine sQ W1 λK z=>?_;refine Ah E ?_;refine cc I ?_;refine cc J ?_;apply z;clear z K;refine tI ?_;refine sR W1 ?_;rw[h4,Sf,C8];exact aR;rw[h3]at I;refine sQ W1 λK z=>?_;refine Ah E ?_;refine cc I ?_;apply z;clear z K;refine tI ?_;refine sR W1 ?_;rw[h3,Sf,C8,C8];exact aR;refine Ap E W1 ?_;refine tI ?_;refine sR W1 ?_;rw[Cu E,C8,C8,C8];exact aR
def F6e(a b:A4)(h:a.Sm):Ab prog 85 [E0 a,E0 b,B1 false] (B1 (Pv a b)):=E7e a b h.lm
def G9z(a b:A4)(h:a.Sm)(E:b.Sm):Ab prog 156 [E0 a,E0 b] (B1 (Pv a.canon b.canon)):=by have hs:=F6e a.canon b.canon h.canon;refine cB func156 ?_;refine sR [0,1,2,3,4] ?_;refine sG [0,1,2,3,4] [] 3 [] λK z=>?_;refine ev ?_;refine cc (B1r a h) ?_;refine cc (B1r b E) ?_;refine cc hs ?_;apply z;clear z K;exact aR
def Ez(nm m:A2)(d:Decl):Bool:=decide (d.kind=3) && decide (d.name=nm) && decide (d.sig.name=m)
def N9(p:Prog)(nm m:A2):Int:=Cw (Ez nm m) p.decls
theorem Lo{α:Type}(q:α->Bool)(l:List α):(Cw q l = -1/\∀x,x∈l->q x=false)\/∃(j:Nat)(x:α),Cw q l=j/\l[j]?=some x/\q x=true:=by
 unfold Cw;cases h:l.findIdx? q with
 |none=>exact .inl ⟨rfl,by simpa [Ar1]using h⟩
 |some j =>obtain⟨E,I,_⟩:=Ai3.1 h;exact .inr ⟨j,l[j],rfl,Br E,I⟩
abbrev Wv:List Nat:=[0,1,2,3,6,7,12,42]
def D6p(p:Prog)(hl:p.decls.length<=sm)(nm m:A2):Ab prog 120 [Cq p,B4 nm,B4 m] (A7 (N9 p nm m)):=by
 unfold N9;refine cB func120 ?_;refine sR Wv ?_;refine kR Wv λK1 W=>?_;refine A0.bb (A0.ii p.decls (X:=Unit) (λj _=>[(1,B4 nm),(2,B4 m),(3,.box 3 0),(7,A7 j)]) (λ_ _=>[(3,.cells ((Ai p).map .d))]) (λj _=>∀y,y∈p.decls.take j->Ez nm m y=false) () (by simp) sS (by simp[ble,A8,Ai]) ?_ ?_);intro _ U;rw[Cx]at U;refine Ae B6 Wv λV I=>?_;refine A0.ss rfl ?_;simp only[A5,A9,Ac];refine W _ _<|sR Wv ?_;rw[Tb U];exact aR
 .intro j _ d hd a0 dp tk Z U;refine Ae Z Wv λV I=>?_;refine gI I ?_;clear I V;refine sK λV I=>A0.bb ?_;have L:∀sl bx,Ez nm m d=false->Af sl 1=B4 nm->Af sl 2=B4 m->Af sl 3=.box 3 0->Af sl 7=A7 j->A8 bx 3=some (.cells ((Ai p).map .d))->V sl bx:=λsl bx hk g1 g2 g3 g4 g5=>by
   refine I _ _<|A0.ww (sl':=[(1,B4 nm),(2,B4 m),(3,.box 3 0),(7,A7 j)]) (bx':=[(3,.cells ((Ai p).map .d))]) (by simp[sle,Av,g1,g2,g3,g4]) (by simp[ble,g5]) ?_;refine lT Wv ?_;refine⟨(),?_,sS,(by simp[ble,A8,Ai])⟩;rw[tk];intro y hy;rcases C6.1 hy with hy|hy
   exact U y hy;simp only[B5,Fb,Fg]at hy;rw[hy];exact hk
  by_cases E:d.kind=3
  .by_cases J:d.name=nm
   .by_cases O:d.sig.name=m
    ·(refine sV Wv λK z=>?_;refine⟨by omega,_,Ek hd,rfl,?_⟩;(try refine ev3 E J O ?_);refine⟨by omega,_,Ek hd,rfl,?_⟩;(try refine ev3 E J O ?_);refine⟨by omega,_,Ek hd,rfl,?_⟩;(try refine ev3 E J O ?_);apply z;clear z K)
     refine A0.tt rfl<|sR Wv ?_;rw[Sc hd (by simp[Ez,E,J,O]) U];exact aR
    ·(refine sV Wv λK z=>?_;refine⟨by omega,_,Ek hd,rfl,?_⟩;(try refine Du E J ?_);refine⟨by omega,_,Ek hd,rfl,?_⟩;(try refine Du E J ?_);refine⟨by omega,_,Ek hd,rfl,?_⟩;(try refine ev3 E J O ?_);apply z;clear z K)
     refine A0.ff rfl (A0.kk (L _ _ (by simp[Ez,O]) rfl rfl rfl rfl rfl))
   ·(refine sV Wv λK z=>?_;refine⟨by omega,_,Ek hd,rfl,?_⟩;(try refine Ah E ?_);refine⟨by omega,_,Ek hd,rfl,?_⟩;(try refine Du E J ?_);apply z;clear z K)
    refine A0.ff rfl (A0.kk (L _ _ (by simp[Ez,J]) rfl rfl rfl rfl rfl))
  ·(refine sV Wv λK z=>?_;refine⟨by omega,_,Ek hd,rfl,?_⟩;(try refine Ah E ?_);apply z;clear z K)
   refine A0.ff rfl (A0.kk (L _ _ (by simp[Ez,E]) rfl rfl rfl rfl rfl))
def J2(p:Prog)(x:Ty)(m:A2):Int:=if Bb p x 1=true then(match p.decls[(N9 p x.name m).toNat]? with
 |some d=>if 0<=N9 p x.name m/\d.vars.length=x.args.length then N9 p x.name m else -1
 |none=>-1)else -1
abbrev Xq:List Nat:=[0,1,2,3,4,6,7,33]
def B5t(p:Prog)(Z:p.decls.length<=sm)(x:Ty)(m:A2):Ab prog 60 [Cq p,Be x,B4 m] (A7 (J2 p x m)):=by
 have V:=D6p p Z x.name m;have J:=A0m p x 1;unfold J2;have W:=Lo (Ez x.name m) p.decls;unfold N9 at*;generalize Cw (Ez x.name m) p.decls=k at*;refine cB func60 ?_;refine sR Xq ?_;refine sC V Xq ?_;rcases Fj (Bb p x 1)with h1|h1
 .rw[h1]at J;rw[A6 h1];rcases W with⟨rfl,_⟩|⟨j,d,rfl,hd,_⟩
  .refine sK λO E=>?_;refine sG Xq [] 19 [] λK z=>?_;refine ev ?_;refine cc J ?_;apply z;clear z K
   refine tI ?_;refine sR Xq ?_;have:(match p.decls[(-1:Int).toNat]? with
    |some d=>if 0<=(-1:Int)/\d.vars.length=x.args.length then(-1:Int)else -1
    |none=>-1) = -1:=by
    cases p.decls[(-1:Int).toNat]? with
    |none=>rfl
    |some d=>simp
   rw[this];exact aR
  .have L:¬(j:Int)<0:=by omega
   simp only[Hx,hd];by_cases U:d.vars.length=x.args.length
   .have I:(d.vars.length:Int)=x.args.length:=by omega
    rw[A6 ⟨by omega,U⟩];refine sK λO E=>?_;refine sG Xq [] 19 [] λK z=>?_;refine ev ?_;refine⟨_,.inl ⟨_,rfl,J,rfl⟩,?_⟩;(try refine Ah L ?_);refine⟨by omega,_,Ek hd,rfl,?_⟩;(try refine Ah I ?_);apply z;clear z K;refine kI E ?_;refine sR Xq ?_;exact aR
   .have I:¬(d.vars.length:Int)=x.args.length:=by omega
    rw[A3 (λh=>U h.2)];refine sK λO E=>?_;refine sG Xq [] 19 [] λK z=>?_;refine ev ?_;refine⟨_,.inl ⟨_,rfl,J,rfl⟩,?_⟩;(try refine Ah L ?_);refine⟨by omega,_,Ek hd,rfl,?_⟩;(try refine Ah I ?_);apply z;clear z K;refine tI ?_;refine sR Xq ?_;exact aR
 rw[h1]at J;rw[A3 (by rw[h1];decide)];refine sK λO E=>?_;refine sG Xq [] 19 [] λK z=>?_;refine ev ?_;refine cc J ?_;apply z;clear z K;refine tI ?_;refine sR Xq ?_;exact aR
def J6(p:Prog)(x:Ty)(d:Decl)(i:Nat):Bool:=decide (d.kind=3) && decide (d.name=x.name) && decide (J2 p x d.sig.name=(i:Int))
def Gw(p:Prog)(x:Ty)(j:Nat):List A4:=((p.decls.take j).zipIdx.filter λE=>J6 p x E.1 E.2).map λE=>E.1.sig.canon.subst E.1.vars x.args
def C5a{p:Prog}{x:Ty}{j:Nat}{d:Decl}(I:j<p.decls.length)(ht:p.decls.take (j+1)=p.decls.take j++[d]):Gw p x (j+1)=Gw p x j++if J6 p x d j=true then[d.sig.canon.subst d.vars x.args]else[]:=by
 unfold Gw;have E:(p.decls.take j).length=j:=by rw[D0];omega
 rw[ht,List.zipIdx_append,Aq0,Hc,E]
 congr 1
 simp only[Au6,List.zipIdx_nil,Qe,Ar2,Ar7];split <;> simp_all
def A7h(p:Prog)(x:Ty)(j:Nat):(Gw p x j).length<=j:=by unfold Gw;rw[Bc];refine Dd (Ao4 ..) ?_;rw[List.length_zipIdx,D0];omega
abbrev Sx:List Nat:=[0,1,2,3,4,5,6,7,12,39]
def E9p(p:Prog)(h:p.Sm)(x:Ty)(hx:x.Sm):Ch prog 108 [Cq p,Be x] [] (.acc 5) [(5,.rows 7 (B9 (Gw p x p.decls.length)))]:=by
 have hl:=h.decls.1;refine bB func108 ?_;refine sR Sx ?_;refine sR Sx ?_;refine A0.pp 5 7 5 rfl<|kR Sx λK1 a0=>?_;refine A0.bb (A0.ii p.decls (X:=Unit) (λj _=>[(2,.box 2 0),(3,.box 3 0),(5,.acc 5),(6,A7 j)]) (λj _=>[(2,.cells ((Ai p).map .d)),(3,.cells ((Bs x).map .d)),(5,.rows 7 (B9 (Gw p x j)))]) (λj _=>True) () trivial sS (by simp[ble,A8,Gw,B9,Ai,Bs]) ?_ ?_)
 intro _ _;refine Ae B6 Sx λO I=>?_;refine A0.ss rfl ?_;simp only[A5,A9,Ac];refine a0 _ _<|sR Sx ?_;exact A0.ret ⟨_,by rw[results108];rfl,.inl rfl,by simp[ble,A8]⟩
 .intro j _ d hd Z dp tk a1 hI;have a2:=A7h p x j;have E:=C5a (x:=x) (by omega) tk;have V:=h.decls.2 d Z;have W:=B5t p hl x d.sig.name;refine Ae a1 Sx λO I=>?_;refine gI I ?_;clear I O;refine sK λO I=>A0.bb ?_;refine sV Sx λK z=>?_;refine ci (Ek hd) ?_;apply z;clear z K;have J:∀sl bx,J6 p x d j=false->Af sl 2=.box 2 0->Af sl 3=.box 3 0->Af sl 5=.acc 5->Af sl 6=A7 j->A8 bx 2=some (.cells ((Ai p).map .d))->A8 bx 3=some (.cells ((Bs x).map .d))->A8 bx 5=some (.rows 7 (B9 (Gw p x j)))->O sl bx:=λsl bx hk g1 g2 g3 g4 g5 g6 g7=>by refine I _ _ ?_;refine A0.ww (sl':=[(2,.box 2 0),(3,.box 3 0),(5,.acc 5),(6,A7 j)]) (bx':=[(2,.cells ((Ai p).map .d)),(3,.cells ((Bs x).map .d)),(5,.rows 7 (B9 (Gw p x j)))]) (by simp[sle,Av,g1,g2,g3,g4]) (by simp[ble,g5,g6,g7]) ?_;refine lT Sx ?_;rw[hk,A3 (by decide),Gy]at E;exact⟨(),trivial,sS,by simp[ble,A8,E,Ai,Bs]⟩
  by_cases L:d.kind=3
  .by_cases U:d.name=x.name
   .by_cases h3:J2 p x d.sig.name=(j:Int)
    ·(refine sQ Sx λK z=>?_;refine Du L U ?_;refine⟨_,.inl ⟨_,rfl,W,rfl⟩,?_⟩;(try refine Ah h3 ?_);apply z;clear z K)
     refine A0.tt rfl ?_;have hk:J6 p x d j=true:=by simp[J6,L,U,h3]
     rw[hk,A6 rfl]at E
     (refine lG Sx [] 10 [] λK z=>?_;refine ev ?_;refine cc (B1r d.sig V.sig) ?_;refine cc (D1m d.vars x.args hx.arg _ V.sig.canon) ?_;refine⟨by simp,by unfold lim sm at*;omega,?_⟩;(try refine ev ?_);apply z;clear z K;try simp only[A5,A9])
     refine I _ _ ?_;clear I O J;refine lT Sx ?_;exact⟨(),trivial,sS,by simp[ble,A8,E,B9,Dm,Ai,Bs]⟩
    ·(refine sQ Sx λK z=>?_;refine Du L U ?_;refine⟨_,.inl ⟨_,rfl,W,rfl⟩,?_⟩;(try refine Ah h3 ?_);apply z;clear z K)
     refine A0.ff rfl (A0.kk (J _ _ (by simp[J6,h3]) rfl rfl rfl rfl rfl rfl rfl))
   refine Er L U Sx ?_;refine A0.ff rfl (A0.kk (J _ _ (by simp[J6,U]) rfl rfl rfl rfl rfl rfl rfl))
  refine Ap L Sx ?_;refine A0.ff rfl (A0.kk (J _ _ (by simp[J6,L]) rfl rfl rfl rfl rfl rfl rfl))
def E0i(l:List Lit):∀(ds:List Decl)(i:Nat),Um l ds i=(ds.findIdx? λd=>match Mp d with|some I=>decide (l=I.lits)|none=>false).map λj=>D.int .i64 ((i+j:Nat):Int)
 |[],i=>rfl
 |d::ds,i=>by
  rw[Um,List.findIdx?_cons,E0i l ds (i+1)];have E:∀o:Option Nat,(o.map λj=>D.int .i64 ((i+1+j:Nat):Int))=(o.map (·+1)).map λj=>D.int .i64 ((i+j:Nat):Int):=λo=>by
   cases o with
   |none=>rfl
   |some j=>simp only[Ef,B0,D.int.injEq,Qo];congr 1;omega
  cases J:Mp d with
  |none=>simp only[A3 (show ¬(false=true) by decide)];exact E _
  |some k =>simp only;by_cases h:l=k.lits;simp[h];simp only[h,Fm,Zj];exact E _
def C9v(nm m:A2):(λd:Decl=>match Mp d with|some J=>decide ((Hn nm (46::m)).lits=J.lits)|none=>false)=Ez nm m:=by
 funext d;unfold Mp Ez;by_cases I:d.kind=1\/d.kind=2
 .rw[A6 I];have L:¬d.kind=3:=by omega
  simp[L,Hn,D.lits,D.lit]
 .rw[A3 I];by_cases E:d.kind=3
  .rw[A6 E];have e:((Hn nm (46::m)).lits=(Hn d.name (46::d.sig.name)).lits)↔(d.name=nm/\d.sig.name=m):=by simp only[Hn,D.lits,D.lit,Cp,It,An7,Lit.string.injEq,T9,Qo];exact⟨λh=>⟨h.1.symm,h.2.symm⟩,λh=>⟨h.1.symm,h.2.symm⟩⟩
   simp only[E,Ra,Cr,e,Bool.decide_and]
  rw[A3 E];simp[E]
def G3a(p:Prog)(nm m:A2):(N9 p nm m = -1/\Ea (Hn nm (46::m)).lits (Rq p) 0=none)\/∃(j q:Nat),N9 p nm m=j/\Ea (Hn nm (46::m)).lits (Rq p) 0=some (q,.int .i64 j):=by
 have E:Py (Hn nm (46::m)).lits (Rq p)=Um (Hn nm (46::m)).lits p.decls 0:=by unfold Rq;rw[C6r];rfl
 rw[E0i,C9v]at E;unfold Py at E;unfold N9 Cw;cases J:p.decls.findIdx? (Ez nm m)with
 |none =>rw[J]at E;exact .inl ⟨rfl,by simpa using E⟩
 |some j =>
  rw[J]at E;refine .inr ⟨j,?_⟩;cases I:Ea (Hn nm (46::m)).lits (Rq p) 0 with
  |none=>rw[I]at E;simp at E
  |some L =>obtain⟨q,d⟩:=L;rw[I]at E;simp only[Ef,B0,Qe]at E;exact⟨q,rfl,by rw[E]⟩
def E9n{p:Prog}{x:Ty}{d:Decl}{j:Nat}(V:Bb p x 1=true)(hd:p.decls[j]?=some d):J6 p x d j=(decide (N9 p x.name d.sig.name=(j:Int)) && decide (d.vars.length=x.args.length)):=by
 unfold J6 J2;rw[A6 V];unfold N9;rcases Lo (Ez x.name d.sig.name) p.decls with⟨J,_⟩|⟨k,e,J,O,L⟩
 .rw[J];have E:¬(-1:Int)=(j:Int):=by omega
  have:(match p.decls[(-1:Int).toNat]? with
    |some d=>if 0<=(-1:Int)/\d.vars.length=x.args.length then(-1:Int)else -1
    |none=>-1) = -1:=by
    cases p.decls[(-1:Int).toNat]? with
    |none=>rfl
    |some d=>simp
  rw[this];simp[E]
 .rw[J];simp only[Hx,O];by_cases U:k=j
  .subst U;rw[O]at hd;simp only[B0]at hd;subst hd;simp only[Ez,Bi,E4]at L;by_cases I:e.vars.length=x.args.length;simp[L,I]
   .have E:¬(-1:Int)=(k:Int):=by omega
    simp[I,E]
  .have E:¬(k:Int)=(j:Int):=by omega
   by_cases I:e.vars.length=x.args.length;simp[I,E]
   .have J:¬(-1:Int)=(j:Int):=by omega
    simp[I,E,J]
theorem D6e{p:Prog}{x:Ty}(I:¬Bb p x 1=true)(j:Nat):Gw p x j=[]:=by
 unfold Gw;rw[Ar3,List.filter_eq_nil_iff];rintro⟨d,i⟩ _;simp only[J6,J2,A3 I];have E:¬(-1:Int)=(i:Int):=by omega
 simp[E]
abbrev Mn:List Nat:=[0,1,3,4,6,7,8,9,10,11,19,24,25,26,27,60]
def F5s(p:Prog)(h:p.Sm)(x:Ty)(hx:x.Sm):Ch prog 232 [.Aj (G1 p) 0,Be x] [] (.acc 7) [(7,.rows 7 (B9 (Gw p x p.decls.length)))]:=by
 have hl:=h.decls.1;have L:=B8x p h x 1 (by decide);generalize(Fk p x.name).getD default=dd at*;refine bB func232 ?_;refine sR Mn ?_;rcases Fj (Bb p x 1)with hi|hi
 .rw[hi]at L;refine kC L Mn λK1 I=>?_;refine sR Mn ?_;refine kI I ?_;clear I K1;refine sR Mn ?_;refine A0.pp 7 7 7 rfl<|sK λK1 I=>?_
  refine sQ Mn λK z=>?_;simp -implicitDefEqProofs only[EV,Nat.reduceEqDiff,Nat.reduceBEq,reduceCtorEq,A4u,A1g,B6e,G1];apply z;clear z K;refine A0.bb (A0.ii p.decls (X:=Unit) (λj _=>[(0,.Aj (G1 p) 0),(3,.box 3 0),(7,.acc 7),(24,.d (.slice (Di p.decls))),(25,A7 p.decls.length),(26,A7 j)]) (λj _=>[(3,.cells ((Bs x).map .d)),(7,.rows 7 (B9 (Gw p x j)))]) (λj _=>True) () trivial (by simp[sle,Av,Af,G1,Ai]) (by simp[ble,A8,Gw,B9,Bs]) ?_ ?_);intro _ _;refine Ap B6 Mn ?_;refine A0.stop rfl ?_;simp only[A5,A9,Ac];refine I _ _<|sR Mn ?_;exact A0.ret ⟨_,by rw[results232];rfl,.inl rfl,by simp[ble,A8]⟩
  .intro j _ d hd a1 dp tk a2 hI;have a3:=A7h p x j;have E:=C5a (x:=x) (by omega) tk;have W:=h.decls.2 d a1;have hb:=E9n hi hd;refine Ap a2 Mn ?_;refine A0.Ha rfl<|sK λK2 V=>A0.bb ?_
   refine sV Mn λK z=>?_;refine ci (Ek hd) ?_;apply z;clear z K;have a4:=W.sig.name;have Z:=B1s B2s x.name (46::d.sig.name) (Dd hx.name (by decide)) (by simp only[Ar];unfold sm lim at*;omega);have a0:=G3a p x.name d.sig.name;unfold Hn at Z a0;refine sG Mn [] 16 [] λK z=>?_;simp -implicitDefEqProofs only[EV,Nat.reduceAdd,Nat.reduceEqDiff,Nat.reduceLeDiff,reduceCtorEq,E1,Hy,Sz,Zb,C2r,B6e,C1w,G1];refine⟨by unfold sm lim at*;omega,D2h p h,Z,?_⟩;apply z;clear z K;have O:∀sl bx,J6 p x d j=false->Af sl 0=.Aj (G1 p) 0->Af sl 3=.box 3 0->Af sl 7=.acc 7->Af sl 24=.d (.slice (Di p.decls))->Af sl 25=A7 p.decls.length->Af sl 26=A7 j->A8 bx 3=some (.cells ((Bs x).map .d))->A8 bx 7=some (.rows 7 (B9 (Gw p x j)))->K2 sl bx:=λsl bx Z g1 g2 g3 g4 g5 g6 g7 g8=>by refine V _ _ ?_;refine A0.ww (sl':=[(0,.Aj (G1 p) 0),(3,.box 3 0),(7,.acc 7),(24,.d (.slice (Di p.decls))),(25,A7 p.decls.length),(26,A7 j)]) (bx':=[(3,.cells ((Bs x).map .d)),(7,.rows 7 (B9 (Gw p x j)))]) (by simp[sle,Av,g1,g2,g3,g4,g5,g6]) (by simp[ble,g7,g8]) ?_;refine lT Mn ?_;rw[Z,A3 (by decide),Gy]at E;exact⟨(),trivial,(by simp[sle,Av,Af,G1,Ai]),by simp[ble,A8,E,Bs]⟩
   rcases a0 with⟨m1,m2⟩|⟨k,q,m1,m2⟩
   .have h0:¬(-1:Int)=(j:Int):=by omega
    simp only[M8,m2,Nb];refine sR Mn ?_;refine A0.ff rfl (A0.kk (O _ _ (by rw[hb,m1];simp[h0]) rfl rfl rfl rfl rfl rfl rfl rfl))
   .simp only[M8,m2,Y8,Ak5];by_cases J:(k:Int)=(j:Int)
    .by_cases hv:d.vars.length=x.args.length
     .have U:(d.vars.length:Int)=x.args.length:=by omega
      refine Er J U Mn ?_;refine A0.tt rfl ?_;have Z:J6 p x d j=true:=by rw[hb,m1];simp[J,hv]
      rw[Z,A6 rfl]at E;(refine lG Mn [] 10 [] λK z=>?_;refine ev ?_;refine cc (B6b d.sig W.sig) ?_;refine cc (D9b d.vars x.args hx.arg _ W.sig.canon) ?_;refine⟨by simp,by unfold lim sm at*;omega,?_⟩;(try refine ev ?_);apply z;clear z K;try simp only[A5,A9]);refine V _ _ ?_;clear V K2 O;refine lT Mn ?_;exact⟨(),trivial,(by simp[sle,Av,Af,G1,Ai]),by simp[ble,A8,E,B9,Dm,Bs]⟩
     .have U:¬(d.vars.length:Int)=x.args.length:=by omega
      refine Er J U Mn ?_;refine A0.ff rfl (A0.kk (O _ _ (by rw[hb,m1];simp[hv]) rfl rfl rfl rfl rfl rfl rfl rfl))
    refine Ap J Mn ?_;refine A0.ff rfl (A0.kk (O _ _ (by rw[hb,m1];simp[J]) rfl rfl rfl rfl rfl rfl rfl rfl))
 rw[hi]at L;refine kC L Mn λK1 I=>?_;refine sR Mn ?_;refine tI ?_;refine sR Mn ?_;rw[D6e (by rw[hi];decide)];refine A0.pp 7 7 4 rfl<|A0.ret ⟨_,by rw[results232];rfl,.inl rfl,by simp[ble,A8,B9]⟩
end Go.Abs
