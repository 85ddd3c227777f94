/- slices.Grow of nil, slices.Concat[Formal] of two, bind.Join, table.Formals -/
import Derived.Test.YtcmlfpcaeflleaaGreatDoorGS14
set_option linter.all false
set_option maxHeartbeats 1000000
set_option maxRecDepth 100000
namespace Go.Abs
open Go Go.Proofs Tryz
def X4(E k1:Nat)(q:Nat):Nat:=if q=E then k1 else q
def C6q{P:Program}{sl:SL}{bx:Aa}{f:FuncId}{fo:Operand}{args:List Operand}{Cq:List TypeId}{dst:Option Nat}{caps M:List SV}{r:SV}{V O:Nat}{E:List (List D)}(k1:Nat)
  (hf:Ao sl fo=.B0 f caps)(a6:args.map (Ao sl)++caps=M)(ac:SV.Mc M=true)(hc:Bj P f M [] r [(V,.rows O E)])(hr:r.only [V]=true)
  (h1:k1<=999999)(f1:A0h k1 bx=false) :
  OpB P sl bx dst (.call ⟨.value fo,args.toArray,Cq.toArray⟩) (r.Dt (X4 V k1)) ((k1,.rows O E)::bx) [k1]:=by
 subst a6;intro o ho _ C S w β a hi ha;have a4:=ha fo (mC ho);rw[hf]at a4;generalize ab:a.eval fo=v at a4;cases a4 with
 |B0 _ _ cs g1 g2 =>
  have a9:Bv S w β (args.map (Ao sl)++caps) (args.map a.eval++cs):=(Bv.U1 _ λx hx=>ha x (mo ho (by simp[Op.operands,Call.operands];exact .inr hx))).append ⟨g1,g2⟩;have a':Inv ⟨w,S,λ_=>False,λ_ _=>False,C.G⟩ S w β []:=hi.begin hi.Bf (λ_ h=>h);have a5:=hc.2 ⟨w,S,λ_=>False,λ_ _=>False,C.G⟩ β _ a' a9;refine H6 ?_;unfold Oper.wp;rw[Sp hc.1 ho ab,R6];have Z:(args.toArray.map a.eval)++(⟨cs⟩:Array Value)=⟨args.map a.eval++cs⟩:=by apply J6;simp
  rw[Z];refine a5.mono ?_;rintro e w' ⟨v,S',β',rfl,W,hv⟩;have a8:w.heap.size<=w'.heap.size:=W.size;have a7:∀b,S' b->S b\/w.heap.size<=b:=λb I=>by
   rcases W.Ee b I with h|h|h
   .exact .inl h
   .exact h.elim
   .exact .inr h
  have e:Bk S w S' w':=⟨W.Fg,λb I=>W.kept b (hi.Bf b I) id⟩;have u1:Eg β k1 (β' V) k1 =β' V:=H2 ..;have u3:∀j,j≠k1->Eg β k1 (β' V) j =β j:=λj a=>by rw[Lo a]
  have m1:(V,Ap.rows O E)∈[(V,Ap.rows O E)]:=by simp
  have L:∀b,(β' V).base=some b->¬S' b/\b<w'.heap.size/\w.heap.size<=b:=λb I=>by obtain⟨p1,p2,p3⟩:=W.B7 V _ m1 b I;exact⟨p1,p2,p3.resolve_left id⟩
  have U:∀k c,(k,c)∈bx->k≠k1/\(∀j,c.has j=true->j≠k1):=λk c hm=>by obtain⟨a1,a2⟩:=B4t f1 k c hm;exact⟨a1,λj hj he=>by subst he;rw[a2]at hj;simp at hj⟩
  have J:∀k c,(k,c)∈(k1,Ap.rows O E)::bx->(k=k1/\c=.rows O E)\/(k,c)∈bx:=λk c hm=>by simp only[Aw,Eo]at hm;exact hm
  refine⟨v,S',Eg β k1 (β' V),rfl,?_,e,hv.Dt λk aa=>?_,λj hj=>?_⟩
  .refine hi.step e a7 W.Bf (λb I _=>W.kept b I id) W.os W.tape W.output a8 ?_ ?_ (λj hj=>u3 j (by omega)) ?_
   .intro k c hm;rcases J k c hm with⟨rfl,rfl⟩|hm
    .rw[u1];exact⟨Df.ext (c:=.rows O E) (W.box V _ m1) (Bk.refl _ _) (λ_ _=>rfl) (by simp[Ap.has]),λb I=>⟨(L b I).1,(L b I).2.1,.inl (L b I).2.2⟩⟩
    .obtain⟨a1,a3⟩:=U k c hm;rw[u3 k a1];refine⟨(hi.box k c hm).ext e (λb I=>W.kept b (hi.B7 k c hm b I).2.1 id) (λj hj=>u3 j (a3 j hj)),λb I=>⟨λhs=>?_,Vr (hi.B7 k c hm b I).2.1 a8,.inr ⟨k,c,hm,I⟩⟩⟩;rcases a7 b hs with h|h
     .exact(hi.B7 k c hm b I).1 h
     .have:=(hi.B7 k c hm b I).2.1;omega
   .intro k c k' c' hm hm' b I a0;have low:∀k c,(k,c)∈bx->(Eg β k1 (β' V) k).base=some b->b<w.heap.size:=λk c hm I=>by
     rw[u3 k (U k c hm).1]at I;exact(hi.B7 k c hm b I).2.1
    rcases J k c hm with⟨rfl,rfl⟩|hm
    .rw[u1]at I;rcases J k' c' hm' with⟨rfl,rfl⟩|hm'
     .exact⟨rfl,rfl⟩
     .have:=low _ _ hm' a0;have:=(L b I).2.2;omega
    .have ad:=low _ _ hm I;rcases J k' c' hm' with⟨rfl,rfl⟩|hm'
     .rw[u1]at a0;have:=(L b a0).2.2;omega
     .rw[u3 k (U k c hm).1]at I;rw[u3 k' (U k' c' hm').1]at a0;exact hi.inj k c k' c' hm hm' b I a0
   .intro k Y st hm;rcases J k _ hm with⟨_,h⟩|hm
    .cases h
    .exact hm
  .have:=SV.B2f hr aa;simp only[Aw,Ej,Eh]at this;subst this;simp only[X4,Ae];exact u1
  .simp only[Aw,Ej,Eh]at hj;exact u3 j hj
def D6m{P:Program}{ρ:Go.Shelf.Ren}(L:Go.Proofs.Lays8.n4 P ρ)(sz:Nat)(a2:0<sz)(E:((P.info? (ρ.t 25)).any λi=>i.size ==sz && decide (i.bytes<=1000) && i.zero.any λz=>z.cells.size ==sz)=true)
  (hE:Enters P (ρ.f 4))(n:Nat)(hn:n<=100000000000):Bj P (ρ.f 4) [.d .nil,A8 n] [] (.acc 1) [(1,.rows sz [])]:=by
 refine⟨hE,λC β vs hi hv=>?_⟩;obtain⟨v0,J,V⟩:=hv.get (j:=0) (c:=.d .nil) rfl;obtain⟨v1,I,a0⟩:=hv.get (j:=1) (c:=A8 n) rfl;have O:vs=[.slice none 0 0,.int .i64 n]:=by
  have hl:=hv.1
  match vs,hl with
  |[u,v],_ =>simp only[Qt,Xo,B4]at J I;subst J;subst I;rw[a0.J4];have:=V.J0;cases this;rfl
 subst O;by_cases h0:n=0
 .subst h0;refine(Any8.slices_Grow_room L none 0 0 0 C.w0 (Bi _) (by omega) (by omega) (by omega)).mono ?_;rintro e w' ⟨rfl,rfl⟩;obtain⟨Z,h2⟩:=hi.W1 (k:=1) (w':=C.w0) (c:=.rows sz []) { base:=none,sz:=sz } (by decide) (by simp) (λ_ _ _=>rfl) rfl rfl rfl (Bi _) (λ_=>C1k);refine⟨_,C.S0,_,rfl,by simpa [Ca,Gw]using Z,?_⟩;have:=Ak.acc (S:=C.S0) (w:=C.w0) (β:=Eg β 1 { base:=none,sz:=sz }) 1;rw[H2]at this;simpa using this
 .generalize W:P.info? (ρ.t 25)=oi at E;cases oi with
  |none=>simp at E
  |some i0 =>
   simp only[Option.any_some,Bc,Tu,Da]at E;obtain⟨⟨g1,g2⟩,M⟩:=E;generalize a1:i0.zero=oz at M;cases oz with
   |none=>simp at M
   |some z =>
    simp only[Option.any_some,Tu]at M;refine(Any8.slices_Grow_grow L i0 z W a1 (by omega) none 0 0 n [] C.w0 (Bi _) (by omega) (by have:(0+n)*i0.bytes<=(0+n)*1000:=An6 _ g2;omega) (by omega) (by simp) (λ_=>rfl) (by simp)).mono ?_
    rintro e w' ⟨rfl,rfl⟩;have U:=grownCap_ge C.w0 (0+n) 0 (ρ.t 25);generalize grownCap C.w0 (0+n) 0 (ρ.t 25)=G at U;obtain⟨Z,h2⟩:=hi.W1 (k:=1) (w':=C.w0.drew.alloc (.cells (([]:List Value).toArray++Builtin.zeroCells z.cells (0+n - 0)++Builtin.zeroCells z.cells (G - (0+n))) (ρ.t 25))) (c:=.rows sz []) { base:=some C.w0.heap.size,len:=0,cap:=G,sz:=sz } (by decide)
     (by intro b hb;cases hb;exact⟨λh=>by have:=hi.Bf _ h;omega,by simp[-World.alloc_eq,-World.drew_eq,World.alloc,World.drew],.inl (Bi _)⟩)
     (λb hb _=>RowKit.Below.heap_alloc C.w0.drew _ b hb) rfl rfl rfl (by simp[-World.alloc_eq,-World.drew_eq,World.alloc,World.drew])
     (λ_=>by refine⟨rfl,rfl,by simp,by simp,by simp,by simp,?_⟩;refine⟨ρ.t 25,(([]:List Value).toArray++Builtin.zeroCells z.cells (0+n - 0)++Builtin.zeroCells z.cells (G - (0+n))).toList,by simp[-World.alloc_eq,-World.drew_eq,World.alloc,World.drew],?_,by simp⟩;simp only[Aq5,Bz,Us,E3n,M];simp only[Dy,Nd,<-Gy];exact I9 _ (by omega))
    refine⟨_,C.S0,_,rfl,by simpa [Ca,Gw]using Z,?_⟩;have:=Ak.acc (S:=C.S0) (w:=C.w0.drew.alloc (.cells (([]:List Value).toArray++Builtin.zeroCells z.cells (0+n - 0)++Builtin.zeroCells z.cells (G - (0+n))) (ρ.t 25))) (β:=Eg β 1 { base:=some C.w0.heap.size,len:=0,cap:=G,sz:=sz }) 1;rw[H2]at this;simpa using this
def E9o(n:Nat)(E:n<=100000000000):Bj prog 305 [.d .nil,A8 n] [] (.acc 1) [(1,.rows 5 [])] :=
 D6m G2v 5 (by decide) (by kernel_rfl) (Enters.of func305 rfl (by decide)) n E
def F8u(n:Nat)(E:n<=100000000000):Bj prog 261 [.d .nil,A8 n] [] (.acc 1) [(1,.rows 3 [])] :=
 D6m G5k 3 (by decide) (by kernel_rfl) (Enters.of func261 rfl (by decide)) n E
def C1a{α:Type}(E:List (List α))(j:Nat):((E.take j).map List.length).sum<=(E.map List.length).sum:=by
 induction E generalizing j with
 |nil=>simp
 |cons a l I =>
  cases j with
  |zero=>simp
  |succ j=>simp only[Ia,Ck,Mi];have:=I j;omega
def A5c(E:List (List Am)):List (List D):=E.map λl=>[.slice (Ar l)]
def D5y{E:List (List Am)}{j:Nat}{l:List Am}(h:E[j]?=some l):(A5c E)[j]?=some [.slice (Ar l)]:=by simp[A5c,h]
abbrev Pz:List Nat:=[0,2,3,5,6,8,9,10,11,12,20,24,25,26,27,28]
def G5i(E:List (List Am))(hl:E.length<=sm)(hn:(E.map List.length).sum<=2*sm):Ac prog 301 [.d (.slice (A5c E))] (.d (.slice (Ar E.flatten))):=by
 refine cB func301 ?_;refine sR Pz ?_;refine sR Pz ?_;refine kR Pz λK1 J=>?_;refine A0.bb (A0.ii E (X:=Unit) (λj _=>[(0,.d (.slice (A5c E))),(3,A8 (((E.take j).map List.length).sum:Nat)),(9,.d (.slice (A5c E))),(10,A8 E.length),(11,A8 j)]) (λ_ _=>[])
  (λj _=>True) () trivial (by simp[sle,Ax,Ag,A5c]) sB ?_ ?_)
 .intro _ _;rw[Dm];refine Aq B3 Pz ?_;refine A0.stop rfl ?_;simp only[A4,Ab,Ae];refine J _ _ ?_;clear J K1
  (refine A0.Ef Pz [800024] (by decide +kernel) λK z=>?_;refine ev ?_;refine⟨_,_,_,C6q 24 rfl rfl rfl (E9o _ (by unfold sm at hn;omega)) rfl (by decide) rfl,?_⟩;simp only[SV.Dt,X4,Ae];(try refine ev ?_);apply z;clear z K)
  refine kR Pz λK1 J=>?_;refine A0.bb (A0.ii E (X:=Unit) (λj _=>[(6,.acc 24),(25,.d (.slice (A5c E))),(26,A8 E.length),(27,A8 j)]) (λj _=>[(24,.rows 5 (Ar (E.take j).flatten))])
   (λj _=>True) () trivial (by simp[sle,Ax,Ag,A5c]) (by simp[ble,A7,Ar]) ?_ ?_)
  .intro _ _;rw[Dm];refine Aq B3 Pz ?_;refine A0.stop rfl ?_;simp only[A4,Ab,Ae];refine J _ _ ?_;clear J K1;refine sR Pz ?_;exact aR
  .intro j _ d W U dp O M hI;have I:=C1a E (j+1);rw[O,Gg,Ap1]at I;simp only[Ck,Hy,Mi,List.sum_nil,Sx]at I;rw[O,List.flatten_append,As5,List.flatten_nil,I8];refine Aq M Pz ?_;refine A0.Fk rfl<|sK λV L=>A0.bb ?_
   (refine sV Pz λK z=>?_;refine ci (D5y W) ?_;apply z;clear z K)
   (refine lV Pz λK z=>?_;refine⟨λrow hr=>by obtain⟨x,_,rfl⟩:=B1.1 hr;rfl,by rw[List.length_flatten];unfold lim sm at*;omega,?_⟩;(try refine ev ?_);apply z;clear z K;try simp only[A4,Ab])
   refine L _ _ ?_;clear L V;refine lT Pz ?_;exact⟨(),trivial,sS,by simp[ble,A7,Ar]⟩
 .intro j _ d W U dp O M hI;have I:=C1a E (j+1);rw[O,Gg,Ap1]at I;simp only[Ck,Hy,Mi,List.sum_nil,Sx]at I;have Z:¬(((((E.take j).map List.length).sum:Nat):Int)+(d.length:Int)<0):=by omega
  rw[O,Gg,Ap1];simp only[Ck,Hy,Mi,List.sum_nil,Sx];refine Aq M Pz ?_;refine A0.Fk rfl<|sK λV L=>A0.bb ?_
  (refine sV Pz λK z=>?_;refine ci (D5y W) ?_;apply z;clear z K)
  (refine sV Pz λK z=>?_;refine ca ?_;apply z;clear z K)
  refine Aq Z Pz ?_;refine A0.ff rfl (A0.kk (L _ _ ?_));clear L V;refine lT Pz ?_;exact⟨(),trivial,sS,sB⟩
def F3a(l:List Am)(j:Nat)(d:Am):Ar (l.take j++[d])=Ar (l.take j)++[Jy d]:=by simp[Ar]
abbrev q2O:List Nat:=[0,1,4,5,7,11,12,13,14]
def C8j(a b:List Am)(a0:a.length<=sm)(a1:b.length<=sm)(O:∀f,f∈a->f.Sm)(W:∀f,f∈b->f.Sm):Ac prog 286 [.d (.slice (Ar a)),.d (.slice (Ar b))] (.d (.slice (Ar (a++b)))):=by
 have M:=G5i [a,b] (show 2<=sm by decide) (by simp only[Ck,Hy,Mi,List.sum_nil];omega);rw[show[a,b].flatten=a++b by simp]at M;have hl:(a++b).length<=2*sm:=by simp only[Bz];omega
 have hs:∀f,f∈a++b->f.Sm:=λf Z=>(D2.1 Z).elim (O f) (W f);generalize a2:a++b=l at*;refine cB func286 ?_;refine sR q2O ?_;refine sR q2O ?_;refine A0.pp 5 5 5 rfl<|kC M q2O λK1 J=>?_;refine A0.bb (A0.ii l (X:=Unit) (λj _=>[(5,.acc 5),(11,.d (.slice (Ar l))),(12,A8 l.length),(13,A8 j)]) (λj _=>[(5,.rows 5 (Ar (l.take j)))])
  (λj _=>True) () trivial sS (by simp[ble,A7,Ar]) ?_ ?_)
 .intro _ _;rw[Dm];refine Aq B3 q2O ?_;refine A0.stop rfl ?_;simp only[A4,Ab,Ae];refine J _ _<|sR q2O ?_;exact aR
 .intro j _ d V E dp tk L _;rw[tk,F3a];refine Aq L q2O ?_;refine A0.Fk rfl<|sK λU I=>A0.bb ?_
  (refine sV q2O λK z=>?_;refine ci (F5 V) ?_;apply z;clear z K)
  (refine lG q2O [] 10 [] λK z=>?_;refine ev ?_;refine cc (We d.bound (hs d E).bound) ?_;refine⟨by simp,by simp only[Dx];unfold lim sm at*;omega,?_⟩;(try refine ev ?_);apply z;clear z K;try simp only[A4,Ab])
  refine I _ _ ?_;clear I U;refine lT q2O ?_;exact⟨(),trivial,sS,by simp[ble,A7,Jy]⟩
def Qc{p:Prog}{E:A3}{d:Decl}(h:G2 p E=some d):d∈p.decls:=Am6 h
def D4i(p:Prog)(h:p.Sm)(E:A3):Ac prog 283 [.Ah (Ep p) 0,D9 E] (.d (.slice (Ar (Ey p E)))):=by
 have I:=B7d p h E [];rw[C7i]at I;rw[show(p.decls.find? λd=>d.Jx E)=G2 p E from rfl]at I;have M:Ac prog 286 [.d (.slice (Ar ((G2 p E).getD default).A1)),.d (.slice [])] (.d (.slice (Ar (Ey p E)))):=by
  cases J:G2 p E with
  |none=>rw[(C8o J).2];exact C8j [] [] (by decide) (by decide) (by simp) (by simp)
  |some d =>rw[(C6r J).2];have L:=(h.decls.2 d (Qc J)).A1;have:=C8j d.A1 [] L.1 (by decide) L.2 (by simp);rw[I8]at this;exact this
 generalize G2 p E=o at*;refine cB func283 ?_;refine sR [0,1,4,5] ?_;refine sC I [0,1,4,5] ?_;refine sC M [0,1,4,5] ?_;exact aR
def Fu{α:Type}(p:α->α->Bool):List α->List α->Bool
 |[],[]=>true
 |x::xs,y::ys=>p x y && Fu p xs ys
 |_,_=>false
def B4v{α:Type}{p:α->α->Bool}:∀{l m:List α},Fu p l m=true->l.length=m.length
 |[],[],_=>rfl
 |x::xs,y::ys,h=>by rw[Fu,Bc]at h;simp[B4v h.2]
 |[],_::_,h=>by simp[Fu]at h
 |_::_,[],h=>by simp[Fu]at h
def Sd(a b:Am):Bool:=decide (a.name=b.name) && Jr a.bound b.bound
def Sw(a b:Param):Bool:=decide (a.name=b.name) && Jr a.type b.type
def Qo(a b:A5):Bool:=decide (a.name=b.name) && Fu Sd a.A1 b.A1 && Fu Sw a.params b.params && Jr a.result b.result
def Ty.Sm.subst{vars:List A3}{args:List Ty}(J:∀u,u∈args->u.Sm):∀t:Ty,t.Sm->(t.subst vars args).Sm:=by
 intro t
 induction t using Ty.induct with
 |h t L =>
 intro h;rw[Xj];split
 .rename_i O;have E:(Dc t.name vars 0).toNat<args.length:=by omega
  rw[B8 E,E1];have:=J _ (Fa E);exact .mk _ _ _ this.name this.len this.arg
 .refine .mk _ _ _ h.name (by rw[Bn];exact h.len) λu M=>?_;obtain⟨x,I,rfl⟩:=B1.1 M;exact L x I (h.arg x I)
def mem_mapIdx{α β:Type}{f:Nat->α->β}{l:List α}{y:β}(h:y∈l.mapIdx f):∃i x,l[i]?=some x/\i<l.length/\y=f i x:=by obtain⟨i,E⟩:=Hz h;rw[Wu,N9]at E;obtain⟨x,I,rfl⟩:=E;exact⟨i,x,I,(B5.1 I).1,rfl⟩
def A5.Sm.canon{s:A5}(h:s.Sm):s.canon.Sm:=by
 have hs:=C4c _ h.A1.1;refine⟨h.name,⟨by simp only[A5.canon,A1t];exact h.A1.1,λf E=>?_⟩,⟨by simp only[A5.canon,A4y];exact h.params.1,λf E=>?_⟩,Ty.Sm.subst hs _ h.result⟩
 .obtain⟨i,x,L,I,rfl⟩:=mem_mapIdx E;have J:=h.A1.2 x (Br L);refine⟨?_,Ty.Sm.subst hs _ J.bound⟩;simp only[I,Ae];exact D3 (E6h i (by have:=h.A1.1;omega)) (by decide)
 .obtain⟨i,x,L,I,rfl⟩:=mem_mapIdx E;have J:=h.params.2 x (Br L);refine⟨?_,Ty.Sm.subst hs _ J.type⟩;simp only[I,Ae];decide
def A5.Sm.subst{vars:List A3}{args:List Ty}(J:∀u,u∈args->u.Sm){s:A5}(h:s.Sm):(s.subst vars args).Sm:=by
 refine⟨h.name,⟨by simp only[A5.subst,Bn];exact h.A1.1,λf I=>?_⟩,⟨by simp only[A5.subst,Bn];exact h.params.1,λf I=>?_⟩,Ty.Sm.subst J _ h.result⟩
 .obtain⟨x,E,rfl⟩:=B1.1 I;exact⟨(h.A1.2 x E).name,Ty.Sm.subst J _ (h.A1.2 x E).bound⟩
 .obtain⟨x,E,rfl⟩:=B1.1 I;exact⟨(h.params.2 x E).name,Ty.Sm.subst J _ (h.params.2 x E).type⟩
def E8s(a b:Am)(h:a.Sm):Ac prog 291 [Se a,Se b] (Ay (Sd a b)):=by
 have hs:=B3r a.bound b.bound h.bound;unfold Sd;refine cB func291 ?_;refine sR [0,1,2,3,4] ?_;by_cases E:a.name=b.name
 ·(refine sQ [0,1,2,3,4] λK z=>?_;refine As E ?_;refine cc hs ?_;apply z;clear z K)
  rw[Bo E,Cr];exact aR
 .refine Aq E [0,1,2,3,4] ?_;rw[Ce E,C9];exact aR
def G9w(a b:Param)(h:a.Sm):Ac prog 293 [Rk a,Rk b] (Ay (Sw a b)):=by
 have hs:=B3r a.type b.type h.type;unfold Sw;refine cB func293 ?_;refine sR [0,1,2,3,4] ?_;by_cases E:a.name=b.name
 ·(refine sQ [0,1,2,3,4] λK z=>?_;refine As E ?_;refine cc hs ?_;apply z;clear z K)
  rw[Bo E,Cr];exact aR
 .refine Aq E [0,1,2,3,4] ?_;rw[Ce E,C9];exact aR
abbrev Vn:List Nat:=[0,1,2,6,7,8,9,14,15,16,17,18,30]
def F1d(f:FuncId)(p:Am->Am->Bool)(l m:List Am)(hl:l.length<=sm)(hf:∀x,x∈l->∀y,Ac prog f [Se x,Se y] (Ay (p x y))) :
  Ac prog 290 [.d (.slice (Ar l)),.d (.slice (Ar m)),.B0 f []] (Ay (Fu p l m)):=by
 refine cB func290 ?_;refine sR Vn ?_;refine kR Vn λW E=>?_;refine A0.Pk rfl E (λI=>?_) (λI=>?_)
 .refine sR Vn ?_;have:Fu p l m=false:=by
   cases h:Fu p l m with
   |false=>rfl
   |true=>have:=B4v h;simp[this]at I
  rw[this];exact aR
 clear E W;have O:l.length=m.length:=by
  have:(l.length:Int)=m.length:=by simpa using I
  omega
 refine kR Vn λW E=>?_;refine A0.bb (A0.ii l (X:=Unit) (λj _=>[(1,.d (.slice (Ar m))),(2,.B0 f []),(15,.d (.slice (Ar l))),(16,A8 l.length),(17,A8 j)]) (λ_ _=>[])
  (λj _=>Fu p (l.drop j) (m.drop j)=Fu p l m) () (by simp) sS sB ?_ ?_)
 .intro _ J;refine Aq B3 Vn ?_;refine A0.stop rfl ?_;simp only[A4,Ab,Ae];refine E _ _<|sR Vn ?_;rw[De,O,De]at J;rw[<-J];exact aR
 .intro j _ d hd L dp tk U J;obtain⟨e,he,V⟩:=A3r (l:=m) (j:=j) (by omega);rw[dp,V,Fu]at J;refine Aq U Vn ?_;refine A0.Fk rfl<|sK λZ M=>A0.bb ?_
  (refine sV Vn λK z=>?_;refine ci (F5 hd) ?_;apply z;clear z K)
  (refine sV Vn λK z=>?_;refine ci (F5 he) ?_;apply z;clear z K)
  refine sC (hf d L e) Vn ?_;refine A0.cond rfl (λI=>?_) (λI=>?_)
  .refine sR Vn ?_;simp only[M1]at I;rw[I,C9]at J;rw[<-J];exact aR
  simp only[S5]at I;rw[I,Cr]at J;refine A0.kk (M _ _ ?_);clear M Z;refine lT Vn ?_;exact⟨(),J,sS,sB⟩
abbrev Uy:List Nat:=[0,1,2,6,7,8,9,14,15,16,17,18,30]
def G9i(f:FuncId)(p:Param->Param->Bool)(l m:List Param)(hl:l.length<=sm)(hf:∀x,x∈l->∀y,Ac prog f [Rk x,Rk y] (Ay (p x y))) :
  Ac prog 292 [.d (.slice (B9 l)),.d (.slice (B9 m)),.B0 f []] (Ay (Fu p l m)):=by
 refine cB func292 ?_;refine sR Uy ?_;refine kR Uy λW E=>?_;refine A0.Pk rfl E (λI=>?_) (λI=>?_)
 .refine sR Uy ?_;have:Fu p l m=false:=by
   cases h:Fu p l m with
   |false=>rfl
   |true=>have:=B4v h;simp[this]at I
  rw[this];exact aR
 clear E W;have O:l.length=m.length:=by
  have:(l.length:Int)=m.length:=by simpa using I
  omega
 refine kR Uy λW E=>?_;refine A0.bb (A0.ii l (X:=Unit) (λj _=>[(1,.d (.slice (B9 m))),(2,.B0 f []),(15,.d (.slice (B9 l))),(16,A8 l.length),(17,A8 j)]) (λ_ _=>[])
  (λj _=>Fu p (l.drop j) (m.drop j)=Fu p l m) () (by simp) sS sB ?_ ?_)
 .intro _ J;refine Aq B3 Uy ?_;refine A0.stop rfl ?_;simp only[A4,Ab,Ae];refine E _ _<|sR Uy ?_;rw[De,O,De]at J;rw[<-J];exact aR
 .intro j _ d hd L dp tk U J;obtain⟨e,he,V⟩:=A3r (l:=m) (j:=j) (by omega);rw[dp,V,Fu]at J;refine Aq U Uy ?_;refine A0.Fk rfl<|sK λZ M=>A0.bb ?_
  (refine sV Uy λK z=>?_;refine ci (E9 hd) ?_;apply z;clear z K)
  (refine sV Uy λK z=>?_;refine ci (E9 he) ?_;apply z;clear z K)
  refine sC (hf d L e) Uy ?_;refine A0.cond rfl (λI=>?_) (λI=>?_)
  .refine sR Uy ?_;simp only[M1]at I;rw[I,C9]at J;rw[<-J];exact aR
  simp only[S5]at I;rw[I,Cr]at J;refine A0.kk (M _ _ ?_);clear M Z;refine lT Uy ?_;exact⟨(),J,sS,sB⟩
def F8d(a b:A5)(h:a.Sm):Ac prog 266 [Ea a,Ea b] (Ay (Qo a b)):=by
 have I:=F1d 291 Sd a.A1 b.A1 h.A1.1 (λx J y=>E8s x y (h.A1.2 x J));have hp:=G9i 293 Sw a.params b.params h.params.1 (λx J y=>G9w x y (h.params.2 x J));have hr:=B3r a.result b.result h.result;unfold Qo;refine cB func266 ?_;refine sR [0,1,2,3,4] ?_;by_cases E:a.name=b.name
 .rcases Fb (Fu Sd a.A1 b.A1)with h3|h3
  .rw[h3]at I;rcases Fb (Fu Sw a.params b.params)with h4|h4
   .rw[h4]at hp
    (refine sQ [0,1,2,3,4] λK z=>?_;refine As E ?_;refine cc I ?_;refine cc hp ?_;refine cc hr ?_;apply z;clear z K)
    rw[Bo E,h3,h4,Cr,Cr,Cr];exact aR
   .rw[h4]at hp
    (refine sQ [0,1,2,3,4] λK z=>?_;refine As E ?_;refine cc I ?_;refine cc hp ?_;apply z;clear z K)
    rw[h4,Wx,C9];exact aR
  .rw[h3]at I
   (refine sQ [0,1,2,3,4] λK z=>?_;refine As E ?_;refine cc I ?_;apply z;clear z K)
   rw[h3,Wx,C9,C9];exact aR
 .refine Aq E [0,1,2,3,4] ?_;rw[Ce E,C9,C9,C9];exact aR
def F1g(a b:A5)(h:a.Sm)(E:b.Sm):Ac prog 228 [Ea a,Ea b] (Ay (Qo a.canon b.canon)):=by
 have hs:=F8d a.canon b.canon h.canon;refine cB func228 ?_;refine sR [0,1,2,3,4] ?_
 (refine sG [0,1,2,3,4] [] 3 [] λK z=>?_;refine ev ?_;refine cc (C1m a h) ?_;refine cc (C1m b E) ?_;refine cc hs ?_;apply z;clear z K)
 exact aR
abbrev Tc:List Nat:=[0,1,2,6,7,12,16,43,71]
def E8g(l m:List Am)(hl:l.length<=sm)(hs:∀x,x∈l->x.bound.Lm) :
  Ac prog 173 [.d (.slice (Ar l)),.d (.slice (Ar m)),Ay false] (Ay (Fu Sd l m)):=by
 refine cB func173 ?_;refine sR Tc ?_;refine kR Tc λK1 J=>?_;refine A0.Pk rfl J (λL=>?_) (λL=>?_)
 .refine sR Tc ?_;have:Fu Sd l m=false:=by
   cases h:Fu Sd l m with
   |false=>rfl
   |true=>have:=B4v h;simp[this]at L
  rw[this];exact aR
 clear J K1;have a0:l.length=m.length:=by
  have:(l.length:Int)=m.length:=by simpa using L
  omega
 refine kR Tc λK1 J=>?_;refine A0.bb (A0.ii l (X:=Unit) (λj _=>[(0,.d (.slice (Ar l))),(1,.d (.slice (Ar m))),(2,Ay false),(7,A8 j)]) (λ_ _=>[])
  (λj _=>Fu Sd (l.drop j) (m.drop j)=Fu Sd l m) () (by simp) sS sB ?_ ?_)
 .intro _ I;refine Ai B3 Tc λV E=>?_;refine A0.ss rfl ?_;simp only[A4,Ab,Ae];refine J _ _<|sR Tc ?_;rw[De,a0,De]at I;rw[<-I];exact aR
 .intro j _ d W O dp tk a1 I;obtain⟨e,he,a2⟩:=A3r (l:=m) (j:=j) (by omega);rw[dp,a2,Fu,Sd]at I;refine Ai a1 Tc λV E=>?_;refine gI E ?_;clear E V;refine sK λV E=>A0.bb<|sK λK3 M=>?_;by_cases U:d.name=e.name
  .have Z:=A9b d.bound e.bound (hs d O)
   (refine sG Tc [] 22 [] λK z=>?_;refine ev ?_;refine⟨by omega,_,F5 W,rfl,?_⟩;(try refine As U ?_);refine ci (F5 he) ?_;refine⟨by omega,_,F5 W,rfl,?_⟩;(try refine As U ?_);refine ci (F5 he) ?_;refine cc Z ?_;apply z;clear z K)
   rw[Bo U,Cr]at I;refine A0.Pk rfl M (λL=>?_) (λL=>?_)
   .refine sR Tc ?_;simp only[M1]at L;rw[L,C9]at I;rw[<-I];exact aR
   clear M K3;simp only[S5]at L;rw[L,Cr]at I;refine dR Tc 24 ?_;refine A0.ff rfl (A0.kk (E _ _ ?_));clear E V;refine lT Tc ?_;exact⟨(),I,sS,sB⟩
  ·(refine sG Tc [] 22 [] λK z=>?_;refine ev ?_;refine ci (F5 W) ?_;refine⟨by omega,_,F5 he,rfl,?_⟩;(try refine As U ?_);apply z;clear z K)
   refine tI ?_;refine sR Tc ?_;rw[Ce U,C9,C9]at I;rw[<-I];exact aR
abbrev U0:List Nat:=[0,1,2,6,7,12,16,43,71]
def G8z(l m:List Param)(hl:l.length<=sm)(hs:∀x,x∈l->x.type.Lm) :
  Ac prog 174 [.d (.slice (B9 l)),.d (.slice (B9 m)),Ay false] (Ay (Fu Sw l m)):=by
 refine cB func174 ?_;refine sR U0 ?_;refine kR U0 λK1 J=>?_;refine A0.Pk rfl J (λL=>?_) (λL=>?_)
 .refine sR U0 ?_;have:Fu Sw l m=false:=by
   cases h:Fu Sw l m with
   |false=>rfl
   |true=>have:=B4v h;simp[this]at L
  rw[this];exact aR
 clear J K1;have a0:l.length=m.length:=by
  have:(l.length:Int)=m.length:=by simpa using L
  omega
 refine kR U0 λK1 J=>?_;refine A0.bb (A0.ii l (X:=Unit) (λj _=>[(0,.d (.slice (B9 l))),(1,.d (.slice (B9 m))),(2,Ay false),(7,A8 j)]) (λ_ _=>[])
  (λj _=>Fu Sw (l.drop j) (m.drop j)=Fu Sw l m) () (by simp) sS sB ?_ ?_)
 .intro _ I;refine Ai B3 U0 λV E=>?_;refine A0.ss rfl ?_;simp only[A4,Ab,Ae];refine J _ _<|sR U0 ?_;rw[De,a0,De]at I;rw[<-I];exact aR
 .intro j _ d W O dp tk a1 I;obtain⟨e,he,a2⟩:=A3r (l:=m) (j:=j) (by omega);rw[dp,a2,Fu,Sw]at I;refine Ai a1 U0 λV E=>?_;refine gI E ?_;clear E V;refine sK λV E=>A0.bb<|sK λK3 M=>?_;by_cases U:d.name=e.name
  .have Z:=A9b d.type e.type (hs d O)
   (refine sG U0 [] 22 [] λK z=>?_;refine ev ?_;refine⟨by omega,_,E9 W,rfl,?_⟩;(try refine As U ?_);refine ci (E9 he) ?_;refine⟨by omega,_,E9 W,rfl,?_⟩;(try refine As U ?_);refine ci (E9 he) ?_;refine cc Z ?_;apply z;clear z K)
   rw[Bo U,Cr]at I;refine A0.Pk rfl M (λL=>?_) (λL=>?_)
   .refine sR U0 ?_;simp only[M1]at L;rw[L,C9]at I;rw[<-I];exact aR
   clear M K3;simp only[S5]at L;rw[L,Cr]at I;refine dR U0 24 ?_;refine A0.ff rfl (A0.kk (E _ _ ?_));clear E V;refine lT U0 ?_;exact⟨(),I,sS,sB⟩
  ·(refine sG U0 [] 22 [] λK z=>?_;refine ev ?_;refine ci (E9 W) ?_;refine⟨by omega,_,E9 he,rfl,?_⟩;(try refine As U ?_);apply z;clear z K)
   refine tI ?_;refine sR U0 ?_;rw[Ce U,C9,C9]at I;rw[<-I];exact aR
structure A5.Lm(s:A5):Prop where
 A1:s.A1.length<=sm/\∀f,f∈s.A1->f.bound.Lm
 params:s.params.length<=sm/\∀f,f∈s.params->f.type.Lm
 result:s.result.Lm
def A5.Sm.lm{s:A5}(h:s.Sm):s.Lm:=⟨⟨h.A1.1,λf E=>(h.A1.2 f E).bound.lm⟩,⟨h.params.1,λf E=>(h.params.2 f E).type.lm⟩,h.result.lm⟩
abbrev Xn:List Nat:=[0,1,2,3,4,6,37]
def D7w(a b:A5)(h:a.Lm):Ac prog 115 [Ea a,Ea b,Ay false] (Ay (Qo a b)):=by
 have I:=E8g a.A1 b.A1 h.A1.1 h.A1.2;have hp:=G8z a.params b.params h.params.1 h.params.2;have hr:=A9b a.result b.result h.result;unfold Qo;refine cB func115 ?_;refine sR Xn<|sK λL J=>?_;by_cases E:a.name=b.name
 .rcases Fb (Fu Sd a.A1 b.A1)with h3|h3
  .rw[h3]at I;rcases Fb (Fu Sw a.params b.params)with h4|h4
   .rw[h4]at hp;rcases Fb (Jr a.result b.result)with h5|h5
    .rw[h5]at hr
     (refine sQ Xn λK z=>?_;refine As E ?_;refine cc I ?_;refine cc hp ?_;refine cc hr ?_;apply z;clear z K)
     refine kI J ?_;refine sR Xn ?_;rw[Bo E,h3,h4,h5];exact aR
    .rw[h5]at hr
     (refine sQ Xn λK z=>?_;refine As E ?_;refine cc I ?_;refine cc hp ?_;refine cc hr ?_;apply z;clear z K)
     refine tI ?_;refine sR Xn ?_;rw[h5,Wx];exact aR
   .rw[h4]at hp
    (refine sQ Xn λK z=>?_;refine As E ?_;refine cc I ?_;refine cc hp ?_;apply z;clear z K)
    refine tI ?_;refine sR Xn ?_;rw[h4,Wx,C9];exact aR
  .rw[h3]at I
   (refine sQ Xn λK z=>?_;refine As E ?_;refine cc I ?_;apply z;clear z K)
   refine tI ?_;refine sR Xn ?_;rw[h3,Wx,C9,C9];exact aR
 .refine Aq E Xn ?_;refine tI ?_;refine sR Xn ?_;rw[Ce E,C9,C9,C9];exact aR
def H0p(a b:A5)(h:a.Sm):Ac prog 115 [Ea a,Ea b,Ay false] (Ay (Qo a b)):=D7w a b h.lm
def F5e(a b:A5)(h:a.Sm)(E:b.Sm):Ac prog 169 [Ea a,Ea b] (Ay (Qo a.canon b.canon)):=by
 have hs:=H0p a.canon b.canon h.canon;refine cB func169 ?_;refine sR [0,1,2,3,4] ?_
 (refine sG [0,1,2,3,4] [] 3 [] λK z=>?_;refine ev ?_;refine cc (B8g a h) ?_;refine cc (B8g b E) ?_;refine cc hs ?_;apply z;clear z K)
 exact aR
def Ka(E m:A3)(d:Decl):Bool:=decide (d.kind=3) && decide (d.name=E) && decide (d.sig.name=m)
def P3(p:Prog)(E m:A3):Int:=Dq (Ka E m) p.decls
def M9{α:Type}(q:α->Bool)(l:List α):(Dq q l = -1/\∀x,x∈l->q x=false)\/∃(j:Nat)(x:α),Dq q l=j/\l[j]?=some x/\q x=true:=by
 unfold Dq;cases h:l.findIdx? q with
 |none=>exact .inl ⟨rfl,by simpa [Ao2]using h⟩
 |some j =>obtain⟨I,E,_⟩:=Ai3.1 h;exact .inr ⟨j,l[j],rfl,B8 I,E⟩
abbrev Xd:List Nat:=[0,1,2,3,6,7,12,42]
def E5z(p:Prog)(hl:p.decls.length<=sm)(M m:A3):Ac prog 183 [D7 p,D9 M,D9 m] (A8 (P3 p M m)):=by
 unfold P3;refine cB func183 ?_;refine sR Xd ?_;refine kR Xd λK1 Z=>?_;refine A0.bb (A0.ii p.decls (X:=Unit) (λj _=>[(1,D9 M),(2,D9 m),(3,.box 3 0),(7,A8 j)]) (λ_ _=>[(3,.cells ((An p).map .d))])
  (λj _=>∀y,y∈p.decls.take j->Ka M m y=false) () (by simp) sS (by simp[ble,A7,An]) ?_ ?_)
 .intro _ V;rw[Dm]at V;refine Ai B3 Xd λW I=>?_;refine A0.ss rfl ?_;simp only[A4,Ab,Ae];refine Z _ _<|sR Xd ?_;rw[Tn V];exact aR
 .intro j _ d J a1 dp tk a0 V;refine Ai a0 Xd λW I=>?_;refine gI I ?_;clear I W;refine sK λW I=>A0.bb ?_;have O:∀sl bx,Ka M m d=false->Ag sl 1=D9 M->Ag sl 2=D9 m->Ag sl 3=.box 3 0->Ag sl 7=A8 j->A7 bx 3=some (.cells ((An p).map .d))->W sl bx:=λsl bx hk g1 g2 g3 g4 g5=>by
   refine I _ _<|A0.ww (sl':=[(1,D9 M),(2,D9 m),(3,.box 3 0),(7,A8 j)]) (bx':=[(3,.cells ((An p).map .d))]) (by simp[sle,Ax,g1,g2,g3,g4]) (by simp[ble,g5]) ?_;refine lT Xd ?_;refine⟨(),?_,sS,(by simp[ble,A7,An])⟩;rw[tk];intro y hy;rcases D2.1 hy with hy|hy
   .exact V y hy
   .simp only[Aw,Ej,Eh]at hy;rw[hy];exact hk
  by_cases E:d.kind=3
  .by_cases L:d.name=M
   .by_cases U:d.sig.name=m
    ·(refine sV Xd λK z=>?_;refine⟨by omega,_,Ev J,rfl,?_⟩;(try refine ev3 E L U ?_);refine⟨by omega,_,Ev J,rfl,?_⟩;(try refine ev3 E L U ?_);refine⟨by omega,_,Ev J,rfl,?_⟩;(try refine ev3 E L U ?_);apply z;clear z K)
     refine A0.tt rfl<|sR Xd ?_;rw[Tt J (by simp[Ka,E,L,U]) V];exact aR
    ·(refine sV Xd λK z=>?_;refine⟨by omega,_,Ev J,rfl,?_⟩;(try refine Gv E L ?_);refine⟨by omega,_,Ev J,rfl,?_⟩;(try refine Gv E L ?_);refine⟨by omega,_,Ev J,rfl,?_⟩;(try refine ev3 E L U ?_);apply z;clear z K)
     refine A0.ff rfl (A0.kk (O _ _ (by simp[Ka,U]) rfl rfl rfl rfl rfl))
   ·(refine sV Xd λK z=>?_;refine⟨by omega,_,Ev J,rfl,?_⟩;(try refine As E ?_);refine⟨by omega,_,Ev J,rfl,?_⟩;(try refine Gv E L ?_);apply z;clear z K)
    refine A0.ff rfl (A0.kk (O _ _ (by simp[Ka,L]) rfl rfl rfl rfl rfl))
  ·(refine sV Xd λK z=>?_;refine⟨by omega,_,Ev J,rfl,?_⟩;(try refine As E ?_);apply z;clear z K)
   refine A0.ff rfl (A0.kk (O _ _ (by simp[Ka,E]) rfl rfl rfl rfl rfl))
def Lw(p:Prog)(x:Ty)(m:A3):Int:=if Ch p x 1=true then(match p.decls[(P3 p x.name m).toNat]? with
 |some d=>if 0<=P3 p x.name m/\d.vars.length=x.args.length then P3 p x.name m else -1
 |none=>-1)else -1
abbrev Yd:List Nat:=[0,1,2,3,4,6,7,33]
def D3q(p:Prog)(W:p.decls.length<=sm)(x:Ty)(m:A3):Ac prog 134 [D7 p,B6 x,D9 m] (A8 (Lw p x m)):=by
 have V:=E5z p W x.name m;have J:=A5q p x 1;unfold Lw;have Z:=M9 (Ka x.name m) p.decls;unfold P3 at*;generalize Dq (Ka x.name m) p.decls=k at*;refine cB func134 ?_;refine sR Yd ?_;refine sC V Yd ?_;rcases Fb (Ch p x 1)with h1|h1
 .rw[h1]at J;rw[A9 h1];rcases Z with⟨rfl,_⟩|⟨j,d,rfl,M,_⟩
  .refine sK λO E=>?_
   (refine sG Yd [] 19 [] λK z=>?_;refine ev ?_;refine cc J ?_;apply z;clear z K)
   refine tI ?_;refine sR Yd ?_;have:(match p.decls[(-1:Int).toNat]? with
    |some d=>if 0<=(-1:Int)/\d.vars.length=x.args.length then(-1:Int)else -1
    |none=>-1) = -1:=by
    cases p.decls[(-1:Int).toNat]? with
    |none=>rfl
    |some d=>simp
   rw[this];exact aR
  .have L:¬(j:Int)<0:=by omega
   simp only[Hs,M];by_cases U:d.vars.length=x.args.length
   .have I:(d.vars.length:Int)=x.args.length:=by omega
    rw[A9 ⟨by omega,U⟩];refine sK λO E=>?_
    (refine sG Yd [] 19 [] λK z=>?_;refine ev ?_;refine⟨_,.inl ⟨_,rfl,J,rfl⟩,?_⟩;(try refine As L ?_);refine⟨by omega,_,Ev M,rfl,?_⟩;(try refine As I ?_);apply z;clear z K)
    refine kI E ?_;refine sR Yd ?_;exact aR
   .have I:¬(d.vars.length:Int)=x.args.length:=by omega
    rw[A6 (λh=>U h.2)];refine sK λO E=>?_
    (refine sG Yd [] 19 [] λK z=>?_;refine ev ?_;refine⟨_,.inl ⟨_,rfl,J,rfl⟩,?_⟩;(try refine As L ?_);refine⟨by omega,_,Ev M,rfl,?_⟩;(try refine As I ?_);apply z;clear z K)
    refine tI ?_;refine sR Yd ?_;exact aR
 .rw[h1]at J;rw[A6 (by rw[h1];decide)];refine sK λO E=>?_
  (refine sG Yd [] 19 [] λK z=>?_;refine ev ?_;refine cc J ?_;apply z;clear z K)
  refine tI ?_;refine sR Yd ?_;exact aR
def Ke(p:Prog)(x:Ty)(d:Decl)(i:Nat):Bool:=decide (d.kind=3) && decide (d.name=x.name) && decide (Lw p x d.sig.name=(i:Int))
def Gt(p:Prog)(x:Ty)(j:Nat):List A5:=((p.decls.take j).zipIdx.filter λE=>Ke p x E.1 E.2).map λE=>E.1.sig.canon.subst E.1.vars x.args
def C6o{p:Prog}{x:Ty}{j:Nat}{d:Decl}(I:j<p.decls.length)(ht:p.decls.take (j+1)=p.decls.take j++[d]):Gt p x (j+1)=Gt p x j++if Ke p x d j=true then[d.sig.canon.subst d.vars x.args]else[]:=by
 unfold Gt;have E:(p.decls.take j).length=j:=by rw[Dx];omega
 rw[ht,List.zipIdx_append,Ap5,Gg,E]
 congr 1
 simp only[Av0,List.zipIdx_nil,Nd,Aq8,As1];split <;> simp_all
def B5t(p:Prog)(x:Ty)(j:Nat):(Gt p x j).length<=j:=by unfold Gt;rw[Bn];refine D3 (Am3 ..) ?_;rw[List.length_zipIdx,Dx];omega
abbrev Tb:List Nat:=[0,1,2,3,4,5,6,7,12,39]
def G3b(p:Prog)(h:p.Sm)(x:Ty)(hx:x.Sm):Bj prog 133 [D7 p,B6 x] [] (.acc 5) [(5,.rows 7 (C1 (Gt p x p.decls.length)))]:=by
 have hl:=h.decls.1;refine bB func133 ?_;refine sR Tb ?_;refine sR Tb ?_;refine A0.pp 5 7 5 rfl<|kR Tb λK1 a0=>?_;refine A0.bb (A0.ii p.decls (X:=Unit) (λj _=>[(2,.box 2 0),(3,.box 3 0),(5,.acc 5),(6,A8 j)]) (λj _=>[(2,.cells ((An p).map .d)),(3,.cells ((Be x).map .d)),(5,.rows 7 (C1 (Gt p x j)))])
  (λj _=>True) () trivial sS (by simp[ble,A7,Gt,C1,An,Be]) ?_ ?_)
 .intro _ _;refine Ai B3 Tb λO I=>?_;refine A0.ss rfl ?_;simp only[A4,Ab,Ae];refine a0 _ _<|sR Tb ?_;exact A0.ret ⟨_,by rw[results133];rfl,.inl rfl,by simp[ble,A7]⟩
 .intro j _ d hd U dp tk a1 hI;have a2:=B5t p x j;have E:=C6o (x:=x) (by omega) tk;have W:=h.decls.2 d U;have M:=D3q p hl x d.sig.name;refine Ai a1 Tb λO I=>?_;refine gI I ?_;clear I O;refine sK λO I=>A0.bb ?_
  (refine sV Tb λK z=>?_;refine ci (Ev hd) ?_;apply z;clear z K)
  have J:∀sl bx,Ke p x d j=false->Ag sl 2=.box 2 0->Ag sl 3=.box 3 0->Ag sl 5=.acc 5->Ag sl 6=A8 j->A7 bx 2=some (.cells ((An p).map .d))->A7 bx 3=some (.cells ((Be x).map .d))->A7 bx 5=some (.rows 7 (C1 (Gt p x j)))->O sl bx:=λsl bx hk g1 g2 g3 g4 g5 g6 g7=>by refine I _ _ ?_;refine A0.ww (sl':=[(2,.box 2 0),(3,.box 3 0),(5,.acc 5),(6,A8 j)]) (bx':=[(2,.cells ((An p).map .d)),(3,.cells ((Be x).map .d)),(5,.rows 7 (C1 (Gt p x j)))]) (by simp[sle,Ax,g1,g2,g3,g4]) (by simp[ble,g5,g6,g7]) ?_;refine lT Tb ?_;rw[hk,A6 (by decide),I8]at E;exact⟨(),trivial,sS,by simp[ble,A7,E,An,Be]⟩
  by_cases L:d.kind=3
  .by_cases V:d.name=x.name
   .by_cases Z:Lw p x d.sig.name=(j:Int)
    ·(refine sQ Tb λK z=>?_;refine Gv L V ?_;refine⟨_,.inl ⟨_,rfl,M,rfl⟩,?_⟩;(try refine As Z ?_);apply z;clear z K)
     refine A0.tt rfl ?_;have hk:Ke p x d j=true:=by simp[Ke,L,V,Z]
     rw[hk,A9 rfl]at E
     (refine lG Tb [] 10 [] λK z=>?_;refine ev ?_;refine cc (B8g d.sig W.sig) ?_;refine cc (D4n d.vars x.args hx.arg _ W.sig.canon) ?_;refine⟨by simp,by unfold lim sm at*;omega,?_⟩;(try refine ev ?_);apply z;clear z K;try simp only[A4,Ab])
     refine I _ _ ?_;clear I O J;refine lT Tb ?_;exact⟨(),trivial,sS,by simp[ble,A7,E,C1,Fw,An,Be]⟩
    ·(refine sQ Tb λK z=>?_;refine Gv L V ?_;refine⟨_,.inl ⟨_,rfl,M,rfl⟩,?_⟩;(try refine As Z ?_);apply z;clear z K)
     refine A0.ff rfl (A0.kk (J _ _ (by simp[Ke,Z]) rfl rfl rfl rfl rfl rfl rfl))
   .refine Fi L V Tb ?_;refine A0.ff rfl (A0.kk (J _ _ (by simp[Ke,V]) rfl rfl rfl rfl rfl rfl rfl))
  .refine Aq L Tb ?_;refine A0.ff rfl (A0.kk (J _ _ (by simp[Ke,L]) rfl rfl rfl rfl rfl rfl rfl))
def E7r(l:List Lit):∀(ds:List Decl)(i:Nat),V5 l ds i=(ds.findIdx? λd=>match N1 d with|some I=>decide (l=I.lits)|none=>false).map λj=>D.int .i64 ((i+j:Nat):Int)
 |[],i=>rfl
 |d::ds,i=>by
  rw[V5,List.findIdx?_cons,E7r l ds (i+1)];have E:∀o:Option Nat,(o.map λj=>D.int .i64 ((i+1+j:Nat):Int))=(o.map (·+1)).map λj=>D.int .i64 ((i+j:Nat):Int):=λo=>by
   cases o with
   |none=>rfl
   |some j=>simp only[Eu,B4,D.int.injEq,Qi];congr 1;omega
  cases J:N1 d with
  |none=>simp only[A6 (show ¬(false=true) by decide)];exact E _
  |some k =>
   simp only;by_cases h:l=k.lits
   .simp[h]
   .simp only[h,Fy,Ar8];exact E _
def E3b(I m:A3):(λd:Decl=>match N1 d with|some M=>decide ((Hf I (46::m)).lits=M.lits)|none=>false)=Ka I m:=by
 funext d;unfold N1 Ka;by_cases J:d.kind=1\/d.kind=2
 .rw[A9 J];have L:¬d.kind=3:=by omega
  simp[L,Hf,D.lits,D.lit]
 .rw[A6 J];by_cases E:d.kind=3
  .rw[A9 E];have e:((Hf I (46::m)).lits=(Hf d.name (46::d.sig.name)).lits)↔(d.name=I/\d.sig.name=m):=by
    simp only[Hf,D.lits,D.lit,Ck,Hy,Sj,Lit.string.injEq,Sh,Qi];exact⟨λh=>⟨h.1.symm,h.2.symm⟩,λh=>⟨h.1.symm,h.2.symm⟩⟩
   simp only[E,X0,Cr,e,Bool.decide_and]
  .rw[A6 E];simp[E]
def G5s(p:Prog)(I m:A3):(P3 p I m = -1/\G1 (Hf I (46::m)).lits (R8 p) 0=none)\/∃(j q:Nat),P3 p I m=j/\G1 (Hf I (46::m)).lits (R8 p) 0=some (q,.int .i64 j):=by
 have E:Px (Hf I (46::m)).lits (R8 p)=V5 (Hf I (46::m)).lits p.decls 0:=by unfold R8;rw[D0o];rfl
 rw[E7r,E3b]at E;unfold Px at E;unfold P3 Dq;cases L:p.decls.findIdx? (Ka I m)with
 |none =>rw[L]at E;exact .inl ⟨rfl,by simpa using E⟩
 |some j =>
  rw[L]at E;refine .inr ⟨j,?_⟩;cases J:G1 (Hf I (46::m)).lits (R8 p) 0 with
  |none=>rw[J]at E;simp at E
  |some M =>obtain⟨q,d⟩:=M;rw[J]at E;simp only[Eu,B4,Nd]at E;exact⟨q,rfl,by rw[E]⟩
def F5d{p:Prog}{x:Ty}{d:Decl}{j:Nat}(V:Ch p x 1=true)(L:p.decls[j]?=some d):Ke p x d j=(decide (P3 p x.name d.sig.name=(j:Int)) && decide (d.vars.length=x.args.length)):=by
 unfold Ke Lw;rw[A9 V];unfold P3;rcases M9 (Ka x.name d.sig.name) p.decls with⟨I,_⟩|⟨k,e,I,O,M⟩
 .rw[I];have E:¬(-1:Int)=(j:Int):=by omega
  have:(match p.decls[(-1:Int).toNat]? with
    |some d=>if 0<=(-1:Int)/\d.vars.length=x.args.length then(-1:Int)else -1
    |none=>-1) = -1:=by
    cases p.decls[(-1:Int).toNat]? with
    |none=>rfl
    |some d=>simp
  rw[this];simp[E]
 .rw[I];simp only[Hs,O];by_cases U:k=j
  .subst U;rw[O]at L;simp only[B4]at L;subst L;simp only[Ka,Bc,Da]at M;by_cases J:e.vars.length=x.args.length
   .simp[M,J]
   .have E:¬(-1:Int)=(k:Int):=by omega
    simp[J,E]
  .have E:¬(k:Int)=(j:Int):=by omega
   by_cases J:e.vars.length=x.args.length
   .simp[J,E]
   .have I:¬(-1:Int)=(j:Int):=by omega
    simp[J,E,I]
theorem E4j{p:Prog}{x:Ty}(I:¬Ch p x 1=true)(j:Nat):Gt p x j=[]:=by
 unfold Gt;rw[Ar7,List.filter_eq_nil_iff];rintro⟨d,i⟩ _;simp only[Ke,Lw,A6 I];have E:¬(-1:Int)=(i:Int):=by omega
 simp[E]
abbrev Mh:List Nat:=[0,1,3,4,6,7,8,9,10,11,19,24,25,26,27,60]
def F3k(p:Prog)(h:p.Sm)(x:Ty)(hx:x.Sm):Bj prog 155 [.Ah (Ep p) 0,B6 x] [] (.acc 7) [(7,.rows 7 (C1 (Gt p x p.decls.length)))]:=by
 have hl:=h.decls.1;have L:=B8b p h x 1 (by decide);generalize(G2 p x.name).getD default=dd at*;refine bB func155 ?_;refine sR Mh ?_;rcases Fb (Ch p x 1)with hi|hi
 .rw[hi]at L;refine kC L Mh λK1 I=>?_;refine sR Mh ?_;refine kI I ?_;clear I K1;refine sR Mh ?_;refine A0.pp 7 7 7 rfl<|sK λK1 I=>?_
  (refine sQ Mh λK z=>?_;simp -implicitDefEqProofs only[EV,Nat.reduceEqDiff,Nat.reduceBEq,reduceCtorEq,A7b,A3i,C0i,Ep];apply z;clear z K)
  refine A0.bb (A0.ii p.decls (X:=Unit) (λj _=>[(0,.Ah (Ep p) 0),(3,.box 3 0),(7,.acc 7),(24,.d (.slice (Ix p.decls))),(25,A8 p.decls.length),(26,A8 j)]) (λj _=>[(3,.cells ((Be x).map .d)),(7,.rows 7 (C1 (Gt p x j)))])
   (λj _=>True) () trivial (by simp[sle,Ax,Ag,Ep,An]) (by simp[ble,A7,Gt,C1,Be]) ?_ ?_)
  .intro _ _;refine Aq B3 Mh ?_;refine A0.stop rfl ?_;simp only[A4,Ab,Ae];refine I _ _<|sR Mh ?_;exact A0.ret ⟨_,by rw[results155];rfl,.inl rfl,by simp[ble,A7]⟩
  .intro j _ d hd a0 dp tk a2 hI;have a3:=B5t p x j;have E:=C6o (x:=x) (by omega) tk;have V:=h.decls.2 d a0;have hb:=F5d hi hd;refine Aq a2 Mh ?_;refine A0.Fk rfl<|sK λK2 U=>A0.bb ?_
   (refine sV Mh λK z=>?_;refine ci (Ev hd) ?_;apply z;clear z K)
   have a4:=V.sig.name;have W:=B5s B4c x.name (46::d.sig.name) (D3 hx.name (by decide)) (by simp only[C6];unfold sm lim at*;omega);have a1:=G5s p x.name d.sig.name;unfold Hf at W a1
   (refine sG Mh [] 16 [] λK z=>?_;simp -implicitDefEqProofs only[EV,Nat.reduceAdd,Nat.reduceEqDiff,Nat.reduceLeDiff,reduceCtorEq,Mx,I3,Td,Y0,C7c,C0i,B8r,Ep];refine⟨by unfold sm lim at*;omega,D3w p h,W,?_⟩;apply z;clear z K)
   have M:∀sl bx,Ke p x d j=false->Ag sl 0=.Ah (Ep p) 0->Ag sl 3=.box 3 0->Ag sl 7=.acc 7->Ag sl 24=.d (.slice (Ix p.decls))->Ag sl 25=A8 p.decls.length->Ag sl 26=A8 j->A7 bx 3=some (.cells ((Be x).map .d))->A7 bx 7=some (.rows 7 (C1 (Gt p x j)))->K2 sl bx:=λsl bx W g1 g2 g3 g4 g5 g6 g7 g8=>by refine U _ _ ?_;refine A0.ww (sl':=[(0,.Ah (Ep p) 0),(3,.box 3 0),(7,.acc 7),(24,.d (.slice (Ix p.decls))),(25,A8 p.decls.length),(26,A8 j)]) (bx':=[(3,.cells ((Be x).map .d)),(7,.rows 7 (C1 (Gt p x j)))]) (by simp[sle,Ax,g1,g2,g3,g4,g5,g6]) (by simp[ble,g7,g8]) ?_;refine lT Mh ?_;rw[W,A6 (by decide),I8]at E;exact⟨(),trivial,(by simp[sle,Ax,Ag,Ep,An]),by simp[ble,A7,E,Be]⟩
   rcases a1 with⟨Z,m2⟩|⟨k,q,Z,m2⟩
   .have h0:¬(-1:Int)=(j:Int):=by omega
    simp only[Qg,m2,Ky];refine sR Mh ?_;refine A0.ff rfl (A0.kk (M _ _ (by rw[hb,Z];simp[h0]) rfl rfl rfl rfl rfl rfl rfl rfl))
   .simp only[Qg,m2,Iq,An2];by_cases J:(k:Int)=(j:Int)
    .by_cases hv:d.vars.length=x.args.length
     .have O:(d.vars.length:Int)=x.args.length:=by omega
      refine Fi J O Mh ?_;refine A0.tt rfl ?_;have W:Ke p x d j=true:=by rw[hb,Z];simp[J,hv]
      rw[W,A9 rfl]at E
      (refine lG Mh [] 10 [] λK z=>?_;refine ev ?_;refine cc (C1m d.sig V.sig) ?_;refine cc (B9m d.vars x.args hx.arg _ V.sig.canon) ?_;refine⟨by simp,by unfold lim sm at*;omega,?_⟩;(try refine ev ?_);apply z;clear z K;try simp only[A4,Ab])
      refine U _ _ ?_;clear U K2 M;refine lT Mh ?_;exact⟨(),trivial,(by simp[sle,Ax,Ag,Ep,An]),by simp[ble,A7,E,C1,Fw,Be]⟩
     .have O:¬(d.vars.length:Int)=x.args.length:=by omega
      refine Fi J O Mh ?_;refine A0.ff rfl (A0.kk (M _ _ (by rw[hb,Z];simp[hv]) rfl rfl rfl rfl rfl rfl rfl rfl))
    .refine Aq J Mh ?_;refine A0.ff rfl (A0.kk (M _ _ (by rw[hb,Z];simp[J]) rfl rfl rfl rfl rfl rfl rfl rfl))
 .rw[hi]at L;refine kC L Mh λK1 I=>?_;refine sR Mh ?_;refine tI ?_;refine sR Mh ?_;rw[E4j (by rw[hi];decide)];refine A0.pp 7 7 4 rfl<|A0.ret ⟨_,by rw[results155];rfl,.inl rfl,by simp[ble,A7,C1]⟩
def Pn(l:List A3):List (D × D):=l.map λs=>(.str s,.bool true)
def A3a(l:List A3)(s:A3):List A3:=if s∈l then l else l++[s]
def B4j(s:A3):∀(l:List A3)(i:Nat),(s∈l->∃j,l[j]?=some s/\G1 (D.str s).lits (Pn l) i=some (i+j,.bool true))/\(s∉l->G1 (D.str s).lits (Pn l) i=none)
 |[],i=>by simp[Pn,G1]
 |x::l,i=>by
  have J:=B4j s l (i+1);have U:Pn (x::l)=(.str x,.bool true)::Pn l:=rfl;rw[U];simp only[G1];by_cases I:s=x
  .subst I;refine⟨λ_=>⟨0,rfl,by simp⟩,λh=>absurd (As2 ..) h⟩
  .have E:¬(D.str s).lits=(D.str x).lits:=by simp[D.lits,D.lit,I]
   rw[A6 E];refine⟨λh=>?_,λh=>J.2 λM=>h (by simp[M])⟩;obtain⟨j,L,O⟩:=J.1 ((Aw.1 h).resolve_left I);exact⟨j+1,by simpa using L,by rw[O];congr 2;omega⟩
def F3i(s:A3)(l:List A3):Rj (.str s) (.bool true) (Pn l)=Pn (A3a l s):=by
 unfold Rj A3a;by_cases h:s∈l
 .obtain⟨j,E,L⟩:=(B4j s l 0).1 h;rw[L,A9 h];have I:=(B5.1 E).1;have M:l[j]=s:=(B5.1 E).2;simp only[Nd];apply M3;intro k;by_cases J:k=j
  .subst J;rw[List.getElem?_set_self (by simpa [Pn]using I)];simp[Pn,E]
  .rw[At4 (by omega)]
 .rw[(B4j s l 0).2 h,A6 h];simp[Pn]
def G5x(s:A3)(l:List A3):Qg (.str s) (Pn l) (.d (.bool false))=Ay (decide (s∈l)):=by
 unfold Qg;by_cases h:s∈l
 .obtain⟨j,I,E⟩:=(B4j s l 0).1 h;rw[E];simp[Iq,h]
 .rw[(B4j s l 0).2 h];simp[h]
def F5p{l:List A3}{s x:A3}:x∈A3a l s↔x=s\/x∈l:=by
 unfold A3a;split
 .constructor
  .exact .inr
  .rintro(rfl|h)
   .assumption
   .exact h
 .simp[or_comm]
def D5w(s:A3)(h:s.length<=lim):Et prog 9 (.str s):=by have E:prog.underlying 9=some .string:=Mx.2.2.2.2.1;refine⟨rfl,by simp[D.kv,D.lit,Lit.value,Value.formed,E],?_⟩;simp[D.kv,D.lit,D.lits,Lit.value,Value.cells,Program.keyLits,E,ByteArray.size];unfold lim at h;unfold maxLen;omega
def F7z{l:List A3}(h:∀s,s∈l->s.length<=lim):∀kv,kv∈Pn l->Et prog 9 kv.1:=by intro kv E;obtain⟨s,hs,rfl⟩:=B1.1 E;exact D5w s (h s hs)
def Su(l:List A5):List A3:=l.foldl (λm s=>A3a m s.name) []
def F1f(l:List A5)(d:A5):Su (l++[d])=A3a (Su l) d.name:=by simp[Su]
def H1k(l:List A5)(s:A3):∀m:List A3,s∈l.foldl (λm s=>A3a m s.name) m↔s∈m\/∃y,y∈l/\y.name=s:=by
 induction l with
 |nil=>simp
 |cons a l I =>
  intro m;rw[Jp,I,F5p];simp only[Aw];constructor
  .rintro((rfl|h)|⟨y,h1,E⟩)
   .exact .inr ⟨a,.inl rfl,rfl⟩
   .exact .inl h
   .exact .inr ⟨y,.inr h1,E⟩
  .rintro(h|⟨y,rfl|h1,E⟩)
   .exact .inl (.inr h)
   .exact .inl (.inl E.symm)
   .exact .inr ⟨y,h1,E⟩
def D5e(l:List A5)(s:A3):s∈Su l↔∃y,y∈l/\y.name=s:=by unfold Su;rw[H1k];simp
def R9(l:List A5)(s:A5)(i:Nat):Bool:=decide (∀y,y∈l.take i->y.name≠s.name)
def Io(vars:List A3)(args:List Ty)(l:List A5)(j:Nat):List A5:=((l.take j).zipIdx.filter λE=>R9 l E.1 E.2).map λE=>E.1.canon.subst vars args
def C3j{vars:List A3}{args:List Ty}{l:List A5}{j:Nat}{d:A5}(I:j<l.length)(ht:l.take (j+1)=l.take j++[d]):Io vars args l (j+1)=Io vars args l j++if R9 l d j=true then[d.canon.subst vars args]else[]:=by
 unfold Io;have E:(l.take j).length=j:=by rw[Dx];omega
 rw[ht,List.zipIdx_append,Ap5,Gg,E]
 congr 1
 simp only[Av0,List.zipIdx_nil,Nd,Aq8,As1];split <;> simp_all
def C3o(vars:List A3)(args:List Ty)(l:List A5)(j:Nat):(Io vars args l j).length<=j:=by unfold Io;rw[Bn];refine D3 (Am3 ..) ?_;rw[List.length_zipIdx,Dx];omega
def Xx(d:Decl)(x:Ty):List A5:=Io (Af d.A1) x.args d.sigs d.sigs.length
def H8(p:Prog)(x:Ty):List A5:=if Ch p x 2=true then Xx ((G2 p x.name).getD default) x else[]
def Qa{p:Prog}{x:Ty}{k:Int}(L:k≠0)(h:Ch p x k=true):∃d,G2 p x.name=some d/\d.kind=k/\d.A1.length=x.args.length:=by
 unfold Ch at h;simp only[Bc,Da]at h;cases E:G2 p x.name with
 |none=>have:=(C8o E).1;omega
 |some d =>obtain⟨J,I⟩:=C6r E;exact⟨d,rfl,by omega,by rw[<-I];exact h.2⟩
abbrev P7:List Nat:=[0,1,3,4,5,6,7,8,9,11,19,20,22,23,24,25,32]
def C5b(p:Prog)(h:p.Sm)(x:Ty)(hx:x.Sm):Bj prog 153 [.Ah (Ep p) 0,B6 x] [] (.tuple [.acc 8,Ay (Ch p x 2)]) [(8,.rows 7 (C1 (H8 p x)))]:=by
 have I:=B8b p h x 2 (by decide);unfold H8;rcases Fb (Ch p x 2)with hi|hi
 .obtain⟨E,a0,_⟩:=Qa (by decide) hi;rw[hi]at I;rw[A9 hi,hi];rw[a0,E1]at I |-;have L:=h.decls.2 E (Qc a0);have a':=L.sigs.1;unfold Xx;refine bB func153 ?_;refine sR P7 ?_;refine sC I P7 ?_;refine kR P7 λK1 M=>?_;refine kI M ?_;clear M K1;refine sR P7 ?_;refine A0.pp 8 7 8 rfl<|sR P7 ?_;refine kR P7 λK1 M=>?_;refine A0.bb (A0.ii E.sigs (X:=Unit) (λj _=>[(3,.box 3 0),(6,.box 6 0),(8,.acc 8),(9,.mp 20),(22,.d (.slice (C1 E.sigs))),(23,A8 E.sigs.length),(24,A8 j)])
   (λj _=>[(3,.cells ((Be x).map .d)),(6,.cells ((Bb E).map .d)),(8,.rows 7 (C1 (Io (Af E.A1) x.args E.sigs j))),(20,.map (Pn (Su (E.sigs.take j))))])
   (λj _=>True) () trivial sS (by simp[ble,A7,Io,C1,Bb,Be,Pn,Su]) ?_ ?_)
  .intro _ _;refine Aq B3 P7 ?_;refine A0.stop rfl ?_;simp only[A4,Ab,Ae];refine M _ _<|sR P7 ?_;exact A0.ret ⟨_,by rw[results153];rfl,.inl rfl,by simp[ble,A7]⟩
  .intro j _ d hd a1 dp tk a7 hI;have a9:=C3o (Af E.A1) x.args E.sigs j;have J:=C3j (vars:=Af E.A1) (args:=x.args) (by omega) tk;have V:=L.sigs.2 d a1;have U:Su (E.sigs.take (j+1))=A3a (Su (E.sigs.take j)) d.name:=by rw[tk,F1f]
   have hk:Et prog 9 (.str d.name):=D5w _ (D3 V.name (by decide));have W:∀kv,kv∈Pn (Su (E.sigs.take j))->Et prog 9 kv.1:=F7z λs hs=>by obtain⟨y,hy,rfl⟩:=(D5e _ _).1 hs;exact D3 (L.sigs.2 y (Hh hy)).name (by decide)
   have O:R9 E.sigs d j = !decide (d.name∈Su (E.sigs.take j)):=by unfold R9;rw[At6];simp[D5e]
   refine Aq a7 P7 ?_;refine A0.Fk rfl<|sK λK2 a8=>A0.bb ?_
   (refine sV P7 λK z=>?_;refine ci (F6 hd) ?_;apply z;clear z K)
   refine sK λK3 a3=>?_
   (refine sQ P7 λK z=>?_;simp -implicitDefEqProofs only[EV,Nat.reduceEqDiff,reduceCtorEq,Mx,Td,C9t,G5x];refine⟨W,hk,?_⟩;apply z;clear z K)
   have Z:∀sl bx,Ag sl 3=.box 3 0->Ag sl 6=.box 6 0->Ag sl 8=.acc 8->Ag sl 9=.mp 20->Ag sl 11=.box 11 0->Ag sl 22=.d (.slice (C1 E.sigs))->Ag sl 23=A8 E.sigs.length->Ag sl 24=A8 j ->
     A7 bx 3=some (.cells ((Be x).map .d))->A7 bx 6=some (.cells ((Bb E).map .d))->A7 bx 8=some (.rows 7 (C1 (Io (Af E.A1) x.args E.sigs (j+1))))->A7 bx 11=some (.cells (Tg d))->A7 bx 20=some (.map (Pn (Su (E.sigs.take j))))->K3 sl bx:=λsl bx g1 g2 g3 g4 g5 g6 g7 g8 g9 a4 a6 a5 a2=>by
    refine a3 _ _<|A0.ww (sl':=[(3,.box 3 0),(6,.box 6 0),(8,.acc 8),(9,.mp 20),(11,.box 11 0),(22,.d (.slice (C1 E.sigs))),(23,A8 E.sigs.length),(24,A8 j)])
     (bx':=[(3,.cells ((Be x).map .d)),(6,.cells ((Bb E).map .d)),(8,.rows 7 (C1 (Io (Af E.A1) x.args E.sigs (j+1)))),(11,.cells (Tg d)),(20,.map (Pn (Su (E.sigs.take j))))]) (by simp[sle,Ax,g1,g2,g3,g4,g5,g6,g7,g8]) (by simp[ble,g9,a4,a6,a5,a2]) ?_
    (refine lQ P7 λK z=>?_;simp -implicitDefEqProofs only[EV,Nat.reduceEqDiff,reduceCtorEq,Mx,Td,C9t,F3i];refine⟨W,hk,?_⟩;apply z;clear z K;try simp only[A4,Ab])
    refine a8 _ _<|lT P7 ?_;exact⟨(),trivial,sS,by simp[ble,A7,U,Be,Bb]⟩
   by_cases I:d.name∈Su (E.sigs.take j)
   .rw[Bo I];refine A0.ff rfl (A0.kk (Z _ _ rfl rfl rfl rfl rfl rfl rfl rfl rfl rfl (by rw[J,O,Bo I];simp[A7]) rfl rfl))
   .rw[Ce I];refine A0.tt rfl ?_;have hn:R9 E.sigs d j=true:=by rw[O,Ce I];rfl
    rw[hn,A9 rfl]at J
    (refine lG P7 [] 10 [] λK z=>?_;refine ev ?_;refine cc (C1m d V) ?_;refine cc (A4d E.A1 L.A1.1) ?_;refine cc (B9m (Af E.A1) x.args hx.arg _ V.canon) ?_;refine⟨by simp,by unfold lim sm at*;omega,?_⟩;(try refine ev ?_);apply z;clear z K;try simp only[A4,])
    exact Z _ _ rfl rfl rfl rfl rfl rfl rfl rfl rfl rfl (by rw[J];simp[A7,C1,Fw]) rfl rfl
 .rw[hi]at I;rw[A6 (by rw[hi];decide),hi];refine bB func153 ?_;refine sR P7 ?_;refine sC I P7 ?_;refine kR P7 λK1 M=>?_;refine tI ?_;refine sR P7 ?_;refine A0.pp 8 7 4 rfl<|A0.ret ⟨_,by rw[results153];rfl,.inl rfl,by simp[ble,A7,C1]⟩
abbrev Mj:List Nat:=[0,1,2,3,4,5,6,7,8,9,22,27,42,43]
def H0c(p:Prog)(h:p.Sm)(x:Ty)(hx:x.Sm)(hi:Ch p x 2=true):Bj prog 132 [D7 p,B6 x] [] (.acc 6) [(6,.rows 7 (C1 (H8 p x)))]:=by
 unfold H8;rw[A9 hi];obtain⟨E,I,_⟩:=Qa (by decide) hi;rw[I,E1];have U:=h.decls.2 E (Qc I);have ae:=U.sigs.1;have a2:=A8u p x.name;obtain⟨k,a8,a7⟩:∃k:Nat,p.decls[k]?=some E/\findD x.name p.decls 0=k:=by
  rcases A9g x.name p.decls 0 with⟨h1,h2⟩|⟨k,d,h1,h2,h3⟩
  .unfold G2 at I;rw[h2]at I;simp at I
  .unfold G2 at I;rw[h3]at I;simp only[B4]at I;subst I;exact⟨k,h1,by rw[h2];simp⟩
 rw[a7]at a2;unfold Xx;refine bB func132 ?_;refine sR Mj ?_
 (refine sG Mj [] 9 [⟨[],[],[5],[5]⟩,⟨[],[],[5],[5]⟩,⟨[],[],[5],[5]⟩,⟨[],[],[5],[5]⟩,⟨[],[],[5],[5]⟩,⟨[],[],[5],[5]⟩,⟨[],[],[5],[5]⟩,⟨[],[],[5],[5]⟩,⟨[5],[5],[],[]⟩] λK z=>?_;refine ev ?_;refine cc a2 ?_;refine ci (Ev a8) ?_;apply z;clear z K)
 refine sR Mj ?_;refine A0.pp 6 7 6 rfl<|kR Mj λK1 a6=>?_;refine A0.bb (A0.ii E.sigs (X:=Unit) (λj _=>[(3,.box 3 0),(5,.box 5 0),(6,.acc 6),(7,A8 j)])
  (λj _=>[(3,.cells ((Be x).map .d)),(5,.cells ((Bb E).map .d)),(6,.rows 7 (C1 (Io (Af E.A1) x.args E.sigs j)))])
  (λj _=>True) () trivial sS (by simp[ble,A7,Io,C1,Bb,Be]) ?_ ?_)
 .intro _ _;refine Ai B3 Mj λZ M=>?_;refine A0.ss rfl ?_;simp only[A4,Ab,Ae];refine a6 _ _<|sR Mj ?_;exact A0.ret ⟨_,by rw[results132];rfl,.inl rfl,by simp[ble,A7]⟩
 .intro j _ d hd a0 dp tk a' hI;have aa:=C3o (Af E.A1) x.args E.sigs j;have J:=C3j (vars:=Af E.A1) (args:=x.args) (by omega) tk;have a5:=U.sigs.2 d a0;have a1:(E.sigs.take j).length=j:=by rw[Dx];omega
  refine Ai a' Mj λZ M=>?_;refine gI M ?_;clear M Z;refine sK λZ M=>A0.bb<|sR Mj ?_;refine kR Mj λK3 W=>?_;refine A0.bb (A0.ii (E.sigs.take j) (X:=Unit) (λi _=>[(3,.box 3 0),(5,.box 5 0),(6,.acc 6),(7,A8 j),(8,Ay (R9 (E.sigs.take j) d i)),(9,A8 i)])
   (λ_ _=>[(3,.cells ((Be x).map .d)),(5,.cells ((Bb E).map .d)),(6,.rows 7 (C1 (Io (Af E.A1) x.args E.sigs j)))])
   (λ_ _=>True) () trivial (by simp[sle,Ax,Ag,R9]) (by simp[ble,A7,Bb,Be]) ?_ ?_)
  .intro _ _;have O:R9 (E.sigs.take j) d (E.sigs.take j).length=R9 E.sigs d j:=by unfold R9;rw[Dm]
   rw[O,a1];refine Ai B3 Mj λV L=>?_;refine A0.ss rfl ?_;simp only[A4,Ab,Ae];refine W _ _ ?_;clear L V W K3;refine sR Mj ?_;rcases Fb (R9 E.sigs d j)with hn|hn
   .rw[hn,A9 rfl]at J;rw[hn];refine A0.tt rfl ?_
    (refine lG Mj [] 14 [] λK z=>?_;refine ev ?_;refine ci (F6 hd) ?_;refine cc (B8g d a5) ?_;refine cc (Vq E.A1 U.A1.1) ?_;refine cc (D4n (Af E.A1) x.args hx.arg _ a5.canon) ?_;refine⟨by simp,by unfold lim sm at*;omega,?_⟩;(try refine ev ?_);apply z;clear z K;try simp only[A4,Ab])
    refine M _ _ ?_;clear M Z;refine lT Mj ?_;exact⟨(),trivial,sS,by simp[ble,A7,J,C1,Fw,Bb,Be]⟩
   .rw[hn,A6 (by decide),I8]at J;rw[hn];refine A0.ff rfl (A0.kk (M _ _ ?_));clear M Z;refine lT Mj ?_;exact⟨(),trivial,sS,by simp[ble,A7,J,Bb,Be]⟩
  .intro i _ e he ad ac a9 a4 ab;rw[a1]at a4;have a3:E.sigs[i]?=some e:=by rw[Am7 (by omega)]at he;exact he
   have O:R9 (E.sigs.take j) d (i+1)=(R9 (E.sigs.take j) d i && !decide (e.name=d.name)):=by unfold R9;rw[a9,At6];simp only[Da,D2,Aw,Ej,Eh,Bc,M1,Rw];exact⟨λh=>⟨λy hy=>h y (.inl hy),h e (.inr rfl)⟩,λh y hy=>hy.elim (h.1 y) (λhe=>he ▸ h.2)⟩
   refine Ai a4 Mj λV L=>?_;refine gI L ?_;clear L V;refine sK λV L=>A0.bb ?_;by_cases hn:e.name=d.name
   .rw[Bo hn,Au7,Wx]at O
    (refine sG Mj [] 12 [] λK z=>?_;refine ev ?_;refine⟨by omega,_,F6 a3,rfl,?_⟩;(try refine As hn ?_);refine ci (F6 hd) ?_;apply z;clear z K)
    refine A0.tt rfl ?_
    (refine lV Mj λK z=>?_;apply z;clear z K;try simp only[A4,Ab])
    refine L _ _ ?_;clear L V;refine lT Mj ?_;exact⟨(),trivial,(by simp[sle,Ax,Ag,O]),by simp[ble,A7,Bb,Be]⟩
   .rw[Ce hn,Au2,Au8]at O
    (refine sG Mj [] 12 [] λK z=>?_;refine ev ?_;refine ci (F6 a3) ?_;refine⟨by omega,_,F6 hd,rfl,?_⟩;(try refine As hn ?_);apply z;clear z K)
    refine A0.ff rfl (A0.kk (L _ _ ?_));clear L V;refine lT Mj ?_;exact⟨(),trivial,(by simp[sle,Ax,Ag,O]),by simp[ble,A7,Bb,Be]⟩
end Go.Abs
