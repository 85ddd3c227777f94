/- slices.Grow of nil, slices.Concat[Formal] of two, bind.Join, table.Formals -/
import Derived.Test.YtieakoebgfiniaaGreatDoorZS14
set_option linter.all false
set_option maxHeartbeats 1000000
set_option maxRecDepth 100000
namespace Go.Abs
open Go Go.Proofs Tryz
def A8c(E k1:Nat)(q:Nat):Nat:=if q=E then k1 else q
def B7n{P:Program}{sl:SL}{bx:Ab}{f:FuncId}{fo:Operand}{args:List Operand}{Da:List TypeId}{dst:Option Nat}{caps O:List SV}{r:SV}{W U:Nat}{E:List (List D)}(k1:Nat)
  (hf:Ao sl fo=.Bf f caps)(a5:args.map (Ao sl)++caps=O)(ad:SV.M8 O=true)(hc:C8 P f O [] r [(W,.rows U E)])(hr:r.only [W]=true)
  (h1:k1<=999999)(f1:A1y k1 bx=false) :
  OpB P sl bx dst (.call ⟨.value fo,args.toArray,Da.toArray⟩) (r.Ek (A8c W k1)) ((k1,.rows U E)::bx) [k1]:=by
 subst a5;intro o ho _ C S w β a hi ha;have a6:=ha fo (mC ho);rw[hf]at a6;generalize ac:a.eval fo=v at a6;cases a6 with
 |Bf _ _ cs g1 g2 =>
  have a8:Bv S w β (args.map (Ao sl)++caps) (args.map a.eval++cs):=(Bv.Vd _ λx hx=>ha x (mo ho (by simp[Op.operands,Call.operands];exact .inr hx))).append ⟨g1,g2⟩;have aa:Inv ⟨w,S,λ_=>False,λ_ _=>False,C.G⟩ S w β []:=hi.begin hi.Bw (λ_ h=>h);have a7:=hc.2 ⟨w,S,λ_=>False,λ_ _=>False,C.G⟩ β _ aa a8;refine I7 ?_;unfold Oper.wp;rw[Yh hc.1 ho ac,X2];have a0:(args.toArray.map a.eval)++(⟨cs⟩:Array Value)=⟨args.map a.eval++cs⟩:=by apply Kt;simp
  rw[a0];refine a7.mono ?_;rintro e w' ⟨v,S',β',rfl,Z,hv⟩;have a9:w.heap.size<=w'.heap.size:=Z.size;have a':∀b,S' b->S b\/w.heap.size<=b:=λb I=>by
   rcases Z.Ej b I with h|h|h
   .exact .inl h
   .exact h.elim
   .exact .inr h
  have e:C4 S w S' w':=⟨Z.Fe,λb I=>Z.kept b (hi.Bw b I) id⟩;have u1:Ed β k1 (β' W) k1 =β' W:=Gw ..;have u3:∀j,j≠k1->Ed β k1 (β' W) j =β j:=λj a=>by rw[Lu a]
  have m1:(W,Aq.rows U E)∈[(W,Aq.rows U E)]:=by simp
  have L:∀b,(β' W).base=some b->¬S' b/\b<w'.heap.size/\w.heap.size<=b:=λb I=>by obtain⟨p1,p2,p3⟩:=Z.Ba W _ m1 b I;exact⟨p1,p2,p3.resolve_left id⟩
  have V:∀k c,(k,c)∈bx->k≠k1/\(∀j,c.has j=true->j≠k1):=λk c hm=>by obtain⟨a1,a2⟩:=C0h f1 k c hm;exact⟨a1,λj hj he=>by subst he;rw[a2]at hj;simp at hj⟩
  have J:∀k c,(k,c)∈(k1,Aq.rows U E)::bx->(k=k1/\c=.rows U E)\/(k,c)∈bx:=λk c hm=>by simp only[B1,Fp]at hm;exact hm
  refine⟨v,S',Ed β k1 (β' W),rfl,?_,e,hv.Ek λk ab=>?_,λj hj=>?_⟩
  .refine hi.step e a' Z.Bw (λb I _=>Z.kept b I id) Z.os Z.tape Z.output a9 ?_ ?_ (λj hj=>u3 j (by omega)) ?_
   .intro k c hm;rcases J k c hm with⟨rfl,rfl⟩|hm
    .rw[u1];exact⟨De.ext (c:=.rows U E) (Z.box W _ m1) (C4.refl _ _) (λ_ _=>rfl) (by simp[Aq.has]),λb I=>⟨(L b I).1,(L b I).2.1,.inl (L b I).2.2⟩⟩
    .obtain⟨a1,a3⟩:=V k c hm;rw[u3 k a1];refine⟨(hi.box k c hm).ext e (λb I=>Z.kept b (hi.Ba k c hm b I).2.1 id) (λj hj=>u3 j (a3 j hj)),λb I=>⟨λhs=>?_,W5 (hi.Ba k c hm b I).2.1 a9,.inr ⟨k,c,hm,I⟩⟩⟩;rcases a' b hs with h|h
     .exact(hi.Ba k c hm b I).1 h
     .have:=(hi.Ba k c hm b I).2.1;omega
   .intro k c k' c' hm hm' b I a4;have low:∀k c,(k,c)∈bx->(Ed β k1 (β' W) k).base=some b->b<w.heap.size:=λk c hm I=>by
     rw[u3 k (V k c hm).1]at I;exact(hi.Ba k c hm b I).2.1
    rcases J k c hm with⟨rfl,rfl⟩|hm
    .rw[u1]at I;rcases J k' c' hm' with⟨rfl,rfl⟩|hm'
     .exact⟨rfl,rfl⟩
     .have:=low _ _ hm' a4;have:=(L b I).2.2;omega
    .have ae:=low _ _ hm I;rcases J k' c' hm' with⟨rfl,rfl⟩|hm'
     .rw[u1]at a4;have:=(L b a4).2.2;omega
     .rw[u3 k (V k c hm).1]at I;rw[u3 k' (V k' c' hm').1]at a4;exact hi.inj k c k' c' hm hm' b I a4
   .intro k Y st hm;rcases J k _ hm with⟨_,h⟩|hm
    .cases h
    .exact hm
  .have:=SV.B6p hr ab;simp only[B1,E5,Ea]at this;subst this;simp only[A8c,Af];exact u1
  .simp only[B1,E5,Ea]at hj;exact u3 j hj
def E2g{P:Program}{ρ:Go.Shelf.Ren}(L:Go.Proofs.Lays8.n4 P ρ)(sz:Nat)(a4:0<sz)(E:((P.info? (ρ.t 25)).any λi=>i.size ==sz && decide (i.bytes<=1000) && i.zero.any λz=>z.cells.size ==sz)=true)
  (hE:Enters P (ρ.f 4))(n:Nat)(hn:n<=100000000000):C8 P (ρ.f 4) [.d .nil,A5 n] [] (.acc 1) [(1,.rows sz [])]:=by
 refine⟨hE,λC β vs Z hv=>?_⟩;obtain⟨v0,I,V⟩:=hv.get (j:=0) (c:=.d .nil) rfl;obtain⟨v1,J,a0⟩:=hv.get (j:=1) (c:=A5 n) rfl;have W:vs=[.slice none 0 0,.int .i64 n]:=by
  have hl:=hv.1
  match vs,hl with
  |[u,v],_ =>simp only[Xg,Ai7,B5]at I J;subst I;subst J;rw[a0.J2];have:=V.Ij;cases this;rfl
 subst W;by_cases h0:n=0
 .subst h0;refine(Any8.slices_Grow_room L none 0 0 0 C.w0 (Bs _) (by omega) (by omega) (by omega)).mono ?_;rintro e w' ⟨rfl,rfl⟩;obtain⟨h1,h2⟩:=Z.Tb (k:=1) (w':=C.w0) (c:=.rows sz []) { base:=none,sz:=sz } (by decide) (by simp) (λ_ _ _=>rfl) rfl rfl rfl (Bs _) (λ_=>B9a);refine⟨_,C.S0,_,rfl,by simpa [Cd,H8]using h1,?_⟩;have:=Am.acc (S:=C.S0) (w:=C.w0) (β:=Ed β 1 { base:=none,sz:=sz }) 1;rw[Gw]at this;simpa using this
 .generalize a3:P.info? (ρ.t 25)=oi at E;cases oi with
  |none=>simp at E
  |some U =>
   simp only[Option.any_some,Bb,Vk,Dp]at E;obtain⟨⟨g1,g2⟩,O⟩:=E;generalize a2:U.zero=oz at O;cases oz with
   |none=>simp at O
   |some z =>
    simp only[Option.any_some,Vk]at O;refine(Any8.slices_Grow_grow L U z a3 a2 (by omega) none 0 0 n [] C.w0 (Bs _) (by omega) (by have:(0+n)*U.bytes<=(0+n)*1000:=Ak9 _ g2;omega) (by omega) (by simp) (λ_=>rfl) (by simp)).mono ?_
    rintro e w' ⟨rfl,rfl⟩;have a1:=grownCap_ge C.w0 (0+n) 0 (ρ.t 25);generalize grownCap C.w0 (0+n) 0 (ρ.t 25)=G at a1;obtain⟨h1,h2⟩:=Z.Tb (k:=1) (w':=C.w0.drew.alloc (.cells (([]:List Value).toArray++Builtin.zeroCells z.cells (0+n - 0)++Builtin.zeroCells z.cells (G - (0+n))) (ρ.t 25))) (c:=.rows sz []) { base:=some C.w0.heap.size,len:=0,cap:=G,sz:=sz } (by decide)
     (by intro b hb;cases hb;exact⟨λh=>by have:=Z.Bw _ h;omega,by simp[-World.alloc_eq,-World.drew_eq,World.alloc,World.drew],.inl (Bs _)⟩)
     (λb hb _=>RowKit.Below.heap_alloc C.w0.drew _ b hb) rfl rfl rfl (by simp[-World.alloc_eq,-World.drew_eq,World.alloc,World.drew])
     (λ_=>by refine⟨rfl,rfl,by simp,by simp,by simp,by simp,?_⟩;refine⟨ρ.t 25,(([]:List Value).toArray++Builtin.zeroCells z.cells (0+n - 0)++Builtin.zeroCells z.cells (G - (0+n))).toList,by simp[-World.alloc_eq,-World.drew_eq,World.alloc,World.drew],?_,by simp⟩;simp only[Array.toList_append,B6,Ao8,E2b,O];simp only[Ca,Ky,<-Hw];exact Hp _ (by omega))
    refine⟨_,C.S0,_,rfl,by simpa [Cd,H8]using h1,?_⟩;have:=Am.acc (S:=C.S0) (w:=C.w0.drew.alloc (.cells (([]:List Value).toArray++Builtin.zeroCells z.cells (0+n - 0)++Builtin.zeroCells z.cells (G - (0+n))) (ρ.t 25))) (β:=Ed β 1 { base:=some C.w0.heap.size,len:=0,cap:=G,sz:=sz }) 1;rw[Gw]at this;simpa using this
def F4u(n:Nat)(E:n<=100000000000):C8 prog 317 [.d .nil,A5 n] [] (.acc 1) [(1,.rows 5 [])] :=
 E2g F6j 5 (by decide) (by kernel_rfl) (Enters.of func317 rfl (by decide)) n E
def E3d(n:Nat)(E:n<=100000000000):C8 prog 180 [.d .nil,A5 n] [] (.acc 1) [(1,.rows 3 [])] :=
 E2g G2a 3 (by decide) (by kernel_rfl) (Enters.of func180 rfl (by decide)) n E
def A9t{α:Type}(E:List (List α))(j:Nat):((E.take j).map List.length).sum<=(E.map List.length).sum:=by
 induction E generalizing j with
 |nil=>simp
 |cons a l I =>
  cases j with
  |zero=>simp
  |succ j=>simp only[Am1,Ck,J5];have:=I j;omega
def A2m(E:List (List Ah)):List (List D):=E.map λl=>[.slice (Ag l)]
def D7e{E:List (List Ah)}{j:Nat}{l:List Ah}(h:E[j]?=some l):(A2m E)[j]?=some [.slice (Ag l)]:=by simp[A2m,h]
abbrev P5:List Nat:=[0,2,3,5,6,8,9,10,11,12,20,24,25,26,27,28]
def G1b(E:List (List Ah))(hl:E.length<=sm)(hn:(E.map List.length).sum<=2*sm):Aa prog 287 [.d (.slice (A2m E))] (.d (.slice (Ag E.flatten))):=by
 refine cB func287 ?_;refine sR P5 ?_;refine sR P5 ?_;refine kR P5 λV J=>?_;refine A0.bb (A0.ii E (X:=Unit) (λj _=>[(0,.d (.slice (A2m E))),(3,A5 (((E.take j).map List.length).sum:Nat)),(9,.d (.slice (A2m E))),(10,A5 E.length),(11,A5 j)]) (λ_ _=>[])
  (λj _=>True) () trivial (by simp[sle,Ay,Ae,A2m]) sB ?_ ?_)
 .intro _ _;rw[Ci];refine Ak B3 P5 ?_;refine A0.stop rfl ?_;simp only[A4,Ac,Af];refine J _ _ ?_;clear J V
  (refine A0.D7 P5 [800024] (by decide +kernel) λK z=>?_;refine ev ?_;refine⟨_,_,_,B7n 24 rfl rfl rfl (F4u _ (by unfold sm at hn;omega)) rfl (by decide) rfl,?_⟩;simp only[SV.Ek,A8c,Af];(try refine ev ?_);apply z;clear z K)
  refine kR P5 λV J=>?_;refine A0.bb (A0.ii E (X:=Unit) (λj _=>[(6,.acc 24),(25,.d (.slice (A2m E))),(26,A5 E.length),(27,A5 j)]) (λj _=>[(24,.rows 5 (Ag (E.take j).flatten))])
   (λj _=>True) () trivial (by simp[sle,Ay,Ae,A2m]) (by simp[ble,A7,Ag]) ?_ ?_)
  .intro _ _;rw[Ci];refine Ak B3 P5 ?_;refine A0.stop rfl ?_;simp only[A4,Ac,Af];refine J _ _ ?_;clear J V;refine sR P5 ?_;exact aR
  .intro j _ d hd U dp tk O hI;have L:=A9t E (j+1);rw[tk,G0,Y7]at L;simp only[Ck,G3,J5,List.sum_nil,Ma]at L;rw[tk,List.flatten_append,Ao6,List.flatten_nil,Fj];refine Ak O P5 ?_;refine A0.Er rfl<|sK λW I=>A0.bb ?_
   (refine sV P5 λK z=>?_;refine ci (D7e hd) ?_;apply z;clear z K)
   (refine lV P5 λK z=>?_;refine⟨λrow hr=>by obtain⟨x,_,rfl⟩:=Au.1 hr;rfl,by rw[List.length_flatten];unfold lim sm at*;omega,?_⟩;(try refine ev ?_);apply z;clear z K;try simp only[A4,Ac])
   refine I _ _ ?_;clear I W;refine lT P5 ?_;exact⟨(),trivial,sS,by simp[ble,A7,Ag]⟩
 .intro j _ d hd U dp tk O hI;have L:=A9t E (j+1);rw[tk,G0,Y7]at L;simp only[Ck,G3,J5,List.sum_nil,Ma]at L;have Z:¬(((((E.take j).map List.length).sum:Nat):Int)+(d.length:Int)<0):=by omega
  rw[tk,G0,Y7];simp only[Ck,G3,J5,List.sum_nil,Ma];refine Ak O P5 ?_;refine A0.Er rfl<|sK λW I=>A0.bb ?_
  (refine sV P5 λK z=>?_;refine ci (D7e hd) ?_;apply z;clear z K)
  (refine sV P5 λK z=>?_;refine ca ?_;apply z;clear z K)
  refine Ak Z P5 ?_;refine A0.ff rfl (A0.kk (I _ _ ?_));clear I W;refine lT P5 ?_;exact⟨(),trivial,sS,sB⟩
def F5c(l:List Ah)(j:Nat)(d:Ah):Ag (l.take j++[d])=Ag (l.take j)++[Jm d]:=by simp[Ag]
abbrev Zf:List Nat:=[0,1,4,5,7,11,12,13,14]
def B8m(a b:List Ah)(W:a.length<=sm)(a0:b.length<=sm)(ha:∀f,f∈a->f.Sm)(Z:∀f,f∈b->f.Sm):Aa prog 230 [.d (.slice (Ag a)),.d (.slice (Ag b))] (.d (.slice (Ag (a++b)))):=by
 have O:=G1b [a,b] (show 2<=sm by decide) (by simp only[Ck,G3,J5,List.sum_nil];omega);rw[show[a,b].flatten=a++b by simp]at O;have hl:(a++b).length<=2*sm:=by simp only[B6];omega
 have hs:∀f,f∈a++b->f.Sm:=λf U=>(Bz.1 U).elim (ha f) (Z f);generalize V:a++b=l at*;refine cB func230 ?_;refine sR Zf ?_;refine sR Zf ?_;refine A0.pp 5 5 5 rfl<|kC O Zf λK1 L=>?_;refine A0.bb (A0.ii l (X:=Unit) (λj _=>[(5,.acc 5),(11,.d (.slice (Ag l))),(12,A5 l.length),(13,A5 j)]) (λj _=>[(5,.rows 5 (Ag (l.take j)))])
  (λj _=>True) () trivial sS (by simp[ble,A7,Ag]) ?_ ?_)
 .intro _ _;rw[Ci];refine Ak B3 Zf ?_;refine A0.stop rfl ?_;simp only[A4,Ac,Af];refine L _ _<|sR Zf ?_;exact aR
 .intro j _ d hd I dp tk J _;rw[tk,F5c];refine Ak J Zf ?_;refine A0.Er rfl<|sK λK2 E=>A0.bb ?_
  (refine sV Zf λK z=>?_;refine ci (F4 hd) ?_;apply z;clear z K)
  (refine lG Zf [] 10 [] λK z=>?_;refine ev ?_;refine cc (A3r d.bound (hs d I).bound) ?_;refine⟨by simp,by simp only[D4];unfold lim sm at*;omega,?_⟩;(try refine ev ?_);apply z;clear z K;try simp only[A4,Ac])
  refine E _ _ ?_;clear E K2;refine lT Zf ?_;exact⟨(),trivial,sS,by simp[ble,A7,Jm]⟩
theorem P9{p:Prog}{nm:A2}{d:Decl}(h:F7 p nm=some d):d∈p.decls:=Am5 h
def G4f(p:Prog)(h:p.Sm)(nm:A2):Aa prog 214 [.A9 (Dh p) 0,Bm nm] (.d (.slice (Ag (Em p nm)))):=by
 have E:=C3s p h nm [];rw[C5j]at E;rw[show(p.decls.find? λd=>d.Fv nm)=F7 p nm from rfl]at E;have J:Aa prog 230 [.d (.slice (Ag ((F7 p nm).getD default).A1)),.d (.slice [])] (.d (.slice (Ag (Em p nm)))):=by
  cases I:F7 p nm with
  |none=>rw[(C4t I).2];exact B8m [] [] (by decide) (by decide) (by simp) (by simp)
  |some d =>rw[(C3w I).2];have hd:=(h.decls.2 d (P9 I)).A1;have:=B8m d.A1 [] hd.1 (by decide) hd.2 (by simp);rw[Fj]at this;exact this
 generalize F7 p nm=o at*;refine cB func214 ?_;refine sR [0,1,4,5] ?_;refine sC E [0,1,4,5] ?_;refine sC J [0,1,4,5] ?_;exact aR
def Fi{α:Type}(p:α->α->Bool):List α->List α->Bool
 |[],[]=>true
 |x::xs,y::ys=>p x y && Fi p xs ys
 |_,_=>false
def B2n{α:Type}{p:α->α->Bool}:∀{l m:List α},Fi p l m=true->l.length=m.length
 |[],[],_=>rfl
 |x::xs,y::ys,h=>by rw[Fi,Bb]at h;simp[B2n h.2]
 |[],_::_,h=>by simp[Fi]at h
 |_::_,[],h=>by simp[Fi]at h
def S4(a b:Ah):Bool:=decide (a.name=b.name) && Pn a.bound b.bound
def Rx(a b:Param):Bool:=decide (a.name=b.name) && Pn a.type b.type
def Nr(a b:A3):Bool:=decide (a.name=b.name) && Fi S4 a.A1 b.A1 && Fi Rx a.params b.params && Pn a.result b.result
def Ty.Sm.subst{vars:List A2}{args:List Ty}(O:∀u,u∈args->u.Sm):∀t:Ty,t.Sm->(t.subst vars args).Sm:=by
 intro t
 induction t using Ty.induct with
 |h t L =>
 intro h;rw[Wo];split
 .rename_i U;have E:(D5 t.name vars 0).toNat<args.length:=by omega
  rw[Bi E,Dz];have:=O _ (Fq E);exact .mk _ _ _ this.name this.len this.arg
 .refine .mk _ _ _ h.name (by rw[Bc];exact h.len) λu J=>?_;obtain⟨x,I,rfl⟩:=Au.1 J;exact L x I (h.arg x I)
def mem_mapIdx{α β:Type}{f:Nat->α->β}{l:List α}{y:β}(h:y∈l.mapIdx f):∃i x,l[i]?=some x/\i<l.length/\y=f i x:=by obtain⟨i,I⟩:=Qu h;rw[Sd,Jv]at I;obtain⟨x,E,rfl⟩:=I;exact⟨i,x,E,(Az.1 E).1,rfl⟩
theorem A3.Sm.canon{s:A3}(h:s.Sm):s.canon.Sm:=by
 have hs:=C4p _ h.A1.1;refine⟨h.name,⟨by simp only[A3.canon,Yf];exact h.A1.1,λf I=>?_⟩,⟨by simp only[A3.canon,Vy];exact h.params.1,λf I=>?_⟩,Ty.Sm.subst hs _ h.result⟩
 .obtain⟨i,x,E,L,rfl⟩:=mem_mapIdx I;have J:=h.A1.2 x (C6 E);refine⟨?_,Ty.Sm.subst hs _ J.bound⟩;simp only[L,Af];exact Cp (E2m i (by have:=h.A1.1;omega)) (by decide)
 .obtain⟨i,x,E,L,rfl⟩:=mem_mapIdx I;have J:=h.params.2 x (C6 E);refine⟨?_,Ty.Sm.subst hs _ J.type⟩;simp only[L,Af];decide
def A3.Sm.subst{vars:List A2}{args:List Ty}(J:∀u,u∈args->u.Sm){s:A3}(h:s.Sm):(s.subst vars args).Sm:=by
 refine⟨h.name,⟨by simp only[A3.subst,Bc];exact h.A1.1,λf I=>?_⟩,⟨by simp only[A3.subst,Bc];exact h.params.1,λf I=>?_⟩,Ty.Sm.subst J _ h.result⟩
 .obtain⟨x,E,rfl⟩:=Au.1 I;exact⟨(h.A1.2 x E).name,Ty.Sm.subst J _ (h.A1.2 x E).bound⟩
 .obtain⟨x,E,rfl⟩:=Au.1 I;exact⟨(h.params.2 x E).name,Ty.Sm.subst J _ (h.params.2 x E).type⟩
def H0o(a b:Ah)(h:a.Sm):Aa prog 321 [S8 a,S8 b] (Aw (S4 a b)):=by
 have hs:=B8n a.bound b.bound h.bound;unfold S4;refine cB func321 ?_;refine sR [0,1,2,3,4] ?_;by_cases E:a.name=b.name
 ·(refine sQ [0,1,2,3,4] λK z=>?_;refine Ap E ?_;refine cc hs ?_;apply z;clear z K)
  rw[Bj E,Cj];exact aR
 .refine Ak E [0,1,2,3,4] ?_;rw[C9 E,C3];exact aR
def F8b(a b:Param)(h:a.Sm):Aa prog 323 [Q4 a,Q4 b] (Aw (Rx a b)):=by
 have hs:=B8n a.type b.type h.type;unfold Rx;refine cB func323 ?_;refine sR [0,1,2,3,4] ?_;by_cases E:a.name=b.name
 ·(refine sQ [0,1,2,3,4] λK z=>?_;refine Ap E ?_;refine cc hs ?_;apply z;clear z K)
  rw[Bj E,Cj];exact aR
 .refine Ak E [0,1,2,3,4] ?_;rw[C9 E,C3];exact aR
abbrev V4:List Nat:=[0,1,2,6,7,8,9,14,15,16,17,18,30]
def G2m(f:FuncId)(p:Ah->Ah->Bool)(l m:List Ah)(hl:l.length<=sm)(hf:∀x,x∈l->∀y,Aa prog f [S8 x,S8 y] (Aw (p x y))) :
  Aa prog 320 [.d (.slice (Ag l)),.d (.slice (Ag m)),.Bf f []] (Aw (Fi p l m)):=by
 refine cB func320 ?_;refine sR V4 ?_;refine kR V4 λZ I=>?_;refine A0.N2 rfl I (λE=>?_) (λE=>?_)
 .refine sR V4 ?_;have:Fi p l m=false:=by
   cases h:Fi p l m with
   |false=>rfl
   |true=>have:=B2n h;simp[this]at E
  rw[this];exact aR
 clear I Z;have W:l.length=m.length:=by
  have:(l.length:Int)=m.length:=by simpa using E
  omega
 refine kR V4 λZ I=>?_;refine A0.bb (A0.ii l (X:=Unit) (λj _=>[(1,.d (.slice (Ag m))),(2,.Bf f []),(15,.d (.slice (Ag l))),(16,A5 l.length),(17,A5 j)]) (λ_ _=>[])
  (λj _=>Fi p (l.drop j) (m.drop j)=Fi p l m) () (by simp) sS sB ?_ ?_)
 .intro _ J;refine Ak B3 V4 ?_;refine A0.stop rfl ?_;simp only[A4,Ac,Af];refine I _ _<|sR V4 ?_;rw[Db,W,Db]at J;rw[<-J];exact aR
 .intro j _ d hd O dp tk U J;obtain⟨e,he,V⟩:=A5x (l:=m) (j:=j) (by omega);rw[dp,V,Fi]at J;refine Ak U V4 ?_;refine A0.Er rfl<|sK λK2 L=>A0.bb ?_
  (refine sV V4 λK z=>?_;refine ci (F4 hd) ?_;apply z;clear z K)
  (refine sV V4 λK z=>?_;refine ci (F4 he) ?_;apply z;clear z K)
  refine sC (hf d O e) V4 ?_;refine A0.cond rfl (λE=>?_) (λE=>?_)
  .refine sR V4 ?_;simp only[Js]at E;rw[E,C3]at J;rw[<-J];exact aR
  simp only[S7]at E;rw[E,Cj]at J;refine A0.kk (L _ _ ?_);clear L K2;refine lT V4 ?_;exact⟨(),J,sS,sB⟩
abbrev U4:List Nat:=[0,1,2,6,7,8,9,14,15,16,17,18,30]
def G2f(f:FuncId)(p:Param->Param->Bool)(l m:List Param)(hl:l.length<=sm)(hf:∀x,x∈l->∀y,Aa prog f [Q4 x,Q4 y] (Aw (p x y))) :
  Aa prog 322 [.d (.slice (Av l)),.d (.slice (Av m)),.Bf f []] (Aw (Fi p l m)):=by
 refine cB func322 ?_;refine sR U4 ?_;refine kR U4 λZ I=>?_;refine A0.N2 rfl I (λE=>?_) (λE=>?_)
 .refine sR U4 ?_;have:Fi p l m=false:=by
   cases h:Fi p l m with
   |false=>rfl
   |true=>have:=B2n h;simp[this]at E
  rw[this];exact aR
 clear I Z;have W:l.length=m.length:=by
  have:(l.length:Int)=m.length:=by simpa using E
  omega
 refine kR U4 λZ I=>?_;refine A0.bb (A0.ii l (X:=Unit) (λj _=>[(1,.d (.slice (Av m))),(2,.Bf f []),(15,.d (.slice (Av l))),(16,A5 l.length),(17,A5 j)]) (λ_ _=>[])
  (λj _=>Fi p (l.drop j) (m.drop j)=Fi p l m) () (by simp) sS sB ?_ ?_)
 .intro _ J;refine Ak B3 U4 ?_;refine A0.stop rfl ?_;simp only[A4,Ac,Af];refine I _ _<|sR U4 ?_;rw[Db,W,Db]at J;rw[<-J];exact aR
 .intro j _ d hd O dp tk U J;obtain⟨e,he,V⟩:=A5x (l:=m) (j:=j) (by omega);rw[dp,V,Fi]at J;refine Ak U U4 ?_;refine A0.Er rfl<|sK λK2 L=>A0.bb ?_
  (refine sV U4 λK z=>?_;refine ci (Du hd) ?_;apply z;clear z K)
  (refine sV U4 λK z=>?_;refine ci (Du he) ?_;apply z;clear z K)
  refine sC (hf d O e) U4 ?_;refine A0.cond rfl (λE=>?_) (λE=>?_)
  .refine sR U4 ?_;simp only[Js]at E;rw[E,C3]at J;rw[<-J];exact aR
  simp only[S7]at E;rw[E,Cj]at J;refine A0.kk (L _ _ ?_);clear L K2;refine lT U4 ?_;exact⟨(),J,sS,sB⟩
def F7k(a b:A3)(h:a.Sm):Aa prog 299 [Cy a,Cy b] (Aw (Nr a b)):=by
 have I:=G2m 321 S4 a.A1 b.A1 h.A1.1 (λx L y=>H0o x y (h.A1.2 x L));have J:=G2f 323 Rx a.params b.params h.params.1 (λx L y=>F8b x y (h.params.2 x L));have hr:=B8n a.result b.result h.result;unfold Nr;refine cB func299 ?_;refine sR [0,1,2,3,4] ?_;by_cases E:a.name=b.name
 .rcases Eu (Fi S4 a.A1 b.A1)with h3|h3
  .rw[h3]at I;rcases Eu (Fi Rx a.params b.params)with h4|h4
   .rw[h4]at J
    (refine sQ [0,1,2,3,4] λK z=>?_;refine Ap E ?_;refine cc I ?_;refine cc J ?_;refine cc hr ?_;apply z;clear z K)
    rw[Bj E,h3,h4,Cj,Cj,Cj];exact aR
   .rw[h4]at J
    (refine sQ [0,1,2,3,4] λK z=>?_;refine Ap E ?_;refine cc I ?_;refine cc J ?_;apply z;clear z K)
    rw[h4,Rc,C3];exact aR
  .rw[h3]at I
   (refine sQ [0,1,2,3,4] λK z=>?_;refine Ap E ?_;refine cc I ?_;apply z;clear z K)
   rw[h3,Rc,C3,C3];exact aR
 .refine Ak E [0,1,2,3,4] ?_;rw[C9 E,C3,C3,C3];exact aR
def G8m(a b:A3)(h:a.Sm)(E:b.Sm):Aa prog 241 [Cy a,Cy b] (Aw (Nr a.canon b.canon)):=by
 have hs:=F7k a.canon b.canon h.canon;refine cB func241 ?_;refine sR [0,1,2,3,4] ?_
 (refine sG [0,1,2,3,4] [] 3 [] λK z=>?_;refine ev ?_;refine cc (B8b a h) ?_;refine cc (B8b b E) ?_;refine cc hs ?_;apply z;clear z K)
 exact aR
abbrev Tc:List Nat:=[0,1,2,6,7,12,16,43,71]
def H2f(l m:List Ah)(hl:l.length<=sm)(hs:∀x,x∈l->x.bound.Lm) :
  Aa prog 185 [.d (.slice (Ag l)),.d (.slice (Ag m)),Aw false] (Aw (Fi S4 l m)):=by
 refine cB func185 ?_;refine sR Tc ?_;refine kR Tc λK1 L=>?_;refine A0.N2 rfl L (λJ=>?_) (λJ=>?_)
 .refine sR Tc ?_;have:Fi S4 l m=false:=by
   cases h:Fi S4 l m with
   |false=>rfl
   |true=>have:=B2n h;simp[this]at J
  rw[this];exact aR
 clear L K1;have a2:l.length=m.length:=by
  have:(l.length:Int)=m.length:=by simpa using J
  omega
 refine kR Tc λK1 L=>?_;refine A0.bb (A0.ii l (X:=Unit) (λj _=>[(0,.d (.slice (Ag l))),(1,.d (.slice (Ag m))),(2,Aw false),(7,A5 j)]) (λ_ _=>[])
  (λj _=>Fi S4 (l.drop j) (m.drop j)=Fi S4 l m) () (by simp) sS sB ?_ ?_)
 .intro _ I;refine Ai B3 Tc λW E=>?_;refine A0.ss rfl ?_;simp only[A4,Ac,Af];refine L _ _<|sR Tc ?_;rw[Db,a2,Db]at I;rw[<-I];exact aR
 .intro j _ d hd U dp tk Z I;obtain⟨e,he,a0⟩:=A5x (l:=m) (j:=j) (by omega);rw[dp,a0,Fi,S4]at I;refine Ai Z Tc λW E=>?_;refine gI E ?_;clear E W;refine sK λW E=>A0.bb<|sK λK3 O=>?_;by_cases V:d.name=e.name
  .have a1:=A8d d.bound e.bound (hs d U)
   (refine sG Tc [] 22 [] λK z=>?_;refine ev ?_;refine⟨by omega,_,F4 hd,rfl,?_⟩;(try refine Ap V ?_);refine ci (F4 he) ?_;refine⟨by omega,_,F4 hd,rfl,?_⟩;(try refine Ap V ?_);refine ci (F4 he) ?_;refine cc a1 ?_;apply z;clear z K)
   rw[Bj V,Cj]at I;refine A0.N2 rfl O (λJ=>?_) (λJ=>?_)
   .refine sR Tc ?_;simp only[Js]at J;rw[J,C3]at I;rw[<-I];exact aR
   clear O K3;simp only[S7]at J;rw[J,Cj]at I;refine dR Tc 24 ?_;refine A0.ff rfl (A0.kk (E _ _ ?_));clear E W;refine lT Tc ?_;exact⟨(),I,sS,sB⟩
  ·(refine sG Tc [] 22 [] λK z=>?_;refine ev ?_;refine ci (F4 hd) ?_;refine⟨by omega,_,F4 he,rfl,?_⟩;(try refine Ap V ?_);apply z;clear z K)
   refine tI ?_;refine sR Tc ?_;rw[C9 V,C3,C3]at I;rw[<-I];exact aR
abbrev T5:List Nat:=[0,1,2,6,7,12,16,43,71]
def F3v(l m:List Param)(hl:l.length<=sm)(hs:∀x,x∈l->x.type.Lm) :
  Aa prog 186 [.d (.slice (Av l)),.d (.slice (Av m)),Aw false] (Aw (Fi Rx l m)):=by
 refine cB func186 ?_;refine sR T5 ?_;refine kR T5 λK1 L=>?_;refine A0.N2 rfl L (λJ=>?_) (λJ=>?_)
 .refine sR T5 ?_;have:Fi Rx l m=false:=by
   cases h:Fi Rx l m with
   |false=>rfl
   |true=>have:=B2n h;simp[this]at J
  rw[this];exact aR
 clear L K1;have a2:l.length=m.length:=by
  have:(l.length:Int)=m.length:=by simpa using J
  omega
 refine kR T5 λK1 L=>?_;refine A0.bb (A0.ii l (X:=Unit) (λj _=>[(0,.d (.slice (Av l))),(1,.d (.slice (Av m))),(2,Aw false),(7,A5 j)]) (λ_ _=>[])
  (λj _=>Fi Rx (l.drop j) (m.drop j)=Fi Rx l m) () (by simp) sS sB ?_ ?_)
 .intro _ I;refine Ai B3 T5 λW E=>?_;refine A0.ss rfl ?_;simp only[A4,Ac,Af];refine L _ _<|sR T5 ?_;rw[Db,a2,Db]at I;rw[<-I];exact aR
 .intro j _ d hd U dp tk Z I;obtain⟨e,he,a0⟩:=A5x (l:=m) (j:=j) (by omega);rw[dp,a0,Fi,Rx]at I;refine Ai Z T5 λW E=>?_;refine gI E ?_;clear E W;refine sK λW E=>A0.bb<|sK λK3 O=>?_;by_cases V:d.name=e.name
  .have a1:=A8d d.type e.type (hs d U)
   (refine sG T5 [] 22 [] λK z=>?_;refine ev ?_;refine⟨by omega,_,Du hd,rfl,?_⟩;(try refine Ap V ?_);refine ci (Du he) ?_;refine⟨by omega,_,Du hd,rfl,?_⟩;(try refine Ap V ?_);refine ci (Du he) ?_;refine cc a1 ?_;apply z;clear z K)
   rw[Bj V,Cj]at I;refine A0.N2 rfl O (λJ=>?_) (λJ=>?_)
   .refine sR T5 ?_;simp only[Js]at J;rw[J,C3]at I;rw[<-I];exact aR
   clear O K3;simp only[S7]at J;rw[J,Cj]at I;refine dR T5 24 ?_;refine A0.ff rfl (A0.kk (E _ _ ?_));clear E W;refine lT T5 ?_;exact⟨(),I,sS,sB⟩
  ·(refine sG T5 [] 22 [] λK z=>?_;refine ev ?_;refine ci (Du hd) ?_;refine⟨by omega,_,Du he,rfl,?_⟩;(try refine Ap V ?_);apply z;clear z K)
   refine tI ?_;refine sR T5 ?_;rw[C9 V,C3,C3]at I;rw[<-I];exact aR
structure A3.Lm(s:A3):Prop where
 A1:s.A1.length<=sm/\∀f,f∈s.A1->f.bound.Lm
 params:s.params.length<=sm/\∀f,f∈s.params->f.type.Lm
 result:s.result.Lm
def A3.Sm.lm{s:A3}(h:s.Sm):s.Lm:=⟨⟨h.A1.1,λf E=>(h.A1.2 f E).bound.lm⟩,⟨h.params.1,λf E=>(h.params.2 f E).type.lm⟩,h.result.lm⟩
abbrev W6:List Nat:=[0,1,2,3,4,6,37]
def E3b(a b:A3)(h:a.Lm):Aa prog 121 [Cy a,Cy b,Aw false] (Aw (Nr a b)):=by
 have I:=H2f a.A1 b.A1 h.A1.1 h.A1.2;have J:=F3v a.params b.params h.params.1 h.params.2;have hr:=A8d a.result b.result h.result;unfold Nr;refine cB func121 ?_;refine sR W6<|sK λO L=>?_;by_cases E:a.name=b.name
 .rcases Eu (Fi S4 a.A1 b.A1)with h3|h3
  .rw[h3]at I;rcases Eu (Fi Rx a.params b.params)with h4|h4
   .rw[h4]at J;rcases Eu (Pn a.result b.result)with h5|h5
    .rw[h5]at hr
     (refine sQ W6 λK z=>?_;refine Ap E ?_;refine cc I ?_;refine cc J ?_;refine cc hr ?_;apply z;clear z K)
     refine kI L ?_;refine sR W6 ?_;rw[Bj E,h3,h4,h5];exact aR
    .rw[h5]at hr
     (refine sQ W6 λK z=>?_;refine Ap E ?_;refine cc I ?_;refine cc J ?_;refine cc hr ?_;apply z;clear z K)
     refine tI ?_;refine sR W6 ?_;rw[h5,Rc];exact aR
   .rw[h4]at J
    (refine sQ W6 λK z=>?_;refine Ap E ?_;refine cc I ?_;refine cc J ?_;apply z;clear z K)
    refine tI ?_;refine sR W6 ?_;rw[h4,Rc,C3];exact aR
  .rw[h3]at I
   (refine sQ W6 λK z=>?_;refine Ap E ?_;refine cc I ?_;apply z;clear z K)
   refine tI ?_;refine sR W6 ?_;rw[h3,Rc,C3,C3];exact aR
 .refine Ak E W6 ?_;refine tI ?_;refine sR W6 ?_;rw[C9 E,C3,C3,C3];exact aR
def G4e(a b:A3)(h:a.Sm):Aa prog 121 [Cy a,Cy b,Aw false] (Aw (Nr a b)):=E3b a b h.lm
def F6z(a b:A3)(h:a.Sm)(E:b.Sm):Aa prog 92 [Cy a,Cy b] (Aw (Nr a.canon b.canon)):=by
 have hs:=G4e a.canon b.canon h.canon;refine cB func92 ?_;refine sR [0,1,2,3,4] ?_
 (refine sG [0,1,2,3,4] [] 3 [] λK z=>?_;refine ev ?_;refine cc (B1s a h) ?_;refine cc (B1s b E) ?_;refine cc hs ?_;apply z;clear z K)
 exact aR
def Fk(nm m:A2)(d:Decl):Bool:=decide (d.kind=3) && decide (d.name=nm) && decide (d.sig.name=m)
def N1(p:Prog)(nm m:A2):Int:=Dr (Fk nm m) p.decls
theorem N4{α:Type}(q:α->Bool)(l:List α):(Dr q l = -1/\∀x,x∈l->q x=false)\/∃(j:Nat)(x:α),Dr q l=j/\l[j]?=some x/\q x=true:=by
 unfold Dr;cases h:l.findIdx? q with
 |none=>exact .inl ⟨rfl,by simpa [Ao1]using h⟩
 |some j =>obtain⟨I,E,_⟩:=Ah1.1 h;exact .inr ⟨j,l[j],rfl,Bi I,E⟩
abbrev Wh:List Nat:=[0,1,2,3,6,7,12,42]
def E0c(p:Prog)(hl:p.decls.length<=sm)(nm m:A2):Aa prog 142 [Ct p,Bm nm,Bm m] (A5 (N1 p nm m)):=by
 unfold N1;refine cB func142 ?_;refine sR Wh ?_;refine kR Wh λK1 W=>?_;refine A0.bb (A0.ii p.decls (X:=Unit) (λj _=>[(1,Bm nm),(2,Bm m),(3,.box 3 0),(7,A5 j)]) (λ_ _=>[(3,.cells ((Aj p).map .d))])
  (λj _=>∀y,y∈p.decls.take j->Fk nm m y=false) () (by simp) sS (by simp[ble,A7,Aj]) ?_ ?_)
 .intro _ U;rw[Ci]at U;refine Ai B3 Wh λV E=>?_;refine A0.ss rfl ?_;simp only[A4,Ac,Af];refine W _ _<|sR Wh ?_;rw[Tg U];exact aR
 .intro j _ d hd a0 dp tk Z U;refine Ai Z Wh λV E=>?_;refine gI E ?_;clear E V;refine sK λV E=>A0.bb ?_;have L:∀sl bx,Fk nm m d=false->Ae sl 1=Bm nm->Ae sl 2=Bm m->Ae sl 3=.box 3 0->Ae sl 7=A5 j->A7 bx 3=some (.cells ((Aj p).map .d))->V sl bx:=λsl bx hk g1 g2 g3 g4 g5=>by
   refine E _ _<|A0.ww (sl':=[(1,Bm nm),(2,Bm m),(3,.box 3 0),(7,A5 j)]) (bx':=[(3,.cells ((Aj p).map .d))]) (by simp[sle,Ay,g1,g2,g3,g4]) (by simp[ble,g5]) ?_;refine lT Wh ?_;refine⟨(),?_,sS,(by simp[ble,A7,Aj])⟩;rw[tk];intro y hy;rcases Bz.1 hy with hy|hy
   .exact U y hy
   .simp only[B1,E5,Ea]at hy;rw[hy];exact hk
  by_cases I:d.kind=3
  .by_cases J:d.name=nm
   .by_cases O:d.sig.name=m
    ·(refine sV Wh λK z=>?_;refine⟨by omega,_,Dx hd,rfl,?_⟩;(try refine ev3 I J O ?_);refine⟨by omega,_,Dx hd,rfl,?_⟩;(try refine ev3 I J O ?_);refine⟨by omega,_,Dx hd,rfl,?_⟩;(try refine ev3 I J O ?_);apply z;clear z K)
     refine A0.tt rfl<|sR Wh ?_;rw[Tt hd (by simp[Fk,I,J,O]) U];exact aR
    ·(refine sV Wh λK z=>?_;refine⟨by omega,_,Dx hd,rfl,?_⟩;(try refine Fm I J ?_);refine⟨by omega,_,Dx hd,rfl,?_⟩;(try refine Fm I J ?_);refine⟨by omega,_,Dx hd,rfl,?_⟩;(try refine ev3 I J O ?_);apply z;clear z K)
     refine A0.ff rfl (A0.kk (L _ _ (by simp[Fk,O]) rfl rfl rfl rfl rfl))
   ·(refine sV Wh λK z=>?_;refine⟨by omega,_,Dx hd,rfl,?_⟩;(try refine Ap I ?_);refine⟨by omega,_,Dx hd,rfl,?_⟩;(try refine Fm I J ?_);apply z;clear z K)
    refine A0.ff rfl (A0.kk (L _ _ (by simp[Fk,J]) rfl rfl rfl rfl rfl))
  ·(refine sV Wh λK z=>?_;refine⟨by omega,_,Dx hd,rfl,?_⟩;(try refine Ap I ?_);apply z;clear z K)
   refine A0.ff rfl (A0.kk (L _ _ (by simp[Fk,I]) rfl rfl rfl rfl rfl))
def Kb(p:Prog)(x:Ty)(m:A2):Int:=if Bh p x 1=true then(match p.decls[(N1 p x.name m).toNat]? with
 |some d=>if 0<=N1 p x.name m/\d.vars.length=x.args.length then N1 p x.name m else -1
 |none=>-1)else -1
abbrev Xi:List Nat:=[0,1,2,3,4,6,7,33]
def C4u(p:Prog)(Z:p.decls.length<=sm)(x:Ty)(m:A2):Aa prog 72 [Ct p,B7 x,Bm m] (A5 (Kb p x m)):=by
 have V:=E0c p Z x.name m;have J:=A2u p x 1;unfold Kb;have W:=N4 (Fk x.name m) p.decls;unfold N1 at*;generalize Dr (Fk x.name m) p.decls=k at*;refine cB func72 ?_;refine sR Xi ?_;refine sC V Xi ?_;rcases Eu (Bh p x 1)with h1|h1
 .rw[h1]at J;rw[A8 h1];rcases W with⟨rfl,_⟩|⟨j,d,rfl,hd,_⟩
  .refine sK λO E=>?_
   (refine sG Xi [] 19 [] λK z=>?_;refine ev ?_;refine cc J ?_;apply z;clear z K)
   refine tI ?_;refine sR Xi ?_;have:(match p.decls[(-1:Int).toNat]? with
    |some d=>if 0<=(-1:Int)/\d.vars.length=x.args.length then(-1:Int)else -1
    |none=>-1) = -1:=by
    cases p.decls[(-1:Int).toNat]? with
    |none=>rfl
    |some d=>simp
   rw[this];exact aR
  .have L:¬(j:Int)<0:=by omega
   simp only[Je,hd];by_cases U:d.vars.length=x.args.length
   .have I:(d.vars.length:Int)=x.args.length:=by omega
    rw[A8 ⟨by omega,U⟩];refine sK λO E=>?_
    (refine sG Xi [] 19 [] λK z=>?_;refine ev ?_;refine⟨_,.inl ⟨_,rfl,J,rfl⟩,?_⟩;(try refine Ap L ?_);refine⟨by omega,_,Dx hd,rfl,?_⟩;(try refine Ap I ?_);apply z;clear z K)
    refine kI E ?_;refine sR Xi ?_;exact aR
   .have I:¬(d.vars.length:Int)=x.args.length:=by omega
    rw[A6 (λh=>U h.2)];refine sK λO E=>?_
    (refine sG Xi [] 19 [] λK z=>?_;refine ev ?_;refine⟨_,.inl ⟨_,rfl,J,rfl⟩,?_⟩;(try refine Ap L ?_);refine⟨by omega,_,Dx hd,rfl,?_⟩;(try refine Ap I ?_);apply z;clear z K)
    refine tI ?_;refine sR Xi ?_;exact aR
 .rw[h1]at J;rw[A6 (by rw[h1];decide)];refine sK λO E=>?_
  (refine sG Xi [] 19 [] λK z=>?_;refine ev ?_;refine cc J ?_;apply z;clear z K)
  refine tI ?_;refine sR Xi ?_;exact aR
def Ii(p:Prog)(x:Ty)(d:Decl)(i:Nat):Bool:=decide (d.kind=3) && decide (d.name=x.name) && decide (Kb p x d.sig.name=(i:Int))
def Gk(p:Prog)(x:Ty)(j:Nat):List A3:=((p.decls.take j).zipIdx.filter λE=>Ii p x E.1 E.2).map λE=>E.1.sig.canon.subst E.1.vars x.args
def C2u{p:Prog}{x:Ty}{j:Nat}{d:Decl}(I:j<p.decls.length)(ht:p.decls.take (j+1)=p.decls.take j++[d]):Gk p x (j+1)=Gk p x j++if Ii p x d j=true then[d.sig.canon.subst d.vars x.args]else[]:=by
 unfold Gk;have E:(p.decls.take j).length=j:=by rw[D4];omega
 rw[ht,List.zipIdx_append,Ap4,G0,E]
 congr 1
 simp only[Au5,List.zipIdx_nil,Ky,Aq8,Ar5];split <;> simp_all
def A8h(p:Prog)(x:Ty)(j:Nat):(Gk p x j).length<=j:=by unfold Gk;rw[Bc];refine Cp (An9 ..) ?_;rw[List.length_zipIdx,D4];omega
abbrev S5:List Nat:=[0,1,2,3,4,5,6,7,12,39]
def G2u(p:Prog)(h:p.Sm)(x:Ty)(hx:x.Sm):C8 prog 94 [Ct p,B7 x] [] (.acc 5) [(5,.rows 7 (B0 (Gk p x p.decls.length)))]:=by
 have hl:=h.decls.1;refine bB func94 ?_;refine sR S5 ?_;refine sR S5 ?_;refine A0.pp 5 7 5 rfl<|kR S5 λK1 a0=>?_;refine A0.bb (A0.ii p.decls (X:=Unit) (λj _=>[(2,.box 2 0),(3,.box 3 0),(5,.acc 5),(6,A5 j)]) (λj _=>[(2,.cells ((Aj p).map .d)),(3,.cells ((Bo x).map .d)),(5,.rows 7 (B0 (Gk p x j)))])
  (λj _=>True) () trivial sS (by simp[ble,A7,Gk,B0,Aj,Bo]) ?_ ?_)
 .intro _ _;refine Ai B3 S5 λU I=>?_;refine A0.ss rfl ?_;simp only[A4,Ac,Af];refine a0 _ _<|sR S5 ?_;exact A0.ret ⟨_,by rw[results94];rfl,.inl rfl,by simp[ble,A7]⟩
 .intro j _ d hd W dp tk a1 hI;have a2:=A8h p x j;have E:=C2u (x:=x) (by omega) tk;have Z:=h.decls.2 d W;have V:=C4u p hl x d.sig.name;refine Ai a1 S5 λU I=>?_;refine gI I ?_;clear I U;refine sK λU I=>A0.bb ?_
  (refine sV S5 λK z=>?_;refine ci (Dx hd) ?_;apply z;clear z K)
  have J:∀sl bx,Ii p x d j=false->Ae sl 2=.box 2 0->Ae sl 3=.box 3 0->Ae sl 5=.acc 5->Ae sl 6=A5 j->A7 bx 2=some (.cells ((Aj p).map .d))->A7 bx 3=some (.cells ((Bo x).map .d))->A7 bx 5=some (.rows 7 (B0 (Gk p x j)))->U sl bx:=λsl bx hk g1 g2 g3 g4 g5 g6 g7=>by refine I _ _ ?_;refine A0.ww (sl':=[(2,.box 2 0),(3,.box 3 0),(5,.acc 5),(6,A5 j)]) (bx':=[(2,.cells ((Aj p).map .d)),(3,.cells ((Bo x).map .d)),(5,.rows 7 (B0 (Gk p x j)))]) (by simp[sle,Ay,g1,g2,g3,g4]) (by simp[ble,g5,g6,g7]) ?_;refine lT S5 ?_;rw[hk,A6 (by decide),Fj]at E;exact⟨(),trivial,sS,by simp[ble,A7,E,Aj,Bo]⟩
  by_cases L:d.kind=3
  .by_cases O:d.name=x.name
   .by_cases h3:Kb p x d.sig.name=(j:Int)
    ·(refine sQ S5 λK z=>?_;refine Fm L O ?_;refine⟨_,.inl ⟨_,rfl,V,rfl⟩,?_⟩;(try refine Ap h3 ?_);apply z;clear z K)
     refine A0.tt rfl ?_;have hk:Ii p x d j=true:=by simp[Ii,L,O,h3]
     rw[hk,A8 rfl]at E
     (refine lG S5 [] 10 [] λK z=>?_;refine ev ?_;refine cc (B1s d.sig Z.sig) ?_;refine cc (E0e d.vars x.args hx.arg _ Z.sig.canon) ?_;refine⟨by simp,by unfold lim sm at*;omega,?_⟩;(try refine ev ?_);apply z;clear z K;try simp only[A4,Ac])
     refine I _ _ ?_;clear I U J;refine lT S5 ?_;exact⟨(),trivial,sS,by simp[ble,A7,E,B0,Dd,Aj,Bo]⟩
    ·(refine sQ S5 λK z=>?_;refine Fm L O ?_;refine⟨_,.inl ⟨_,rfl,V,rfl⟩,?_⟩;(try refine Ap h3 ?_);apply z;clear z K)
     refine A0.ff rfl (A0.kk (J _ _ (by simp[Ii,h3]) rfl rfl rfl rfl rfl rfl rfl))
   .refine Ei L O S5 ?_;refine A0.ff rfl (A0.kk (J _ _ (by simp[Ii,O]) rfl rfl rfl rfl rfl rfl rfl))
  .refine Ak L S5 ?_;refine A0.ff rfl (A0.kk (J _ _ (by simp[Ii,L]) rfl rfl rfl rfl rfl rfl rfl))
def D2k(l:List Lit):∀(ds:List Decl)(i:Nat),V3 l ds i=(ds.findIdx? λd=>match M6 d with|some I=>decide (l=I.lits)|none=>false).map λj=>D.int .i64 ((i+j:Nat):Int)
 |[],i=>rfl
 |d::ds,i=>by
  rw[V3,List.findIdx?_cons,D2k l ds (i+1)];have E:∀o:Option Nat,(o.map λj=>D.int .i64 ((i+1+j:Nat):Int))=(o.map (·+1)).map λj=>D.int .i64 ((i+j:Nat):Int):=λo=>by
   cases o with
   |none=>rfl
   |some j=>simp only[Ez,B5,D.int.injEq,Qi];congr 1;omega
  cases J:M6 d with
  |none=>simp only[A6 (show ¬(false=true) by decide)];exact E _
  |some k =>
   simp only;by_cases h:l=k.lits
   .simp[h]
   .simp only[h,Fx,Ar1];exact E _
def G8e(nm m:A2):(λd:Decl=>match M6 d with|some J=>decide ((Hg nm (46::m)).lits=J.lits)|none=>false)=Fk nm m:=by
 funext d;unfold M6 Fk;by_cases I:d.kind=1\/d.kind=2
 .rw[A8 I];have L:¬d.kind=3:=by omega
  simp[L,Hg,D.lits,D.lit]
 .rw[A6 I];by_cases E:d.kind=3
  .rw[A8 E];have e:((Hg nm (46::m)).lits=(Hg d.name (46::d.sig.name)).lits)↔(d.name=nm/\d.sig.name=m):=by
    simp only[Hg,D.lits,D.lit,Ck,G3,Z2,Lit.string.injEq,Sn,Qi];exact⟨λh=>⟨h.1.symm,h.2.symm⟩,λh=>⟨h.1.symm,h.2.symm⟩⟩
   simp only[E,Va,Cj,e,Bool.decide_and]
  .rw[A6 E];simp[E]
def E9z(p:Prog)(nm m:A2):(N1 p nm m = -1/\F9 (Hg nm (46::m)).lits (Qo p) 0=none)\/∃(j q:Nat),N1 p nm m=j/\F9 (Hg nm (46::m)).lits (Qo p) 0=some (q,.int .i64 j):=by
 have E:P6 (Hg nm (46::m)).lits (Qo p)=V3 (Hg nm (46::m)).lits p.decls 0:=by unfold Qo;rw[C7i];rfl
 rw[D2k,G8e]at E;unfold P6 at E;unfold N1 Dr;cases I:p.decls.findIdx? (Fk nm m)with
 |none =>rw[I]at E;exact .inl ⟨rfl,by simpa using E⟩
 |some j =>
  rw[I]at E;refine .inr ⟨j,?_⟩;cases J:F9 (Hg nm (46::m)).lits (Qo p) 0 with
  |none=>rw[J]at E;simp at E
  |some L =>obtain⟨q,d⟩:=L;rw[J]at E;simp only[Ez,B5,Ky]at E;exact⟨q,rfl,by rw[E]⟩
def G8d{p:Prog}{x:Ty}{d:Decl}{j:Nat}(V:Bh p x 1=true)(hd:p.decls[j]?=some d):Ii p x d j=(decide (N1 p x.name d.sig.name=(j:Int)) && decide (d.vars.length=x.args.length)):=by
 unfold Ii Kb;rw[A8 V];unfold N1;rcases N4 (Fk x.name d.sig.name) p.decls with⟨I,_⟩|⟨k,e,I,L,O⟩
 .rw[I];have E:¬(-1:Int)=(j:Int):=by omega
  have:(match p.decls[(-1:Int).toNat]? with
    |some d=>if 0<=(-1:Int)/\d.vars.length=x.args.length then(-1:Int)else -1
    |none=>-1) = -1:=by
    cases p.decls[(-1:Int).toNat]? with
    |none=>rfl
    |some d=>simp
  rw[this];simp[E]
 .rw[I];simp only[Je,L];by_cases U:k=j
  .subst U;rw[L]at hd;simp only[B5]at hd;subst hd;simp only[Fk,Bb,Dp]at O;by_cases J:e.vars.length=x.args.length
   .simp[O,J]
   .have E:¬(-1:Int)=(k:Int):=by omega
    simp[J,E]
  .have E:¬(k:Int)=(j:Int):=by omega
   by_cases J:e.vars.length=x.args.length
   .simp[J,E]
   .have I:¬(-1:Int)=(j:Int):=by omega
    simp[J,E,I]
theorem D6p{p:Prog}{x:Ty}(E:¬Bh p x 1=true)(j:Nat):Gk p x j=[]:=by
 unfold Gk;rw[Ar0,List.filter_eq_nil_iff];rintro⟨d,i⟩ _;simp only[Ii,Kb,A6 E];have I:¬(-1:Int)=(i:Int):=by omega
 simp[I]
abbrev Lq:List Nat:=[0,1,3,4,6,7,8,9,10,11,19,24,25,26,27,60]
def G7a(p:Prog)(h:p.Sm)(x:Ty)(hx:x.Sm):C8 prog 100 [.A9 (Dh p) 0,B7 x] [] (.acc 7) [(7,.rows 7 (B0 (Gk p x p.decls.length)))]:=by
 have hl:=h.decls.1;have L:=C1h p h x 1 (by decide);generalize(F7 p x.name).getD default=dd at*;refine bB func100 ?_;refine sR Lq ?_;rcases Eu (Bh p x 1)with hi|hi
 .rw[hi]at L;refine kC L Lq λK1 I=>?_;refine sR Lq ?_;refine kI I ?_;clear I K1;refine sR Lq ?_;refine A0.pp 7 7 7 rfl<|sK λK1 I=>?_
  (refine sQ Lq λK z=>?_;simp -implicitDefEqProofs only[EV,Nat.reduceEqDiff,Nat.reduceBEq,reduceCtorEq,A1z,Xz,B1q,Dh];apply z;clear z K)
  refine A0.bb (A0.ii p.decls (X:=Unit) (λj _=>[(0,.A9 (Dh p) 0),(3,.box 3 0),(7,.acc 7),(24,.d (.slice (C1 p.decls))),(25,A5 p.decls.length),(26,A5 j)]) (λj _=>[(3,.cells ((Bo x).map .d)),(7,.rows 7 (B0 (Gk p x j)))])
   (λj _=>True) () trivial (by simp[sle,Ay,Ae,Dh,Aj]) (by simp[ble,A7,Gk,B0,Bo]) ?_ ?_)
  .intro _ _;refine Ak B3 Lq ?_;refine A0.stop rfl ?_;simp only[A4,Ac,Af];refine I _ _<|sR Lq ?_;exact A0.ret ⟨_,by rw[results100];rfl,.inl rfl,by simp[ble,A7]⟩
  .intro j _ d hd a1 dp tk a2 hI;have a3:=A8h p x j;have E:=C2u (x:=x) (by omega) tk;have W:=h.decls.2 d a1;have hb:=G8d hi hd;refine Ak a2 Lq ?_;refine A0.Er rfl<|sK λK2 U=>A0.bb ?_
   (refine sV Lq λK z=>?_;refine ci (Dx hd) ?_;apply z;clear z K)
   have a4:=W.sig.name;have Z:=B3s B3p x.name (46::d.sig.name) (Cp hx.name (by decide)) (by simp only[Bg];unfold sm lim at*;omega);have a0:=E9z p x.name d.sig.name;unfold Hg at Z a0
   (refine sG Lq [] 16 [] λK z=>?_;simp -implicitDefEqProofs only[EV,Nat.reduceAdd,Nat.reduceEqDiff,Nat.reduceLeDiff,reduceCtorEq,Ka,Iw,Qb,R8,C2b,B1q,B7x,Dh];refine⟨by unfold sm lim at*;omega,D3a p h,Z,?_⟩;apply z;clear z K)
   have O:∀sl bx,Ii p x d j=false->Ae sl 0=.A9 (Dh p) 0->Ae sl 3=.box 3 0->Ae sl 7=.acc 7->Ae sl 24=.d (.slice (C1 p.decls))->Ae sl 25=A5 p.decls.length->Ae sl 26=A5 j->A7 bx 3=some (.cells ((Bo x).map .d))->A7 bx 7=some (.rows 7 (B0 (Gk p x j)))->K2 sl bx:=λsl bx Z g1 g2 g3 g4 g5 g6 g7 g8=>by refine U _ _ ?_;refine A0.ww (sl':=[(0,.A9 (Dh p) 0),(3,.box 3 0),(7,.acc 7),(24,.d (.slice (C1 p.decls))),(25,A5 p.decls.length),(26,A5 j)]) (bx':=[(3,.cells ((Bo x).map .d)),(7,.rows 7 (B0 (Gk p x j)))]) (by simp[sle,Ay,g1,g2,g3,g4,g5,g6]) (by simp[ble,g7,g8]) ?_;refine lT Lq ?_;rw[Z,A6 (by decide),Fj]at E;exact⟨(),trivial,(by simp[sle,Ay,Ae,Dh,Aj]),by simp[ble,A7,E,Bo]⟩
   rcases a0 with⟨m1,m2⟩|⟨k,q,m1,m2⟩
   .have h0:¬(-1:Int)=(j:Int):=by omega
    simp only[U5,m2,Sk];refine sR Lq ?_;refine A0.ff rfl (A0.kk (O _ _ (by rw[hb,m1];simp[h0]) rfl rfl rfl rfl rfl rfl rfl rfl))
   .simp only[U5,m2,ofD,Ar3];by_cases J:(k:Int)=(j:Int)
    .by_cases hv:d.vars.length=x.args.length
     .have V:(d.vars.length:Int)=x.args.length:=by omega
      refine Ei J V Lq ?_;refine A0.tt rfl ?_;have Z:Ii p x d j=true:=by rw[hb,m1];simp[J,hv]
      rw[Z,A8 rfl]at E
      (refine lG Lq [] 10 [] λK z=>?_;refine ev ?_;refine cc (B8b d.sig W.sig) ?_;refine cc (E6h d.vars x.args hx.arg _ W.sig.canon) ?_;refine⟨by simp,by unfold lim sm at*;omega,?_⟩;(try refine ev ?_);apply z;clear z K;try simp only[A4,Ac])
      refine U _ _ ?_;clear U K2 O;refine lT Lq ?_;exact⟨(),trivial,(by simp[sle,Ay,Ae,Dh,Aj]),by simp[ble,A7,E,B0,Dd,Bo]⟩
     .have V:¬(d.vars.length:Int)=x.args.length:=by omega
      refine Ei J V Lq ?_;refine A0.ff rfl (A0.kk (O _ _ (by rw[hb,m1];simp[hv]) rfl rfl rfl rfl rfl rfl rfl rfl))
    .refine Ak J Lq ?_;refine A0.ff rfl (A0.kk (O _ _ (by rw[hb,m1];simp[J]) rfl rfl rfl rfl rfl rfl rfl rfl))
 .rw[hi]at L;refine kC L Lq λK1 I=>?_;refine sR Lq ?_;refine tI ?_;refine sR Lq ?_;rw[D6p (by rw[hi];decide)];refine A0.pp 7 7 4 rfl<|A0.ret ⟨_,by rw[results100];rfl,.inl rfl,by simp[ble,A7,B0]⟩
def G6(l:List A2):List (D × D):=l.map λs=>(.str s,.bool true)
def Rw(l:List A2)(s:A2):List A2:=if s∈l then l else l++[s]
def B3c(s:A2):∀(l:List A2)(i:Nat),(s∈l->∃j,l[j]?=some s/\F9 (D.str s).lits (G6 l) i=some (i+j,.bool true))/\(s∉l->F9 (D.str s).lits (G6 l) i=none)
 |[],i=>by simp[G6,F9]
 |x::l,i=>by
  have J:=B3c s l (i+1);have U:G6 (x::l)=(.str x,.bool true)::G6 l:=rfl;rw[U];simp only[F9];by_cases E:s=x
  .subst E;refine⟨λ_=>⟨0,rfl,by simp⟩,λh=>absurd (Ar4 ..) h⟩
  .have I:¬(D.str s).lits=(D.str x).lits:=by simp[D.lits,D.lit,E]
   rw[A6 I];refine⟨λh=>?_,λh=>J.2 λO=>h (by simp[O])⟩;obtain⟨j,L,V⟩:=J.1 ((B1.1 h).resolve_left E);exact⟨j+1,by simpa using L,by rw[V];congr 2;omega⟩
def D4p(s:A2)(l:List A2):Wf (.str s) (.bool true) (G6 l)=G6 (Rw l s):=by
 unfold Wf Rw;by_cases h:s∈l
 .obtain⟨j,E,L⟩:=(B3c s l 0).1 h;rw[L,A8 h];have J:=(Az.1 E).1;have O:l[j]=s:=(Az.1 E).2;simp only[Ky];apply Ld;intro k;by_cases I:k=j
  .subst I;rw[List.getElem?_set_self (by simpa [G6]using J)];simp[G6,E]
  .rw[As9 (by omega)]
 .rw[(B3c s l 0).2 h,A6 h];simp[G6]
def E4f(s:A2)(l:List A2):U5 (.str s) (G6 l) (.d (.bool false))=Aw (decide (s∈l)):=by
 unfold U5;by_cases h:s∈l
 .obtain⟨j,I,E⟩:=(B3c s l 0).1 h;rw[E];simp[ofD,h]
 .rw[(B3c s l 0).2 h];simp[h]
def E3g{l:List A2}{s x:A2}:x∈Rw l s↔x=s\/x∈l:=by
 unfold Rw;split
 .constructor
  .exact .inr
  .rintro(rfl|h)
   .assumption
   .exact h
 .simp[or_comm]
def A9p(s:A2)(h:s.length<=lim):E7 prog 9 (.str s):=by have E:prog.underlying 9=some .string:=Ka.2.2.2.2.1;refine⟨rfl,by simp[D.kv,D.lit,Lit.value,Value.formed,E],?_⟩;simp[D.kv,D.lit,D.lits,Lit.value,Value.cells,Program.keyLits,E,ByteArray.size];unfold lim at h;unfold maxLen;omega
def C4i{l:List A2}(h:∀s,s∈l->s.length<=lim):∀kv,kv∈G6 l->E7 prog 9 kv.1:=by intro kv E;obtain⟨s,hs,rfl⟩:=Au.1 E;exact A9p s (h s hs)
def Ro(l:List A3):List A2:=l.foldl (λm s=>Rw m s.name) []
def E9n(l:List A3)(d:A3):Ro (l++[d])=Rw (Ro l) d.name:=by simp[Ro]
def G5w(l:List A3)(s:A2):∀m:List A2,s∈l.foldl (λm s=>Rw m s.name) m↔s∈m\/∃y,y∈l/\y.name=s:=by
 induction l with
 |nil=>simp
 |cons a l I =>
  intro m;rw[Lo,I,E3g];simp only[B1];constructor
  .rintro((rfl|h)|⟨y,h1,E⟩)
   .exact .inr ⟨a,.inl rfl,rfl⟩
   .exact .inl h
   .exact .inr ⟨y,.inr h1,E⟩
  .rintro(h|⟨y,rfl|h1,E⟩)
   .exact .inl (.inr h)
   .exact .inl (.inl E.symm)
   .exact .inr ⟨y,h1,E⟩
def E8e(l:List A3)(s:A2):s∈Ro l↔∃y,y∈l/\y.name=s:=by unfold Ro;rw[G5w];simp
def Pf(l:List A3)(s:A3)(i:Nat):Bool:=decide (∀y,y∈l.take i->y.name≠s.name)
def Hn(vars:List A2)(args:List Ty)(l:List A3)(j:Nat):List A3:=((l.take j).zipIdx.filter λE=>Pf l E.1 E.2).map λE=>E.1.canon.subst vars args
def C3m{vars:List A2}{args:List Ty}{l:List A3}{j:Nat}{d:A3}(I:j<l.length)(ht:l.take (j+1)=l.take j++[d]):Hn vars args l (j+1)=Hn vars args l j++if Pf l d j=true then[d.canon.subst vars args]else[]:=by
 unfold Hn;have E:(l.take j).length=j:=by rw[D4];omega
 rw[ht,List.zipIdx_append,Ap4,G0,E]
 congr 1
 simp only[Au5,List.zipIdx_nil,Ky,Aq8,Ar5];split <;> simp_all
def B5d(vars:List A2)(args:List Ty)(l:List A3)(j:Nat):(Hn vars args l j).length<=j:=by unfold Hn;rw[Bc];refine Cp (An9 ..) ?_;rw[List.length_zipIdx,D4];omega
def Vm(d:Decl)(x:Ty):List A3:=Hn (Ad d.A1) x.args d.sigs d.sigs.length
def Gs(p:Prog)(x:Ty):List A3:=if Bh p x 2=true then Vm ((F7 p x.name).getD default) x else[]
def Mm{p:Prog}{x:Ty}{k:Int}(J:k≠0)(h:Bh p x k=true):∃d,F7 p x.name=some d/\d.kind=k/\d.A1.length=x.args.length:=by
 unfold Bh at h;simp only[Bb,Dp]at h;cases E:F7 p x.name with
 |none=>have:=(C4t E).1;omega
 |some d =>obtain⟨L,I⟩:=C3w E;exact⟨d,rfl,by omega,by rw[<-I];exact h.2⟩
abbrev N9:List Nat:=[0,1,3,4,5,6,7,8,9,11,19,20,22,23,24,25,32]
def C9c(p:Prog)(h:p.Sm)(x:Ty)(hx:x.Sm):C8 prog 99 [.A9 (Dh p) 0,B7 x] [] (.tuple [.acc 8,Aw (Bh p x 2)]) [(8,.rows 7 (B0 (Gs p x)))]:=by
 have I:=C1h p h x 2 (by decide);unfold Gs;rcases Eu (Bh p x 2)with hi|hi
 .obtain⟨E,Z,_⟩:=Mm (by decide) hi;rw[hi]at I;rw[A8 hi,hi];rw[Z,Dz]at I |-;have L:=h.decls.2 E (P9 Z);have aa:=L.sigs.1;unfold Vm;refine bB func99 ?_;refine sR N9 ?_;refine sC I N9 ?_;refine kR N9 λK1 O=>?_;refine kI O ?_;clear O K1;refine sR N9 ?_;refine A0.pp 8 7 8 rfl<|sR N9 ?_;refine kR N9 λK1 O=>?_;refine A0.bb (A0.ii E.sigs (X:=Unit) (λj _=>[(3,.box 3 0),(6,.box 6 0),(8,.acc 8),(9,.mp 20),(22,.d (.slice (B0 E.sigs))),(23,A5 E.sigs.length),(24,A5 j)])
   (λj _=>[(3,.cells ((Bo x).map .d)),(6,.cells ((Ar E).map .d)),(8,.rows 7 (B0 (Hn (Ad E.A1) x.args E.sigs j))),(20,.map (G6 (Ro (E.sigs.take j))))])
   (λj _=>True) () trivial sS (by simp[ble,A7,Hn,B0,Ar,Bo,G6,Ro]) ?_ ?_)
  .intro _ _;refine Ak B3 N9 ?_;refine A0.stop rfl ?_;simp only[A4,Ac,Af];refine O _ _<|sR N9 ?_;exact A0.ret ⟨_,by rw[results99];rfl,.inl rfl,by simp[ble,A7]⟩
  .intro j _ d hd a2 dp tk a7 hI;have a':=B5d (Ad E.A1) x.args E.sigs j;have J:=C3m (vars:=Ad E.A1) (args:=x.args) (by omega) tk;have W:=L.sigs.2 d a2;have V:Ro (E.sigs.take (j+1))=Rw (Ro (E.sigs.take j)) d.name:=by rw[tk,E9n]
   have hk:E7 prog 9 (.str d.name):=A9p _ (Cp W.name (by decide));have a1:∀kv,kv∈G6 (Ro (E.sigs.take j))->E7 prog 9 kv.1:=C4i λs hs=>by obtain⟨y,hy,rfl⟩:=(E8e _ _).1 hs;exact Cp (L.sigs.2 y (Ji hy)).name (by decide)
   have U:Pf E.sigs d j = !decide (d.name∈Ro (E.sigs.take j)):=by unfold Pf;rw[Xm];simp[E8e]
   refine Ak a7 N9 ?_;refine A0.Er rfl<|sK λK2 a5=>A0.bb ?_
   (refine sV N9 λK z=>?_;refine ci (D1 hd) ?_;apply z;clear z K)
   refine sK λK3 a4=>?_
   (refine sQ N9 λK z=>?_;simp -implicitDefEqProofs only[EV,Nat.reduceEqDiff,reduceCtorEq,Ka,Qb,B1p,E4f];refine⟨a1,hk,?_⟩;apply z;clear z K)
   have a0:∀sl bx,Ae sl 3=.box 3 0->Ae sl 6=.box 6 0->Ae sl 8=.acc 8->Ae sl 9=.mp 20->Ae sl 11=.box 11 0->Ae sl 22=.d (.slice (B0 E.sigs))->Ae sl 23=A5 E.sigs.length->Ae sl 24=A5 j ->
     A7 bx 3=some (.cells ((Bo x).map .d))->A7 bx 6=some (.cells ((Ar E).map .d))->A7 bx 8=some (.rows 7 (B0 (Hn (Ad E.A1) x.args E.sigs (j+1))))->A7 bx 11=some (.cells (R7 d))->A7 bx 20=some (.map (G6 (Ro (E.sigs.take j))))->K3 sl bx:=λsl bx g1 g2 g3 g4 g5 g6 g7 g8 g9 a3 a6 a8 a9=>by
    refine a4 _ _<|A0.ww (sl':=[(3,.box 3 0),(6,.box 6 0),(8,.acc 8),(9,.mp 20),(11,.box 11 0),(22,.d (.slice (B0 E.sigs))),(23,A5 E.sigs.length),(24,A5 j)])
     (bx':=[(3,.cells ((Bo x).map .d)),(6,.cells ((Ar E).map .d)),(8,.rows 7 (B0 (Hn (Ad E.A1) x.args E.sigs (j+1)))),(11,.cells (R7 d)),(20,.map (G6 (Ro (E.sigs.take j))))]) (by simp[sle,Ay,g1,g2,g3,g4,g5,g6,g7,g8]) (by simp[ble,g9,a3,a6,a8,a9]) ?_
    (refine lQ N9 λK z=>?_;simp -implicitDefEqProofs only[EV,Nat.reduceEqDiff,reduceCtorEq,Ka,Qb,B1p,D4p];refine⟨a1,hk,?_⟩;apply z;clear z K;try simp only[A4,Ac])
    refine a5 _ _<|lT N9 ?_;exact⟨(),trivial,sS,by simp[ble,A7,V,Bo,Ar]⟩
   by_cases I:d.name∈Ro (E.sigs.take j)
   .rw[Bj I];refine A0.ff rfl (A0.kk (a0 _ _ rfl rfl rfl rfl rfl rfl rfl rfl rfl rfl (by rw[J,U,Bj I];simp[A7]) rfl rfl))
   .rw[C9 I];refine A0.tt rfl ?_;have hn:Pf E.sigs d j=true:=by rw[U,C9 I];rfl
    rw[hn,A8 rfl]at J
    (refine lG N9 [] 10 [] λK z=>?_;refine ev ?_;refine cc (B8b d W) ?_;refine cc (C1a E.A1 L.A1.1) ?_;refine cc (E6h (Ad E.A1) x.args hx.arg _ W.canon) ?_;refine⟨by simp,by unfold lim sm at*;omega,?_⟩;(try refine ev ?_);apply z;clear z K;try simp only[A4,])
    exact a0 _ _ rfl rfl rfl rfl rfl rfl rfl rfl rfl rfl (by rw[J];simp[A7,B0,Dd]) rfl rfl
 .rw[hi]at I;rw[A6 (by rw[hi];decide),hi];refine bB func99 ?_;refine sR N9 ?_;refine sC I N9 ?_;refine kR N9 λK1 O=>?_;refine tI ?_;refine sR N9 ?_;refine A0.pp 8 7 4 rfl<|A0.ret ⟨_,by rw[results99];rfl,.inl rfl,by simp[ble,A7,B0]⟩
abbrev Lr:List Nat:=[0,1,2,3,4,5,6,7,8,9,22,27,42,43]
def F6y(p:Prog)(h:p.Sm)(x:Ty)(hx:x.Sm)(hi:Bh p x 2=true):C8 prog 93 [Ct p,B7 x] [] (.acc 6) [(6,.rows 7 (B0 (Gs p x)))]:=by
 unfold Gs;rw[A8 hi];obtain⟨E,I,_⟩:=Mm (by decide) hi;rw[I,Dz];have V:=h.decls.2 E (P9 I);have ab:=V.sigs.1;have a3:=A9g p x.name;obtain⟨k,a6,a8⟩:∃k:Nat,p.decls[k]?=some E/\findD x.name p.decls 0=k:=by
  rcases B0n x.name p.decls 0 with⟨h1,h2⟩|⟨k,d,h1,h2,h3⟩
  .unfold F7 at I;rw[h2]at I;simp at I
  .unfold F7 at I;rw[h3]at I;simp only[B5]at I;subst I;exact⟨k,h1,by rw[h2];simp⟩
 rw[a8]at a3;unfold Vm;refine bB func93 ?_;refine sR Lr ?_
 (refine sG Lr [] 9 gm λK z=>?_;refine ev ?_;refine cc a3 ?_;refine ci (Dx a6) ?_;apply z;clear z K)
 refine sR Lr ?_;refine A0.pp 6 7 6 rfl<|kR Lr λK1 a7=>?_;refine A0.bb (A0.ii E.sigs (X:=Unit) (λj _=>[(3,.box 3 0),(5,.box 5 0),(6,.acc 6),(7,A5 j)])
  (λj _=>[(3,.cells ((Bo x).map .d)),(5,.cells ((Ar E).map .d)),(6,.rows 7 (B0 (Hn (Ad E.A1) x.args E.sigs j)))])
  (λj _=>True) () trivial sS (by simp[ble,A7,Hn,B0,Ar,Bo]) ?_ ?_)
 .intro _ _;refine Ai B3 Lr λK2 O=>?_;refine A0.ss rfl ?_;simp only[A4,Ac,Af];refine a7 _ _<|sR Lr ?_;exact A0.ret ⟨_,by rw[results93];rfl,.inl rfl,by simp[ble,A7]⟩
 .intro j _ d hd a4 dp tk a9 hI;have aa:=B5d (Ad E.A1) x.args E.sigs j;have J:=C3m (vars:=Ad E.A1) (args:=x.args) (by omega) tk;have a5:=V.sigs.2 d a4;have Z:(E.sigs.take j).length=j:=by rw[D4];omega
  refine Ai a9 Lr λK2 O=>?_;refine gI O ?_;clear O K2;refine sK λK2 O=>A0.bb<|sR Lr ?_;refine kR Lr λK3 a2=>?_;refine A0.bb (A0.ii (E.sigs.take j) (X:=Unit) (λi _=>[(3,.box 3 0),(5,.box 5 0),(6,.acc 6),(7,A5 j),(8,Aw (Pf (E.sigs.take j) d i)),(9,A5 i)])
   (λ_ _=>[(3,.cells ((Bo x).map .d)),(5,.cells ((Ar E).map .d)),(6,.rows 7 (B0 (Hn (Ad E.A1) x.args E.sigs j)))])
   (λ_ _=>True) () trivial (by simp[sle,Ay,Ae,Pf]) (by simp[ble,A7,Ar,Bo]) ?_ ?_)
  .intro _ _;have U:Pf (E.sigs.take j) d (E.sigs.take j).length=Pf E.sigs d j:=by unfold Pf;rw[Ci]
   rw[U,Z];refine Ai B3 Lr λW L=>?_;refine A0.ss rfl ?_;simp only[A4,Ac,Af];refine a2 _ _ ?_;clear L W a2 K3;refine sR Lr ?_;rcases Eu (Pf E.sigs d j)with hn|hn
   .rw[hn,A8 rfl]at J;rw[hn];refine A0.tt rfl ?_
    (refine lG Lr [] 14 [] λK z=>?_;refine ev ?_;refine ci (D1 hd) ?_;refine cc (B1s d a5) ?_;refine cc (R3 E.A1 V.A1.1) ?_;refine cc (E0e (Ad E.A1) x.args hx.arg _ a5.canon) ?_;refine⟨by simp,by unfold lim sm at*;omega,?_⟩;(try refine ev ?_);apply z;clear z K;try simp only[A4,Ac])
    refine O _ _ ?_;clear O K2;refine lT Lr ?_;exact⟨(),trivial,sS,by simp[ble,A7,J,B0,Dd,Ar,Bo]⟩
   .rw[hn,A6 (by decide),Fj]at J;rw[hn];refine A0.ff rfl (A0.kk (O _ _ ?_));clear O K2;refine lT Lr ?_;exact⟨(),trivial,sS,by simp[ble,A7,J,Ar,Bo]⟩
  .intro i _ e he ad ae a' a0 ac;rw[Z]at a0;have a1:E.sigs[i]?=some e:=by rw[An5 (by omega)]at he;exact he
   have U:Pf (E.sigs.take j) d (i+1)=(Pf (E.sigs.take j) d i && !decide (e.name=d.name)):=by unfold Pf;rw[a',Xm];simp only[Dp,Bz,B1,E5,Ea,Bb,Js,Z1];exact⟨λh=>⟨λy hy=>h y (.inl hy),h e (.inr rfl)⟩,λh y hy=>hy.elim (h.1 y) (λhe=>he ▸ h.2)⟩
   refine Ai a0 Lr λW L=>?_;refine gI L ?_;clear L W;refine sK λW L=>A0.bb ?_;by_cases hn:e.name=d.name
   .rw[Bj hn,Au3,Rc]at U
    (refine sG Lr [] 12 [] λK z=>?_;refine ev ?_;refine⟨by omega,_,D1 a1,rfl,?_⟩;(try refine Ap hn ?_);refine ci (D1 hd) ?_;apply z;clear z K)
    refine A0.tt rfl ?_
    (refine lV Lr λK z=>?_;apply z;clear z K;try simp only[A4,Ac])
    refine L _ _ ?_;clear L W;refine lT Lr ?_;exact⟨(),trivial,(by simp[sle,Ay,Ae,U]),by simp[ble,A7,Ar,Bo]⟩
   .rw[C9 hn,At8,Aq1]at U
    (refine sG Lr [] 12 [] λK z=>?_;refine ev ?_;refine ci (D1 a1) ?_;refine⟨by omega,_,D1 hd,rfl,?_⟩;(try refine Ap hn ?_);apply z;clear z K)
    refine A0.ff rfl (A0.kk (L _ _ ?_));clear L W;refine lT Lr ?_;exact⟨(),trivial,(by simp[sle,Ay,Ae,U]),by simp[ble,A7,Ar,Bo]⟩
end Go.Abs
