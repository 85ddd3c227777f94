import Derived.Test.YtoajimpjknbnoaaGreatDoorKS14
set_option linter.all false
set_option maxHeartbeats 1000000
set_option maxRecDepth 100000
namespace Go.iA
open Go Go.Proofs Tryz
def SJ(E k1:Nat)(q:Nat):Nat:=if q=E then k1 else q
def xP{P:Program}{sl:SL}{bx:Ac}{f:FuncId}{fo:Operand}{args:List Operand}{Dr:List TypeId}{dst:Option Nat}{caps O:List SV}{r:SV}{W U:Nat}{E:List (List D)}(k1:Nat)
  (hf:Aq sl fo=.Bi f caps)(a7:args.map (Aq sl)++caps=O)(ae:SV.Ng O=true)(hc:Ci P f O [] r [(W,.rows U E)])(hr:r.only [W]=true)
  (h1:k1<=999999)(f1:aF k1 bx=false) :
  QK P sl bx dst (.call ⟨.value fo,args.toArray,Dr.toArray⟩) (r.Fi (SJ W k1)) ((k1,.rows U E)::bx) [k1]:=by
 subst a7;intro o ho _ C S w β a hi ha;have a6:=ha fo (mC ho);rw[hf]at a6;generalize aa:a.eval fo=v at a6;cases a6 with
 |Bi _ _ cs g1 g2 =>
  have a':C7 S w β (args.map (Aq sl)++caps) (args.map a.eval++cs):=(MA _ λx hx=>ha x (mo ho (by simp[Op.operands,Call.operands];exact .inr hx))).append ⟨g1,g2⟩;have ab:Inv ⟨w,S,λ_=>False,λ_ _=>False,C.G⟩ S w β []:=hi.begin hi.C9 (λ_ h=>h);have a5:=hc.2 ⟨w,S,λ_=>False,λ_ _=>False,C.G⟩ β _ ab a';refine Ja ?_;unfold Oper.wp;rw[tD hc.1 ho aa,gC];have a0:(args.toArray.map a.eval)++(⟨cs⟩:Array Value)=⟨args.map a.eval++cs⟩:=by apply L5;simp
  rw[a0];refine a5.mono ?_;rintro e w' ⟨v,S',β',rfl,Z,hv⟩;have a8:w.heap.size<=w'.heap.size:=Z.size;have a9:∀b,S' b->S b\/w.heap.size<=b:=λb I=>by rcases Z.F9 b I with h|h|h;exact .inl h;exact h.elim;exact .inr h
  have e:Cg S w S' w':=⟨Z.G7,λb I=>Z.kept b (hi.C9 b I) id⟩;have u1:F4 β k1 (β' W) k1 =β' W:=Ht ..;have u3:∀j,j≠k1->F4 β k1 (β' W) j =β j:=λj a=>by rw[Mz a]
  have m1:(W,Ax.rows U E)∈[(W,Ax.rows U E)]:=by simp
  have L:∀b,(β' W).base=some b->¬S' b/\b<w'.heap.size/\w.heap.size<=b:=λb I=>by obtain⟨p1,p2,p3⟩:=Z.Bk W _ m1 b I;exact⟨p1,p2,p3.resolve_left id⟩
  have V:∀k c,(k,c)∈bx->k≠k1/\(∀j,c.has j=true->j≠k1):=λk c hm=>by obtain⟨a1,a2⟩:=GQ f1 k c hm;exact⟨a1,λj hj he=>by subst he;rw[a2]at hj;simp at hj⟩
  have J:∀k c,(k,c)∈(k1,Ax.rows U E)::bx->(k=k1/\c=.rows U E)\/(k,c)∈bx:=λk c hm=>by simp only[Ay,Gg]at hm;exact hm
  refine⟨v,S',F4 β k1 (β' W),rfl,?_,e,hv.Fi λk ac=>?_,λj hj=>?_⟩
  .refine hi.step e a9 Z.C9 (λb I _=>Z.kept b I id) Z.os Z.tape Z.output a8 ?_ ?_ (λj hj=>u3 j (by omega)) ?_;intro k c hm;rcases J k c hm with⟨rfl,rfl⟩|hm;rw[u1];exact⟨E4.ext (c:=.rows U E) (Z.box W _ m1) (Cg.refl _ _) (λ_ _=>rfl) (by simp[Ax.has]),λb I=>⟨(L b I).1,(L b I).2.1,.inl (L b I).2.2⟩⟩;obtain⟨a1,a3⟩:=V k c hm;rw[u3 k a1];refine⟨(hi.box k c hm).ext e (λb I=>Z.kept b (hi.Bk k c hm b I).2.1 id) (λj hj=>u3 j (a3 j hj)),λb I=>⟨λhs=>?_,X0 (hi.Bk k c hm b I).2.1 a8,.inr ⟨k,c,hm,I⟩⟩⟩;rcases a9 b hs with h|h;exact(hi.Bk k c hm b I).1 h;have:=(hi.Bk k c hm b I).2.1;omega
   .intro k c k' c' hm hm' b I a4;have low:∀k c,(k,c)∈bx->(F4 β k1 (β' W) k).base=some b->b<w.heap.size:=λk c hm I=>by rw[u3 k (V k c hm).1]at I;exact(hi.Bk k c hm b I).2.1
    rcases J k c hm with⟨rfl,rfl⟩|hm;rw[u1]at I;rcases J k' c' hm' with⟨rfl,rfl⟩|hm';exact⟨rfl,rfl⟩;have:=low _ _ hm' a4;have:=(L b I).2.2;omega;have ad:=low _ _ hm I;rcases J k' c' hm' with⟨rfl,rfl⟩|hm';rw[u1]at a4;have:=(L b a4).2.2;omega;rw[u3 k (V k c hm).1]at I;rw[u3 k' (V k' c' hm').1]at a4;exact hi.inj k c k' c' hm hm' b I a4
   intro k Y st hm;rcases J k _ hm with⟨_,h⟩|hm;cases h;exact hm
  have:=nB hr ac;simp only[Ay,Eh,Eo]at this;subst this;simp only[SJ,Av];exact u1;simp only[Ay,Eh,Eo]at hj;exact u3 j hj
def wh{P:Program}{ρ:Go.Shelf.Ren}(L:Go.Proofs.Lays8.n4 P ρ)(sz:Nat)(a3:0<sz)(E:((P.info? (ρ.t 25)).any λi=>i.size ==sz && decide (i.bytes<=1000) && i.zero.any λz=>z.cells.size ==sz)=true)
  (hE:Enters P (ρ.f 4))(n:Nat)(hn:n<=100000000000):Ci P (ρ.f 4) [.d .nil,A6 n] [] (.acc 1) [(1,.rows sz [])]:=by
 refine⟨hE,λC β vs hi U=>?_⟩;obtain⟨v0,J,a1⟩:=U.get (j:=0) (c:=.d .nil) rfl;obtain⟨v1,I,Z⟩:=U.get (j:=1) (c:=A6 n) rfl;have a2:vs=[.slice none 0 0,.int .i64 n]:=by
  have hl:=U.1
  match vs,hl with
  |[u,v],_ =>simp only[Rh,WC,B8]at J I;subst J;subst I;rw[Z.J6];have:=a1.Js;cases this;rfl
 subst a2;by_cases h0:n=0;subst h0;refine(Any8.slices_Grow_room L none 0 0 0 C.w0 (Bv _) (by omega) (by omega) (by omega)).mono ?_;rintro e w' ⟨rfl,rfl⟩;obtain⟨h1,h2⟩:=hi.Vj (k:=1) (w':=C.w0) (c:=.rows sz []) { base:=none,sz:=sz } (by decide) (by simp) (λ_ _ _=>rfl) rfl rfl rfl (Bv _) (λ_=>nP);refine⟨_,C.S0,_,rfl,by simpa [Cu,Hx]using h1,?_⟩;have:=An.acc (S:=C.S0) (w:=C.w0) (β:=F4 β 1 { base:=none,sz:=sz }) 1;rw[Ht]at this;simpa using this
 .generalize V:P.info? (ρ.t 25)=oi at E;cases oi with
  |none=>simp at E
  |some i0 =>
   simp only[Option.any_some,Bh,W8,Di]at E;obtain⟨⟨g1,g2⟩,O⟩:=E;generalize a0:i0.zero=oz at O;cases oz with
   |none=>simp at O
   |some z =>
    simp only[Option.any_some,W8]at O;refine(Any8.slices_Grow_grow L i0 z V a0 (by omega) none 0 0 n [] C.w0 (Bv _) (by omega) (by have:(0+n)*i0.bytes<=(0+n)*1000:=IG _ g2;omega) (by omega) (by simp) (λ_=>rfl) (by simp)).mono ?_
    rintro e w' ⟨rfl,rfl⟩;have W:=grownCap_ge C.w0 (0+n) 0 (ρ.t 25);generalize grownCap C.w0 (0+n) 0 (ρ.t 25)=G at W;obtain⟨h1,h2⟩:=hi.Vj (k:=1) (w':=C.w0.drew.alloc (.cells (([]:List Value).toArray++Builtin.zeroCells z.cells (0+n - 0)++Builtin.zeroCells z.cells (G - (0+n))) (ρ.t 25))) (c:=.rows sz []) { base:=some C.w0.heap.size,len:=0,cap:=G,sz:=sz } (by decide)
     (by intro b hb;cases hb;exact⟨λh=>by have:=hi.C9 _ h;omega,by simp[-World.alloc_eq,-World.drew_eq,World.alloc,World.drew],.inl (Bv _)⟩)
     (λb hb _=>RowKit.Below.heap_alloc C.w0.drew _ b hb) rfl rfl rfl (by simp[-World.alloc_eq,-World.drew_eq,World.alloc,World.drew])
     (λ_=>by refine⟨rfl,rfl,by simp,by simp,by simp,by simp,?_⟩;refine⟨ρ.t 25,(([]:List Value).toArray++Builtin.zeroCells z.cells (0+n - 0)++Builtin.zeroCells z.cells (G - (0+n))).toList,by simp[-World.alloc_eq,-World.drew_eq,World.alloc,World.drew],?_,by simp⟩;simp only[Array.toList_append,B5,qN,cg,O];simp only[Ck,Kf,<-Ii];exact Ih _ (by omega))
    refine⟨_,C.S0,_,rfl,by simpa [Cu,Hx]using h1,?_⟩;have:=An.acc (S:=C.S0) (w:=C.w0.drew.alloc (.cells (([]:List Value).toArray++Builtin.zeroCells z.cells (0+n - 0)++Builtin.zeroCells z.cells (G - (0+n))) (ρ.t 25))) (β:=F4 β 1 { base:=some C.w0.heap.size,len:=0,cap:=G,sz:=sz }) 1;rw[Ht]at this;simpa using this
def H6c(n:Nat)(E:n<=100000000000):Ci prog 316 [.d .nil,A6 n] [] (.acc 1) [(1,.rows 5 [])] :=wh H1u 5 (by decide) (by kernel_rfl) (Enters.of func316 rfl (by decide)) n E
def c7(n:Nat)(E:n<=100000000000):Ci prog 174 [.d .nil,A6 n] [] (.acc 1) [(1,.rows 3 [])] :=wh F7j 3 (by decide) (by kernel_rfl) (Enters.of func174 rfl (by decide)) n E
def bJ{α:Type}(E:List (List α))(j:Nat):((E.take j).map List.length).sum<=(E.map List.length).sum:=by
 induction E generalizing j with
 |nil=>simp
 |cons a l I =>
  cases j with
  |zero=>simp
  |succ j=>simp only[RC,Cj,Jy];have:=I j;omega
def oF(E:List (List Aj)):List (List D):=E.map λl=>[.slice (Ai l)]
variable {j:Nat}
def zn{E:List (List Aj)}{l:List Aj}(h:E[j]?=some l):(oF E)[j]?=some [.slice (Ai l)]:=by simp[oF,h]
abbrev S9:=[0,2,3,5,6,8,9,10,11,12,20,24,25,26,27,28]
def F5n(E:List (List Aj))(hl:E.length<=sm)(hn:(E.map List.length).sum<=2*sm):Ab prog 286 [.d (.slice (oF E))] (.d (.slice (Ai E.flatten))):=by
 refine cB func286 ?_;refine sR S9 ?_;refine sR S9 ?_;refine kR S9 λV L=>?_;refine bA (A0.ii E (X:=Unit) (λj _=>[(0,.d (.slice (oF E))),(3,A6 (((E.take j).map List.length).sum:Nat)),(9,.d (.slice (oF E))),(10,A6 E.length),(11,A6 j)]) (λ_ _=>[]) (λj _=>True) () trivial (by simp[sle,B0,Ae,oF]) sB ?_ ?_)
 .intro _ _;rw[Ca];refine Ak B1 S9 ?_;refine A0.stop rfl ?_;simp only[Aa,Af,Av];refine L _ _ ?_;refine jA S9 [800024] (by decide +kernel) λK z=>?_;refine ev ?_;refine⟨_,_,_,xP 24 rfl rfl rfl (H6c _ (by unfold sm at hn;omega)) rfl (by decide) rfl,?_⟩;simp only[SV.Fi,SJ,Av];(try refine ev ?_);apply z;refine kR S9 λV L=>?_;refine bA (A0.ii E (X:=Unit) (λj _=>[(6,.acc 24),(25,.d (.slice (oF E))),(26,A6 E.length),(27,A6 j)]) (λj _=>[(24,.rows 5 (Ai (E.take j).flatten))]) (λj _=>True) () trivial (by simp[sle,B0,Ae,oF]) (by simp[ble,A9,Ai]) ?_ ?_);intro _ _;rw[Ca];refine Ak B1 S9 ?_;refine A0.stop rfl ?_;simp only[Aa,Af,Av];refine L _ _ ?_;refine sR S9 ?_;exact aR
  .intro j _ d hd U dp tk O hI;have I:=bJ E (j+1);rw[tk,Gy,Z3]at I;simp only[Cj,G5,Jy,List.sum_nil,Nd]at I;rw[tk,List.flatten_append,AJ,List.flatten_nil,Fv];refine Ak O S9 ?_;refine kA rfl<|sK λW J=>bA<|sI (zn hd) [0,2,3,5,6,8,9,10,11,12,20,24,25,26,27,28] ?_
   (refine lV S9 λK z=>?_;refine⟨λrow hr=>by obtain⟨x,_,rfl⟩:=Ap.1 hr;rfl,by rw[List.length_flatten];unfold lim sm at*;omega,?_⟩;(try refine ev ?_);apply z;try simp only[Aa,Af]);refine J _ _ ?_;refine lT S9 ?_;exact⟨(),trivial,sS,by simp[ble,A9,Ai]⟩
 .intro j _ d hd U dp tk O hI;have I:=bJ E (j+1);rw[tk,Gy,Z3]at I;simp only[Cj,G5,Jy,List.sum_nil,Nd]at I;have Z:¬(((((E.take j).map List.length).sum:Nat):Int)+(d.length:Int)<0):=by omega
  rw[tk,Gy,Z3];simp only[Cj,G5,Jy,List.sum_nil,Nd];refine Ak O S9 ?_;refine kA rfl<|sK λW J=>bA<|sI (zn hd) [0,2,3,5,6,8,9,10,11,12,20,24,25,26,27,28] ?_
  refine sV S9 λK z=>?_;refine ca ?_;apply z;refine Ak Z S9 ?_;refine dA rfl (cA (J _ _ ?_));refine lT S9 ?_;exact⟨(),trivial,sS,sB⟩
def F4v(l:List Aj)(j:Nat)(d:Aj):Ai (l.take j++[d])=Ai (l.take j)++[Iz d]:=by simp[Ai]
abbrev gE:=[0,1,4,5,7,11,12,13,14]
def IL(a b:List Aj)(a0:a.length<=sm)(Z:b.length<=sm)(W:∀f,f∈a->f.Sm)(hb:∀f,f∈b->f.Sm):Ab prog 229 [.d (.slice (Ai a)),.d (.slice (Ai b))] (.d (.slice (Ai (a++b)))):=by
 have O:=F5n [a,b] (show 2<=sm by decide) (by simp only[Cj,G5,Jy,List.sum_nil];omega);rw[show[a,b].flatten=a++b by simp]at O;have hl:(a++b).length<=2*sm:=by simp only[B5];omega
 have hs:∀f,f∈a++b->f.Sm:=λf U=>(Bj.1 U).elim (W f) (hb f);generalize V:a++b=l at*;refine cB func229 ?_;refine sR gE ?_;refine sR gE ?_;refine A0.pp 5 5 5 rfl<|kC O gE λK1 J=>?_;refine bA (A0.ii l (X:=Unit) (λj _=>[(5,.acc 5),(11,.d (.slice (Ai l))),(12,A6 l.length),(13,A6 j)]) (λj _=>[(5,.rows 5 (Ai (l.take j)))]) (λj _=>True) () trivial sS (by simp[ble,A9,Ai]) ?_ ?_)
 intro _ _;rw[Ca];refine Ak B1 gE ?_;refine A0.stop rfl ?_;simp only[Aa,Af,Av];refine J _ _<|sR gE ?_;exact aR
 .intro j _ d hd I dp tk L _;rw[tk,F4v];refine Ak L gE ?_;refine kA rfl<|sK λK2 E=>bA<|sI (Fm hd) [0,1,4,5,7,11,12,13,14] ?_
  (refine lG gE [] 10 [] λK z=>?_;refine ev ?_;refine cc (IF d.bound (hs d I).bound) ?_;refine⟨by simp,by simp only[Dh];unfold lim sm at*;omega,?_⟩;(try refine ev ?_);apply z;try simp only[Aa,Af]);refine E _ _ ?_;refine lT gE ?_;exact⟨(),trivial,sS,by simp[ble,A9,Iz]⟩
theorem P3{p:Prog}{nm:A3}{d:Decl}(h:Ec p nm=some d):d∈p.decls:=vN h
def GU(p:Prog)(h:p.Sm)(nm:A3):Ab prog 213 [.A8 (D4 p) 0,Bo nm] (.d (.slice (Ai (Dm p nm)))):=by
 have I:=YR p h nm [];rw[XR]at I;rw[show(p.decls.find? λd=>d.E5 nm)=Ec p nm from rfl]at I;have J:Ab prog 229 [.d (.slice (Ai ((Ec p nm).getD default).A1)),.d (.slice [])] (.d (.slice (Ai (Dm p nm)))):=by
  cases E:Ec p nm with
  |none=>rw[(rV E).2];exact IL [] [] (by decide) (by decide) (by simp) (by simp)
  |some d =>rw[(zU E).2];have hd:=(h.decls.2 d (P3 E)).A1;have:=IL d.A1 [] hd.1 (by decide) hd.2 (by simp);rw[Fv]at this;exact this
 generalize Ec p nm=o at*;refine cB func213 ?_;refine sR [0,1,4,5] ?_;refine sC I [0,1,4,5] ?_;refine sC J [0,1,4,5] ?_;exact aR
def Ga{α:Type}(p:α->α->Bool):List α->List α->Bool
 |[],[]=>true
 |x::xs,y::ys=>p x y && Ga p xs ys
 |_,_=>false
def ZM{α:Type}{p:α->α->Bool} :∀{l m:List α},Ga p l m=true->l.length=m.length
 |[],[],_=>rfl
 |x::xs,y::ys,h=>by rw[Ga,Bh]at h;simp[ZM h.2]
 |[],_::_,h=>by simp[Ga]at h
 |_::_,[],h=>by simp[Ga]at h
def Tc(a b:Aj):Bool:=decide (a.name=b.name) && R9 a.bound b.bound
def Sy(a b:Param):Bool:=decide (a.name=b.name) && R9 a.type b.type
def Q5(a b:A4):Bool:=decide (a.name=b.name) && Ga Tc a.A1 b.A1 && Ga Sy a.params b.params && R9 a.result b.result
def Ty.Sm.subst{vars:List A3}{args:List Ty}(L:∀u,u∈args->u.Sm):∀t:Ty,t.Sm->(t.subst vars args).Sm:=by
 intro t
 induction t using Ty.induct with
 |h t J =>
 intro h;rw[W1];split
 .rename_i U;have E:(Du t.name vars 0).toNat<args.length:=by omega
  rw[Bu E,Dx];have:=L _ (Gc E);exact .mk _ _ _ this.name this.len this.arg
 .refine .mk _ _ _ h.name (by rw[B7];exact h.len) λu O=>?_;obtain⟨x,I,rfl⟩:=Ap.1 O;exact J x I (h.arg x I)
def mem_mapIdx{α β:Type}{f:Nat->α->β}{l:List α}{y:β}(h:y∈l.mapIdx f):∃i x,l[i]?=some x/\i<l.length/\y=f i x:=by obtain⟨i,E⟩:=Lx h;rw[Px,Jn]at E;obtain⟨x,I,rfl⟩:=E;exact⟨i,x,I,(Az.1 I).1,rfl⟩
theorem A4.Sm.canon{s:A4}(h:s.Sm):s.canon.Sm:=by have hs:=iW _ h.A1.1;refine⟨h.name,⟨by simp only[A4.canon,Yz];exact h.A1.1,λf E=>?_⟩,⟨by simp only[A4.canon,Yp];exact h.params.1,λf E=>?_⟩,Ty.Sm.subst hs _ h.result⟩;obtain⟨i,x,L,I,rfl⟩:=mem_mapIdx E;have J:=h.A1.2 x (Bs L);refine⟨?_,Ty.Sm.subst hs _ J.bound⟩;simp only[I,Av];exact Cy (qn i (by have:=h.A1.1;omega)) (by decide);obtain⟨i,x,L,I,rfl⟩:=mem_mapIdx E;have J:=h.params.2 x (Bs L);refine⟨?_,Ty.Sm.subst hs _ J.type⟩;simp only[I,Av];decide
def A4.Sm.subst{vars:List A3}{args:List Ty}(J:∀u,u∈args->u.Sm){s:A4}(h:s.Sm):(s.subst vars args).Sm:=by refine⟨h.name,⟨by simp only[A4.subst,B7];exact h.A1.1,λf I=>?_⟩,⟨by simp only[A4.subst,B7];exact h.params.1,λf I=>?_⟩,Ty.Sm.subst J _ h.result⟩;obtain⟨x,E,rfl⟩:=Ap.1 I;exact⟨(h.A1.2 x E).name,Ty.Sm.subst J _ (h.A1.2 x E).bound⟩;obtain⟨x,E,rfl⟩:=Ap.1 I;exact⟨(h.params.2 x E).name,Ty.Sm.subst J _ (h.params.2 x E).type⟩
def G1w(a b:Aj)(h:a.Sm):Ab prog 322 [Th a,Th b] (Ar (Tc a b)):=by
 have hs:=qO a.bound b.bound h.bound;unfold Tc;refine cB func322 ?_;refine sR [0,1,2,3,4] ?_;by_cases E:a.name=b.name
 ·(refine sQ [0,1,2,3,4] λK z=>?_;refine Bb E ?_;refine cc hs ?_;apply z)
  rw[Bn E,Ch];exact aR
 .refine Ak E [0,1,2,3,4] ?_;rw[Cb E,C6];exact aR
def H0m(a b:Param)(h:a.Sm):Ab prog 324 [Ma a,Ma b] (Ar (Sy a b)):=by
 have hs:=qO a.type b.type h.type;unfold Sy;refine cB func324 ?_;refine sR [0,1,2,3,4] ?_;by_cases E:a.name=b.name
 ·(refine sQ [0,1,2,3,4] λK z=>?_;refine Bb E ?_;refine cc hs ?_;apply z)
  rw[Bn E,Ch];exact aR
 .refine Ak E [0,1,2,3,4] ?_;rw[Cb E,C6];exact aR
abbrev aC:=[0,1,2,6,7,8,9,14,15,16,17,18,30]
def G1k(f:FuncId)(p:Aj->Aj->Bool)(l m:List Aj)(hl:l.length<=sm)(hf:∀x,x∈l->∀y,Ab prog f [Th x,Th y] (Ar (p x y))) :Ab prog 321 [.d (.slice (Ai l)),.d (.slice (Ai m)),.Bi f []] (Ar (Ga p l m)):=by
 refine cB func321 ?_;refine sR aC ?_;refine kR aC λZ I=>?_;refine pA rfl I (λE=>?_) (λE=>?_)
 .refine sR aC ?_;have:Ga p l m=false:=by
   cases h:Ga p l m with
   |false=>rfl
   |true=>have:=ZM h;simp[this]at E
  rw[this];exact aR
 have U:l.length=m.length:=by
  have:(l.length:Int)=m.length:=by simpa using E
  omega
 refine kR aC λZ I=>?_;refine bA (A0.ii l (X:=Unit) (λj _=>[(1,.d (.slice (Ai m))),(2,.Bi f []),(15,.d (.slice (Ai l))),(16,A6 l.length),(17,A6 j)]) (λ_ _=>[]) (λj _=>Ga p (l.drop j) (m.drop j)=Ga p l m) () (by simp) sS sB ?_ ?_);intro _ J;refine Ak B1 aC ?_;refine A0.stop rfl ?_;simp only[Aa,Af,Av];refine I _ _<|sR aC ?_;rw[Dk,U,Dk]at J;rw[<-J];exact aR
 .intro j _ d hd O dp tk V J;obtain⟨e,he,W⟩:=YG (l:=m) (j:=j) (by omega);rw[dp,W,Ga]at J;refine Ak V aC ?_;refine kA rfl<|sK λK2 L=>bA<|sI (Fm hd) [0,1,2,6,7,8,9,14,15,16,17,18,30] ?_;refine sI (Fm he) [0,1,2,6,7,8,9,14,15,16,17,18,30] ?_;refine sC (hf d O e) aC ?_;refine A0.cond rfl (λE=>?_) (λE=>?_)
  refine sR aC ?_;simp only[Lu]at E;rw[E,C6]at J;rw[<-J];exact aR;simp only[Uw]at E;rw[E,Ch]at J;refine cA (L _ _ ?_);refine lT aC ?_;exact⟨(),J,sS,sB⟩
abbrev Zn:=[0,1,2,6,7,8,9,14,15,16,17,18,30]
def H8d(f:FuncId)(p:Param->Param->Bool)(l m:List Param)(hl:l.length<=sm)(hf:∀x,x∈l->∀y,Ab prog f [Ma x,Ma y] (Ar (p x y))) :Ab prog 323 [.d (.slice (Aw l)),.d (.slice (Aw m)),.Bi f []] (Ar (Ga p l m)):=by
 refine cB func323 ?_;refine sR Zn ?_;refine kR Zn λZ I=>?_;refine pA rfl I (λE=>?_) (λE=>?_)
 .refine sR Zn ?_;have:Ga p l m=false:=by
   cases h:Ga p l m with
   |false=>rfl
   |true=>have:=ZM h;simp[this]at E
  rw[this];exact aR
 have U:l.length=m.length:=by
  have:(l.length:Int)=m.length:=by simpa using E
  omega
 refine kR Zn λZ I=>?_;refine bA (A0.ii l (X:=Unit) (λj _=>[(1,.d (.slice (Aw m))),(2,.Bi f []),(15,.d (.slice (Aw l))),(16,A6 l.length),(17,A6 j)]) (λ_ _=>[]) (λj _=>Ga p (l.drop j) (m.drop j)=Ga p l m) () (by simp) sS sB ?_ ?_);intro _ J;refine Ak B1 Zn ?_;refine A0.stop rfl ?_;simp only[Aa,Af,Av];refine I _ _<|sR Zn ?_;rw[Dk,U,Dk]at J;rw[<-J];exact aR
 .intro j _ d hd O dp tk V J;obtain⟨e,he,W⟩:=YG (l:=m) (j:=j) (by omega);rw[dp,W,Ga]at J;refine Ak V Zn ?_;refine kA rfl<|sK λK2 L=>bA<|sI (Dt hd) [0,1,2,6,7,8,9,14,15,16,17,18,30] ?_;refine sI (Dt he) [0,1,2,6,7,8,9,14,15,16,17,18,30] ?_;refine sC (hf d O e) Zn ?_;refine A0.cond rfl (λE=>?_) (λE=>?_)
  refine sR Zn ?_;simp only[Lu]at E;rw[E,C6]at J;rw[<-J];exact aR;simp only[Uw]at E;rw[E,Ch]at J;refine cA (L _ _ ?_);refine lT Zn ?_;exact⟨(),J,sS,sB⟩
def kz(a b:A4)(h:a.Sm):Ab prog 306 [Db a,Db b] (Ar (Q5 a b)):=by have I:=G1k 322 Tc a.A1 b.A1 h.A1.1 (λx J y=>G1w x y (h.A1.2 x J));have hp:=H8d 324 Sy a.params b.params h.params.1 (λx J y=>H0m x y (h.params.2 x J));have hr:=qO a.result b.result h.result;unfold Q5;refine cB func306 ?_;refine sR [0,1,2,3,4] ?_;by_cases E:a.name=b.name;rcases Fc (Ga Tc a.A1 b.A1)with h3|h3;rw[h3]at I;rcases Fc (Ga Sy a.params b.params)with h4|h4;rw[h4]at hp;refine sQ [0,1,2,3,4] λK z=>?_;refine Bb E ?_;refine cc I ?_;refine cc hp ?_;refine cc hr ?_;apply z;rw[Bn E,h3,h4,Ch,Ch,Ch];exact aR;rw[h4]at hp;refine sQ [0,1,2,3,4] λK z=>?_;refine Bb E ?_;refine cc I ?_;refine cc hp ?_;apply z;rw[h4,Tx,C6];exact aR;rw[h3]at I;refine sQ [0,1,2,3,4] λK z=>?_;refine Bb E ?_;refine cc I ?_;apply z;rw[h3,Tx,C6,C6];exact aR;refine Ak E [0,1,2,3,4] ?_;rw[Cb E,C6,C6,C6];exact aR
def sr(a b:A4)(h:a.Sm)(E:b.Sm):Ab prog 266 [Db a,Db b] (Ar (Q5 a.canon b.canon)):=by have hs:=kz a.canon b.canon h.canon;refine cB func266 ?_;refine sR [0,1,2,3,4] ?_;refine sG [0,1,2,3,4] [] 3 [] λK z=>?_;refine ev ?_;refine cc (wP a h) ?_;refine cc (wP b E) ?_;refine cc hs ?_;apply z;exact aR
abbrev Uc:=[0,1,2,6,7,12,16,43,71]
def G3g(l m:List Aj)(hl:l.length<=sm)(hs:∀x,x∈l->x.bound.Lm) :Ab prog 180 [.d (.slice (Ai l)),.d (.slice (Ai m)),Ar false] (Ar (Ga Tc l m)):=by
 refine cB func180 ?_;refine sR Uc ?_;refine kR Uc λK1 L=>?_;refine pA rfl L (λJ=>?_) (λJ=>?_)
 .refine sR Uc ?_;have:Ga Tc l m=false:=by
   cases h:Ga Tc l m with
   |false=>rfl
   |true=>have:=ZM h;simp[this]at J
  rw[this];exact aR
 have a0:l.length=m.length:=by
  have:(l.length:Int)=m.length:=by simpa using J
  omega
 refine kR Uc λK1 L=>?_;refine bA (A0.ii l (X:=Unit) (λj _=>[(0,.d (.slice (Ai l))),(1,.d (.slice (Ai m))),(2,Ar false),(7,A6 j)]) (λ_ _=>[]) (λj _=>Ga Tc (l.drop j) (m.drop j)=Ga Tc l m) () (by simp) sS sB ?_ ?_);intro _ I;refine Ag B1 Uc λW E=>?_;refine sE ?_;refine L _ _<|sR Uc ?_;rw[Dk,a0,Dk]at I;rw[<-I];exact aR
 .intro j _ d hd V dp tk a1 I;obtain⟨e,he,a2⟩:=YG (l:=m) (j:=j) (by omega);rw[dp,a2,Ga,Tc]at I;refine Ag a1 Uc λW E=>?_;refine gI E ?_;refine sK λW E=>bA<|sK λK3 O=>?_;by_cases U:d.name=e.name
  .have Z:=XI d.bound e.bound (hs d V)
   (refine sG Uc [] 22 [] λK z=>?_;refine ev ?_;refine C0 U (Fm hd) ?_;refine ci (Fm he) ?_;refine C0 U (Fm hd) ?_;refine ci (Fm he) ?_;refine cc Z ?_;apply z)
   rw[Bn U,Ch]at I;refine pA rfl O (λJ=>?_) (λJ=>?_)
   .refine sR Uc ?_;simp only[Lu]at J;rw[J,C6]at I;rw[<-I];exact aR
   simp only[Uw]at J;rw[J,Ch]at I;refine dR Uc 24 ?_;refine dA rfl (cA (E _ _ ?_));refine lT Uc ?_;exact⟨(),I,sS,sB⟩
  ·(refine sG Uc [] 22 [] λK z=>?_;refine ev ?_;refine ci (Fm hd) ?_;refine C0 U (Fm he) ?_;apply z)
   refine tI ?_;refine sR Uc ?_;rw[Cb U,C6,C6]at I;rw[<-I];exact aR
abbrev Up:=[0,1,2,6,7,12,16,43,71]
def zy(l m:List Param)(hl:l.length<=sm)(hs:∀x,x∈l->x.type.Lm) :Ab prog 181 [.d (.slice (Aw l)),.d (.slice (Aw m)),Ar false] (Ar (Ga Sy l m)):=by
 refine cB func181 ?_;refine sR Up ?_;refine kR Up λK1 L=>?_;refine pA rfl L (λJ=>?_) (λJ=>?_)
 .refine sR Up ?_;have:Ga Sy l m=false:=by
   cases h:Ga Sy l m with
   |false=>rfl
   |true=>have:=ZM h;simp[this]at J
  rw[this];exact aR
 have a0:l.length=m.length:=by
  have:(l.length:Int)=m.length:=by simpa using J
  omega
 refine kR Up λK1 L=>?_;refine bA (A0.ii l (X:=Unit) (λj _=>[(0,.d (.slice (Aw l))),(1,.d (.slice (Aw m))),(2,Ar false),(7,A6 j)]) (λ_ _=>[]) (λj _=>Ga Sy (l.drop j) (m.drop j)=Ga Sy l m) () (by simp) sS sB ?_ ?_);intro _ I;refine Ag B1 Up λW E=>?_;refine sE ?_;refine L _ _<|sR Up ?_;rw[Dk,a0,Dk]at I;rw[<-I];exact aR
 .intro j _ d hd V dp tk a1 I;obtain⟨e,he,a2⟩:=YG (l:=m) (j:=j) (by omega);rw[dp,a2,Ga,Sy]at I;refine Ag a1 Up λW E=>?_;refine gI E ?_;refine sK λW E=>bA<|sK λK3 O=>?_;by_cases U:d.name=e.name
  .have Z:=XI d.type e.type (hs d V)
   (refine sG Up [] 22 [] λK z=>?_;refine ev ?_;refine C0 U (Dt hd) ?_;refine ci (Dt he) ?_;refine C0 U (Dt hd) ?_;refine ci (Dt he) ?_;refine cc Z ?_;apply z)
   rw[Bn U,Ch]at I;refine pA rfl O (λJ=>?_) (λJ=>?_)
   .refine sR Up ?_;simp only[Lu]at J;rw[J,C6]at I;rw[<-I];exact aR
   simp only[Uw]at J;rw[J,Ch]at I;refine dR Up 24 ?_;refine dA rfl (cA (E _ _ ?_));refine lT Up ?_;exact⟨(),I,sS,sB⟩
  ·(refine sG Up [] 22 [] λK z=>?_;refine ev ?_;refine ci (Dt hd) ?_;refine C0 U (Dt he) ?_;apply z)
   refine tI ?_;refine sR Up ?_;rw[Cb U,C6,C6]at I;rw[<-I];exact aR
structure A4.Lm(s:A4):Prop where
 A1:s.A1.length<=sm/\∀f,f∈s.A1->f.bound.Lm
 params:s.params.length<=sm/\∀f,f∈s.params->f.type.Lm
 result:s.result.Lm
def A4.Sm.lm{s:A4}(h:s.Sm):s.Lm:=⟨⟨h.A1.1,λf E=>(h.A1.2 f E).bound.lm⟩,⟨h.params.1,λf E=>(h.params.2 f E).type.lm⟩,h.result.lm⟩
abbrev Y5:=[0,1,2,3,4,6,37]
def PY(a b:A4)(h:a.Lm):Ab prog 105 [Db a,Db b,Ar false] (Ar (Q5 a b)):=by
 have I:=G3g a.A1 b.A1 h.A1.1 h.A1.2;have hp:=zy a.params b.params h.params.1 h.params.2;have hr:=XI a.result b.result h.result;unfold Q5;refine cB func105 ?_;refine sR Y5<|sK λL J=>?_;by_cases E:a.name=b.name
 rcases Fc (Ga Tc a.A1 b.A1)with h3|h3;rw[h3]at I;rcases Fc (Ga Sy a.params b.params)with h4|h4;rw[h4]at hp;rcases Fc (R9 a.result b.result)with h5|h5;rw[h5]at hr;refine sQ Y5 λK z=>?_;refine Bb E ?_;refine cc I ?_;refine cc hp ?_;refine cc hr ?_;apply z;refine kI J ?_;refine sR Y5 ?_;rw[Bn E,h3,h4,h5];exact aR;rw[h5]at hr;refine sQ Y5 λK z=>?_;refine Bb E ?_;refine cc I ?_;refine cc hp ?_;refine cc hr ?_;apply z;refine tI ?_;refine sR Y5 ?_;rw[h5,Tx];exact aR;rw[h4]at hp;refine sQ Y5 λK z=>?_;refine Bb E ?_;refine cc I ?_;refine cc hp ?_;apply z;refine tI ?_;refine sR Y5 ?_;rw[h4,Tx,C6];exact aR;rw[h3]at I;refine sQ Y5 λK z=>?_;refine Bb E ?_;refine cc I ?_;apply z;refine tI ?_;refine sR Y5 ?_;rw[h3,Tx,C6,C6];exact aR;refine Ak E Y5 ?_;refine tI ?_;refine sR Y5 ?_;rw[Cb E,C6,C6,C6];exact aR
def G8i(a b:A4)(h:a.Sm):Ab prog 105 [Db a,Db b,Ar false] (Ar (Q5 a b)):=PY a b h.lm
def qw(a b:A4)(h:a.Sm)(E:b.Sm):Ab prog 199 [Db a,Db b] (Ar (Q5 a.canon b.canon)):=by have hs:=G8i a.canon b.canon h.canon;refine cB func199 ?_;refine sR [0,1,2,3,4] ?_;refine sG [0,1,2,3,4] [] 3 [] λK z=>?_;refine ev ?_;refine cc (ZK a h) ?_;refine cc (ZK b E) ?_;refine cc hs ?_;apply z;exact aR
def E2(nm m:A3)(d:Decl):Bool:=decide (d.kind=3) && decide (d.name=nm) && decide (d.sig.name=m)
def N4(p:Prog)(nm m:A3):Int:=E3 (E2 nm m) p.decls
theorem My{α:Type}(q:α->Bool)(l:List α):(E3 q l = -1/\∀x,x∈l->q x=false)\/∃(j:Nat)(x:α),E3 q l=j/\l[j]?=some x/\q x=true:=by
 unfold E3;cases h:l.findIdx? q with
 |none=>exact .inl ⟨rfl,by simpa [vR]using h⟩
 |some j =>obtain⟨I,E,_⟩:=MG.1 h;exact .inr ⟨j,l[j],rfl,Bu I,E⟩
abbrev Xj:=[0,1,2,3,6,7,12,42]
def xe(p:Prog)(hl:p.decls.length<=sm)(nm m:A3):Ab prog 138 [Cs p,Bo nm,Bo m] (A6 (N4 p nm m)):=by
 unfold N4;refine cB func138 ?_;refine sR Xj ?_;refine kR Xj λK1 W=>?_;refine bA (A0.ii p.decls (X:=Unit) (λj _=>[(1,Bo nm),(2,Bo m),(3,.box 3 0),(7,A6 j)]) (λ_ _=>[(3,.cells ((Ah p).map .d))]) (λj _=>∀y,y∈p.decls.take j->E2 nm m y=false) () (by simp) sS (by simp[ble,A9,Ah]) ?_ ?_);intro _ U;rw[Ca]at U;refine Ag B1 Xj λV E=>?_;refine sE ?_;refine W _ _<|sR Xj ?_;rw[T5 U];exact aR
 .intro j _ d hd a0 dp tk Z U;refine Ag Z Xj λV E=>?_;refine gI E ?_;refine sK λV E=>bA ?_;have L:∀sl bx,E2 nm m d=false->Ae sl 1=Bo nm->Ae sl 2=Bo m->Ae sl 3=.box 3 0->Ae sl 7=A6 j->A9 bx 3=some (.cells ((Ah p).map .d))->V sl bx:=λsl bx hk g1 g2 g3 g4 g5=>by
   refine E _ _<|A0.ww (sl':=[(1,Bo nm),(2,Bo m),(3,.box 3 0),(7,A6 j)]) (bx':=[(3,.cells ((Ah p).map .d))]) (by simp[sle,B0,g1,g2,g3,g4]) (by simp[ble,g5]) ?_;refine lT Xj ?_;refine⟨(),?_,sS,(by simp[ble,A9,Ah])⟩;rw[tk];intro y hy;rcases Bj.1 hy with hy|hy
   exact U y hy;simp only[Ay,Eh,Eo]at hy;rw[hy];exact hk
  by_cases I:d.kind=3
  .by_cases J:d.name=nm
   .by_cases O:d.sig.name=m
    ·(refine sV Xj λK z=>?_;refine S5 I J O (E6 hd) ?_;refine S5 I J O (E6 hd) ?_;refine S5 I J O (E6 hd) ?_;apply z)
     refine eA rfl<|sR Xj ?_;rw[Rv hd (by simp[E2,I,J,O]) U];exact aR
    ·(refine sV Xj λK z=>?_;refine L4 I J (E6 hd) ?_;refine L4 I J (E6 hd) ?_;refine S5 I J O (E6 hd) ?_;apply z)
     refine dA rfl (cA (L _ _ (by simp[E2,O]) rfl rfl rfl rfl rfl))
   ·(refine sV Xj λK z=>?_;refine C0 I (E6 hd) ?_;refine L4 I J (E6 hd) ?_;apply z)
    refine dA rfl (cA (L _ _ (by simp[E2,J]) rfl rfl rfl rfl rfl))
  ·(refine sV Xj λK z=>?_;refine C0 I (E6 hd) ?_;apply z)
   refine dA rfl (cA (L _ _ (by simp[E2,I]) rfl rfl rfl rfl rfl))
def Ld(p:Prog)(x:Ty)(m:A3):Int:=if B9 p x 1=true then(match p.decls[(N4 p x.name m).toNat]? with
 |some d=>if 0<=N4 p x.name m/\d.vars.length=x.args.length then N4 p x.name m else -1
 |none=>-1)else -1
abbrev ZB:=[0,1,2,3,4,6,7,33]
def wT(p:Prog)(W:p.decls.length<=sm)(x:Ty)(m:A3):Ab prog 64 [Cs p,Ba x,Bo m] (A6 (Ld p x m)):=by
 have V:=xe p W x.name m;have J:=aG p x 1;unfold Ld;have Z:=My (E2 x.name m) p.decls;unfold N4 at*;generalize E3 (E2 x.name m) p.decls=k at*;refine cB func64 ?_;refine sR ZB ?_;refine sC V ZB ?_;rcases Fc (B9 p x 1)with h1|h1
 .rw[h1]at J;rw[A7 h1];rcases Z with⟨rfl,_⟩|⟨j,d,rfl,hd,_⟩
  .refine sK λO E=>?_;refine sG ZB [] 19 [] λK z=>?_;refine ev ?_;refine cc J ?_;apply z
   refine tI ?_;refine sR ZB ?_;have:(match p.decls[(-1:Int).toNat]? with
    |some d=>if 0<=(-1:Int)/\d.vars.length=x.args.length then(-1:Int)else -1
    |none=>-1) = -1:=by
    cases p.decls[(-1:Int).toNat]? with
    |none=>rfl
    |some d=>simp
   rw[this];exact aR
  .have L:¬(j:Int)<0:=by omega
   simp only[Ic,hd];by_cases U:d.vars.length=x.args.length
   .have I:(d.vars.length:Int)=x.args.length:=by omega
    rw[A7 ⟨by omega,U⟩];refine sK λO E=>?_;refine sG ZB [] 19 [] λK z=>?_;refine ev ?_;refine E0 L J ?_;refine C0 I (E6 hd) ?_;apply z;refine kI E ?_;refine sR ZB ?_;exact aR
   .have I:¬(d.vars.length:Int)=x.args.length:=by omega
    rw[A5 (λh=>U h.2)];refine sK λO E=>?_;refine sG ZB [] 19 [] λK z=>?_;refine ev ?_;refine E0 L J ?_;refine C0 I (E6 hd) ?_;apply z;refine tI ?_;refine sR ZB ?_;exact aR
 rw[h1]at J;rw[A5 (by rw[h1];decide)];refine sK λO E=>?_;refine sG ZB [] 19 [] λK z=>?_;refine ev ?_;refine cc J ?_;apply z;refine tI ?_;refine sR ZB ?_;exact aR
def Jm(p:Prog)(x:Ty)(d:Decl)(i:Nat):Bool:=decide (d.kind=3) && decide (d.name=x.name) && decide (Ld p x d.sig.name=(i:Int))
def Hf(p:Prog)(x:Ty)(j:Nat):List A4:=((p.decls.take j).zipIdx.filter λE=>Jm p x E.1 E.2).map λE=>E.1.sig.canon.subst E.1.vars x.args
variable {x:Ty}
def RV{p:Prog}{d:Decl}(I:j<p.decls.length)(ht:p.decls.take (j+1)=p.decls.take j++[d]):Hf p x (j+1)=Hf p x j++if Jm p x d j=true then[d.sig.canon.subst d.vars x.args]else[]:=by
 unfold Hf;have E:(p.decls.take j).length=j:=by rw[Dh];omega
 rw[ht,List.zipIdx_append,mN,Gy,E]
 congr 1
 simp only[wW,List.zipIdx_nil,Kf,jN,iN];split <;> simp_all
def WG(p:Prog)(x:Ty)(j:Nat):(Hf p x j).length<=j:=by unfold Hf;rw[B7];refine Cy (tN ..) ?_;rw[List.length_zipIdx,Dh];omega
abbrev Ug:=[0,1,2,3,4,5,6,7,12,39]
def F4s(p:Prog)(h:p.Sm)(x:Ty)(hx:x.Sm):Ci prog 128 [Cs p,Ba x] [] (.acc 5) [(5,.rows 7 (B4 (Hf p x p.decls.length)))]:=by
 have hl:=h.decls.1;refine bB func128 ?_;refine sR Ug ?_;refine sR Ug ?_;refine A0.pp 5 7 5 rfl<|kR Ug λK1 a0=>?_;refine bA (A0.ii p.decls (X:=Unit) (λj _=>[(2,.box 2 0),(3,.box 3 0),(5,.acc 5),(6,A6 j)]) (λj _=>[(2,.cells ((Ah p).map .d)),(3,.cells ((Bf x).map .d)),(5,.rows 7 (B4 (Hf p x j)))]) (λj _=>True) () trivial sS (by simp[ble,A9,Hf,B4,Ah,Bf]) ?_ ?_)
 intro _ _;refine Ag B1 Ug λU I=>?_;refine sE ?_;refine a0 _ _<|sR Ug ?_;exact A0.ret ⟨_,by rw[results128];rfl,.inl rfl,by simp[ble,A9]⟩
 .intro j _ d hd Z dp tk a1 hI;have a2:=WG p x j;have E:=RV (x:=x) (by omega) tk;have V:=h.decls.2 d Z;have W:=wT p hl x d.sig.name;refine Ag a1 Ug λU I=>?_;refine gI I ?_;refine sK λU I=>bA<|sI (E6 hd) [0,1,2,3,4,5,6,7,12,39] ?_;have J:∀sl bx,Jm p x d j=false->Ae sl 2=.box 2 0->Ae sl 3=.box 3 0->Ae sl 5=.acc 5->Ae sl 6=A6 j->A9 bx 2=some (.cells ((Ah p).map .d))->A9 bx 3=some (.cells ((Bf x).map .d))->A9 bx 5=some (.rows 7 (B4 (Hf p x j)))->U sl bx:=λsl bx hk g1 g2 g3 g4 g5 g6 g7=>by refine I _ _<|A0.ww (sl':=[(2,.box 2 0),(3,.box 3 0),(5,.acc 5),(6,A6 j)]) (bx':=[(2,.cells ((Ah p).map .d)),(3,.cells ((Bf x).map .d)),(5,.rows 7 (B4 (Hf p x j)))]) (by simp[sle,B0,g1,g2,g3,g4]) (by simp[ble,g5,g6,g7]) ?_;refine lT Ug ?_;rw[hk,A5 (by decide),Fv]at E;exact⟨(),trivial,sS,by simp[ble,A9,E,Ah,Bf]⟩
  by_cases L:d.kind=3
  .by_cases O:d.name=x.name
   .by_cases h3:Ld p x d.sig.name=(j:Int)
    ·(refine sQ Ug λK z=>?_;refine G1 L O ?_;refine E0 h3 W ?_;apply z)
     refine eA rfl ?_;have hk:Jm p x d j=true:=by simp[Jm,L,O,h3]
     rw[hk,A7 rfl]at E
     (refine lG Ug [] 10 [] λK z=>?_;refine ev ?_;refine cc (ZK d.sig V.sig) ?_;refine cc (mi d.vars x.args hx.arg _ V.sig.canon) ?_;refine⟨by simp,by unfold lim sm at*;omega,?_⟩;(try refine ev ?_);apply z;try simp only[Aa,Af])
     refine I _ _ ?_;refine lT Ug ?_;exact⟨(),trivial,sS,by simp[ble,A9,E,B4,Dp,Ah,Bf]⟩
    ·(refine sQ Ug λK z=>?_;refine G1 L O ?_;refine E0 h3 W ?_;apply z)
     refine dA rfl (cA (J _ _ (by simp[Jm,h3]) rfl rfl rfl rfl rfl rfl rfl))
   refine Ee L O Ug ?_;refine dA rfl (cA (J _ _ (by simp[Jm,O]) rfl rfl rfl rfl rfl rfl rfl))
  refine Ak L Ug ?_;refine dA rfl (cA (J _ _ (by simp[Jm,L]) rfl rfl rfl rfl rfl rfl rfl))
def pX(l:List Lit):∀(ds:List Decl)(i:Nat),Wj l ds i=(ds.findIdx? λd=>match Nx d with|some I=>decide (l=I.lits)|none=>false).map λj=>D.int .i64 ((i+j:Nat):Int)
 |[],i=>rfl
 |d::ds,i=>by
  rw[Wj,List.findIdx?_cons,pX l ds (i+1)];have E:∀o:Option Nat,(o.map λj=>D.int .i64 ((i+1+j:Nat):Int))=(o.map (·+1)).map λj=>D.int .i64 ((i+j:Nat):Int):=λo=>by
   cases o with
   |none=>rfl
   |some j=>simp only[Em,B8,D.int.injEq,Qx];congr 1;omega
  cases J:Nx d with
  |none=>simp only[A5 (show ¬(false=true) by decide)];exact E _
  |some k =>simp only;by_cases h:l=k.lits;simp[h];simp only[h,Gi,CG];exact E _
def G2w(nm m:A3):(λd:Decl=>match Nx d with|some L=>decide ((I3 nm (46::m)).lits=L.lits)|none=>false)=E2 nm m:=by
 funext d;unfold Nx E2;by_cases I:d.kind=1\/d.kind=2
 .rw[A7 I];have J:¬d.kind=3:=by omega
  simp[J,I3,D.lits,D.lit]
 .rw[A5 I];by_cases E:d.kind=3
  .rw[A7 E];have e:((I3 nm (46::m)).lits=(I3 d.name (46::d.sig.name)).lits)↔(d.name=nm/\d.sig.name=m):=by simp only[I3,D.lits,D.lit,Cj,G5,Ya,Lit.string.injEq,Va,Qx];exact⟨λh=>⟨h.1.symm,h.2.symm⟩,λh=>⟨h.1.symm,h.2.symm⟩⟩
   simp only[E,Xx,Ch,e,Bool.decide_and]
  rw[A5 E];simp[E]
def H7m(p:Prog)(nm m:A3):(N4 p nm m = -1/\Fh (I3 nm (46::m)).lits (Rt p) 0=none)\/∃(j q:Nat),N4 p nm m=j/\Fh (I3 nm (46::m)).lits (Rt p) 0=some (q,.int .i64 j):=by
 have E:Q1 (I3 nm (46::m)).lits (Rt p)=Wj (I3 nm (46::m)).lits p.decls 0:=by unfold Rt;rw[uU];rfl
 rw[pX,G2w]at E;unfold Q1 at E;unfold N4 E3;cases J:p.decls.findIdx? (E2 nm m)with
 |none =>rw[J]at E;exact .inl ⟨rfl,by simpa using E⟩
 |some j =>
  rw[J]at E;refine .inr ⟨j,?_⟩;cases I:Fh (I3 nm (46::m)).lits (Rt p) 0 with
  |none=>rw[I]at E;simp at E
  |some L =>obtain⟨q,d⟩:=L;rw[I]at E;simp only[Em,B8,Kf]at E;exact⟨q,rfl,by rw[E]⟩
def G7e{p:Prog}{d:Decl}(V:B9 p x 1=true)(hd:p.decls[j]?=some d):Jm p x d j=(decide (N4 p x.name d.sig.name=(j:Int)) && decide (d.vars.length=x.args.length)):=by
 unfold Jm Ld;rw[A7 V];unfold N4;rcases My (E2 x.name d.sig.name) p.decls with⟨J,_⟩|⟨k,e,J,L,O⟩
 .rw[J];have E:¬(-1:Int)=(j:Int):=by omega
  have:(match p.decls[(-1:Int).toNat]? with
    |some d=>if 0<=(-1:Int)/\d.vars.length=x.args.length then(-1:Int)else -1
    |none=>-1) = -1:=by
    cases p.decls[(-1:Int).toNat]? with
    |none=>rfl
    |some d=>simp
  rw[this];simp[E]
 .rw[J];simp only[Ic,L];by_cases U:k=j
  .subst U;rw[L]at hd;simp only[B8]at hd;subst hd;simp only[E2,Bh,Di]at O;by_cases I:e.vars.length=x.args.length;simp[O,I]
   .have E:¬(-1:Int)=(k:Int):=by omega
    simp[I,E]
  .have E:¬(k:Int)=(j:Int):=by omega
   by_cases I:e.vars.length=x.args.length;simp[I,E]
   .have J:¬(-1:Int)=(j:Int):=by omega
    simp[I,E,J]
theorem GY{p:Prog}(E:¬B9 p x 1=true)(j:Nat):Hf p x j=[]:=by
 unfold Hf;rw[nN,List.filter_eq_nil_iff];rintro⟨d,i⟩ _;simp only[Jm,Ld,A5 E];have I:¬(-1:Int)=(i:Int):=by omega
 simp[I]
abbrev P2:=[0,1,3,4,6,7,8,9,10,11,19,24,25,26,27,60]
def H0d(p:Prog)(h:p.Sm)(x:Ty)(hx:x.Sm):Ci prog 80 [.A8 (D4 p) 0,Ba x] [] (.acc 7) [(7,.rows 7 (B4 (Hf p x p.decls.length)))]:=by
 have hl:=h.decls.1;have O:=MS p h x 1 (by decide);generalize(Ec p x.name).getD default=dd at*;refine bB func80 ?_;refine sR P2 ?_;rcases Fc (B9 p x 1)with hi|hi
 .rw[hi]at O;refine kC O P2 λK1 J=>?_;refine sR P2 ?_;refine kI J ?_;refine sR P2 ?_;refine A0.pp 7 7 7 rfl<|Ag @D4.eq_1 P2 λK1 J=>?_;refine bA (A0.ii p.decls (X:=Unit) (λj _=>[(0,.A8 (D4 p) 0),(3,.box 3 0),(7,.acc 7),(24,.d (.slice (Bx p.decls))),(25,A6 p.decls.length),(26,A6 j)]) (λj _=>[(3,.cells ((Bf x).map .d)),(7,.rows 7 (B4 (Hf p x j)))]) (λj _=>True) () trivial (by simp[sle,B0,Ae,D4,Ah]) (by simp[ble,A9,Hf,B4,Bf]) ?_ ?_)
  intro _ _;refine Ak B1 P2 ?_;refine A0.stop rfl ?_;simp only[Aa,Af,Av];refine J _ _<|sR P2 ?_;exact A0.ret ⟨_,by rw[results80];rfl,.inl rfl,by simp[ble,A9]⟩
  .intro j _ d hd a1 dp tk a2 hI;have a3:=WG p x j;have E:=RV (x:=x) (by omega) tk;have W:=h.decls.2 d a1;have hb:=G7e hi hd;refine Ak a2 P2 ?_;refine kA rfl<|sK λK2 V=>bA<|sI (E6 hd) [0,1,3,4,6,7,8,9,10,11,19,24,25,26,27,60] ?_;have a4:=W.sig.name;have Z:=NL mM x.name (46::d.sig.name) (Cy hx.name (by decide)) (by simp only[Bg];unfold sm lim at*;omega);have a0:=H7m p x.name d.sig.name;unfold I3 at Z a0
   refine sG P2 [] 16 [] λK z=>?_;refine Bb @D4.eq_1 ?_;refine⟨by unfold sm lim at*;omega,db p h,Z,?_⟩;(try refine Bb @D4.eq_1 ?_);apply z;have L:∀sl bx,Jm p x d j=false->Ae sl 0=.A8 (D4 p) 0->Ae sl 3=.box 3 0->Ae sl 7=.acc 7->Ae sl 24=.d (.slice (Bx p.decls))->Ae sl 25=A6 p.decls.length->Ae sl 26=A6 j->A9 bx 3=some (.cells ((Bf x).map .d))->A9 bx 7=some (.rows 7 (B4 (Hf p x j)))->K2 sl bx:=λsl bx Z g1 g2 g3 g4 g5 g6 g7 g8=>by refine V _ _ ?_;refine A0.ww (sl':=[(0,.A8 (D4 p) 0),(3,.box 3 0),(7,.acc 7),(24,.d (.slice (Bx p.decls))),(25,A6 p.decls.length),(26,A6 j)]) (bx':=[(3,.cells ((Bf x).map .d)),(7,.rows 7 (B4 (Hf p x j)))]) (by simp[sle,B0,g1,g2,g3,g4,g5,g6]) (by simp[ble,g7,g8]) ?_;refine lT P2 ?_;rw[Z,A5 (by decide),Fv]at E;exact⟨(),trivial,(by simp[sle,B0,Ae,D4,Ah]),by simp[ble,A9,E,Bf]⟩
   rcases a0 with⟨m1,m2⟩|⟨k,q,m1,m2⟩
   .have h0:¬(-1:Int)=(j:Int):=by omega
    simp only[T2,m2,Uj];refine sR P2 ?_;refine dA rfl (cA (L _ _ (by rw[hb,m1];simp[h0]) rfl rfl rfl rfl rfl rfl rfl rfl))
   .simp only[T2,m2,ofD,tR];by_cases I:(k:Int)=(j:Int)
    .by_cases hv:d.vars.length=x.args.length
     .have U:(d.vars.length:Int)=x.args.length:=by omega
      refine Ee I U P2 ?_;refine eA rfl ?_;have Z:Jm p x d j=true:=by rw[hb,m1];simp[I,hv]
      rw[Z,A7 rfl]at E;(refine lG P2 [] 10 [] λK z=>?_;refine ev ?_;refine cc (wP d.sig W.sig) ?_;refine cc (VU d.vars x.args hx.arg _ W.sig.canon) ?_;refine⟨by simp,by unfold lim sm at*;omega,?_⟩;(try refine ev ?_);apply z;try simp only[Aa,Af]);refine V _ _ ?_;refine lT P2 ?_;exact⟨(),trivial,(by simp[sle,B0,Ae,D4,Ah]),by simp[ble,A9,E,B4,Dp,Bf]⟩
     .have U:¬(d.vars.length:Int)=x.args.length:=by omega
      refine Ee I U P2 ?_;refine dA rfl (cA (L _ _ (by rw[hb,m1];simp[hv]) rfl rfl rfl rfl rfl rfl rfl rfl))
    refine Ak I P2 ?_;refine dA rfl (cA (L _ _ (by rw[hb,m1];simp[I]) rfl rfl rfl rfl rfl rfl rfl rfl))
 rw[hi]at O;refine kC O P2 λK1 J=>?_;refine sR P2 ?_;refine tI ?_;refine sR P2 ?_;rw[GY (by rw[hi];decide)];refine A0.pp 7 7 4 rfl<|A0.ret ⟨_,by rw[results80];rfl,.inl rfl,by simp[ble,A9,B4]⟩
def H4(l:List A3):List (D × D):=l.map λs=>(.str s,.bool true)
def Tk(l:List A3)(s:A3):List A3:=if s∈l then l else l++[s]
def BL(s:A3):∀(l:List A3)(i:Nat),(s∈l->∃j,l[j]?=some s/\Fh (D.str s).lits (H4 l) i=some (i+j,.bool true))/\(s∉l->Fh (D.str s).lits (H4 l) i=none)
 |[],i=>by simp[H4,Fh]
 |x::l,i=>by
  have J:=BL s l (i+1);have U:H4 (x::l)=(.str x,.bool true)::H4 l:=rfl;rw[U];simp only[Fh];by_cases I:s=x;subst I;refine⟨λ_=>⟨0,rfl,by simp⟩,λh=>absurd (GG ..) h⟩
  .have E:¬(D.str s).lits=(D.str x).lits:=by simp[D.lits,D.lit,I]
   rw[A5 E];refine⟨λh=>?_,λh=>J.2 λO=>h (by simp[O])⟩;obtain⟨j,V,L⟩:=J.1 ((Ay.1 h).resolve_left I);exact⟨j+1,by simpa using V,by rw[L];congr 2;omega⟩
def jQ(s:A3)(l:List A3):Ro (.str s) (.bool true) (H4 l)=H4 (Tk l s):=by unfold Ro Tk;by_cases h:s∈l;obtain⟨j,E,J⟩:=(BL s l 0).1 h;rw[J,A7 h];have I:=(Az.1 E).1;have O:l[j]=s:=(Az.1 E).2;simp only[Kf];apply Kx;intro k;by_cases L:k=j;subst L;rw[List.getElem?_set_self (by simpa [H4]using I)];simp[H4,E];rw[uR (by omega)];rw[(BL s l 0).2 h,A5 h];simp[H4]
def CP(s:A3)(l:List A3):T2 (.str s) (H4 l) (.d (.bool false))=Ar (decide (s∈l)):=by unfold T2;by_cases h:s∈l;obtain⟨j,I,E⟩:=(BL s l 0).1 h;rw[E];simp[ofD,h];rw[(BL s l 0).2 h];simp[h]
def K0{l:List A3}{s x:A3} :x∈Tk l s↔x=s\/x∈l:=by unfold Tk;split;constructor;exact .inr;rintro(rfl|h);assumption;exact h;simp[or_comm]
def II(s:A3)(h:s.length<=lim):E1 prog 9 (.str s):=by have E:prog.underlying 9=some .string:=xN.2.2.2.2.1;refine⟨rfl,by simp[D.kv,D.lit,Lit.value,Value.formed,E],?_⟩;simp[D.kv,D.lit,D.lits,Lit.value,Value.cells,Program.keyLits,E,ByteArray.size];unfold lim at h;unfold maxLen;omega
def RT{l:List A3}(h:∀s,s∈l->s.length<=lim):∀kv,kv∈H4 l->E1 prog 9 kv.1:=by intro kv E;obtain⟨s,hs,rfl⟩:=Ap.1 E;exact II s (h s hs)
def Sz(l:List A4):List A3:=l.foldl (λm s=>Tk m s.name) []
def H6j(l:List A4)(d:A4):Sz (l++[d])=Tk (Sz l) d.name:=by simp[Sz]
def F5s(l:List A4)(s:A3):∀m:List A3,s∈l.foldl (λm s=>Tk m s.name) m↔s∈m\/∃y,y∈l/\y.name=s:=by
 induction l with
 |nil=>simp
 |cons a l I =>intro m;rw[Mt,I,K0];simp only[Ay];constructor;rintro((rfl|h)|⟨y,h1,E⟩);exact .inr ⟨a,.inl rfl,rfl⟩;exact .inl h;exact .inr ⟨y,.inr h1,E⟩;rintro(h|⟨y,rfl|h1,E⟩);exact .inl (.inr h);exact .inl (.inl E.symm);exact .inr ⟨y,h1,E⟩
def YW(l:List A4)(s:A3):s∈Sz l↔∃y,y∈l/\y.name=s:=by unfold Sz;rw[F5s];simp
def Qt(l:List A4)(s:A4)(i:Nat):Bool:=decide (∀y,y∈l.take i->y.name≠s.name)
def Im(vars:List A3)(args:List Ty)(l:List A4)(j:Nat):List A4:=((l.take j).zipIdx.filter λE=>Qt l E.1 E.2).map λE=>E.1.canon.subst vars args
def zV{vars:List A3}{args:List Ty}{l:List A4}{d:A4}(I:j<l.length)(ht:l.take (j+1)=l.take j++[d]):Im vars args l (j+1)=Im vars args l j++if Qt l d j=true then[d.canon.subst vars args]else[]:=by
 unfold Im;have E:(l.take j).length=j:=by rw[Dh];omega
 rw[ht,List.zipIdx_append,mN,Gy,E]
 congr 1
 simp only[wW,List.zipIdx_nil,Kf,jN,iN];split <;> simp_all
def qL(vars:List A3)(args:List Ty)(l:List A4)(j:Nat):(Im vars args l j).length<=j:=by unfold Im;rw[B7];refine Cy (tN ..) ?_;rw[List.length_zipIdx,Dh];omega
def Xh(d:Decl)(x:Ty):List A4:=Im (Ad d.A1) x.args d.sigs d.sigs.length
def Hj(p:Prog)(x:Ty):List A4:=if B9 p x 2=true then Xh ((Ec p x.name).getD default) x else[]
def La{p:Prog}{k:Int}(L:k≠0)(h:B9 p x k=true):∃d,Ec p x.name=some d/\d.kind=k/\d.A1.length=x.args.length:=by
 unfold B9 at h;simp only[Bh,Di]at h;cases E:Ec p x.name with
 |none=>have:=(rV E).1;omega
 |some d =>obtain⟨J,I⟩:=zU E;exact⟨d,rfl,by omega,by rw[<-I];exact h.2⟩
abbrev Q9:=[0,1,3,4,5,6,7,8,9,11,19,20,22,23,24,25,32]
def tS(p:Prog)(h:p.Sm)(x:Ty)(hx:x.Sm):Ci prog 79 [.A8 (D4 p) 0,Ba x] [] (.tuple [.acc 8,Ar (B9 p x 2)]) [(8,.rows 7 (B4 (Hj p x)))]:=by
 have I:=MS p h x 2 (by decide);unfold Hj;rcases Fc (B9 p x 2)with hi|hi
 .obtain⟨E,Z,_⟩:=La (by decide) hi;rw[hi]at I;rw[A7 hi,hi];rw[Z,Dx]at I |-;have L:=h.decls.2 E (P3 Z);have aa:=L.sigs.1;unfold Xh;refine bB func79 ?_;refine sR Q9 ?_;refine sC I Q9 ?_;refine kR Q9 λK1 O=>?_;refine kI O ?_;refine sR Q9 ?_;refine A0.pp 8 7 8 rfl<|sR Q9 ?_;refine kR Q9 λK1 O=>?_;refine bA (A0.ii E.sigs (X:=Unit) (λj _=>[(3,.box 3 0),(6,.box 6 0),(8,.acc 8),(9,.mp 20),(22,.d (.slice (B4 E.sigs))),(23,A6 E.sigs.length),(24,A6 j)]) (λj _=>[(3,.cells ((Bf x).map .d)),(6,.cells ((Am E).map .d)),(8,.rows 7 (B4 (Im (Ad E.A1) x.args E.sigs j))),(20,.map (H4 (Sz (E.sigs.take j))))]) (λj _=>True) () trivial sS (by simp[ble,A9,Im,B4,Am,Bf,H4,Sz]) ?_ ?_)
  intro _ _;refine Ak B1 Q9 ?_;refine A0.stop rfl ?_;simp only[Aa,Af,Av];refine O _ _<|sR Q9 ?_;exact A0.ret ⟨_,by rw[results79];rfl,.inl rfl,by simp[ble,A9]⟩
  .intro j _ d hd a2 dp tk a4 hI;have a':=qL (Ad E.A1) x.args E.sigs j;have J:=zV (vars:=Ad E.A1) (args:=x.args) (by omega) tk;have W:=L.sigs.2 d a2;have V:Sz (E.sigs.take (j+1))=Tk (Sz (E.sigs.take j)) d.name:=by rw[tk,H6j]
   have hk:E1 prog 9 (.str d.name):=II _ (Cy W.name (by decide));have a1:∀kv,kv∈H4 (Sz (E.sigs.take j))->E1 prog 9 kv.1:=RT λs hs=>by obtain⟨y,hy,rfl⟩:=(YW _ _).1 hs;exact Cy (L.sigs.2 y (Kv hy)).name (by decide)
   have U:Qt E.sigs d j = !decide (d.name∈Sz (E.sigs.take j)):=by unfold Qt;rw[iC];simp[YW]
   refine Ak a4 Q9 ?_;refine kA rfl<|sK λK2 a7=>bA<|sI (Dg hd) [0,1,3,4,5,6,7,8,9,11,19,20,22,23,24,25,32] ?_;refine sK λK3 a3=>?_
   refine sQ Q9 λK z=>?_;simp -implicitDefEqProofs only[EV,D8,Nat.reduceEqDiff,reduceCtorEq,CP];refine⟨a1,hk,?_⟩;(try simp -implicitDefEqProofs only[EV,D8,M6,Mp,Nat.reduceAdd,Nat.reduceEqDiff,Nat.reduceBEq,Nat.reduceLeDiff,Nat.reduceSub,Nat.reduceMul,Int.reduceEq,Int.reduceLT,Int.reduceLE,Int.reduceSub,Int.reduceAdd,Int.reduceToNat,reduceCtorEq,Int.reduceNeg,CP]);apply z
   have a0:∀sl bx,Ae sl 3=.box 3 0->Ae sl 6=.box 6 0->Ae sl 8=.acc 8->Ae sl 9=.mp 20->Ae sl 11=.box 11 0->Ae sl 22=.d (.slice (B4 E.sigs))->Ae sl 23=A6 E.sigs.length->Ae sl 24=A6 j ->A9 bx 3=some (.cells ((Bf x).map .d))->A9 bx 6=some (.cells ((Am E).map .d))->A9 bx 8=some (.rows 7 (B4 (Im (Ad E.A1) x.args E.sigs (j+1))))->A9 bx 11=some (.cells (Q3 d))->A9 bx 20=some (.map (H4 (Sz (E.sigs.take j))))->K3 sl bx:=λsl bx g1 g2 g3 g4 g5 g6 g7 g8 g9 a9 a8 a6 a5=>by
    refine a3 _ _<|A0.ww (sl':=[(3,.box 3 0),(6,.box 6 0),(8,.acc 8),(9,.mp 20),(11,.box 11 0),(22,.d (.slice (B4 E.sigs))),(23,A6 E.sigs.length),(24,A6 j)]) (bx':=[(3,.cells ((Bf x).map .d)),(6,.cells ((Am E).map .d)),(8,.rows 7 (B4 (Im (Ad E.A1) x.args E.sigs (j+1)))),(11,.cells (Q3 d)),(20,.map (H4 (Sz (E.sigs.take j))))]) (by simp[sle,B0,g1,g2,g3,g4,g5,g6,g7,g8]) (by simp[ble,g9,a9,a8,a6,a5]) ?_
    (refine lQ Q9 λK z=>?_;simp -implicitDefEqProofs only[EV,D8,Nat.reduceEqDiff,reduceCtorEq,jQ];refine⟨a1,hk,?_⟩;(try simp -implicitDefEqProofs only[EV,D8,M6,Mp,Nat.reduceAdd,Nat.reduceEqDiff,Nat.reduceBEq,Nat.reduceLeDiff,Nat.reduceSub,Nat.reduceMul,Int.reduceEq,Int.reduceLT,Int.reduceLE,Int.reduceSub,Int.reduceAdd,Int.reduceToNat,reduceCtorEq,Int.reduceNeg,jQ]);apply z;try simp only[Aa,Af])
    refine a7 _ _<|lT Q9 ?_;exact⟨(),trivial,sS,by simp[ble,A9,V,Bf,Am]⟩
   by_cases I:d.name∈Sz (E.sigs.take j);rw[Bn I];refine dA rfl (cA (a0 _ _ rfl rfl rfl rfl rfl rfl rfl rfl rfl rfl (by rw[J,U,Bn I];simp[A9]) rfl rfl))
   .rw[Cb I];refine eA rfl ?_;have hn:Qt E.sigs d j=true:=by rw[U,Cb I];rfl
    rw[hn,A7 rfl]at J;(refine lG Q9 [] 10 [] λK z=>?_;refine ev ?_;refine cc (wP d W) ?_;refine cc (fK E.A1 L.A1.1) ?_;refine cc (VU (Ad E.A1) x.args hx.arg _ W.canon) ?_;refine⟨by simp,by unfold lim sm at*;omega,?_⟩;(try refine ev ?_);apply z;try simp only[Aa,]);exact a0 _ _ rfl rfl rfl rfl rfl rfl rfl rfl rfl rfl (by rw[J];simp[A9,B4,Dp]) rfl rfl
 rw[hi]at I;rw[A5 (by rw[hi];decide),hi];refine bB func79 ?_;refine sR Q9 ?_;refine sC I Q9 ?_;refine kR Q9 λK1 O=>?_;refine tI ?_;refine sR Q9 ?_;refine A0.pp 8 7 4 rfl<|A0.ret ⟨_,by rw[results79];rfl,.inl rfl,by simp[ble,A9,B4]⟩
abbrev N1:=[0,1,2,3,4,5,6,7,8,9,22,27,42,43]
def lv(p:Prog)(h:p.Sm)(x:Ty)(hx:x.Sm)(hi:B9 p x 2=true):Ci prog 127 [Cs p,Ba x] [] (.acc 6) [(6,.rows 7 (B4 (Hj p x)))]:=by
 unfold Hj;rw[A7 hi];obtain⟨E,J,_⟩:=La (by decide) hi;rw[J,Dx];have V:=h.decls.2 E (P3 J);have ad:=V.sigs.1;have a2:=PI p x.name;obtain⟨k,a9,a6⟩:∃k:Nat,p.decls[k]?=some E/\findD x.name p.decls 0=k:=by rcases lK x.name p.decls 0 with⟨h1,h2⟩|⟨k,d,h1,h2,h3⟩;unfold Ec at J;rw[h2]at J;simp at J;unfold Ec at J;rw[h3]at J;simp only[B8]at J;subst J;exact⟨k,h1,by rw[h2];simp⟩
 rw[a6]at a2;unfold Xh;refine bB func127 ?_;refine sR N1 ?_;refine sG N1 [] 9 gp λK z=>?_;refine ev ?_;refine cc a2 ?_;refine ci (E6 a9) ?_;apply z;refine sR N1 ?_;refine A0.pp 6 7 6 rfl<|kR N1 λK1 a7=>?_;refine bA (A0.ii E.sigs (X:=Unit) (λj _=>[(3,.box 3 0),(5,.box 5 0),(6,.acc 6),(7,A6 j)]) (λj _=>[(3,.cells ((Bf x).map .d)),(5,.cells ((Am E).map .d)),(6,.rows 7 (B4 (Im (Ad E.A1) x.args E.sigs j)))]) (λj _=>True) () trivial sS (by simp[ble,A9,Im,B4,Am,Bf]) ?_ ?_)
 intro _ _;refine Ag B1 N1 λK2 O=>?_;refine sE ?_;refine a7 _ _<|sR N1 ?_;exact A0.ret ⟨_,by rw[results127];rfl,.inl rfl,by simp[ble,A9]⟩
 .intro j _ d hd a5 dp tk a8 hI;have aa:=qL (Ad E.A1) x.args E.sigs j;have L:=zV (vars:=Ad E.A1) (args:=x.args) (by omega) tk;have a1:=V.sigs.2 d a5;have a4:(E.sigs.take j).length=j:=by rw[Dh];omega
  refine Ag a8 N1 λK2 O=>?_;refine gI O ?_;refine sK λK2 O=>bA<|sR N1 ?_;refine kR N1 λK3 Z=>?_;refine bA (A0.ii (E.sigs.take j) (X:=Unit) (λi _=>[(3,.box 3 0),(5,.box 5 0),(6,.acc 6),(7,A6 j),(8,Ar (Qt (E.sigs.take j) d i)),(9,A6 i)]) (λ_ _=>[(3,.cells ((Bf x).map .d)),(5,.cells ((Am E).map .d)),(6,.rows 7 (B4 (Im (Ad E.A1) x.args E.sigs j)))]) (λ_ _=>True) () trivial (by simp[sle,B0,Ae,Qt]) (by simp[ble,A9,Am,Bf]) ?_ ?_)
  .intro _ _;have U:Qt (E.sigs.take j) d (E.sigs.take j).length=Qt E.sigs d j:=by unfold Qt;rw[Ca]
   rw[U,a4];refine Ag B1 N1 λW I=>?_;refine sE ?_;refine Z _ _ ?_;refine sR N1 ?_;rcases Fc (Qt E.sigs d j)with hn|hn;rw[hn,A7 rfl]at L;rw[hn];refine eA rfl ?_;(refine lG N1 [] 14 [] λK z=>?_;refine ev ?_;refine ci (Dg hd) ?_;refine cc (ZK d a1) ?_;refine cc (Ss E.A1 V.A1.1) ?_;refine cc (mi (Ad E.A1) x.args hx.arg _ a1.canon) ?_;refine⟨by simp,by unfold lim sm at*;omega,?_⟩;(try refine ev ?_);apply z;try simp only[Aa,Af]);refine O _ _ ?_;refine lT N1 ?_;exact⟨(),trivial,sS,by simp[ble,A9,L,B4,Dp,Am,Bf]⟩;rw[hn,A5 (by decide),Fv]at L;rw[hn];refine dA rfl (cA (O _ _ ?_));refine lT N1 ?_;exact⟨(),trivial,sS,by simp[ble,A9,L,Am,Bf]⟩
  .intro i _ e he ae ac a' a0 ab;rw[a4]at a0;have a3:E.sigs[i]?=some e:=by rw[uN (by omega)]at he;exact he
   have U:Qt (E.sigs.take j) d (i+1)=(Qt (E.sigs.take j) d i && !decide (e.name=d.name)):=by unfold Qt;rw[a',iC];simp only[Di,Bj,Ay,Eh,Eo,Bh,Lu,lC];exact⟨λh=>⟨λy hy=>h y (.inl hy),h e (.inr rfl)⟩,λh y hy=>hy.elim (h.1 y) (λhe=>he ▸ h.2)⟩
   refine Ag a0 N1 λW I=>?_;refine gI I ?_;refine sK λW I=>bA ?_;by_cases hn:e.name=d.name;rw[Bn hn,jR,Tx]at U;refine sG N1 [] 12 [] λK z=>?_;refine ev ?_;refine C0 hn (Dg a3) ?_;refine ci (Dg hd) ?_;apply z;refine eA rfl ?_;(refine lV N1 λK z=>?_;apply z;try simp only[Aa,Af]);refine I _ _ ?_;refine lT N1 ?_;exact⟨(),trivial,(by simp[sle,B0,Ae,U]),by simp[ble,A9,Am,Bf]⟩;rw[Cb hn,mR,EG]at U;refine sG N1 [] 12 [] λK z=>?_;refine ev ?_;refine ci (Dg a3) ?_;refine C0 hn (Dg hd) ?_;apply z;refine dA rfl (cA (I _ _ ?_));refine lT N1 ?_;exact⟨(),trivial,(by simp[sle,B0,Ae,U]),by simp[ble,A9,Am,Bf]⟩
structure Fits(Y:Hq)(j:Nat)(l:List Ex):Prop where
 P:Y.P=prog
 N:j+l.length<=Y.N
 at_:∀i e,l[i]?=some e->Y.xs (j+i)=D6 e/\Y.go (j+i)=decide (e.kind=3)
theorem Fits.left{Y:Hq}{l m:List Ex}(h:Fits Y j (l++m)):Fits Y j l where
 P:=h.P
 N:=by have:=h.N;rw[B5]at this;omega
 at_:=λi e E=>h.at_ i e (by rw[Mm (Az.1 E).1];exact E)
def Fits.right{Y:Hq}{l m:List Ex}(h:Fits Y j (l++m)):Fits Y (j+l.length) m where
 P:=h.P
 N:=by have:=h.N;rw[B5]at this;omega
 at_:=λi e E=>by have:=h.at_ (l.length+i) e (by rw[Lq (by omega)];simpa using E);rw[Uf];exact this
def eX{vars:List A3}{args:List Ty}(L:∀u,u∈args->u.Sm):∀t:Ty,t.Sm->(t.subst vars args).Sm:=by
 intro t
 induction t using Ty.induct with
 |h t J =>
 intro h;rw[W1];split
 .rename_i U;have E:(Du t.name vars 0).toNat<args.length:=by omega
  rw[Bu E,Dx];have:=L _ (Gc E);exact .mk _ _ _ this.name this.len this.arg
 .refine .mk _ _ _ h.name (by rw[B7];exact h.len) λu O=>?_;obtain⟨x,I,rfl⟩:=Ap.1 O;exact J x I (h.arg x I)
def Ex.Sm.subst{vars:List A3}{args:List Ty}(J:∀u,u∈args->u.Sm)(e:Ex):e.Sm->(e.subst vars args).Sm:=by
 induction e using Ex.induct with
 |h e L =>
 intro h;unfold Ex.subst;rw[AE];refine .mk _ _ _ _ _ _ h.name (eX J _ h.type) ?_ ?_ ?_ ?_
 .show(e.targs.map (Ty.subst vars args)).length<=sm;rw[B7];exact h.targs.1
 .intro t ht;have ht:t∈e.targs.map (Ty.subst vars args):=ht;obtain⟨u,E,rfl⟩:=Ap.1 ht;exact eX J _ (h.targs.2 u E)
 .show(e.kids.map _).length<=sm;rw[B7];exact h.kids.1
 .intro k I;have I:k∈e.kids.map (Ex.mapped (Ex.PE vars args)):=I;obtain⟨u,E,rfl⟩:=Ap.1 I;exact L u E (h.kids.2 u E)
def QL(vars:List A3)(E:List Ex)(e:Ex):Ex:=if e.kind=1/\0<=Du e.name vars 0/\Du e.name vars 0<E.length then(E[(Du e.name vars 0).toNat]?).getD e else e
def Ex.Ta(vars:List A3)(E:List Ex):Ex->Ex:=Ex.mapped (QL vars E)
abbrev jE:=[0,1,2,3,6,7,8,30,67]
abbrev iz:Ji:=⟨[],[],[7],[7]⟩
def lq(vars:List A3)(args:List Ty)(W:∀u,u∈args->u.Sm)(e:Ex):e.Sm->Ab prog 65 [D6 e,Cm vars,Cv args] (D6 (e.subst vars args)):=by
 induction e using Ex.induct with
 |h e Z =>
 intro I;have a0:=I.kids.1;have h1:=Qw vars args W e.type I.type;have h2:=H1o vars args W e.targs I.targs.1 I.targs.2;have L:e.subst vars args=.mk e.kind e.name (e.type.subst vars args) (e.targs.map (Ty.subst vars args)) (e.kids.map (Ex.subst vars args)) e.pos:=by unfold Ex.subst;rw[AE];rfl
 rw[L];generalize e.type.subst vars args=T at*;generalize e.targs.map (Ty.subst vars args)=A at*;refine cB func65 ?_;refine sR jE ?_
 (refine sG jE [] 18 [iz,iz,iz,iz,iz,iz,iz,iz,iz,iz,iz,iz,iz,iz,iz,iz,iz,⟨[7],[7],[],[]⟩] λK z=>?_;refine ev ?_;refine cc h1 ?_;refine cc h2 ?_;apply z)
 refine rA 67 8 7 6 rfl rfl (by decide)<|kR jE λK1 U=>?_;refine bA (A0.ii e.kids (X:=Unit) (λj _=>[(1,Cm vars),(2,Cv args),(3,.box 3 0),(6,.box 6 0),(7,.box 7 0),(8,A6 j)]) (λj _=>[(3,.cells (exS e)),(6,.cells [.d (.int .i64 0),.d (.str []),.d (.str []),.d .nil,.d (.int .i64 0),.d .nil,.d .nil,.d (.int .i64 0)]),(7,.cells [.d (.int .i64 e.kind),.d (.str e.name),.d (.str T.name),.d (.slice (Au T.args)),.d (.int .i64 T.pos),.d (.slice (Au A)),.acc 67,.d (.int .i64 e.pos)]),(67,.rows 8 (Ed ((e.kids.take j).map (Ex.subst vars args))))]) (λj _=>True) () trivial sS (by simp[ble,A9,P8,exS]) ?_ ?_)
 .intro _ _;rw[Ca];refine Ag B1 jE λO E=>?_;refine sE ?_;refine U _ _<|sR jE ?_;exact aR
 .intro j _ d hd J dp tk V _;rw[tk];refine Ag V jE λO E=>?_;refine gI E ?_;refine sK λO E=>bA ?_
  (refine lG jE [] 11 [] λK z=>?_;refine ev ?_;refine ci (Ey hd) ?_;refine cc (Z d J (I.kids.2 d J)) ?_;refine⟨by simp,by simp only[B7,Dh];unfold lim sm at*;omega,?_⟩;(try refine ev ?_);apply z;try simp only[Aa,Af])
  refine E _ _ ?_;refine lT jE ?_;exact⟨(),trivial,sS,by simp[ble,A9,P8,Ce,exS]⟩
def fieldsD(d:Decl)(x:Ty):List Param:=d.fields.map (Param.subst (Ad d.A1) x.args)
def Bc(p:Prog)(x:Ty):List Param:=if B9 p x 1=true then fieldsD ((Ec p x.name).getD default) x else[]
abbrev Tp:=[0,1,3,4,5,6,7,8,10,18,20,21,22,23]
def F9q(p:Prog)(h:p.Sm)(x:Ty)(hx:x.Sm):Ab prog 317 [.A8 (D4 p) 0,Ba x] (.tuple [.d (.slice (Aw (Bc p x))),Ar (B9 p x 1)]):=by
 have J:=MS p h x 1 (by decide);unfold Bc;rcases Fc (B9 p x 1)with hi|hi
 .obtain⟨I,O,_⟩:=La (by decide) hi;rw[hi,A7 rfl];rw[O,Dx,hi]at J;rw[O,Dx];have L:=h.decls.2 I (P3 O);have a1:=L.fields.1;have hn:=fK I.A1 L.A1.1;unfold fieldsD;refine cB func317 ?_;refine sR Tp ?_;refine sC J Tp ?_;refine kR Tp λZ E=>?_;refine kI E ?_;refine sR Tp ?_;refine A0.pp 8 5 8 rfl<|kR Tp λZ E=>?_;refine bA (A0.ii I.fields (X:=Unit) (λj _=>[(3,.box 3 0),(6,.box 6 0),(8,.acc 8),(20,.d (.slice (Aw I.fields))),(21,A6 I.fields.length),(22,A6 j)]) (λj _=>[(3,.cells [.d (.str x.name),Cv x.args,A6 x.pos]),(6,.cells ((Am I).map .d)),(8,.rows 5 (Aw ((I.fields.take j).map (Param.subst (Ad I.A1) x.args))))]) (λj _=>True) () trivial sS (by simp[ble,A9,Aw,Am]) ?_ ?_)
  intro _ _;rw[Ca];refine Ak B1 Tp ?_;refine A0.stop rfl ?_;simp only[Aa,Af,Av];refine E _ _<|sR Tp ?_;exact aR
  .intro j _ d hd V dp tk a0 _;rw[tk];have W:=OP (Ad I.A1) x.args hx.arg d.type (L.fields.2 d V).type;refine Ak a0 Tp ?_;refine kA rfl<|sK λK2 U=>bA<|sI (Dt hd) [0,1,3,4,5,6,7,8,10,18,20,21,22,23] ?_
   (refine lG Tp [] 15 [] λK z=>?_;refine ev ?_;refine cc hn ?_;refine cc W ?_;refine⟨by simp,by simp only[B7,Dh];unfold lim sm at*;omega,?_⟩;(try refine ev ?_);apply z;try simp only[Aa,Af]);refine U _ _ ?_;refine lT Tp ?_;exact⟨(),trivial,sS,by simp[ble,A9,Aw,Am,G9,Param.subst]⟩
 rw[hi]at J |-;rw[A5 (by decide)];generalize(Ec p x.name).getD default=I at*;refine cB func317 ?_;refine sR Tp ?_;refine sC J Tp ?_;refine kR Tp λZ E=>?_;refine tI ?_;refine sR Tp ?_;exact aR
def R5(E:List (List Ty)):List (List D):=E.map λl=>[.slice (Au l)]
def JN{E:List (List Ty)}{l:List Ty}(h:E[j]?=some l):(R5 E)[j]?=some [.slice (Au l)]:=by simp[R5,h]
abbrev Sc:=[0,2,3,5,6,8,9,10,11,12,20,24,25,26,27,28]
def df(E:List (List Ty))(hl:E.length<=sm)(hn:(E.map List.length).sum<=2*sm):Ab prog 88 [.d (.slice (R5 E))] (.d (.slice (Au E.flatten))):=by
 refine cB func88 ?_;refine sR Sc ?_;refine sR Sc ?_;refine kR Sc λV L=>?_;refine bA (A0.ii E (X:=Unit) (λj _=>[(0,.d (.slice (R5 E))),(3,A6 (((E.take j).map List.length).sum:Nat)),(9,.d (.slice (R5 E))),(10,A6 E.length),(11,A6 j)]) (λ_ _=>[]) (λj _=>True) () trivial (by simp[sle,B0,Ae,R5]) sB ?_ ?_)
 .intro _ _;rw[Ca];refine Ak B1 Sc ?_;refine A0.stop rfl ?_;simp only[Aa,Af,Av];refine L _ _ ?_;refine jA Sc [800024] (by decide +kernel) λK z=>?_;refine ev ?_;refine⟨_,_,_,xP 24 rfl rfl rfl (c7 _ (by unfold sm at hn;omega)) rfl (by decide) rfl,?_⟩;simp only[SV.Fi,SJ,Av];(try refine ev ?_);apply z;refine kR Sc λV L=>?_;refine bA (A0.ii E (X:=Unit) (λj _=>[(6,.acc 24),(25,.d (.slice (R5 E))),(26,A6 E.length),(27,A6 j)]) (λj _=>[(24,.rows 3 (Au (E.take j).flatten))]) (λj _=>True) () trivial (by simp[sle,B0,Ae,R5]) (by simp[ble,A9,Cq]) ?_ ?_);intro _ _;rw[Ca];refine Ak B1 Sc ?_;refine A0.stop rfl ?_;simp only[Aa,Af,Av];refine L _ _ ?_;refine sR Sc ?_;exact aR
  .intro j _ d hd U dp tk O hI;have I:=bJ E (j+1);rw[tk,Gy,Z3]at I;simp only[Cj,G5,Jy,List.sum_nil,Nd]at I;rw[tk,List.flatten_append,AJ,List.flatten_nil,Fv];refine Ak O Sc ?_;refine kA rfl<|sK λW J=>bA<|sI (JN hd) [0,2,3,5,6,8,9,10,11,12,20,24,25,26,27,28] ?_
   (refine lV Sc λK z=>?_;refine⟨R3 _,by rw[List.length_flatten];unfold lim sm at*;omega,?_⟩;(try refine ev ?_);apply z;try simp only[Aa,Af]);refine J _ _ ?_;refine lT Sc ?_;exact⟨(),trivial,sS,by simp[ble,A9,Cq]⟩
 .intro j _ d hd U dp tk O hI;have I:=bJ E (j+1);rw[tk,Gy,Z3]at I;simp only[Cj,G5,Jy,List.sum_nil,Nd]at I;have Z:¬(((((E.take j).map List.length).sum:Nat):Int)+(d.length:Int)<0):=by omega
  rw[tk,Gy,Z3];simp only[Cj,G5,Jy,List.sum_nil,Nd];refine Ak O Sc ?_;refine kA rfl<|sK λW J=>bA<|sI (JN hd) [0,2,3,5,6,8,9,10,11,12,20,24,25,26,27,28] ?_
  refine sV Sc λK z=>?_;refine ca ?_;apply z;refine Ak Z Sc ?_;refine dA rfl (cA (J _ _ ?_));refine lT Sc ?_;exact⟨(),trivial,sS,sB⟩
def L9(p:Prog)(x:Ty)(m:A3):Option Decl:=if B9 p x 1=true then(match p.decls.find? (E2 x.name m)with
 |some d=>if d.vars.length=x.args.length then some d else none
 |none=>none)else none
def U2:Ex:=.mk 0 [] (.mk [] [] 0) [] [] 0
def jl:U2.Sm:=.mk _ _ _ _ _ _ (by simp) (.mk _ _ _ (by simp) (by simp) (by simp)) (by simp) (by simp) (by simp) (by simp)
abbrev Zo:=[0,1,2,3,4,5,6,7,8,21]
def RP(p:Prog)(h:p.Sm)(x:Ty)(hx:x.Sm)(hi:B9 p x 1=true):Ab prog 50 [Cs p,Ba x] (.d (.slice (Aw (Bc p x)))):=by
 obtain⟨J,I,_⟩:=La (by decide) hi;unfold Bc;rw[A7 hi,I,Dx];have L:=h.decls.2 J (P3 I);have a3:=L.fields.1;have hn:=Ss J.A1 L.A1.1;have O:=PI p x.name;obtain⟨k,hk,a0⟩:∃k:Nat,p.decls[k]?=some J/\findD x.name p.decls 0=(k:Int):=by rcases lK x.name p.decls 0 with⟨_,Z⟩|⟨k,e,h1,Z,h3⟩;have:Ec p x.name=none:=Z;rw[I]at this;cases this;have:Ec p x.name=some e:=h3;rw[I]at this;obtain rfl:=Tf this;exact⟨k,h1,by rw[Z];simp⟩
 rw[a0]at O;unfold fieldsD;refine cB func50 ?_;refine sR Zo ?_;refine sG Zo [] 9 gp λK z=>?_;refine ev ?_;refine cc O ?_;refine ci (E6 hk) ?_;apply z;refine sR Zo ?_;refine A0.pp 6 5 6 rfl<|kR Zo λK1 a1=>?_;refine bA (A0.ii J.fields (X:=Unit) (λj _=>[(3,.box 3 0),(5,.box 5 0),(6,.acc 6),(7,A6 j)]) (λj _=>[(3,.cells [.d (.str x.name),Cv x.args,A6 x.pos]),(5,.cells ((Am J).map .d)),(6,.rows 5 (Aw ((J.fields.take j).map (Param.subst (Ad J.A1) x.args))))]) (λj _=>True) () trivial sS (by simp[ble,A9,Aw,Am]) ?_ ?_)
 intro _ _;rw[Ca];refine Ag B1 Zo λW E=>?_;refine sE ?_;refine a1 _ _<|sR Zo ?_;exact aR
 .intro j _ d hd U dp tk a2 _;rw[tk];have V:=Qw (Ad J.A1) x.args hx.arg d.type (L.fields.2 d U).type;refine Ag a2 Zo λW E=>?_;refine gI E ?_;refine sK λW E=>bA<|sI (Dt hd) [0,1,2,3,4,5,6,7,8,21] ?_
  refine sG Zo [] 7 [] λK z=>?_;refine ev ?_;refine cc hn ?_;refine cc V ?_;apply z;(refine lV Zo λK z=>?_;refine⟨by simp,by simp only[B7,Dh];unfold lim sm at*;omega,?_⟩;(try refine ev ?_);apply z;try simp only[Aa,Af]);refine E _ _ ?_;refine lT Zo ?_;exact⟨(),trivial,sS,by simp[ble,A9,Aw,Am,G9,Param.subst]⟩
end Go.iA
