/- slices.Grow of nil, slices.Concat[Formal] of two, bind.Join, table.Formals -/
import Derived.Test.YtaneedhchnaniaaGreatDoorKS14
namespace Go.Abs
set_option linter.all false
open Go Go.Proofs Tryz
set_option maxRecDepth 100000
set_option maxHeartbeats 1000000
def A8w (E k1:Nat)(q:Nat):Nat:=if q=E then k1 else q
theorem C3w {P:Program} {sl:SL} {bx:Ab} {f:FuncId} {fo:Operand} {args:List Operand} {Co:List TypeId} {dst:Option Nat} {caps R:List SV} {r:SV} {V O:Nat} {E:List (List D)} (k1:Nat)
  (hf:Ao sl fo=.Bf f caps) (a6:args.map (Ao sl)++caps=R) (ac:SV.Jb R=true) (hc:Cd P f R [] r [(V,.rows O E)]) (hr:r.only [V]=true)
  (h1:k1≤999999) (f1:A1a k1 bx=false) :
  OpB P sl bx dst (.call ⟨.value fo,args.toArray,Co.toArray⟩) (r.Eg (A8w V k1)) ((k1,.rows O E)::bx) [k1]:=by
 subst a6;intro o ho _ C S w β a hi ha;have a4:=ha fo (mC ho);rw [hf] at a4;generalize aa:a.eval fo=v at a4;cases a4 with
 |Bf _ _ cs g1 g2 =>
  have a7:Bm S w β (args.map (Ao sl)++caps) (args.map a.eval++cs):=(Bm.Tk _ fun x hx=>ha x (mo ho (by simp [Op.operands,Call.operands];exact .inr hx))).append ⟨g1,g2⟩;have ab:Inv ⟨w,S,fun _=>False,fun _ _=>False,C.G⟩ S w β []:=hi.begin hi.Bi (fun _ h=>h);have a5:=hc.2 ⟨w,S,fun _=>False,fun _ _=>False,C.G⟩ β _ ab a7;refine He ?_;unfold Oper.wp;rw [Rn hc.1 ho aa,R0];have a0:(args.toArray.map a.eval)++(⟨cs⟩:Array Value)=⟨args.map a.eval++cs⟩:=by apply I6;simp
  rw [a0];refine a5.mono ?_;rintro e w' ⟨v,S',β',rfl,W,hv⟩;have a8:w.heap.size≤w'.heap.size:=W.size;have a9:∀b,S' b→S b∨w.heap.size≤b:=fun b I=>by
   rcases W.Dx b I with h| h| h
   ·exact .inl h
   ·exact h.elim
   ·exact .inr h
  have e:Bo S w S' w':=⟨W.Ek,fun b I=>W.kept b (hi.Bi b I) id⟩;have u1:E3 β k1 (β' V) k1 = β' V:=G8 ..;have u3:∀j,j≠k1→E3 β k1 (β' V) j = β j:=fun j a=>by rw [Jk a]
  have m1:(V,Ar.rows O E)∈[(V,Ar.rows O E)]:=by simp
  have L:∀b,(β' V).base=some b→¬S' b∧b < w'.heap.size∧w.heap.size≤b:=fun b I=>by obtain⟨p1,p2,p3⟩:=W.B8 V _ m1 b I;exact⟨p1,p2,p3.resolve_left id⟩
  have U:∀k c,(k,c)∈bx→k≠k1∧(∀j,c.has j=true→j≠k1):=fun k c hm=>by obtain⟨a1,a2⟩:=B5r f1 k c hm;exact⟨a1,fun j hj he=>by subst he;rw [a2] at hj;simp at hj⟩
  have J:∀k c,(k,c)∈(k1,Ar.rows O E)::bx→(k=k1∧c=.rows O E)∨(k,c)∈bx:=fun k c hm=>by simp only [As,Df] at hm;exact hm
  refine⟨v,S',E3 β k1 (β' V),rfl,?_,e,hv.Eg fun k a'=>?_,fun j hj=>?_⟩
  ·refine hi.step e a9 W.Bi (fun b I _=>W.kept b I id) W.os W.tape W.output a8 ?_ ?_ (fun j hj=>u3 j (by omega)) ?_
   ·intro k c hm;rcases J k c hm with ⟨rfl,rfl⟩| hm
    ·rw [u1];exact⟨Dh.ext (c:=.rows O E) (W.box V _ m1) (Bo.refl _ _) (fun _ _=>rfl) (by simp [Ar.has]),fun b I=>⟨(L b I).1,(L b I).2.1,.inl (L b I).2.2⟩⟩
    ·obtain⟨a1,a3⟩:=U k c hm;rw [u3 k a1];refine⟨(hi.box k c hm).ext e (fun b I=>W.kept b (hi.B8 k c hm b I).2.1 id) (fun j hj=>u3 j (a3 j hj)),fun b I=>⟨fun hs=>?_,Wj (hi.B8 k c hm b I).2.1 a8,.inr ⟨k,c,hm,I⟩⟩⟩;rcases a9 b hs with h| h
     ·exact (hi.B8 k c hm b I).1 h
     ·have:=(hi.B8 k c hm b I).2.1;omega
   ·intro k c k' c' hm hm' b I Z;have low:∀k c,(k,c)∈bx→(E3 β k1 (β' V) k).base=some b→b < w.heap.size:=fun k c hm I=>by
     rw [u3 k (U k c hm).1] at I;exact (hi.B8 k c hm b I).2.1
    rcases J k c hm with ⟨rfl,rfl⟩| hm
    ·rw [u1] at I;rcases J k' c' hm' with ⟨rfl,rfl⟩| hm'
     ·exact⟨rfl,rfl⟩
     ·have:=low _ _ hm' Z;have:=(L b I).2.2;omega
    ·have ad:=low _ _ hm I;rcases J k' c' hm' with ⟨rfl,rfl⟩| hm'
     ·rw [u1] at Z;have:=(L b Z).2.2;omega
     ·rw [u3 k (U k c hm).1] at I;rw [u3 k' (U k' c' hm').1] at Z;exact hi.inj k c k' c' hm hm' b I Z
   ·intro k Y st hm;rcases J k _ hm with ⟨_,h⟩| hm
    ·cases h
    ·exact hm
  ·have:=SV.B5u hr a';simp only [As,Dt,Du] at this;subst this;simp only [A8w,Af];exact u1
  ·simp only [As,Dt,Du] at hj;exact u3 j hj
theorem E6g {P:Program} {ρ:Go.Shelf.Ren} (L:Go.Proofs.Lays8.n4 P ρ)(sz:Nat)(a3:0 < sz)(E:((P.info? (ρ.t 25)).any fun i=>i.size == sz && decide (i.bytes≤1000) && i.zero.any fun z=>z.cells.size == sz)=true)
  (hE:Enters P (ρ.f 4)) (n:Nat) (hn:n≤100000000000):Cd P (ρ.f 4) [.d .nil,A9 n] [] (.acc 1) [(1,.rows sz [])]:=by
 refine⟨hE,fun C β vs Z hv=>?_⟩;obtain⟨v0,J,U⟩:=hv.get (j:=0) (c:=.d .nil) rfl;obtain⟨v1,I,a0⟩:=hv.get (j:=1) (c:=A9 n) rfl;have R:vs=[.slice none 0 0,.int .i64 n]:=by
  have hl:=hv.1
  match vs,hl with
  |[u,v],_ =>simp only [Iz,Ny,Av] at J I;subst J;subst I;rw [a0.J4];have:=U.Gp;cases this;rfl
 subst R;by_cases h0:n=0
 ·subst h0;refine (Any8.slices_Grow_room L none 0 0 0 C.w0 (Cq _) (by omega) (by omega) (by omega)).mono ?_;rintro e w' ⟨rfl,rfl⟩;obtain⟨V,h2⟩:=Z.Vo (k:=1) (w':=C.w0) (c:=.rows sz []) { base:=none,sz:=sz } (by decide) (by simp) (fun _ _ _=>rfl) rfl rfl rfl (Cq _) (fun _=>B8n);refine⟨_,C.S0,_,rfl,by simpa [C3,H7] using V,?_⟩;have:=Am.acc (S:=C.S0) (w:=C.w0) (β:=E3 β 1 { base:=none,sz:=sz }) 1;rw [G8] at this;simpa using this
 ·generalize a2:P.info? (ρ.t 25)=oi at E;cases oi with
  |none=>simp at E
  |some i0 =>
   simp only [Option.any_some,B1,Ug,D8] at E;obtain⟨⟨g1,g2⟩,O⟩:=E;generalize W:i0.zero=oz at O;cases oz with
   |none=>simp at O
   |some z =>
    simp only [Option.any_some,Ug] at O;refine (Any8.slices_Grow_grow L i0 z a2 W (by omega) none 0 0 n [] C.w0 (Cq _) (by omega) (by have:(0+n)*i0.bytes≤(0+n)*1000:=Am5 _ g2;omega) (by omega) (by simp) (fun _=>rfl) (by simp)).mono ?_
    rintro e w' ⟨rfl,rfl⟩;have a1:=grownCap_ge C.w0 (0+n) 0 (ρ.t 25);generalize grownCap C.w0 (0+n) 0 (ρ.t 25)=G at a1;obtain⟨V,h2⟩:=Z.Vo (k:=1) (w':=C.w0.drew.alloc (.cells (([]:List Value).toArray++Builtin.zeroCells z.cells (0+n - 0)++Builtin.zeroCells z.cells (G - (0+n))) (ρ.t 25))) (c:=.rows sz []) { base:=some C.w0.heap.size,len:=0,cap:=G,sz:=sz } (by decide)
     (by intro b hb;cases hb;exact⟨fun h=>by have:=Z.Bi _ h;omega,by simp [-World.alloc_eq,-World.drew_eq,World.alloc,World.drew],.inl (Cq _)⟩)
     (fun b hb _=>RowKit.Below.heap_alloc C.w0.drew _ b hb) rfl rfl rfl (by simp [-World.alloc_eq,-World.drew_eq,World.alloc,World.drew])
     (fun _=>by refine⟨rfl,rfl,by simp,by simp,by simp,by simp,?_⟩;refine⟨ρ.t 25,(([]:List Value).toArray++Builtin.zeroCells z.cells (0+n - 0)++Builtin.zeroCells z.cells (G - (0+n))).toList,by simp [-World.alloc_eq,-World.drew_eq,World.alloc,World.drew],?_,by simp⟩;simp only [Aq1,B3,V3,D4c,O];simp only [Ch,I2,←Ei];exact H4 _ (by omega))
    refine⟨_,C.S0,_,rfl,by simpa [C3,H7] using V,?_⟩;have:=Am.acc (S:=C.S0) (w:=C.w0.drew.alloc (.cells (([]:List Value).toArray++Builtin.zeroCells z.cells (0+n - 0)++Builtin.zeroCells z.cells (G - (0+n))) (ρ.t 25))) (β:=E3 β 1 { base:=some C.w0.heap.size,len:=0,cap:=G,sz:=sz }) 1;rw [G8] at this;simpa using this
theorem D8a (n:Nat)(E:n≤100000000000):Cd prog 178 [.d .nil,A9 n] [] (.acc 1) [(1,.rows 3 [])] :=
 E6g F2z 3 (by decide) (by kernel_rfl) (Enters.of func178 rfl (by decide)) n E
theorem B7x {α:Type} (E:List (List α))(j:Nat):((E.take j).map List.length).sum≤(E.map List.length).sum:=by
 induction E generalizing j with
 |nil=>simp
 |cons a l I =>
  cases j with
  |zero=>simp
  |succ j=>simp only [Wk,Cz,Kr];have:=I j;omega
theorem Nh {p:Prog} {E:A3} {d:Decl} (h:Gb p E=some d):d∈p.decls:=An1 h
def Ff {α:Type} (p:α→α→Bool):List α→List α→Bool
 |[],[]=>true
 |x::xs,y::ys=>p x y && Ff p xs ys
 |_,_=>false
theorem B0g {α:Type} {p:α→α→Bool}:∀{l m:List α},Ff p l m=true→l.length=m.length
 |[],[],_=>rfl
 |x::xs,y::ys,h=>by rw [Ff,B1] at h;simp [B0g h.2]
 |[],_::_,h=>by simp [Ff] at h
 |_::_,[],h=>by simp [Ff] at h
def Rr (a b:Ak):Bool:=decide (a.name=b.name) && Pj a.bound b.bound
def Rm (a b:Param):Bool:=decide (a.name=b.name) && Pj a.type b.type
def Nz (a b:A5):Bool:=decide (a.name=b.name) && Ff Rr a.A1 b.A1 && Ff Rm a.params b.params && Pj a.result b.result
theorem Ty.Sm.subst {vars:List A3} {args:List Ty} (L:∀u,u∈args→u.Sm):∀t:Ty,t.Sm→(t.subst vars args).Sm:=by
 intro t
 induction t using Ty.induct with
 |h t O =>
 intro h;rw [Uq];split
 ·rename_i R;have E:(Cy t.name vars 0).toNat < args.length:=by omega
  rw [Ba E,Dc];have:=L _ (F7 E);exact .mk _ _ _ this.name this.len this.arg
 ·refine .mk _ _ _ h.name (by rw [B6];exact h.len) fun u J=>?_;obtain⟨x,I,rfl⟩:=Ax.1 J;exact O x I (h.arg x I)
theorem mem_mapIdx {α β:Type} {f:Nat→α→β} {l:List α} {y:β} (h:y∈l.mapIdx f):∃i x,l[i]? = some x∧i < l.length∧y=f i x:=by obtain⟨i,I⟩:=Ls h;rw [Um,Ij] at I;obtain⟨x,E,rfl⟩:=I;exact⟨i,x,E,(Ay.1 E).1,rfl⟩
theorem A5.Sm.canon {s:A5} (h:s.Sm):s.canon.Sm:=by
 have hs:=C1j _ h.A1.1;refine⟨h.name,⟨by simp only [A5.canon,Xr];exact h.A1.1,fun f E=>?_⟩,⟨by simp only [A5.canon,Xb];exact h.params.1,fun f E=>?_⟩,Ty.Sm.subst hs _ h.result⟩
 ·obtain⟨i,x,J,L,rfl⟩:=mem_mapIdx E;have I:=h.A1.2 x (Bx J);refine⟨?_,Ty.Sm.subst hs _ I.bound⟩;simp only [L,Af];exact Dk (D2j i (by have:=h.A1.1;omega)) (by decide)
 ·obtain⟨i,x,J,L,rfl⟩:=mem_mapIdx E;have I:=h.params.2 x (Bx J);refine⟨?_,Ty.Sm.subst hs _ I.type⟩;simp only [L,Af];decide
theorem A5.Sm.subst {vars:List A3} {args:List Ty} (J:∀u,u∈args→u.Sm) {s:A5} (h:s.Sm):(s.subst vars args).Sm:=by
 refine⟨h.name,⟨by simp only [A5.subst,B6];exact h.A1.1,fun f I=>?_⟩,⟨by simp only [A5.subst,B6];exact h.params.1,fun f I=>?_⟩,Ty.Sm.subst J _ h.result⟩
 ·obtain⟨x,E,rfl⟩:=Ax.1 I;exact⟨(h.A1.2 x E).name,Ty.Sm.subst J _ (h.A1.2 x E).bound⟩
 ·obtain⟨x,E,rfl⟩:=Ax.1 I;exact⟨(h.params.2 x E).name,Ty.Sm.subst J _ (h.params.2 x E).type⟩
theorem F9z (a b:Ak)(h:a.Sm):Ac prog 339 [Qy a,Qy b] (B0 (Rr a b)):=by
 have hs:=B5q a.bound b.bound h.bound;unfold Rr;refine cB func339 ?_;refine sR [0,1,2,3,4] ?_;by_cases E:a.name=b.name
 ·(refine sQ [0,1,2,3,4] fun K z=>?_;refine An E ?_;refine cc hs ?_;apply z;clear z K)
  rw [Bn E,Ca];exact aR
 ·refine Ah E [0,1,2,3,4] ?_;rw [Ci E,Bv];exact aR
theorem E3x (a b:Param)(h:a.Sm):Ac prog 341 [X1 a,X1 b] (B0 (Rm a b)):=by
 have hs:=B5q a.type b.type h.type;unfold Rm;refine cB func341 ?_;refine sR [0,1,2,3,4] ?_;by_cases E:a.name=b.name
 ·(refine sQ [0,1,2,3,4] fun K z=>?_;refine An E ?_;refine cc hs ?_;apply z;clear z K)
  rw [Bn E,Ca];exact aR
 ·refine Ah E [0,1,2,3,4] ?_;rw [Ci E,Bv];exact aR
abbrev Te:List Nat:=[0,1,2,6,7,8,9,14,15,16,17,18,30]
theorem G1c (f:FuncId)(p:Ak→Ak→Bool)(l m:List Ak)(hl:l.length≤sm)(Z:∀x,x∈l→∀y,Ac prog f [Qy x,Qy y] (B0 (p x y))) :
  Ac prog 338 [.d (.slice (Az l)),.d (.slice (Az m)),.Bf f []] (B0 (Ff p l m)):=by
 refine cB func338 ?_;refine sR Te ?_;refine kR Te fun W I=>?_;refine A0.Nk rfl I (fun E=>?_) (fun E=>?_)
 ·refine sR Te ?_;have:Ff p l m=false:=by
   cases h:Ff p l m with
   |false=>rfl
   |true=>have:=B0g h;simp [this] at E
  rw [this];exact aR
 clear I W;have R:l.length=m.length:=by
  have:(l.length:Int)=m.length:=by simpa using E
  omega
 refine kR Te fun W I=>?_;refine A0.bb (A0.ii l (X:=Unit) (fun j _=>[(1,.d (.slice (Az m))),(2,.Bf f []),(15,.d (.slice (Az l))),(16,A9 l.length),(17,A9 j)]) (fun _ _=>[])
  (fun j _=>Ff p (l.drop j) (m.drop j)=Ff p l m) () (by simp) sS sB ?_ ?_)
 ·intro _ J;refine Ah B4 Te ?_;refine A0.stop rfl ?_;simp only [A4,Aa,Af];refine I _ _ ?_;refine sR Te ?_;rw [D6,R,D6] at J;rw [←J];exact aR
 ·intro j _ d hd L dp tk V J;obtain⟨e,he,U⟩:=A3a (l:=m) (j:=j) (by omega);rw [dp,U,Ff] at J;refine Ah V Te ?_;refine A0.E5 rfl ?_;refine sK fun K2 O=>?_;refine A0.bb ?_
  (refine sV Te fun K z=>?_;refine ci (Ep hd) ?_;apply z;clear z K)
  (refine sV Te fun K z=>?_;refine ci (Ep he) ?_;apply z;clear z K)
  refine sC (Z d L e) Te ?_;refine A0.cond rfl (fun E=>?_) (fun E=>?_)
  ·refine sR Te ?_;simp only [Jo] at E;rw [E,Bv] at J;rw [←J];exact aR
  simp only [S5] at E;rw [E,Ca] at J;refine A0.kk (O _ _ ?_);clear O K2;refine lT Te ?_;exact⟨(),J,sS,sB⟩
abbrev Uy:List Nat:=[0,1,2,6,7,8,9,14,15,16,17,18,30]
theorem F9a (f:FuncId)(p:Param→Param→Bool)(l m:List Param)(hl:l.length≤sm)(Z:∀x,x∈l→∀y,Ac prog f [X1 x,X1 y] (B0 (p x y))) :
  Ac prog 340 [.d (.slice (B5 l)),.d (.slice (B5 m)),.Bf f []] (B0 (Ff p l m)):=by
 refine cB func340 ?_;refine sR Uy ?_;refine kR Uy fun W I=>?_;refine A0.Nk rfl I (fun E=>?_) (fun E=>?_)
 ·refine sR Uy ?_;have:Ff p l m=false:=by
   cases h:Ff p l m with
   |false=>rfl
   |true=>have:=B0g h;simp [this] at E
  rw [this];exact aR
 clear I W;have R:l.length=m.length:=by
  have:(l.length:Int)=m.length:=by simpa using E
  omega
 refine kR Uy fun W I=>?_;refine A0.bb (A0.ii l (X:=Unit) (fun j _=>[(1,.d (.slice (B5 m))),(2,.Bf f []),(15,.d (.slice (B5 l))),(16,A9 l.length),(17,A9 j)]) (fun _ _=>[])
  (fun j _=>Ff p (l.drop j) (m.drop j)=Ff p l m) () (by simp) sS sB ?_ ?_)
 ·intro _ J;refine Ah B4 Uy ?_;refine A0.stop rfl ?_;simp only [A4,Aa,Af];refine I _ _ ?_;refine sR Uy ?_;rw [D6,R,D6] at J;rw [←J];exact aR
 ·intro j _ d hd L dp tk V J;obtain⟨e,he,U⟩:=A3a (l:=m) (j:=j) (by omega);rw [dp,U,Ff] at J;refine Ah V Uy ?_;refine A0.E5 rfl ?_;refine sK fun K2 O=>?_;refine A0.bb ?_
  (refine sV Uy fun K z=>?_;refine ci (E7 hd) ?_;apply z;clear z K)
  (refine sV Uy fun K z=>?_;refine ci (E7 he) ?_;apply z;clear z K)
  refine sC (Z d L e) Uy ?_;refine A0.cond rfl (fun E=>?_) (fun E=>?_)
  ·refine sR Uy ?_;simp only [Jo] at E;rw [E,Bv] at J;rw [←J];exact aR
  simp only [S5] at E;rw [E,Ca] at J;refine A0.kk (O _ _ ?_);clear O K2;refine lT Uy ?_;exact⟨(),J,sS,sB⟩
theorem F4v (a b:A5)(h:a.Sm):Ac prog 305 [Cx a,Cx b] (B0 (Nz a b)):=by
 have I:=G1c 339 Rr a.A1 b.A1 h.A1.1 (fun x L y=>F9z x y (h.A1.2 x L));have J:=F9a 341 Rm a.params b.params h.params.1 (fun x L y=>E3x x y (h.params.2 x L));have hr:=B5q a.result b.result h.result;unfold Nz;refine cB func305 ?_;refine sR [0,1,2,3,4] ?_;by_cases E:a.name=b.name
 ·rcases Fg (Ff Rr a.A1 b.A1) with h3| h3
  ·rw [h3] at I;rcases Fg (Ff Rm a.params b.params) with h4| h4
   ·rw [h4] at J
    (refine sQ [0,1,2,3,4] fun K z=>?_;refine An E ?_;refine cc I ?_;refine cc J ?_;refine cc hr ?_;apply z;clear z K)
    rw [Bn E,h3,h4,Ca,Ca,Ca];exact aR
   ·rw [h4] at J
    (refine sQ [0,1,2,3,4] fun K z=>?_;refine An E ?_;refine cc I ?_;refine cc J ?_;apply z;clear z K)
    rw [h4,Vi,Bv];exact aR
  ·rw [h3] at I
   (refine sQ [0,1,2,3,4] fun K z=>?_;refine An E ?_;refine cc I ?_;apply z;clear z K)
   rw [h3,Vi,Bv,Bv];exact aR
 ·refine Ah E [0,1,2,3,4] ?_;rw [Ci E,Bv,Bv,Bv];exact aR
theorem E4u (a b:A5)(h:a.Sm)(E:b.Sm):Ac prog 266 [Cx a,Cx b] (B0 (Nz a.canon b.canon)):=by
 have hs:=F4v a.canon b.canon h.canon;refine cB func266 ?_;refine sR [0,1,2,3,4] ?_
 (refine sG [0,1,2,3,4] [] 3 [] fun K z=>?_;refine ev ?_;refine cc (B1a a h) ?_;refine cc (B1a b E) ?_;refine cc hs ?_;apply z;clear z K)
 exact aR
abbrev Ss:List Nat:=[0,1,2,6,7,12,16,43,71]
theorem G0g (l m:List Ak)(hl:l.length≤sm)(hs:∀x,x∈l→x.bound.Lm) :
  Ac prog 173 [.d (.slice (Az l)),.d (.slice (Az m)),B0 false] (B0 (Ff Rr l m)):=by
 refine cB func173 ?_;refine sR Ss ?_;refine kR Ss fun K1 L=>?_;refine A0.Nk rfl L (fun J=>?_) (fun J=>?_)
 ·refine sR Ss ?_;have:Ff Rr l m=false:=by
   cases h:Ff Rr l m with
   |false=>rfl
   |true=>have:=B0g h;simp [this] at J
  rw [this];exact aR
 clear L K1;have W:l.length=m.length:=by
  have:(l.length:Int)=m.length:=by simpa using J
  omega
 refine kR Ss fun K1 L=>?_;refine A0.bb (A0.ii l (X:=Unit) (fun j _=>[(0,.d (.slice (Az l))),(1,.d (.slice (Az m))),(2,B0 false),(7,A9 j)]) (fun _ _=>[])
  (fun j _=>Ff Rr (l.drop j) (m.drop j)=Ff Rr l m) () (by simp) sS sB ?_ ?_)
 ·intro _ I;refine Ai B4 Ss fun V E=>?_;refine A0.ss rfl ?_;simp only [A4,Aa,Af];refine L _ _ ?_;refine sR Ss ?_;rw [D6,W,D6] at I;rw [←I];exact aR
 ·intro j _ d hd U dp tk a0 I;obtain⟨e,he,Z⟩:=A3a (l:=m) (j:=j) (by omega);rw [dp,Z,Ff,Rr] at I;refine Ai a0 Ss fun V E=>?_;refine gI E ?_;clear E V;refine sK fun V E=>?_;refine A0.bb ?_;refine sK fun K3 O=>?_;by_cases R:d.name=e.name
  ·have a1:=A6b d.bound e.bound (hs d U)
   (refine sG Ss [] 22 [] fun K z=>?_;refine ev ?_;refine⟨by omega,_,Ep hd,rfl,?_⟩;(try refine An R ?_);refine ci (Ep he) ?_;refine⟨by omega,_,Ep hd,rfl,?_⟩;(try refine An R ?_);refine ci (Ep he) ?_;refine cc a1 ?_;apply z;clear z K)
   rw [Bn R,Ca] at I;refine A0.Nk rfl O (fun J=>?_) (fun J=>?_)
   ·refine sR Ss ?_;simp only [Jo] at J;rw [J,Bv] at I;rw [←I];exact aR
   clear O K3;simp only [S5] at J;rw [J,Ca] at I;refine dR Ss 24 ?_;refine A0.ff rfl (A0.kk (E _ _ ?_));clear E V;refine lT Ss ?_;exact⟨(),I,sS,sB⟩
  ·(refine sG Ss [] 22 [] fun K z=>?_;refine ev ?_;refine ci (Ep hd) ?_;refine⟨by omega,_,Ep he,rfl,?_⟩;(try refine An R ?_);apply z;clear z K)
   refine tI ?_;refine sR Ss ?_;rw [Ci R,Bv,Bv] at I;rw [←I];exact aR
abbrev T7:List Nat:=[0,1,2,6,7,12,16,43,71]
theorem G1h (l m:List Param)(hl:l.length≤sm)(hs:∀x,x∈l→x.type.Lm) :
  Ac prog 174 [.d (.slice (B5 l)),.d (.slice (B5 m)),B0 false] (B0 (Ff Rm l m)):=by
 refine cB func174 ?_;refine sR T7 ?_;refine kR T7 fun K1 L=>?_;refine A0.Nk rfl L (fun J=>?_) (fun J=>?_)
 ·refine sR T7 ?_;have:Ff Rm l m=false:=by
   cases h:Ff Rm l m with
   |false=>rfl
   |true=>have:=B0g h;simp [this] at J
  rw [this];exact aR
 clear L K1;have W:l.length=m.length:=by
  have:(l.length:Int)=m.length:=by simpa using J
  omega
 refine kR T7 fun K1 L=>?_;refine A0.bb (A0.ii l (X:=Unit) (fun j _=>[(0,.d (.slice (B5 l))),(1,.d (.slice (B5 m))),(2,B0 false),(7,A9 j)]) (fun _ _=>[])
  (fun j _=>Ff Rm (l.drop j) (m.drop j)=Ff Rm l m) () (by simp) sS sB ?_ ?_)
 ·intro _ I;refine Ai B4 T7 fun V E=>?_;refine A0.ss rfl ?_;simp only [A4,Aa,Af];refine L _ _ ?_;refine sR T7 ?_;rw [D6,W,D6] at I;rw [←I];exact aR
 ·intro j _ d hd U dp tk a0 I;obtain⟨e,he,Z⟩:=A3a (l:=m) (j:=j) (by omega);rw [dp,Z,Ff,Rm] at I;refine Ai a0 T7 fun V E=>?_;refine gI E ?_;clear E V;refine sK fun V E=>?_;refine A0.bb ?_;refine sK fun K3 O=>?_;by_cases R:d.name=e.name
  ·have a1:=A6b d.type e.type (hs d U)
   (refine sG T7 [] 22 [] fun K z=>?_;refine ev ?_;refine⟨by omega,_,E7 hd,rfl,?_⟩;(try refine An R ?_);refine ci (E7 he) ?_;refine⟨by omega,_,E7 hd,rfl,?_⟩;(try refine An R ?_);refine ci (E7 he) ?_;refine cc a1 ?_;apply z;clear z K)
   rw [Bn R,Ca] at I;refine A0.Nk rfl O (fun J=>?_) (fun J=>?_)
   ·refine sR T7 ?_;simp only [Jo] at J;rw [J,Bv] at I;rw [←I];exact aR
   clear O K3;simp only [S5] at J;rw [J,Ca] at I;refine dR T7 24 ?_;refine A0.ff rfl (A0.kk (E _ _ ?_));clear E V;refine lT T7 ?_;exact⟨(),I,sS,sB⟩
  ·(refine sG T7 [] 22 [] fun K z=>?_;refine ev ?_;refine ci (E7 hd) ?_;refine⟨by omega,_,E7 he,rfl,?_⟩;(try refine An R ?_);apply z;clear z K)
   refine tI ?_;refine sR T7 ?_;rw [Ci R,Bv,Bv] at I;rw [←I];exact aR
structure A5.Lm (s:A5):Prop where
 A1:s.A1.length≤sm∧∀f,f∈s.A1→f.bound.Lm
 params:s.params.length≤sm∧∀f,f∈s.params→f.type.Lm
 result:s.result.Lm
theorem A5.Sm.lm {s:A5} (h:s.Sm):s.Lm:=⟨⟨h.A1.1,fun f E=>(h.A1.2 f E).bound.lm⟩,⟨h.params.1,fun f E=>(h.params.2 f E).type.lm⟩,h.result.lm⟩
abbrev Ve:List Nat:=[0,1,2,3,4,6,37]
theorem D2c (a b:A5)(h:a.Lm):Ac prog 93 [Cx a,Cx b,B0 false] (B0 (Nz a b)):=by
 have I:=G0g a.A1 b.A1 h.A1.1 h.A1.2;have J:=G1h a.params b.params h.params.1 h.params.2;have hr:=A6b a.result b.result h.result;unfold Nz;refine cB func93 ?_;refine sR Ve ?_;refine sK fun O L=>?_;by_cases E:a.name=b.name
 ·rcases Fg (Ff Rr a.A1 b.A1) with h3| h3
  ·rw [h3] at I;rcases Fg (Ff Rm a.params b.params) with h4| h4
   ·rw [h4] at J;rcases Fg (Pj a.result b.result) with h5| h5
    ·rw [h5] at hr
     (refine sQ Ve fun K z=>?_;refine An E ?_;refine cc I ?_;refine cc J ?_;refine cc hr ?_;apply z;clear z K)
     refine kI L ?_;refine sR Ve ?_;rw [Bn E,h3,h4,h5];exact aR
    ·rw [h5] at hr
     (refine sQ Ve fun K z=>?_;refine An E ?_;refine cc I ?_;refine cc J ?_;refine cc hr ?_;apply z;clear z K)
     refine tI ?_;refine sR Ve ?_;rw [h5,Vi];exact aR
   ·rw [h4] at J
    (refine sQ Ve fun K z=>?_;refine An E ?_;refine cc I ?_;refine cc J ?_;apply z;clear z K)
    refine tI ?_;refine sR Ve ?_;rw [h4,Vi,Bv];exact aR
  ·rw [h3] at I
   (refine sQ Ve fun K z=>?_;refine An E ?_;refine cc I ?_;apply z;clear z K)
   refine tI ?_;refine sR Ve ?_;rw [h3,Vi,Bv,Bv];exact aR
 ·refine Ah E Ve ?_;refine tI ?_;refine sR Ve ?_;rw [Ci E,Bv,Bv,Bv];exact aR
theorem E8u (a b:A5)(h:a.Sm):Ac prog 93 [Cx a,Cx b,B0 false] (B0 (Nz a b)):=D2c a b h.lm
theorem G1p (a b:A5)(h:a.Sm)(E:b.Sm):Ac prog 283 [Cx a,Cx b] (B0 (Nz a.canon b.canon)):=by
 have hs:=E8u a.canon b.canon h.canon;refine cB func283 ?_;refine sR [0,1,2,3,4] ?_
 (refine sG [0,1,2,3,4] [] 3 [] fun K z=>?_;refine ev ?_;refine cc (B5i a h) ?_;refine cc (B5i b E) ?_;refine cc hs ?_;apply z;clear z K)
 exact aR
def J7 (E m:A3)(d:Decl):Bool:=decide (d.kind=3) && decide (d.name=E) && decide (d.sig.name=m)
def Mf (p:Prog)(E m:A3):Int:=Dy (J7 E m) p.decls
theorem N1 {α:Type} (q:α→Bool)(l:List α):(Dy q l = -1∧∀x,x∈l→q x=false)∨∃(j:Nat)(x:α),Dy q l=j∧l[j]? = some x∧q x=true:=by
 unfold Dy;cases h:l.findIdx? q with
 |none=>exact .inl ⟨rfl,by simpa [An2] using h⟩
 |some j =>obtain⟨I,E,_⟩:=Ah8.1 h;exact .inr ⟨j,l[j],rfl,Ba I,E⟩
abbrev Vq:List Nat:=[0,1,2,3,6,7,12,42]
theorem D0i (p:Prog)(hl:p.decls.length≤sm)(L m:A3):Ac prog 224 [Cv p,C8 L,C8 m] (A9 (Mf p L m)):=by
 unfold Mf;refine cB func224 ?_;refine sR Vq ?_;refine kR Vq fun K1 W=>?_;refine A0.bb (A0.ii p.decls (X:=Unit) (fun j _=>[(1,C8 L),(2,C8 m),(3,.box 3 0),(7,A9 j)]) (fun _ _=>[(3,.cells ((Aj p).map .d))])
  (fun j _=>∀y,y∈p.decls.take j→J7 L m y=false) () (by simp) sS (by simp [ble,A7,Aj]) ?_ ?_)
 ·intro _ U;rw [Cs] at U;refine Ai B4 Vq fun V I=>?_;refine A0.ss rfl ?_;simp only [A4,Aa,Af];refine W _ _ ?_;refine sR Vq ?_;rw [Th U];exact aR
 ·intro j _ d hd a0 dp tk Z U;refine Ai Z Vq fun V I=>?_;refine gI I ?_;clear I V;refine sK fun V I=>?_;refine A0.bb ?_;have O:∀sl bx,J7 L m d=false→Ae sl 1=C8 L→Ae sl 2=C8 m→Ae sl 3=.box 3 0→Ae sl 7=A9 j→A7 bx 3=some (.cells ((Aj p).map .d))→V sl bx:=fun sl bx hk g1 g2 g3 g4 g5=>by
   refine I _ _ ?_;refine A0.ww (sl':=[(1,C8 L),(2,C8 m),(3,.box 3 0),(7,A9 j)]) (bx':=[(3,.cells ((Aj p).map .d))]) (by simp [sle,Aw,g1,g2,g3,g4]) (by simp [ble,g5]) ?_;refine lT Vq ?_;refine⟨(),?_,sS,(by simp [ble,A7,Aj])⟩;rw [tk];intro y hy;rcases Bw.1 hy with hy| hy
   ·exact U y hy
   ·simp only [As,Dt,Du] at hy;rw [hy];exact hk
  by_cases E:d.kind=3
  ·by_cases J:d.name=L
   ·by_cases R:d.sig.name=m
    ·(refine sV Vq fun K z=>?_;refine⟨by omega,_,E2 hd,rfl,?_⟩;(try refine ev3 E J R ?_);refine⟨by omega,_,E2 hd,rfl,?_⟩;(try refine ev3 E J R ?_);refine⟨by omega,_,E2 hd,rfl,?_⟩;(try refine ev3 E J R ?_);apply z;clear z K)
     refine A0.tt rfl ?_;refine sR Vq ?_;rw [Uj hd (by simp [J7,E,J,R]) U];exact aR
    ·(refine sV Vq fun K z=>?_;refine⟨by omega,_,E2 hd,rfl,?_⟩;(try refine Gj E J ?_);refine⟨by omega,_,E2 hd,rfl,?_⟩;(try refine Gj E J ?_);refine⟨by omega,_,E2 hd,rfl,?_⟩;(try refine ev3 E J R ?_);apply z;clear z K)
     refine A0.ff rfl (A0.kk (O _ _ (by simp [J7,R]) rfl rfl rfl rfl rfl))
   ·(refine sV Vq fun K z=>?_;refine⟨by omega,_,E2 hd,rfl,?_⟩;(try refine An E ?_);refine⟨by omega,_,E2 hd,rfl,?_⟩;(try refine Gj E J ?_);apply z;clear z K)
    refine A0.ff rfl (A0.kk (O _ _ (by simp [J7,J]) rfl rfl rfl rfl rfl))
  ·(refine sV Vq fun K z=>?_;refine⟨by omega,_,E2 hd,rfl,?_⟩;(try refine An E ?_);apply z;clear z K)
   refine A0.ff rfl (A0.kk (O _ _ (by simp [J7,E]) rfl rfl rfl rfl rfl))
def Kk (p:Prog)(x:Ty)(m:A3):Int:=if Bz p x 1=true then (match p.decls[(Mf p x.name m).toNat]? with
 |some d=>if 0≤Mf p x.name m∧d.vars.length=x.args.length then Mf p x.name m else -1
 |none=>-1) else -1
abbrev Xt:List Nat:=[0,1,2,3,4,6,7,33]
theorem D1z (p:Prog)(U:p.decls.length≤sm)(x:Ty)(m:A3):Ac prog 236 [Cv p,Be x,C8 m] (A9 (Kk p x m)):=by
 have W:=D0i p U x.name m;have J:=A5s p x 1;unfold Kk;have V:=N1 (J7 x.name m) p.decls;unfold Mf at *;generalize Dy (J7 x.name m) p.decls=k at *;refine cB func236 ?_;refine sR Xt ?_;refine sC W Xt ?_;rcases Fg (Bz p x 1) with h1| h1
 ·rw [h1] at J;rw [A8 h1];rcases V with ⟨rfl,_⟩| ⟨j,d,rfl,hd,_⟩
  ·refine sK fun O E=>?_
   (refine sG Xt [] 19 [] fun K z=>?_;refine ev ?_;refine cc J ?_;apply z;clear z K)
   refine tI ?_;refine sR Xt ?_;have:(match p.decls[(-1:Int).toNat]? with
    |some d=>if 0≤(-1:Int)∧d.vars.length=x.args.length then (-1:Int) else -1
    |none=>-1) = -1:=by
    cases p.decls[(-1:Int).toNat]? with
    |none=>rfl
    |some d=>simp
   rw [this];exact aR
  ·have L:¬(j:Int) < 0:=by omega
   simp only [Gr,hd];by_cases R:d.vars.length=x.args.length
   ·have I:(d.vars.length:Int)=x.args.length:=by omega
    rw [A8 ⟨by omega,R⟩];refine sK fun O E=>?_
    (refine sG Xt [] 19 [] fun K z=>?_;refine ev ?_;refine⟨_,.inl ⟨_,rfl,J,rfl⟩,?_⟩;(try refine An L ?_);refine⟨by omega,_,E2 hd,rfl,?_⟩;(try refine An I ?_);apply z;clear z K)
    refine kI E ?_;refine sR Xt ?_;exact aR
   ·have I:¬(d.vars.length:Int)=x.args.length:=by omega
    rw [A6 (fun h=>R h.2)];refine sK fun O E=>?_
    (refine sG Xt [] 19 [] fun K z=>?_;refine ev ?_;refine⟨_,.inl ⟨_,rfl,J,rfl⟩,?_⟩;(try refine An L ?_);refine⟨by omega,_,E2 hd,rfl,?_⟩;(try refine An I ?_);apply z;clear z K)
    refine tI ?_;refine sR Xt ?_;exact aR
 ·rw [h1] at J;rw [A6 (by rw [h1];decide)];refine sK fun O E=>?_
  (refine sG Xt [] 19 [] fun K z=>?_;refine ev ?_;refine cc J ?_;apply z;clear z K)
  refine tI ?_;refine sR Xt ?_;exact aR
def Io (p:Prog)(x:Ty)(d:Decl)(i:Nat):Bool:=decide (d.kind=3) && decide (d.name=x.name) && decide (Kk p x d.sig.name=(i:Int))
def Gk (p:Prog)(x:Ty)(j:Nat):List A5:=((p.decls.take j).zipIdx.filter fun E=>Io p x E.1 E.2).map fun E=>E.1.sig.canon.subst E.1.vars x.args
theorem C5f {p:Prog} {x:Ty} {j:Nat} {d:Decl} (I:j < p.decls.length)(ht:p.decls.take (j+1)=p.decls.take j++[d]):Gk p x (j+1)=Gk p x j++if Io p x d j=true then [d.sig.canon.subst d.vars x.args] else []:=by
 unfold Gk;have E:(p.decls.take j).length=j:=by rw [Cw];omega
 rw [ht,List.zipIdx_append,Ap4,Fz,E]
 congr 1
 simp only [Aw3,List.zipIdx_nil,I2,Au3,Av5];split <;> simp_all
theorem A6f (p:Prog)(x:Ty)(j:Nat):(Gk p x j).length≤j:=by unfold Gk;rw [B6];refine Dk (Ak8 ..) ?_;rw [List.length_zipIdx,Cw];omega
abbrev Rt:List Nat:=[0,1,2,3,4,5,6,7,12,39]
theorem F5w (p:Prog)(h:p.Sm)(x:Ty)(hx:x.Sm):Cd prog 235 [Cv p,Be x] [] (.acc 5) [(5,.rows 7 (B9 (Gk p x p.decls.length)))]:=by
 have hl:=h.decls.1;refine bB func235 ?_;refine sR Rt ?_;refine sR Rt ?_;refine A0.pp 5 7 5 rfl ?_;refine kR Rt fun K1 a0=>?_;refine A0.bb (A0.ii p.decls (X:=Unit) (fun j _=>[(2,.box 2 0),(3,.box 3 0),(5,.acc 5),(6,A9 j)]) (fun j _=>[(2,.cells ((Aj p).map .d)),(3,.cells ((Bh x).map .d)),(5,.rows 7 (B9 (Gk p x j)))])
  (fun j _=>True) () trivial sS (by simp [ble,A7,Gk,B9,Aj,Bh]) ?_ ?_)
 ·intro _ _;refine Ai B4 Rt fun W I=>?_;refine A0.ss rfl ?_;simp only [A4,Aa,Af];refine a0 _ _ ?_;refine sR Rt ?_;exact A0.ret ⟨_,by rw [results235];rfl,.inl rfl,by simp [ble,A7]⟩
 ·intro j _ d hd U dp tk a1 hI;have a2:=A6f p x j;have E:=C5f (x:=x) (by omega) tk;have O:=h.decls.2 d U;have R:=D1z p hl x d.sig.name;refine Ai a1 Rt fun W I=>?_;refine gI I ?_;clear I W;refine sK fun W I=>?_;refine A0.bb ?_
  (refine sV Rt fun K z=>?_;refine ci (E2 hd) ?_;apply z;clear z K)
  have J:∀sl bx,Io p x d j=false→Ae sl 2=.box 2 0→Ae sl 3=.box 3 0→Ae sl 5=.acc 5→Ae sl 6=A9 j→A7 bx 2=some (.cells ((Aj p).map .d))→A7 bx 3=some (.cells ((Bh x).map .d))→A7 bx 5=some (.rows 7 (B9 (Gk p x j)))→W sl bx:=fun sl bx hk g1 g2 g3 g4 g5 g6 g7=>by refine I _ _ ?_;refine A0.ww (sl':=[(2,.box 2 0),(3,.box 3 0),(5,.acc 5),(6,A9 j)]) (bx':=[(2,.cells ((Aj p).map .d)),(3,.cells ((Bh x).map .d)),(5,.rows 7 (B9 (Gk p x j)))]) (by simp [sle,Aw,g1,g2,g3,g4]) (by simp [ble,g5,g6,g7]) ?_;refine lT Rt ?_;rw [hk,A6 (by decide),Ge] at E;exact⟨(),trivial,sS,by simp [ble,A7,E,Aj,Bh]⟩
  by_cases L:d.kind=3
  ·by_cases V:d.name=x.name
   ·by_cases Z:Kk p x d.sig.name=(j:Int)
    ·(refine sQ Rt fun K z=>?_;refine Gj L V ?_;refine⟨_,.inl ⟨_,rfl,R,rfl⟩,?_⟩;(try refine An Z ?_);apply z;clear z K)
     refine A0.tt rfl ?_;have hk:Io p x d j=true:=by simp [Io,L,V,Z]
     rw [hk,A8 rfl] at E
     (refine lG Rt [] 10 [] fun K z=>?_;refine ev ?_;refine cc (B5i d.sig O.sig) ?_;refine cc (E1x d.vars x.args hx.arg _ O.sig.canon) ?_;refine⟨by simp,by unfold lim sm at *;omega,?_⟩;(try refine ev ?_);apply z;clear z K;try simp only [A4,Aa])
     refine I _ _ ?_;clear I W J;refine lT Rt ?_;exact⟨(),trivial,sS,by simp [ble,A7,E,B9,Eu,Aj,Bh]⟩
    ·(refine sQ Rt fun K z=>?_;refine Gj L V ?_;refine⟨_,.inl ⟨_,rfl,R,rfl⟩,?_⟩;(try refine An Z ?_);apply z;clear z K)
     refine A0.ff rfl (A0.kk (J _ _ (by simp [Io,Z]) rfl rfl rfl rfl rfl rfl rfl))
   ·refine En L V Rt ?_;refine A0.ff rfl (A0.kk (J _ _ (by simp [Io,V]) rfl rfl rfl rfl rfl rfl rfl))
  ·refine Ah L Rt ?_;refine A0.ff rfl (A0.kk (J _ _ (by simp [Io,L]) rfl rfl rfl rfl rfl rfl rfl))
theorem D6x (l:List Lit):∀(ds:List Decl)(i:Nat),Td l ds i=(ds.findIdx? fun d=>match M5 d with| some I=>decide (l=I.lits)| none=>false).map fun j=>D.int .i64 ((i+j:Nat):Int)
 |[],i=>rfl
 |d::ds,i=>by
  rw [Td,List.findIdx?_cons,D6x l ds (i+1)];have E:∀o:Option Nat,(o.map fun j=>D.int .i64 ((i+1+j:Nat):Int))=(o.map (·+1)).map fun j=>D.int .i64 ((i+j:Nat):Int):=fun o=>by
   cases o with
   |none=>rfl
   |some j=>simp only [E8,Av,D.int.injEq,Qv];congr 1;omega
  cases J:M5 d with
  |none=>simp only [A6 (show ¬(false=true) by decide)];exact E _
  |some k =>
   simp only;by_cases h:l=k.lits
   ·simp [h]
   ·simp only [h,Et,Aq6];exact E _
theorem D9w (I m:A3):(fun d:Decl=>match M5 d with| some L=>decide ((Gw I (46::m)).lits=L.lits)| none=>false)=J7 I m:=by
 funext d;unfold M5 J7;by_cases J:d.kind=1∨d.kind=2
 ·rw [A8 J];have O:¬d.kind=3:=by omega
  simp [O,Gw,D.lits,D.lit]
 ·rw [A6 J];by_cases E:d.kind=3
  ·rw [A8 E];have e:((Gw I (46::m)).lits=(Gw d.name (46::d.sig.name)).lits)↔(d.name=I∧d.sig.name=m):=by
    simp only [Gw,D.lits,D.lit,Cz,Hr,Aq4,Lit.string.injEq,S8,Qv];exact⟨fun h=>⟨h.1.symm,h.2.symm⟩,fun h=>⟨h.1.symm,h.2.symm⟩⟩
   simp only [E,Tq,Ca,e,Bool.decide_and]
  ·rw [A6 E];simp [E]
theorem F9t (p:Prog)(I m:A3):(Mf p I m = -1∧G1 (Gw I (46::m)).lits (Qm p) 0=none)∨∃(j q:Nat),Mf p I m=j∧G1 (Gw I (46::m)).lits (Qm p) 0=some (q,.int .i64 j):=by
 have E:Nj (Gw I (46::m)).lits (Qm p)=Td (Gw I (46::m)).lits p.decls 0:=by unfold Qm;rw [C2z];rfl
 rw [D6x,D9w] at E;unfold Nj at E;unfold Mf Dy;cases J:p.decls.findIdx? (J7 I m) with
 |none =>rw [J] at E;exact .inl ⟨rfl,by simpa using E⟩
 |some j =>
  rw [J] at E;refine .inr ⟨j,?_⟩;cases L:G1 (Gw I (46::m)).lits (Qm p) 0 with
  |none=>rw [L] at E;simp at E
  |some O =>obtain⟨q,d⟩:=O;rw [L] at E;simp only [E8,Av,I2] at E;exact⟨q,rfl,by rw [E]⟩
theorem F8v {p:Prog} {x:Ty} {d:Decl} {j:Nat} (R:Bz p x 1=true)(hd:p.decls[j]? = some d):Io p x d j=(decide (Mf p x.name d.sig.name=(j:Int)) && decide (d.vars.length=x.args.length)):=by
 unfold Io Kk;rw [A8 R];unfold Mf;rcases N1 (J7 x.name d.sig.name) p.decls with ⟨J,_⟩| ⟨k,e,J,L,O⟩
 ·rw [J];have E:¬(-1:Int)=(j:Int):=by omega
  have:(match p.decls[(-1:Int).toNat]? with
    |some d=>if 0≤(-1:Int)∧d.vars.length=x.args.length then (-1:Int) else -1
    |none=>-1) = -1:=by
    cases p.decls[(-1:Int).toNat]? with
    |none=>rfl
    |some d=>simp
  rw [this];simp [E]
 ·rw [J];simp only [Gr,L];by_cases U:k=j
  ·subst U;rw [L] at hd;simp only [Av] at hd;subst hd;simp only [J7,B1,D8] at O;by_cases I:e.vars.length=x.args.length
   ·simp [O,I]
   ·have E:¬(-1:Int)=(k:Int):=by omega
    simp [I,E]
  ·have E:¬(k:Int)=(j:Int):=by omega
   by_cases I:e.vars.length=x.args.length
   ·simp [I,E]
   ·have J:¬(-1:Int)=(j:Int):=by omega
    simp [I,E,J]
theorem C6d {p:Prog} {x:Ty} (I:¬Bz p x 1=true)(j:Nat):Gk p x j=[]:=by
 unfold Gk;rw [As2,List.filter_eq_nil_iff];rintro⟨d,i⟩ _;simp only [Io,Kk,A6 I];have E:¬(-1:Int)=(i:Int):=by omega
 simp [E]
abbrev L4:List Nat:=[0,1,3,4,6,7,8,9,10,11,19,24,25,26,27,60]
theorem F3a (p:Prog)(h:p.Sm)(x:Ty)(hx:x.Sm):Cd prog 196 [.Ag (Fu p) 0,Be x] [] (.acc 7) [(7,.rows 7 (B9 (Gk p x p.decls.length)))]:=by
 have hl:=h.decls.1;have O:=B8h p h x 1 (by decide);generalize (Gb p x.name).getD default=dd at *;refine bB func196 ?_;refine sR L4 ?_;rcases Fg (Bz p x 1) with hi| hi
 ·rw [hi] at O;refine kC O L4 fun K1 I=>?_;refine sR L4 ?_;refine kI I ?_;clear I K1;refine sR L4 ?_;refine A0.pp 7 7 7 rfl ?_;refine sK fun K1 I=>?_
  (refine sQ L4 fun K z=>?_;simp -implicitDefEqProofs only [EV,Nat.reduceEqDiff,Nat.reduceBEq,reduceCtorEq,A0m,Vs,B4y,Fu];apply z;clear z K)
  refine A0.bb (A0.ii p.decls (X:=Unit) (fun j _=>[(0,.Ag (Fu p) 0),(3,.box 3 0),(7,.acc 7),(24,.d (.slice (Bu p.decls))),(25,A9 p.decls.length),(26,A9 j)]) (fun j _=>[(3,.cells ((Bh x).map .d)),(7,.rows 7 (B9 (Gk p x j)))])
   (fun j _=>True) () trivial (by simp [sle,Aw,Ae,Fu,Aj]) (by simp [ble,A7,Gk,B9,Bh]) ?_ ?_)
  ·intro _ _;refine Ah B4 L4 ?_;refine A0.stop rfl ?_;simp only [A4,Aa,Af];refine I _ _ ?_;refine sR L4 ?_;exact A0.ret ⟨_,by rw [results196];rfl,.inl rfl,by simp [ble,A7]⟩
  ·intro j _ d hd Z dp tk a1 hI;have a2:=A6f p x j;have E:=C5f (x:=x) (by omega) tk;have R:=h.decls.2 d Z;have hb:=F8v hi hd;refine Ah a1 L4 ?_;refine A0.E5 rfl ?_;refine sK fun K2 V=>?_;refine A0.bb ?_
   (refine sV L4 fun K z=>?_;refine ci (E2 hd) ?_;apply z;clear z K)
   have a3:=R.sig.name;have W:=B2p B1p x.name (46::d.sig.name) (Dk hx.name (by decide)) (by simp only [Bg];unfold sm lim at *;omega);have a0:=F9t p x.name d.sig.name;unfold Gw at W a0
   (refine sG L4 [] 16 [] fun K z=>?_;simp -implicitDefEqProofs only [EV,Nat.reduceAdd,Nat.reduceEqDiff,Nat.reduceLeDiff,reduceCtorEq,M3,I9,S4,X0,C3d,B4y,B9o,Fu];refine⟨by unfold sm lim at *;omega,D7a p h,W,?_⟩;apply z;clear z K)
   have L:∀sl bx,Io p x d j=false→Ae sl 0=.Ag (Fu p) 0→Ae sl 3=.box 3 0→Ae sl 7=.acc 7→Ae sl 24=.d (.slice (Bu p.decls))→Ae sl 25=A9 p.decls.length→Ae sl 26=A9 j→A7 bx 3=some (.cells ((Bh x).map .d))→A7 bx 7=some (.rows 7 (B9 (Gk p x j)))→K2 sl bx:=fun sl bx W g1 g2 g3 g4 g5 g6 g7 g8=>by refine V _ _ ?_;refine A0.ww (sl':=[(0,.Ag (Fu p) 0),(3,.box 3 0),(7,.acc 7),(24,.d (.slice (Bu p.decls))),(25,A9 p.decls.length),(26,A9 j)]) (bx':=[(3,.cells ((Bh x).map .d)),(7,.rows 7 (B9 (Gk p x j)))]) (by simp [sle,Aw,g1,g2,g3,g4,g5,g6]) (by simp [ble,g7,g8]) ?_;refine lT L4 ?_;rw [W,A6 (by decide),Ge] at E;exact⟨(),trivial,(by simp [sle,Aw,Ae,Fu,Aj]),by simp [ble,A7,E,Bh]⟩
   rcases a0 with ⟨m1,m2⟩| ⟨k,q,m1,m2⟩
   ·have h0:¬(-1:Int)=(j:Int):=by omega
    simp only [Tw,m2,L7];refine sR L4 ?_;refine A0.ff rfl (A0.kk (L _ _ (by rw [hb,m1];simp [h0]) rfl rfl rfl rfl rfl rfl rfl rfl))
   ·simp only [Tw,m2,ofD,Am2];by_cases J:(k:Int)=(j:Int)
    ·by_cases hv:d.vars.length=x.args.length
     ·have U:(d.vars.length:Int)=x.args.length:=by omega
      refine En J U L4 ?_;refine A0.tt rfl ?_;have W:Io p x d j=true:=by rw [hb,m1];simp [J,hv]
      rw [W,A8 rfl] at E
      (refine lG L4 [] 10 [] fun K z=>?_;refine ev ?_;refine cc (B1a d.sig R.sig) ?_;refine cc (C0o d.vars x.args hx.arg _ R.sig.canon) ?_;refine⟨by simp,by unfold lim sm at *;omega,?_⟩;(try refine ev ?_);apply z;clear z K;try simp only [A4,Aa])
      refine V _ _ ?_;clear V K2 L;refine lT L4 ?_;exact⟨(),trivial,(by simp [sle,Aw,Ae,Fu,Aj]),by simp [ble,A7,E,B9,Eu,Bh]⟩
     ·have U:¬(d.vars.length:Int)=x.args.length:=by omega
      refine En J U L4 ?_;refine A0.ff rfl (A0.kk (L _ _ (by rw [hb,m1];simp [hv]) rfl rfl rfl rfl rfl rfl rfl rfl))
    ·refine Ah J L4 ?_;refine A0.ff rfl (A0.kk (L _ _ (by rw [hb,m1];simp [J]) rfl rfl rfl rfl rfl rfl rfl rfl))
 ·rw [hi] at O;refine kC O L4 fun K1 I=>?_;refine sR L4 ?_;refine tI ?_;refine sR L4 ?_;rw [C6d (by rw [hi];decide)];refine A0.pp 7 7 4 rfl ?_;exact A0.ret ⟨_,by rw [results196];rfl,.inl rfl,by simp [ble,A7,B9]⟩
def N9 (l:List A3):List (D × D):=l.map fun s=>(.str s,.bool true)
def A0z (l:List A3)(s:A3):List A3:=if s∈l then l else l++[s]
theorem B0j (s:A3):∀(l:List A3)(i:Nat),(s∈l→∃j,l[j]? = some s∧G1 (D.str s).lits (N9 l) i=some (i+j,.bool true))∧(s ∉ l→G1 (D.str s).lits (N9 l) i=none)
 |[],i=>by simp [N9,G1]
 |x::l,i=>by
  have J:=B0j s l (i+1);have R:N9 (x::l)=(.str x,.bool true)::N9 l:=rfl;rw [R];simp only [G1];by_cases E:s=x
  ·subst E;refine⟨fun _=>⟨0,rfl,by simp⟩,fun h=>absurd (An8 ..) h⟩
  ·have I:¬(D.str s).lits=(D.str x).lits:=by simp [D.lits,D.lit,E]
   rw [A6 I];refine⟨fun h=>?_,fun h=>J.2 fun O=>h (by simp [O])⟩;obtain⟨j,U,L⟩:=J.1 ((As.1 h).resolve_left E);exact⟨j+1,by simpa using U,by rw [L];congr 2;omega⟩
theorem G5x (s:A3)(l:List A3):Y6 (.str s) (.bool true) (N9 l)=N9 (A0z l s):=by
 unfold Y6 A0z;by_cases h:s∈l
 ·obtain⟨j,E,I⟩:=(B0j s l 0).1 h;rw [I,A8 h];have L:=(Ay.1 E).1;have J:l[j]=s:=(Ay.1 E).2;simp only [I2];apply Lu;intro k;by_cases O:k=j
  ·subst O;rw [List.getElem?_set_self (by simpa [N9] using L)];simp [N9,E]
  ·rw [Ar5 (by omega)]
 ·rw [(B0j s l 0).2 h,A6 h];simp [N9]
theorem E5v (s:A3)(l:List A3):Tw (.str s) (N9 l) (.d (.bool false))=B0 (decide (s∈l)):=by
 unfold Tw;by_cases h:s∈l
 ·obtain⟨j,I,E⟩:=(B0j s l 0).1 h;rw [E];simp [ofD,h]
 ·rw [(B0j s l 0).2 h];simp [h]
theorem G5b {l:List A3} {s x:A3}:x∈A0z l s↔x=s∨x∈l:=by
 unfold A0z;split
 ·constructor
  ·exact .inr
  ·rintro (rfl| h)
   ·assumption
   ·exact h
 ·simp [or_comm]
theorem D3h (s:A3)(h:s.length≤lim):Fq prog 9 (.str s):=by have E:prog.underlying 9=some .string:=M3.2.2.2.2.1;refine⟨rfl,by simp [D.kv,D.lit,Lit.value,Value.formed,E],?_⟩;simp [D.kv,D.lit,D.lits,Lit.value,Value.cells,Program.keyLits,E,ByteArray.size];unfold lim at h;unfold maxLen;omega
theorem F7u {l:List A3} (h:∀s,s∈l→s.length≤lim):∀kv,kv∈N9 l→Fq prog 9 kv.1:=by intro kv E;obtain⟨s,hs,rfl⟩:=Ax.1 E;exact D3h s (h s hs)
def Rq (l:List A5):List A3:=l.foldl (fun m s=>A0z m s.name) []
theorem F0d (l:List A5)(d:A5):Rq (l++[d])=A0z (Rq l) d.name:=by simp [Rq]
theorem F3n (l:List A5)(s:A3):∀m:List A3,s∈l.foldl (fun m s=>A0z m s.name) m↔s∈m∨∃y,y∈l∧y.name=s:=by
 induction l with
 |nil=>simp
 |cons a l I =>
  intro m;rw [Li,I,G5b];simp only [As];constructor
  ·rintro ((rfl| h)| ⟨y,h1,E⟩)
   ·exact .inr ⟨a,.inl rfl,rfl⟩
   ·exact .inl h
   ·exact .inr ⟨y,.inr h1,E⟩
  ·rintro (h| ⟨y,rfl| h1,E⟩)
   ·exact .inl (.inr h)
   ·exact .inl (.inl E.symm)
   ·exact .inr ⟨y,h1,E⟩
theorem D8p (l:List A5)(s:A3):s∈Rq l↔∃y,y∈l∧y.name=s:=by unfold Rq;rw [F3n];simp
def Q2 (l:List A5)(s:A5)(i:Nat):Bool:=decide (∀y,y∈l.take i→y.name≠s.name)
def I7 (vars:List A3)(args:List Ty)(l:List A5)(j:Nat):List A5:=((l.take j).zipIdx.filter fun E=>Q2 l E.1 E.2).map fun E=>E.1.canon.subst vars args
theorem C2i {vars:List A3} {args:List Ty} {l:List A5} {j:Nat} {d:A5} (I:j < l.length)(ht:l.take (j+1)=l.take j++[d]):I7 vars args l (j+1)=I7 vars args l j++if Q2 l d j=true then [d.canon.subst vars args] else []:=by
 unfold I7;have E:(l.take j).length=j:=by rw [Cw];omega
 rw [ht,List.zipIdx_append,Ap4,Fz,E]
 congr 1
 simp only [Aw3,List.zipIdx_nil,I2,Au3,Av5];split <;> simp_all
theorem B4w (vars:List A3)(args:List Ty)(l:List A5)(j:Nat):(I7 vars args l j).length≤j:=by unfold I7;rw [B6];refine Dk (Ak8 ..) ?_;rw [List.length_zipIdx,Cw];omega
def Yx (d:Decl)(x:Ty):List A5:=I7 (Ad d.A1) x.args d.sigs d.sigs.length
def Gg (p:Prog)(x:Ty):List A5:=if Bz p x 2=true then Yx ((Gb p x.name).getD default) x else []
theorem Lo {p:Prog} {x:Ty} {k:Int} (J:k≠0)(h:Bz p x k=true):∃d,Gb p x.name=some d∧d.kind=k∧d.A1.length=x.args.length:=by
 unfold Bz at h;simp only [B1,D8] at h;cases E:Gb p x.name with
 |none=>have:=(E2i E).1;omega
 |some d =>obtain⟨L,I⟩:=D8r E;exact⟨d,rfl,by omega,by rw [←I];exact h.2⟩
abbrev N0:List Nat:=[0,1,3,4,5,6,7,8,9,11,19,20,22,23,24,25,32]
theorem B3d (p:Prog)(h:p.Sm)(x:Ty)(hx:x.Sm):Cd prog 140 [.Ag (Fu p) 0,Be x] [] (.tuple [.acc 8,B0 (Bz p x 2)]) [(8,.rows 7 (B9 (Gg p x)))]:=by
 have I:=B8h p h x 2 (by decide);unfold Gg;rcases Fg (Bz p x 2) with hi| hi
 ·obtain⟨E,W,_⟩:=Lo (by decide) hi;rw [hi] at I;rw [A8 hi,hi];rw [W,Dc] at I ⊢;have L:=h.decls.2 E (Nh W);have a':=L.sigs.1;unfold Yx;refine bB func140 ?_;refine sR N0 ?_;refine sC I N0 ?_;refine kR N0 fun K1 O=>?_;refine kI O ?_;clear O K1;refine sR N0 ?_;refine A0.pp 8 7 8 rfl ?_;refine sR N0 ?_;refine kR N0 fun K1 O=>?_;refine A0.bb (A0.ii E.sigs (X:=Unit) (fun j _=>[(3,.box 3 0),(6,.box 6 0),(8,.acc 8),(9,.mp 20),(22,.d (.slice (B9 E.sigs))),(23,A9 E.sigs.length),(24,A9 j)])
   (fun j _=>[(3,.cells ((Bh x).map .d)),(6,.cells ((Bc E).map .d)),(8,.rows 7 (B9 (I7 (Ad E.A1) x.args E.sigs j))),(20,.map (N9 (Rq (E.sigs.take j))))])
   (fun j _=>True) () trivial sS (by simp [ble,A7,I7,B9,Bc,Bh,N9,Rq]) ?_ ?_)
  ·intro _ _;refine Ah B4 N0 ?_;refine A0.stop rfl ?_;simp only [A4,Aa,Af];refine O _ _ ?_;refine sR N0 ?_;exact A0.ret ⟨_,by rw [results140];rfl,.inl rfl,by simp [ble,A7]⟩
  ·intro j _ d hd a0 dp tk a7 hI;have a9:=B4w (Ad E.A1) x.args E.sigs j;have J:=C2i (vars:=Ad E.A1) (args:=x.args) (by omega) tk;have U:=L.sigs.2 d a0;have V:Rq (E.sigs.take (j+1))=A0z (Rq (E.sigs.take j)) d.name:=by rw [tk,F0d]
   have hk:Fq prog 9 (.str d.name):=D3h _ (Dk U.name (by decide));have a1:∀kv,kv∈N9 (Rq (E.sigs.take j))→Fq prog 9 kv.1:=F7u fun s hs=>by obtain⟨y,hy,rfl⟩:=(D8p _ _).1 hs;exact Dk (L.sigs.2 y (Iq hy)).name (by decide)
   have R:Q2 E.sigs d j = !decide (d.name∈Rq (E.sigs.take j)):=by unfold Q2;rw [Aq5];simp [D8p]
   refine Ah a7 N0 ?_;refine A0.E5 rfl ?_;refine sK fun K2 a8=>?_;refine A0.bb ?_
   (refine sV N0 fun K z=>?_;refine ci (E1 hd) ?_;apply z;clear z K)
   refine sK fun K3 a2=>?_
   (refine sQ N0 fun K z=>?_;simp -implicitDefEqProofs only [EV,Nat.reduceEqDiff,reduceCtorEq,M3,S4,C1n,E5v];refine⟨a1,hk,?_⟩;apply z;clear z K)
   have Z:∀sl bx,Ae sl 3=.box 3 0→Ae sl 6=.box 6 0→Ae sl 8=.acc 8→Ae sl 9=.mp 20→Ae sl 11=.box 11 0→Ae sl 22=.d (.slice (B9 E.sigs))→Ae sl 23=A9 E.sigs.length→Ae sl 24=A9 j →
     A7 bx 3=some (.cells ((Bh x).map .d))→A7 bx 6=some (.cells ((Bc E).map .d))→A7 bx 8=some (.rows 7 (B9 (I7 (Ad E.A1) x.args E.sigs (j+1))))→A7 bx 11=some (.cells (Nd d))→A7 bx 20=some (.map (N9 (Rq (E.sigs.take j))))→K3 sl bx:=fun sl bx g1 g2 g3 g4 g5 g6 g7 g8 g9 a3 a4 a5 a6=>by
    refine a2 _ _ ?_;refine A0.ww (sl':=[(3,.box 3 0),(6,.box 6 0),(8,.acc 8),(9,.mp 20),(11,.box 11 0),(22,.d (.slice (B9 E.sigs))),(23,A9 E.sigs.length),(24,A9 j)])
     (bx':=[(3,.cells ((Bh x).map .d)),(6,.cells ((Bc E).map .d)),(8,.rows 7 (B9 (I7 (Ad E.A1) x.args E.sigs (j+1)))),(11,.cells (Nd d)),(20,.map (N9 (Rq (E.sigs.take j))))]) (by simp [sle,Aw,g1,g2,g3,g4,g5,g6,g7,g8]) (by simp [ble,g9,a3,a4,a5,a6]) ?_
    (refine lQ N0 fun K z=>?_;simp -implicitDefEqProofs only [EV,Nat.reduceEqDiff,reduceCtorEq,M3,S4,C1n,G5x];refine⟨a1,hk,?_⟩;apply z;clear z K;try simp only [A4,Aa])
    refine a8 _ _ ?_;refine lT N0 ?_;exact⟨(),trivial,sS,by simp [ble,A7,V,Bh,Bc]⟩
   by_cases I:d.name∈Rq (E.sigs.take j)
   ·rw [Bn I];refine A0.ff rfl (A0.kk (Z _ _ rfl rfl rfl rfl rfl rfl rfl rfl rfl rfl (by rw [J,R,Bn I];simp [A7]) rfl rfl))
   ·rw [Ci I];refine A0.tt rfl ?_;have hn:Q2 E.sigs d j=true:=by rw [R,Ci I];rfl
    rw [hn,A8 rfl] at J
    (refine lG N0 [] 10 [] fun K z=>?_;refine ev ?_;refine cc (B1a d U) ?_;refine cc (A9z E.A1 L.A1.1) ?_;refine cc (C0o (Ad E.A1) x.args hx.arg _ U.canon) ?_;refine⟨by simp,by unfold lim sm at *;omega,?_⟩;(try refine ev ?_);apply z;clear z K;try simp only [A4,])
    exact Z _ _ rfl rfl rfl rfl rfl rfl rfl rfl rfl rfl (by rw [J];simp [A7,B9,Eu]) rfl rfl
 ·rw [hi] at I;rw [A6 (by rw [hi];decide),hi];refine bB func140 ?_;refine sR N0 ?_;refine sC I N0 ?_;refine kR N0 fun K1 O=>?_;refine tI ?_;refine sR N0 ?_;refine A0.pp 8 7 4 rfl ?_;exact A0.ret ⟨_,by rw [results140];rfl,.inl rfl,by simp [ble,A7,B9]⟩
abbrev Lv:List Nat:=[0,1,2,3,4,5,6,7,8,9,22,27,42,43]
theorem E8o (p:Prog)(h:p.Sm)(x:Ty)(hx:x.Sm)(hi:Bz p x 2=true):Cd prog 234 [Cv p,Be x] [] (.acc 6) [(6,.rows 7 (B9 (Gg p x)))]:=by
 unfold Gg;rw [A8 hi];obtain⟨E,I,_⟩:=Lo (by decide) hi;rw [I,Dc];have U:=h.decls.2 E (Nh I);have ac:=U.sigs.1;have a1:=A5t p x.name;obtain⟨k,a6,a8⟩:∃k:Nat,p.decls[k]? = some E∧findD x.name p.decls 0=k:=by
  rcases A7z x.name p.decls 0 with ⟨h1,h2⟩| ⟨k,d,h1,h2,h3⟩
  ·unfold Gb at I;rw [h2] at I;simp at I
  ·unfold Gb at I;rw [h3] at I;simp only [Av] at I;subst I;exact⟨k,h1,by rw [h2];simp⟩
 rw [a8] at a1;unfold Yx;refine bB func234 ?_;refine sR Lv ?_
 (refine sG Lv [] 9 [⟨[],[],[5],[5]⟩,⟨[],[],[5],[5]⟩,⟨[],[],[5],[5]⟩,⟨[],[],[5],[5]⟩,⟨[],[],[5],[5]⟩,⟨[],[],[5],[5]⟩,⟨[],[],[5],[5]⟩,⟨[],[],[5],[5]⟩,⟨[5],[5],[],[]⟩] fun K z=>?_;refine ev ?_;refine cc a1 ?_;refine ci (E2 a6) ?_;apply z;clear z K)
 refine sR Lv ?_;refine A0.pp 6 7 6 rfl ?_;refine kR Lv fun K1 a7=>?_;refine A0.bb (A0.ii E.sigs (X:=Unit) (fun j _=>[(3,.box 3 0),(5,.box 5 0),(6,.acc 6),(7,A9 j)])
  (fun j _=>[(3,.cells ((Bh x).map .d)),(5,.cells ((Bc E).map .d)),(6,.rows 7 (B9 (I7 (Ad E.A1) x.args E.sigs j)))])
  (fun j _=>True) () trivial sS (by simp [ble,A7,I7,B9,Bc,Bh]) ?_ ?_)
 ·intro _ _;refine Ai B4 Lv fun K2 O=>?_;refine A0.ss rfl ?_;simp only [A4,Aa,Af];refine a7 _ _ ?_;refine sR Lv ?_;exact A0.ret ⟨_,by rw [results234];rfl,.inl rfl,by simp [ble,A7]⟩
 ·intro j _ d hd a2 dp tk a9 hI;have a':=B4w (Ad E.A1) x.args E.sigs j;have J:=C2i (vars:=Ad E.A1) (args:=x.args) (by omega) tk;have a0:=U.sigs.2 d a2;have a3:(E.sigs.take j).length=j:=by rw [Cw];omega
  refine Ai a9 Lv fun K2 O=>?_;refine gI O ?_;clear O K2;refine sK fun K2 O=>?_;refine A0.bb ?_;refine sR Lv ?_;refine kR Lv fun K3 W=>?_;refine A0.bb (A0.ii (E.sigs.take j) (X:=Unit) (fun i _=>[(3,.box 3 0),(5,.box 5 0),(6,.acc 6),(7,A9 j),(8,B0 (Q2 (E.sigs.take j) d i)),(9,A9 i)])
   (fun _ _=>[(3,.cells ((Bh x).map .d)),(5,.cells ((Bc E).map .d)),(6,.rows 7 (B9 (I7 (Ad E.A1) x.args E.sigs j)))])
   (fun _ _=>True) () trivial (by simp [sle,Aw,Ae,Q2]) (by simp [ble,A7,Bc,Bh]) ?_ ?_)
  ·intro _ _;have R:Q2 (E.sigs.take j) d (E.sigs.take j).length=Q2 E.sigs d j:=by unfold Q2;rw [Cs]
   rw [R,a3];refine Ai B4 Lv fun V L=>?_;refine A0.ss rfl ?_;simp only [A4,Aa,Af];refine W _ _ ?_;clear L V W K3;refine sR Lv ?_;rcases Fg (Q2 E.sigs d j) with hn| hn
   ·rw [hn,A8 rfl] at J;rw [hn];refine A0.tt rfl ?_
    (refine lG Lv [] 14 [] fun K z=>?_;refine ev ?_;refine ci (E1 hd) ?_;refine cc (B5i d a0) ?_;refine cc (To E.A1 U.A1.1) ?_;refine cc (E1x (Ad E.A1) x.args hx.arg _ a0.canon) ?_;refine⟨by simp,by unfold lim sm at *;omega,?_⟩;(try refine ev ?_);apply z;clear z K;try simp only [A4,Aa])
    refine O _ _ ?_;clear O K2;refine lT Lv ?_;exact⟨(),trivial,sS,by simp [ble,A7,J,B9,Eu,Bc,Bh]⟩
   ·rw [hn,A6 (by decide),Ge] at J;rw [hn];refine A0.ff rfl (A0.kk (O _ _ ?_));clear O K2;refine lT Lv ?_;exact⟨(),trivial,sS,by simp [ble,A7,J,Bc,Bh]⟩
  ·intro i _ e he ab ad a5 Z aa;rw [a3] at Z;have a4:E.sigs[i]? = some e:=by rw [An7 (by omega)] at he;exact he
   have R:Q2 (E.sigs.take j) d (i+1)=(Q2 (E.sigs.take j) d i && !decide (e.name=d.name)):=by unfold Q2;rw [a5,Aq5];simp only [D8,Bw,As,Dt,Du,B1,Jo,Vh];exact⟨fun h=>⟨fun y hy=>h y (.inl hy),h e (.inr rfl)⟩,fun h y hy=>hy.elim (h.1 y) (fun he=>he ▸ h.2)⟩
   refine Ai Z Lv fun V L=>?_;refine gI L ?_;clear L V;refine sK fun V L=>?_;refine A0.bb ?_;by_cases hn:e.name=d.name
   ·rw [Bn hn,As7,Vi] at R
    (refine sG Lv [] 12 [] fun K z=>?_;refine ev ?_;refine⟨by omega,_,E1 a4,rfl,?_⟩;(try refine An hn ?_);refine ci (E1 hd) ?_;apply z;clear z K)
    refine A0.tt rfl ?_
    (refine lV Lv fun K z=>?_;apply z;clear z K;try simp only [A4,Aa])
    refine L _ _ ?_;clear L V;refine lT Lv ?_;exact⟨(),trivial,(by simp [sle,Aw,Ae,R]),by simp [ble,A7,Bc,Bh]⟩
   ·rw [Ci hn,Ar7,Av0] at R
    (refine sG Lv [] 12 [] fun K z=>?_;refine ev ?_;refine ci (E1 a4) ?_;refine⟨by omega,_,E1 hd,rfl,?_⟩;(try refine An hn ?_);apply z;clear z K)
    refine A0.ff rfl (A0.kk (L _ _ ?_));clear L V;refine lT Lv ?_;exact⟨(),trivial,(by simp [sle,Aw,Ae,R]),by simp [ble,A7,Bc,Bh]⟩
end Go.Abs
