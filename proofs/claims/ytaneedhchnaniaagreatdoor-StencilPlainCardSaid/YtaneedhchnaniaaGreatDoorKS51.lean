/- castingsref06.RightDecl, Right -/
import Derived.Test.YtaneedhchnaniaaGreatDoorKS37
namespace Go.Abs
set_option linter.all false
open Go Go.Proofs Tryz
set_option maxRecDepth 100000
set_option maxHeartbeats 1000000
def Decl.A9x (d:Decl):Bool:=decide (d.recv=[]) && (decide (d.vars.length=0) && (Nz d.sig Kd && A7r d.body Tj))
def Decl.Sv (d:Decl):Bool:=if d.kind=3 then isName d.recv && (decide ((d.A1.length:Int)+(d.fields.length:Int)+(d.sigs.length:Int)=0) && (d.sig.right && d.body.right))
 else d.A9x && ((decide (d.kind=1) && decide (d.sigs.length=0)) ||(decide (d.kind=2) && decide (d.fields.length=0)))
def Decl.right (d:Decl):Bool:=isName d.name && (Pv d.A1 && (Lx d.fields && (d.sigs.all A5.right && (d.vars.all isName && d.Sv))))
structure Decl.Ln (d:Decl):Prop where
 A1:d.A1.length≤sm
 fields:d.fields.length≤sm
 sigs:d.sigs.length≤3*sm
 vars:d.vars.length≤sm
 none:¬d.kind=3→d.sig.Lm∧d.body.Lm
theorem Decl.Sm.ln {d:Decl} (h:d.Sm):d.Ln:=⟨h.A1.1,h.fields.1,by have:=h.sigs.1;omega,h.vars.1,fun _=>⟨h.sig.lm,h.body.lm⟩⟩
abbrev Gf:List Nat:=[0,1,2,3,4,5,21,26,35,40,49,52]
set_option maxHeartbeats 4000000 in
theorem G2y (d:Decl)(h:d.Ln)(hn:d.Nn):Ac prog 42 [Iy d] (B0 d.right):=by
 have I:=Xz d.name;have h2:=D4x d.A1 hn.A1;have J:=D3f d.fields hn.fields;have a7:=h.A1;have a6:=h.fields;have a5:=h.sigs;have a4:=h.vars;unfold Decl.right;refine cB func42 ?_;refine sR Gf ?_
 (refine A0.zz 1 rfl rfl (wk [(1,.Ag (Bc d) 0)] [] ?_))
 refine sK fun L u1=>?_;rcases Fg (isName d.name) with b1| b1
 rotate_left
 ·rw [b1] at I;rw [b1,Bv];refine sC I Gf ?_;refine tI ?_;refine sR Gf ?_;exact aR
 rcases Fg (Pv d.A1) with b2| b2;rotate_left
 ·rw [b1] at I;rw [b2] at h2;rw [b1,b2,Bv,Ca]
  (refine sV Gf fun K z=>?_;refine cc I ?_;refine cc h2 ?_;apply z;clear z K)
  refine tI ?_;refine sR Gf ?_;exact aR
 rcases Fg (Lx d.fields) with b3| b3;rotate_left
 ·rw [b1] at I;rw [b2] at h2;rw [b3] at J;rw [b1,b2,b3,Bv,Ca,Ca]
  (refine sV Gf fun K z=>?_;refine cc I ?_;refine cc h2 ?_;refine cc J ?_;apply z;clear z K)
  refine tI ?_;refine sR Gf ?_;exact aR
 rw [b1] at I;rw [b2] at h2;rw [b3] at J;rw [b1,b2,b3,Ca,Ca,Ca] at u1 ⊢
 (refine sV Gf fun K z=>?_;refine cc I ?_;refine cc h2 ?_;refine cc J ?_;apply z;clear z K)
 refine kI u1 ?_;clear u1 L I h2 J b1 b2 b3;refine kR Gf fun L u1=>?_;refine A0.bb (A0.ii d.sigs (X:=Unit) (fun j _=>[(1,.Ag (Bc d) 0),(3,A9 j)]) (fun _ _=>[])
  (fun j _=>(d.sigs.drop j).all A5.right=d.sigs.all A5.right) () rfl (by simp [sle,Aw,Ae,Bc]) sB ?_ ?_)
 rotate_left
 ·intro j _ s hd W dp tk a0 E;rw [dp,Na] at E;refine Ai a0 Gf fun U u2=>?_;refine gI u2 ?_;clear u2 U;refine sK fun U u2=>?_;refine A0.bb ?_
  (refine sV Gf fun K z=>?_;refine ci (E1 hd) ?_;refine cc (D8d s (hn.sigs s W)) ?_;apply z;clear z K)
  refine A0.cond rfl (fun O=>?_) (fun O=>?_)
  ·refine sR Gf ?_;simp only [Jo] at O;rw [O,Bv] at E;rw [←E,Bv];exact aR
  simp only [S5] at O;rw [O,Ca] at E;refine A0.kk (u2 _ _ ?_);clear u2 U;refine lT Gf ?_;exact⟨(),E,(by simp [sle,Aw,Ae,Bc]),sB⟩
 intro _ E;rw [D6,Xv] at E;rw [←E,Ca] at u1 ⊢;clear E;refine Ai B4 Gf fun U u2=>?_;refine A0.ss rfl ?_;simp only [A4,Aa,Af];refine u1 _ _ ?_;clear u2 U u1 L;refine kR Gf fun L u1=>?_;refine A0.bb (A0.ii d.vars (X:=Unit) (fun j _=>[(1,.Ag (Bc d) 0),(4,A9 j)]) (fun _ _=>[])
  (fun j _=>(d.vars.drop j).all isName=d.vars.all isName) () rfl (by simp [sle,Aw,Ae,Bc]) sB ?_ ?_)
 rotate_left
 ·intro j _ s hd W dp tk a0 E;rw [dp,Na] at E;refine Ai a0 Gf fun U u2=>?_;refine gI u2 ?_;clear u2 U;refine sK fun U u2=>?_;refine A0.bb ?_
  (refine sV Gf fun K z=>?_;refine ci (La hd) ?_;refine cc (Xz s) ?_;apply z;clear z K)
  refine A0.cond rfl (fun O=>?_) (fun O=>?_)
  ·refine sR Gf ?_;simp only [Jo] at O;rw [O,Bv] at E;rw [←E,Bv];exact aR
  simp only [S5] at O;rw [O,Ca] at E;refine A0.kk (u2 _ _ ?_);clear u2 U;refine lT Gf ?_;exact⟨(),E,(by simp [sle,Aw,Ae,Bc]),sB⟩
 intro _ E;rw [D6,Xv] at E;rw [←E,Ca] at u1 ⊢;clear E;refine Ai B4 Gf fun U u2=>?_;refine A0.ss rfl ?_;simp only [A4,Aa,Af];refine u1 _ _ ?_;clear u2 U u1 L;unfold Decl.Sv;by_cases k3:d.kind=3
 ·rw [A8 k3];refine sK fun L u1=>?_;have I:=Xz d.recv;have J:=D8d d.sig hn.sig;have h4:=D7d d.body hn.body;refine Ah k3 Gf ?_;refine tI ?_;rcases Fg (isName d.recv) with b1| b1
  rotate_left
  ·rw [b1] at I;rw [b1,Bv];refine sC I Gf ?_;exact aR
  rw [b1] at I;rw [b1,Ca];by_cases R:(d.A1.length:Int)+(d.fields.length:Int)+(d.sigs.length:Int)=0;rotate_left
  ·rw [Ci R,Bv]
   (refine sV Gf fun K z=>?_;refine⟨_,.inl ⟨_,rfl,I,rfl⟩,?_⟩;(try refine An R ?_);refine⟨by first| (unfold B7;omega)| (simp only [B7,sm] at *;omega),?_⟩;(try refine An R ?_);refine⟨by first| (unfold B7;omega)| (simp only [B7,sm] at *;omega),?_⟩;(try refine An R ?_);apply z;clear z K)
   exact aR
  rw [Bn R,Ca];rcases Fg d.sig.right with b3| b3
  rotate_left
  ·rw [b3] at J;rw [b3,Bv]
   (refine sV Gf fun K z=>?_;refine⟨_,.inl ⟨_,rfl,I,rfl⟩,?_⟩;(try refine An R ?_);refine⟨by first| (unfold B7;omega)| (simp only [B7,sm,lim] at *;omega),?_⟩;(try refine An R ?_);refine⟨by first| (unfold B7;omega)| (simp only [B7,sm,lim] at *;omega),?_⟩;(try refine An R ?_);refine cc J ?_;apply z;clear z K)
   exact aR
  rw [b3] at J;rw [b3,Ca]
  (refine sV Gf fun K z=>?_;refine⟨_,.inl ⟨_,rfl,I,rfl⟩,?_⟩;(try refine An R ?_);refine⟨by first| (unfold B7;omega)| (simp only [B7,sm,lim] at *;omega),?_⟩;(try refine An R ?_);refine⟨by first| (unfold B7;omega)| (simp only [B7,sm,lim] at *;omega),?_⟩;(try refine An R ?_);refine cc J ?_;refine cc h4 ?_;apply z;clear z K)
  exact aR
 rw [A6 k3];refine Ai k3 Gf fun L u1=>?_;refine kI u1 ?_;clear u1 L;refine sK fun L u1=>?_;have rest:∀sl bx,sle sl [(1,.Ag (Bc d) 0),(5,B0 d.A9x)]→L sl bx:=by
  intro sl bx a3;refine u1 _ _ (A0.ww (bx':=[]) a3 trivial ?_);clear u1 L;rcases Fg d.A9x with b| b
  rotate_left
  ·rw [b,Bv];refine sR Gf ?_;exact aR
  rw [b,Ca];by_cases k1:d.kind=1
  ·have k2:¬d.kind=2:=by omega
   rw [Bn k1,Ca,Ci k2,Bv,As6];by_cases hs:d.sigs.length=0
   ·have Z:(d.sigs.length:Int)=0:=by omega
    rw [Bn hs];refine En k1 Z Gf ?_;exact aR
   ·have Z:¬(d.sigs.length:Int)=0:=by omega
    have a2:¬(1:Int)=2:=by omega
    rw [Ci hs];refine sR3 k1 Z a2 Gf ?_;exact aR
  rw [Ci k1,Bv,V1];by_cases k2:d.kind=2
  ·rw [Bn k2,Ca];have a1:¬(2:Int)=1:=by omega
   have e:decide (d.fields.length=0)=decide ((d.fields.length:Int)=0):=by
    by_cases hf:d.fields.length=0
    ·rw [Bn hf,Bn (by omega)]
    ·rw [Ci hf,Ci (by omega)]
   rw [e];refine En k2 a1 Gf ?_;exact aR
  ·rw [Ci k2,Bv];refine En k1 k2 Gf ?_;exact aR
 have J:=D2c d.sig Kd (h.none k3).1;have h4:=E7a d.body (h.none k3).2 Tj;unfold Decl.A9x at rest;by_cases hr:d.recv=[];rotate_left
 ·rw [Ci hr,Bv] at rest
  (refine lQ Gf fun K z=>?_;refine An hr ?_;apply z;clear z K;try simp only [A4,])
  exact rest _ _ (by simp [sle,Aw,Ae,Bc])
 have br:decide (d.recv=[])=true:=Bn hr;rw [br,Ca] at rest;by_cases hv:d.vars.length=0;rotate_left
 ·have V:¬(d.vars.length:Int)=0:=by omega
  rw [Ci hv,Bv] at rest
  (refine lQ Gf fun K z=>?_;refine Gj br V ?_;apply z;clear z K;try simp only [A4,])
  exact rest _ _ (by simp [sle,Aw,Ae,Bc])
 have V:(d.vars.length:Int)=0:=by omega
 rw [Bn hv,Ca] at rest;rcases Fg (Nz d.sig Kd) with b3| b3
 rotate_left
 ·rw [b3] at J rest;rw [Bv] at rest
  (refine lQ Gf fun K z=>?_;refine Gj br V ?_;refine cc J ?_;apply z;clear z K;try simp only [A4,])
  exact rest _ _ (by simp [sle,Aw,Ae,Bc])
 rw [b3] at J rest;rw [Ca] at rest
 (refine lQ Gf fun K z=>?_;refine Gj br V ?_;refine cc J ?_;refine cc h4 ?_;apply z;clear z K;try simp only [A4,])
 exact rest _ _ (by simp [sle,Aw,Ae,Bc])
def Prog.right (p:Prog):Bool:=p.decls.all Decl.right && p.main.right
abbrev q2V:List Nat:=[0,1,2,3,8,17]
theorem D7j (p:Prog)(U:p.decls.length≤100000000000)(h:∀d,d∈p.decls→d.Ln)(R:p.Nn):Ac prog 15 [Cv p] (B0 p.right):=by
 have V:=D7d p.main R.main;unfold Prog.right;refine cB func15 ?_;refine sR q2V ?_
 (refine A0.zz 1 rfl rfl (wk [(1,.Ag (Aj p) 0)] [] ?_))
 refine kR q2V fun K1 u1=>?_;refine A0.bb (A0.ii p.decls (X:=Unit) (fun j _=>[(1,.Ag (Aj p) 0),(3,A9 j)]) (fun _ _=>[])
  (fun j _=>(p.decls.drop j).all Decl.right=p.decls.all Decl.right) () rfl (by simp [sle,Aw,Ae,Aj]) sB ?_ ?_)
 rotate_left
 ·intro j _ s hd I W Z O E;rw [W,Na] at E;refine Ai O q2V fun L u2=>?_;refine gI u2 ?_;clear u2 L;refine sK fun L u2=>?_;refine A0.bb ?_
  (refine sV q2V fun K z=>?_;refine ci (E2 hd) ?_;refine cc (G2y s (h s I) (R.decls s I)) ?_;apply z;clear z K)
  refine A0.cond rfl (fun J=>?_) (fun J=>?_)
  ·refine sR q2V ?_;simp only [Jo] at J;rw [J,Bv] at E;rw [←E,Bv];exact aR
  simp only [S5] at J;rw [J,Ca] at E;refine A0.kk (u2 _ _ ?_);clear u2 L
  (refine lV q2V fun K z=>?_;refine cl ?_;apply z;clear z K;try simp only [A4,])
  exact⟨(),E,(by simp [sle,Aw,Ae,Aj]),sB⟩
 intro _ E;rw [D6,Xv] at E;rw [←E,Ca] at u1 ⊢;clear E;refine Ai B4 q2V fun L u2=>?_;refine A0.ss rfl ?_;simp only [A4,Aa,Af];refine u1 _ _ ?_;refine sC V q2V ?_;exact aR
theorem G4t (p:Prog)(h:p.Sm)(E:p.Nn):Ac prog 15 [Cv p] (B0 p.right):=D7j p (Dk h.decls.1 (by decide)) (fun d hd=>(h.decls.2 d hd).ln) E
structure Ey where
 pos:Int
 bad:Bool
 D7:Bool
def Nw:Ey:=⟨0,false,false⟩
def Lr (n:Int):Ey:=⟨n,true,false⟩
def Hs:Option Int→Ey
 |none=>Nw
 |some q=>Lr q
abbrev Kv (r:Ey):SV:=.agg [.d (.int .i64 r.pos),.d (.bool r.bad),.d (.bool r.D7)]
abbrev I8:Ar:=.cells [.d (.int .i64 0),.d (.bool false),.d (.bool false)]
theorem C0k (a b:List Ak)(E:a.length≤sm)(I:b.length≤sm):Ac prog 281 [.d (.slice (Az a)),.d (.slice (Az b))] (.d (.slice (Az (a++b)))):=by
 rw [show Az (a++b)=Az a++Az b by simp [Az]];refine cB func281 ?_;refine sR [0,1,4] ?_
 (refine A0.F6 [0,1,4,5] [5] (by decide +kernel) fun K z=>?_;refine ev ?_;refine⟨B7v _,by unfold lim sm at *;omega,?_⟩;(try refine ev ?_);refine⟨B7v _,by unfold lim sm at *;omega,?_⟩;(try refine ev ?_);apply z;clear z K)
 exact aR
def A1d (p:Prog)(pre:List Ak):List Ak→Option Int
 |[]=>none
 |f::fs=>if kindOf p f.name≠0∨f.name∈Ad pre then some f.pos else A1d p (pre++[f]) fs
def A0t (p:Prog)(all:List Ak):List Ak→Option Int
 |[]=>none
 |f::fs=>match C0 p all f.bound with
  |some q=>some q
  |none=>if isIface p all f.bound=true then A0t p all fs else some f.bound.pos
def Y4 (p:Prog)(env l:List Ak):Option Int:=match A1d p env l with
 |some q=>some q
 |none=>A0t p (env++l) l
abbrev Iv:List Nat:=[0,1,2,3,6,7,8,9,10,11,12,16,41,54,68,79]
theorem D1e (p:Prog)(h:p.Sm)(env l:List Ak)(a2:env.length+l.length≤sm)(he:∀f,f∈env→f.Sm)(hl:∀f,f∈l→f.Sm) :
  Ac prog 218 [Cv p,.d (.slice (Az env)),.d (.slice (Az l))] (Kv (Hs (Y4 p env l))):=by
 have W:∀f,f∈env++l→f.Sm:=fun f hf=>by
  rcases Bw.1 hf with h| h
  ·exact he f h
  ·exact hl f h
 have a0:=C0k env l (by omega) (by omega);unfold Y4;refine cB func218 ?_;refine sR Iv ?_
 (refine A0.zz 3 rfl rfl (wk [(1,.d (.slice (Az env))),(2,.d (.slice (Az l))),(3,.Ag (Aj p) 0),(6,.box 6 0)] [(6,I8)] ?_))
 refine kR Iv fun K1 u1=>?_;refine A0.bb (A0.ii l (X:=Unit) (fun j _=>[(1,.d (.slice (Az env))),(2,.d (.slice (Az l))),(3,.Ag (Aj p) 0),(6,.box 6 0),(7,A9 j)]) (fun _ _=>[(6,I8)])
  (fun j _=>A1d p (env++l.take j) (l.drop j)=A1d p env l) () (by simp) (by simp [sle,Aw,Ae,Aj]) sB ?_ ?_)
 rotate_left
 ·intro j _ d hd R dp tk U E;rw [dp,A1d] at E;have hj:Ac prog 281 [.d (.slice (Az env)),.d (.slice ((Az l).take j))] (.d (.slice (Az (env++l.take j)))):=by
   rw [show (Az l).take j=Az (l.take j) by simp [Az,List.map_take]];exact C0k env (l.take j) (by omega) (by rw [Cw];omega)
  have a1:=To (env++l.take j) (by rw [B3,Cw];omega);have hk:=A4y p d.name;have L:=A5p (Ad (env++l.take j)) d.name;refine Ai U Iv fun J u2=>?_;refine gI u2 ?_;clear u2 J;refine sK fun J u2=>?_;refine A0.bb ?_
  (refine sV Iv fun K z=>?_;refine⟨B7v _,by omega,by omega,?_⟩;(try refine ev ?_);refine cc hj ?_;refine cc a1 ?_;apply z;clear z K)
  by_cases I:kindOf p d.name=0;rotate_left
  ·rw [A8 (.inl I)] at E;rw [←E]
   (refine sG Iv [] 15 [] fun K z=>?_;refine ev ?_;refine ci (Ep hd) ?_;refine⟨_,.inl ⟨_,rfl,hk,rfl⟩,?_⟩;(try refine An I ?_);apply z;clear z K)
   refine A0.tt rfl ?_
   (refine sV Iv fun K z=>?_;refine ci (Ep hd) ?_;apply z;clear z K)
   exact aR
  by_cases Z:d.name∈Ad (env++l.take j)
  ·rw [A8 (.inr Z)] at E;rw [←E];rw [Bn Z] at L
   (refine sG Iv [] 15 [] fun K z=>?_;refine ev ?_;refine ci (Ep hd) ?_;refine⟨_,.inl ⟨_,rfl,hk,rfl⟩,?_⟩;(try refine An I ?_);refine ci (Ep hd) ?_;refine cc L ?_;apply z;clear z K)
   refine A0.tt rfl ?_
   (refine sV Iv fun K z=>?_;refine ci (Ep hd) ?_;apply z;clear z K)
   exact aR
  rw [A6 (by rintro (h| h);exact h I;exact Z h)] at E;rw [Ci Z] at L
  (refine sG Iv [] 15 [] fun K z=>?_;refine ev ?_;refine ci (Ep hd) ?_;refine⟨_,.inl ⟨_,rfl,hk,rfl⟩,?_⟩;(try refine An I ?_);refine ci (Ep hd) ?_;refine cc L ?_;apply z;clear z K)
  refine A0.ff rfl (A0.kk (u2 _ _ ?_));clear u2 J;refine lT Iv ?_;exact⟨(),by rw [tk,←Pg];exact E,(by simp [sle,Aw,Ae,Aj]),sB⟩
 intro _ E;rw [D6,A1d] at E;rw [←E] at u1 ⊢;simp only;clear E;refine Ai B4 Iv fun J u2=>?_;refine A0.ss rfl ?_;simp only [A4,Aa,Af];refine u1 _ _ ?_;clear u2 J u1 K1;refine sC a0 Iv ?_;refine kR Iv fun K1 u1=>?_;refine A0.bb (A0.ii l (X:=Unit) (fun j _=>[(2,.d (.slice (Az l))),(3,.Ag (Aj p) 0),(6,.box 6 0),(9,.d (.slice (Az (env++l)))),(10,A9 j)]) (fun _ _=>[(6,I8)])
  (fun j _=>A0t p (env++l) (l.drop j)=A0t p (env++l) l) () rfl (by simp [sle,Aw,Ae,Aj]) sB ?_ ?_)
 rotate_left
 ·intro j _ d hd R dp tk U E;rw [dp,A0t] at E;have V:=A8g p h (env++l) (by rw [B3];omega) W d.bound (hl d R).bound;have O:=D8v p (env++l) (by rw [B3];omega) d.bound;refine Ai U Iv fun J u2=>?_;refine gI u2 ?_;clear u2 J;refine sK fun J u2=>?_;refine A0.bb ?_;cases hq:C0 p (env++l) d.bound with
  |some q =>
   rw [hq] at E V;simp only [Sx] at V;rw [←E]
   (refine sG Iv [] 12 [] fun K z=>?_;refine ev ?_;refine ci (Ep hd) ?_;refine cc V ?_;apply z;clear z K)
   refine kR Iv fun K3 u3=>?_;refine tI ?_;refine sR Iv ?_;exact aR
  |none =>
   rw [hq] at E V;simp only [Sx] at V;simp only at E
   (refine sG Iv [] 12 [] fun K z=>?_;refine ev ?_;refine ci (Ep hd) ?_;refine cc V ?_;apply z;clear z K)
   refine kR Iv fun K3 u3=>?_;refine kI u3 ?_;clear u3 K3;rcases Fg (isIface p (env++l) d.bound) with hb| hb
   ·rw [A8 hb] at E;rw [hb] at O
    (refine sG Iv [] 7 [] fun K z=>?_;refine ev ?_;refine ci (Ep hd) ?_;refine cc O ?_;apply z;clear z K)
    refine A0.ff rfl (A0.kk (u2 _ _ ?_));clear u2 J;refine lT Iv ?_;exact⟨(),E,(by simp [sle,Aw,Ae,Aj]),sB⟩
   ·rw [A6 (by simp [hb])] at E;rw [←E];rw [hb] at O
    (refine sG Iv [] 7 [] fun K z=>?_;refine ev ?_;refine ci (Ep hd) ?_;refine cc O ?_;apply z;clear z K)
    refine A0.tt rfl ?_
    (refine sV Iv fun K z=>?_;refine ci (Ep hd) ?_;apply z;clear z K)
    exact aR
 intro _ E;rw [D6,A0t] at E;rw [←E] at u1 ⊢;clear E;refine Ai B4 Iv fun J u2=>?_;refine A0.ss rfl ?_;simp only [A4,Aa,Af];refine u1 _ _ ?_;refine sR Iv ?_;exact aR
def Tm (p:Prog)(env:List Ak)(pre:List A3):List Param→Option Int
 |[]=>none
 |f::fs=>if f.name∈pre then some f.pos else match C0 p env f.type with
  |some q=>some q
  |none=>Tm p env (pre++[f.name]) fs
abbrev Pc:List Nat:=[0,1,2,3,6,7,8,9,10,14,23,49]
theorem D4u (p:Prog)(h:p.Sm)(env:List Ak)(U:env.length≤sm)(he:∀f,f∈env→f.Sm)(l:List Param)(a0:l.length≤sm)(hl:∀f,f∈l→f.Sm) :
  Ac prog 219 [Cv p,.d (.slice (Az env)),.d (.slice (B5 l))] (Kv (Hs (Tm p env [] l))):=by
 refine cB func219 ?_;refine sR Pc ?_
 (refine A0.zz 3 rfl rfl (wk [(1,.d (.slice (Az env))),(2,.d (.slice (B5 l))),(3,.Ag (Aj p) 0),(6,.box 6 0)] [(6,I8)] ?_))
 refine sR Pc ?_;refine A0.pp 7 1 7 rfl ?_;refine kR Pc fun K1 u1=>?_;refine A0.bb (A0.ii l (X:=Unit) (fun j _=>[(1,.d (.slice (Az env))),(2,.d (.slice (B5 l))),(3,.Ag (Aj p) 0),(6,.box 6 0),(7,.acc 7),(8,A9 j)]) (fun j _=>[(6,I8),(7,.rows 1 (C6 ((l.take j).map (·.name))))])
  (fun j _=>Tm p env ((l.take j).map (·.name)) (l.drop j)=Tm p env [] l) () rfl (by simp [sle,Aw,Ae,Aj]) (by simp [ble,A7,C6]) ?_ ?_)
 rotate_left
 ·intro j _ d hd L dp tk V E;rw [dp,Tm] at E;have I:=A5p ((l.take j).map (·.name)) d.name;have J:=A8g p h env U he d.type (hl d L).type;refine Ai V Pc fun R u2=>?_;refine gI u2 ?_;clear u2 R;refine sK fun R u2=>?_;refine A0.bb ?_;refine sK fun K3 W=>?_;by_cases O:d.name∈(l.take j).map (·.name)
  ·rw [A8 O] at E;rw [←E];rw [Bn O] at I
   (refine sV Pc fun K z=>?_;refine ci (E7 hd) ?_;refine⟨_,.inr ⟨_,rfl,I,rfl⟩,?_⟩;(try refine ev ?_);apply z;clear z K)
   refine tI ?_
   (refine sV Pc fun K z=>?_;refine ci (E7 hd) ?_;apply z;clear z K)
   exact aR
  rw [A6 O] at E;rw [Ci O] at I
  (refine sV Pc fun K z=>?_;refine ci (E7 hd) ?_;refine⟨_,.inr ⟨_,rfl,I,rfl⟩,?_⟩;(try refine ev ?_);apply z;clear z K)
  refine kI W ?_;clear W K3
  (refine sV Pc fun K z=>?_;refine ci (E7 hd) ?_;refine⟨by simp,by simp only [B6,Cw];unfold lim sm at *;omega,?_⟩;(try refine ev ?_);apply z;clear z K)
  cases Z:C0 p env d.type with
  |some q =>
   rw [Z] at E J;simp only [Sx] at J;rw [←E]
   (refine sG Pc [] 12 [] fun K z=>?_;refine ev ?_;refine ci (E7 hd) ?_;refine cc J ?_;apply z;clear z K)
   refine sR Pc ?_;refine A0.tt rfl ?_;refine sR Pc ?_;exact aR
  |none =>
   rw [Z] at E J;simp only [Sx] at J;simp only at E
   (refine sG Pc [] 12 [] fun K z=>?_;refine ev ?_;refine ci (E7 hd) ?_;refine cc J ?_;apply z;clear z K)
   refine sR Pc ?_;refine A0.ff rfl (A0.kk (u2 _ _ ?_));clear u2 R;refine lT Pc ?_;exact⟨(),by rw [tk,Fz];exact E,(by simp [sle,Aw,Ae,Aj]),by rw [tk,Fz];simp [ble,A7,C6]⟩
 intro _ E;rw [D6,Tm] at E;rw [←E] at u1 ⊢;clear E;refine Ai B4 Pc fun R u2=>?_;refine A0.ss rfl ?_;simp only [A4,Aa,Af];refine u1 _ _ ?_;refine sR Pc ?_;exact aR
def Mn (p:Prog)(env:List Ak)(s:A5):Option Int:=match Y4 p env s.A1 with
 |some q=>some q
 |none=>match Tm p (env++s.A1) [] s.params with
  |some q=>some q
  |none=>C0 p (env++s.A1) s.result
abbrev L3:List Nat:=[0,1,2,3,5,6,7,8,9,10,22,29,39]
theorem C6s (p:Prog)(h:p.Sm)(env:List Ak)(s:A5)(U:env.length+s.A1.length≤sm)(he:∀f,f∈env→f.Sm)(hs:s.Sm) :
  Ac prog 222 [Cv p,.d (.slice (Az env)),Cx s] (Kv (Hs (Mn p env s))):=by
 have J:∀f,f∈env++s.A1→f.Sm:=fun f I=>by
  rcases Bw.1 I with h| h
  ·exact he f h
  ·exact hs.A1.2 f h
 have O:(env++s.A1).length≤sm:=by rw [B3];exact U
 have V:=C0k env s.A1 (by omega) (by omega);have h1:=D1e p h env s.A1 U he hs.A1.2;have W:=D4u p h (env++s.A1) O J s.params hs.params.1 hs.params.2;have h3:=A8g p h (env++s.A1) O J s.result hs.result;generalize Z:Mn p env s=R;refine cB func222 ?_;refine sR L3 ?_;cases I:Y4 p env s.A1 with
 |some q =>
  rw [I] at h1;obtain rfl:R=some q:=by rw [←Z];unfold Mn;rw [I]
  refine sC h1 L3 ?_;refine sC V L3 ?_;refine kR L3 fun E u1=>?_;refine A0.ff rfl (A0.kk (u1 _ _ ?_));clear u1 E;refine kR L3 fun E u1=>?_;refine tI ?_;refine sR L3 ?_;exact aR
 |none =>
  rw [I] at h1;refine sC h1 L3 ?_;refine sC V L3 ?_;refine kR L3 fun E u1=>?_;cases L:Tm p (env++s.A1) [] s.params with
  |some q =>
   rw [L] at W;obtain rfl:R=some q:=by rw [←Z];unfold Mn;rw [I];simp only [L]
   refine A0.tt rfl ?_
   (refine lV L3 fun K z=>?_;refine cc W ?_;apply z;clear z K;try simp only [A4,])
   refine u1 _ _ ?_;clear u1 E;refine kR L3 fun E u1=>?_;refine tI ?_;refine sR L3 ?_;exact aR
  |none =>
   rw [L] at W;refine A0.tt rfl ?_
   (refine lV L3 fun K z=>?_;refine cc W ?_;apply z;clear z K;try simp only [A4,])
   refine u1 _ _ ?_;clear u1 E;refine kR L3 fun E u1=>?_;refine kI u1 ?_;clear u1 E;cases hq:C0 p (env++s.A1) s.result with
   |some q =>
    rw [hq] at h3;obtain rfl:R=some q:=by rw [←Z];unfold Mn;rw [I];simp only [L,hq]
    refine sC h3 L3 ?_;refine kR L3 fun E u1=>?_;refine tI ?_;refine sR L3 ?_;exact aR
   |none =>
    rw [hq] at h3;obtain rfl:R=none:=by rw [←Z];unfold Mn;rw [I];simp only [L,hq]
    refine sC h3 L3 ?_;refine kR L3 fun E u1=>?_;refine kI u1 ?_;refine sR L3 ?_;exact aR
end Go.Abs
