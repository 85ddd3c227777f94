/- castingsref17.Scope, Body, Program -/
import Derived.Test.YtjneockcgjfhaaaGreatDoorKS57
set_option linter.all false
set_option maxHeartbeats 4000000
set_option maxRecDepth 100000
namespace Go.Abs
open Go Go.Proofs Tryz
def C8w{p:Prog}(h:p.Sm)(st:Bool){d:Decl}(hd:d.Sm)(I:d.Two)(E:d.sig.params.length+1<=sm):(Jz p st d).Sm:=by refine⟨h,?_,?_,?_,?_⟩;show(Hk p d++d.sig.A1).length<=sm;have:=C1j p d;have:=I.sig;rw[As];omega;intro f hf;rcases C6.1 hf with hf|hf;exact D7s h hd f hf;exact hd.sig.A1.2 f hf;show(⟨d.recv,A4v d,0⟩::d.sig.params:List Param).length<=sm;rw[Ar];exact E;intro f hf;rcases B5.1 hf with rfl|hf;refine⟨hd.recv,.mk _ _ _ hd.name (by simp only[Hj,Bc];exact hd.vars.1) (E3k hd)⟩;exact hd.sig.params.2 f hf
abbrev z49:Aq:=.cells [.d .nil,.d (.int .i64 0),.d (.str []),.d (.str []),.d .nil,.d (.int .i64 0),.d .nil,.d .nil,.d (.int .i64 0),.d (.bool false),.d .nil,.d .nil]
abbrev Wd:List Nat:=[0,1,2,3,5,6,7,8,9,17,36,46,900]
def E4v(p:Prog)(h:p.Sm)(st:Bool)(d:Decl)(hd:d.Sm)(h2:d.Two)(W:d.sig.params.length+1<=sm):Ab prog 91 [Cq p,B1 st,Pz d] (Up (Jz p st d)):=by
 have E:=D5q p h d hd;have L:=C1j p d;have V:=hd.vars.1;have Z:=h2.sig;have e1:Ax (Jz p st d).env=Ax (Hk p d)++Ax d.sig.A1:=by simp[Jz,Ax]
 unfold Up;rw[e1];show Ab prog 91 [Cq p,B1 st,Pz d] (.agg [.d (.slice (Di p.decls)),.d (.int .i64 p.main.kind),.d (.str p.main.name),.d (.str p.main.type.name),.d (.slice (Ag p.main.type.args)),.d (.int .i64 p.main.type.pos),.d (.slice (Ag p.main.targs)),.d (.slice (Bj p.main.kids)),.d (.int .i64 p.main.pos),.d (.bool st),.d (.slice (Ax (Hk p d)++Ax d.sig.A1)),.d (.slice ([[.str d.recv,.str d.name,.slice (Ag (Hj d.vars)),.int .i64 0,.int .i64 0]]++Ay d.sig.params))]);have O:(Ax (Hk p d)).length<=d.vars.length:=by simpa [Ax]using L
 generalize Ax (Hk p d)=ER at*;refine cB func91 ?_;refine sR Wd ?_;refine A0.zz 3 rfl rfl ?_;refine A0.zz 5 rfl rfl (wk [(1,B1 st),(3,.Aj (Ai p) 0),(5,.Aj (B3 d) 0),(6,.box 6 0)] [(6,z49)] ?_);refine sR Wd ?_;refine A0.Nz 900 3 7 1 rfl rfl (by decide)<|kR Wd λK1 u1=>?_;refine A0.bb (A0.ii d.vars (X:=Unit) (λj _=>[(1,B1 st),(3,.Aj (Ai p) 0),(5,.Aj (B3 d) 0),(6,.box 6 0),(7,.box 7 0),(8,A7 j)]) (λj _=>[(6,z49),(7,.cells [.d (.str d.name),.acc 900,.d (.int .i64 0)]),(900,.rows 3 (Ag (Hj (d.vars.take j))))]) (λ_ _=>True) () trivial (by simp[sle,Av,Af,B3,Ai]) (by simp[ble,A8,H3,Hj]) ?_ ?_)
 rotate_left;intro j _ s hs U dp tk J _;rw[tk];refine Ae J Wd λI u2=>?_;refine gI u2 ?_;clear u2 I;refine sK λI u2=>A0.bb ?_;(refine lG Wd [] 9 [] λK z=>?_;refine ev ?_;refine ci (J7 hs) ?_;refine⟨by simp,by simp only[Hj,Bc,D0];unfold lim sm at*;omega,?_⟩;(try refine ev ?_);apply z;clear z K;try simp only[A5,A9]);refine u2 _ _ ?_;clear u2 I;refine lT Wd ?_;exact⟨(),trivial,(by simp[sle,Av,Af,B3,Ai]),by simp[ble,A8,H3,Hj,Bs,Ty.name,Ty.args,Ty.pos]⟩;intro _ _;rw[Cx];refine Ae B6 Wd λI u2=>?_;refine A0.ss rfl ?_;simp only[A5,A9,Ac];refine u1 _ _ ?_;clear u2 I u1 K1;refine A0.Jh 900 rfl (wk [(1,B1 st),(3,.Aj (Ai p) 0),(5,.Aj (B3 d) 0),(6,.box 6 0),(7,.box 7 0)] [(6,z49),(7,.cells [.d (.str d.name),.d (.slice (Ag (Hj d.vars))),.d (.int .i64 0)])] ?_);refine sR Wd ?_;refine sG Wd [36] 6 [⟨[],[],[],[]⟩,⟨[],[],[],[]⟩,⟨[36],[36],[],[]⟩,⟨[],[],[36],[36]⟩,⟨[],[],[36],[36]⟩,⟨[],[],[36],[36]⟩] λK z=>?_;refine ev ?_;refine⟨_,_,_,_,_,rfl,E,?_⟩;(try refine ev ?_);refine⟨B9i _,by unfold lim sm at*;omega,?_⟩;(try refine ev ?_);apply z;clear z K;refine A0.F9 Wd [46] (by decide +kernel) λK z=>?_;refine ev ?_;refine⟨E9y _,by unfold lim sm at*;omega,?_⟩;(try refine ev ?_);apply z;clear z K;refine A0.Jh 36 rfl ?_;refine A0.Jh 46 rfl (wk [(6,.box 6 0),(9,.box 9 0)] [(6,z49),(9,.cells [.d (.slice (Di p.decls)),.d (.int .i64 p.main.kind),.d (.str p.main.name),.d (.str p.main.type.name),.d (.slice (Ag p.main.type.args)),.d (.int .i64 p.main.type.pos),.d (.slice (Ag p.main.targs)),.d (.slice (Bj p.main.kids)),.d (.int .i64 p.main.pos),.d (.bool st),.d (.slice (ER++Ax d.sig.A1)),.d (.slice ([[.str d.recv,.str d.name,.slice (Ag (Hj d.vars)),.int .i64 0,.int .i64 0]]++Ay d.sig.params))])] ?_);refine sR Wd ?_;exact aR
abbrev A4y:List Nat:=[0,1,2,3,6,7,25]
def F2c(p:Prog)(h:p.Sm)(st:Bool)(i:Nat)(d:Decl)(hd:p.decls[i]?=some d)(W:d.Two)(J:d.sig.params.length+1<=sm):Ab prog 35 [Cq p,B1 st,A7 i] (Lv (U3 p st d)):=by
 have a0:=(Aw.1 hd).1;have V:¬(i:Int)<0:=by omega
 have U:¬(i:Int) >= (p.decls.length:Int):=by omega
 have E:=h.decls.2 d (Bm hd);have I:=C8w h st E W J;have L:=E4v p h st d E W J;have O:=D4n (Jz p st d) I d.body (C3x _ I d.body E.body) (B3t I d.body E.body) d.sig.result E.sig.result;unfold U3;generalize Ua (Jz p st d) d.sig.result d.body (Df (Jz p st d) d.body)=r at*;generalize Jz p st d=c at*;by_cases k3:d.kind=3
 .rw[A6 k3];have d3:=Cc k3;refine cB func35 ?_;refine sR A4y<|sK λZ u1=>?_
  refine sQ A4y λK z=>?_;refine Du V U ?_;refine⟨by omega,_,Ek hd,rfl,?_⟩;(try simp -implicitDefEqProofs only[EV,Nat.reduceEqDiff,reduceCtorEq,U7,d3]);apply z;clear z K;refine kI u1 ?_;clear u1 Z;refine sV A4y λK z=>?_;refine ci (Ek hd) ?_;apply z;clear z K;refine sG A4y [] 9 [] λK z=>?_;refine ev ?_;refine cc L ?_;refine cc O ?_;apply z;clear z K;exact aR
 .rw[A3 k3];refine cB func35 ?_;refine sR A4y<|sK λZ u1=>?_
  refine sQ A4y λK z=>?_;refine Du V U ?_;refine⟨by omega,_,Ek hd,rfl,?_⟩;(try refine Ah k3 ?_);apply z;clear z K;refine tI ?_;refine sR A4y ?_;exact aR
structure Prog.Fit(p:Prog):Prop where
 sm:p.Sm
 len:p.decls.length<=100000
 two:∀d,d∈p.decls->d.Two
 par:∀d,d∈p.decls->d.sig.params.length+1<=Go.Abs.sm
def A4.C6m(s:A4)(n:Int)(L:0<=n)(h:s.count n<=2000):s.params.length<=2000:=by unfold A4.count at h;obtain⟨U,I⟩:=A5n s.A1 (n+((s.name.length / 50:Nat):Int));obtain⟨J,E⟩:=A6d s.params (Ca s.A1 (n+((s.name.length / 50:Nat):Int)));have O:=Ty.F7 s.result (D4 s.params (Ca s.A1 (n+((s.name.length / 50:Nat):Int))));have:=(E (by omega) (by omega)).1;omega
def Decl.C6m(d:Decl)(n:Int)(V:0<=n)(h:d.count n<=2000):d.sig.params.length<=2000:=by unfold Decl.count at h;generalize U:n+1+((d.name.length / 50:Nat):Int)+((d.recv.length / 50:Nat):Int)=m at h;obtain⟨a1,I⟩:=A5n d.A1 m;obtain⟨J,b2⟩:=A6d d.fields (Ca d.A1 m);obtain⟨W,L⟩:=D1t d.sigs (D4 d.fields (Ca d.A1 m));obtain⟨e1,Z⟩:=A2x d.vars (Eh d.sigs (D4 d.fields (Ca d.A1 m)));generalize O:Ja d.vars (Eh d.sigs (D4 d.fields (Ca d.A1 m)))=z at*;unfold Decl.Si at h;have E:=Ex.F7 d.body (d.sig.count z);split at h;exact A4.C6m d.sig z (by omega) (by omega);omega
def F2a:Ps Jt (λd=>d.sig.params.length<=2000):=P0 Jt Decl.count (λd=>d.sig.params.length<=2000) (λ_=>rfl) (λ_ _ _=>rfl) (λx k=>(Decl.G3 x k).1) (λx k E h=>Decl.C6m x k E h)
def Prog.A5g(p:Prog)(h:p.count<=600):p.Fit:=by have I:=Prog.Pf p h;have hs:=Prog.G3 p h;refine⟨hs.1,by have:=hs.2;omega,λd hd=>(I.decls d hd).two,λd hd=>?_⟩;unfold Prog.count at h;have J:=Ex.F7 p.main 0;obtain⟨L,E⟩:=F2a p.decls (p.main.count 0);have:=(E (by omega) (by omega)).2 d hd;unfold Go.Abs.sm;omega
abbrev Qx:List Nat:=[0,1,2,4,5,6,8,13,21,27]
def H0r(p:Prog)(h:p.Fit)(st:Bool):Ab prog 15 [Cq p,B1 st] (Lv (A5v p st)):=by
 have a1:=h.sm.decls.1;have W:(⟨p,st,[],[]⟩:D8).Sm:=⟨h.sm,by simp,by simp,by simp,by simp⟩;have V:=C3x ⟨p,st,[],[]⟩ W p.main h.sm.main;generalize hR:A5v p st=R;unfold A5v at hR;refine cB func15 ?_;refine sR Qx ?_;refine A0.zz 2 rfl rfl (wk [(1,B1 st),(2,.Aj (Ai p) 0),(4,.box 4 0)] [(4,J1)] ?_);refine kR Qx λK1 u1=>?_;refine A0.bb (A0.ii p.decls (X:=Unit) (λj _=>[(1,B1 st),(2,.Aj (Ai p) 0),(4,.box 4 0),(5,A7 j)]) (λ_ _=>[(4,J1)]) (λj _=>Zs p st (p.decls.drop j) j=R) () hR (by simp[sle,Av,Af,Ai]) sB ?_ ?_);rotate_left
 .intro j _ d hd J dp tk Z E;have I:=F4r p h.sm h.len j d hd (h.two d J);have a0:=F2c p h.sm st j d hd (h.two d J) (h.par d J);rw[dp,Zs]at E;refine Ae Z Qx λO u2=>?_;refine gI u2 ?_;clear u2 O;refine sK λO u2=>A0.bb ?_;cases ho:Xb p j d with
  |some q =>rw[ho]at I E;simp only[Lv,I9,M1]at I E;refine sC I Qx ?_;refine kR Qx λU L=>?_;refine A0.ff rfl (A0.kk (L _ _ ?_));clear L U;refine sR Qx ?_;refine A0.tt rfl<|sR Qx ?_;rw[<-E];exact aR
  |none =>
   rw[ho]at I E;simp only[Lv,I9,Pq]at I E;generalize U3 p st d=r at*;obtain⟨q,b,l⟩:=r;refine sC I Qx ?_;refine kR Qx λU L=>?_;refine A0.tt rfl ?_
   (refine lV Qx λK z=>?_;refine cc a0 ?_;apply z;clear z K;try simp only[A5,])
   refine L _ _ ?_;clear L U;refine sR Qx ?_;cases b with
   |true =>rw[A6 rfl]at E;refine A0.tt rfl<|sR Qx ?_;rw[<-E];exact aR
   |false =>rw[A3 (by simp)]at E;refine A0.ff rfl (A0.kk (u2 _ _ ?_));clear u2 O;refine lT Qx ?_;exact⟨(),E,(by simp[sle,Av,Af,Ai]),sB⟩
 intro _ E;rw[D3,Zs]at E;refine Ae B6 Qx λO u2=>?_;refine A0.ss rfl ?_;simp only[A5,A9,Ac];refine u1 _ _ ?_;clear u2 O u1 K1;generalize Df ⟨p,st,[],[]⟩ p.main=z at*;obtain⟨x,r⟩:=z;simp only at E;subst E;refine sC V Qx ?_;refine sR Qx ?_;exact aR
end Go.Abs
