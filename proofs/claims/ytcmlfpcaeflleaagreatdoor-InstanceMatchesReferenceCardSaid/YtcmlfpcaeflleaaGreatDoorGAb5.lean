/- Drawn regions: any order that the edges allow comes to what the text's order comes to. Own framework. -/
import Derived.Test.YtcmlfpcaeflleaaGreatDoorGAb4
set_option linter.all false
namespace Go.Abs
open Go
variable {ro:Option Nat} {P:Program} {n:Nat} {Q:Exit->SL->Aa->Prop} {sl:SL} {bx:Aa} {o:Oper} {ρ:Hb}
def A0h(k:Nat):Aa->Bool
 |[]=>false
 |(j,c)::r=>j ==k ||c.has k ||A0h k r
def B4t{k:Nat}:∀{bx:Aa},A0h k bx=false->∀j c,(j,c)∈bx->j≠k/\c.has k=false
 |[],_,j,c,h=>by grind
 |(i,x)::r,h,j,c,hm=>by
  simp only[A0h,Uz,beq_eq_false_iff_ne]at h;rcases Aw.1 hm with E|hm
  .grind
  .exact B4t h.2 j c hm
def Ss(k:Nat):List Nat->Bool
 |[]=>false
 |j::r=>k ==j ||Ss k r
theorem A5g{k:Nat}:∀{l:List Nat},Ss k l=true↔k∈l
 |[]=>by simp[Ss]
 |j::r=>by simp[Ss,A5g]
def Ic(ks:List Nat):Aa->Aa
 |[]=>[]
 |(k,c)::r=>if Ss k ks=true then Ic ks r else(k,c)::Ic ks r
def bin(ks:List Nat):Aa->Aa
 |[]=>[]
 |(k,c)::r=>if Ss k ks=true then(k,c)::bin ks r else bin ks r
theorem R4{ks:List Nat}{k:Nat}{c:Ap}:∀{bx:Aa},(k,c)∈Ic ks bx↔k∉ks/\(k,c)∈bx
 |[]=>by simp[Ic]
 |(j,x)::r=>by
  rw[Ic];by_cases h:Ss j ks=true
  .have I:=A5g.1 h;rw[A9 h,R4,Aw,Eo]
   grind
  .have I:j∉ks:=λE=>h (A5g.2 E);rw[A6 h,Aw,R4,Aw,Eo]
   grind
theorem W5{ks:List Nat}{k:Nat}{c:Ap}:∀{bx:Aa},(k,c)∈bin ks bx↔k∈ks/\(k,c)∈bx
 |[]=>by simp[bin]
 |(j,x)::r=>by
  rw[bin];by_cases h:Ss j ks=true
  .have I:=A5g.1 h;rw[A9 h,Aw,W5,Aw,Eo]
   grind
  .have I:j∉ks:=λE=>h (A5g.2 E);rw[A6 h,W5,Aw,Eo]
   grind
theorem A5a:∀bx:Aa,Ic [] bx=bx
 |[]=>rfl
 |(k,c)::r=>by rw[Ic,Ss,A6 (by decide),A5a r]
theorem A4s:∀bx:Aa,bin [] bx=[]
 |[]=>rfl
 |(k,c)::r=>by rw[bin,Ss,A6 (by decide),A4s r]
def Sn:List Nat->SV->SV
 |[],x=>x
 |k::ks,x=>Sn ks (Nf k x)
def Rc:∀(ks:List Nat)(sl:SL)(t:Nat),Ag (Fe ks sl) t=Sn ks (Ag sl t)
 |[],_,_=>rfl
 |k::ks,sl,t=>by rw[Fe,Rc ks,A9r];rfl
theorem A8c:∀(ks:List Nat)(x:SV),(Sn ks x=x/\∀q,q∈ks->x.has q=false)\/(Sn ks x=.undef/\∃q,q∈ks/\x.has q=true)
 |[],x=>.inl ⟨rfl,by simp⟩
 |k::ks,x=>by
  rw[Sn];unfold Nf;by_cases h:x.has k=true
  .rw[A9 h];refine .inr ⟨?_,k,by simp,h⟩;rcases A8c ks .undef with h|h <;> grind
  .rw[A6 h];rcases A8c ks x with⟨I,E⟩|⟨I,q,E,J⟩
   .grind
   grind
def D6x{ks:List Nat}{x:SV}(h:∀q,q∈ks->x.has q=false):Sn ks x=x:=by grind [A8c]
def G3k{a b:List Nat}(h:∀k,k∈b->k∈a)(x:SV):Sn a (Sn b x)=Sn a x:=by grind [A8c]
def G4w(a b:List Nat)(x:SV):Sn a (Sn b x)=Sn b (Sn a x):=by grind [A8c]
def A0p(sl:SL)(d:Option Nat)(r:SV)(t:Nat):Ag (Ft sl d r) t=if d=some t then r else Ag sl t:=by
 cases d with
 |none=>rfl
 |some u=>simp[Ft,Ag]
def Bp.congr{I:Hb}{E bx':Aa}{r:SV}{pg:List Nat}(h:Bp P o ρ bx r bx' pg)(J:∀k c,(k,c)∈bx->(k,c)∈E)(O:∀x,x∈o.op.operands->I x =ρ x):Bp P o I E r bx' pg :=
 λC S w β a L M=>h C S w β a (L.sub J) λx U=>by grind
def D9c(β:Names)(F:Aa)(b:Nat):Prop:=∃k c,(k,c)∈F/\(β k).base=some b
def Bp.F1e{r:SV}{bx':Aa}{pg:List Nat}(h:Bp P o ρ bx r bx' pg)(F:Aa)(hF:∀k c,(k,c)∈F->c.real=true/\k∉pg/\(∀q,q∈pg->c.has q=false)/\(∀x,(k,x) ∉bx)/\∀x,(k,x) ∉bx')
  (hG:∀k Y st,(k,Ap.ghost Y st)∈bx'->(k,Ap.ghost Y st)∈bx){C:Ctx}{S:Nat->Prop}{w:World}{β:Names}{a:Act}(J:Inv C S w β (F++bx))(ha:∀x,x∈o.op.operands->Ak S w β (ρ x) (a.eval x)) :
  o.wpx P a w (λa' w'=>∃v S' β',a'=a.put o.dst v/\Inv C S' w' β' (F++bx')/\Bk S w S' w'/\Ak S' w' β' r v/\∀k,k∉pg->β' k =β k):=by
 have I:∀{j:Nat} {x:Ap},(j,x)∈bx->(j,x)∈F++bx:=λh=>D2.2 (.inr h);have U:∀{j:Nat} {x:Ap},(j,x)∈F->(j,x)∈F++bx:=λh=>D2.2 (.inl h);have a6:∀{j:Nat} {x:Ap} {b:Nat},(j,x)∈bx->(β j).base=some b->¬D9c β F b:=λhj Z ⟨k,c,hk,M⟩=>by
  obtain⟨rfl,_⟩:=J.inj _ _ _ _ (U hk) (I hj) _ M Z
  grind
 have a3:Inv ⟨w,S,λb=>¬S b/\(C.pre b\/C.w0.heap.size<=b)/\¬D9c β F b,C.A8m,C.G⟩ S w β bx:={
  Fg:=λ_ M=>M,Ee:=λ_ M=>.inl M,Bf:=J.Bf,kept:=λ_ _ _=>rfl,os:=rfl,tape:=rfl,output:=rfl,size:=Bi _,
  box:=λj x hj=>J.box j x (I hj)
  B7:=λj x hj b M=>⟨(J.B7 j x (I hj) b M).1,(J.B7 j x (I hj) b M).2.1,.inl ⟨(J.B7 j x (I hj) b M).1,(J.B7 j x (I hj) b M).2.2,a6 hj M⟩⟩
  inj:=λj x j' x' hj hj'=>J.inj j x j' x' (I hj) (I hj')
  Dh:=J.Dh
  one:=λj Y st j' Y' st' hj hj'=>J.one j Y st j' Y' st' (I hj) (I hj')
  Fm:=λj Y st hj=>by obtain⟨Z,h2,h3,h4,B,h5,h6⟩:=J.Fm j Y st (I hj);exact⟨Z,h2,D3 h3 J.size,λV c' hk'=>h4 V c' (I hk'),B,h5,λb M=>⟨(h6 b M).1,(h6 b M).2.1,.inl ⟨(h6 b M).1,(h6 b M).2.2.1,λ⟨k,c,hk,E⟩=>(h6 b M).2.2.2 k c (U hk) E⟩,λV c' hk'=>(h6 b M).2.2.2 V c' (I hk')⟩⟩
  fix:=J.fix }
 refine Oper.B2g (h _ S w β a a3 ha) ?_;rintro a' w' ⟨v,S',β',rfl,O,he,hv,M⟩;have a9:w.heap.size<=w'.heap.size:=O.size;have a8:=J.size;have W:∀k c,(k,c)∈F->β' k =β k:=λk c hk=>M k (hF k c hk).2.1;have a2:∀k c b,(k,c)∈F->(β k).base=some b->b<w.heap.size:=λk c b hk E=>(J.B7 k c (U hk) b E).2.1;have a7:∀k c V c' b,(k,c)∈F->(V,c')∈bx'->(β k).base=some b->(β' V).base≠some b:=λk c V c' b hk hk' Z h2=>by
  rcases(O.B7 V c' hk' b h2).2.2 with h|h
  .exact h.2.2 ⟨k,c,hk,Z⟩
  grind
 have L:∀{k c},(k,c)∈F++bx'->(k,c)∈F\/(k,c)∈bx':=λhm=>D2.1 hm;have a1:∀k Y st,(k,Ap.ghost Y st)∈F++bx'->(k,Ap.ghost Y st)∈bx'/\(k,Ap.ghost Y st)∈bx:=λk Y st hm=>by grind [Ap.real]
 refine⟨v,S',β',rfl,?_,he,hv,M⟩;exact{
  Fg:=λb E=>O.Fg b (J.Fg b E)
  Ee:=λb E=>by
   rcases O.Ee b E with h|h|h
   .exact J.Ee b h
   .grind
   grind
  Bf:=O.Bf
  kept:=λb E hp=>by
   refine(O.kept b (Vr E J.size) ?_).trans (J.kept b E hp)
   grind
  os:=O.os.trans J.os
  tape:=O.tape.trans J.tape
  output:=O.output.trans J.output
  size:=D3 J.size O.size
  box:=λj x hj=>by
   rcases L hj with hj|hj
   .rw[W j x hj];exact(J.box j x (U hj)).ext he (λb E=>O.kept b (a2 j x b hj E) λh=>h.2.2 ⟨j,x,hj,E⟩) (λq hq=>M q λhp=>by grind)
   .exact O.box j x hj
  B7:=λj x hj b E=>by
   rcases L hj with hj|hj
   .rw[W j x hj]at E;obtain⟨g1,g2,g3⟩:=J.B7 j x (U hj) b E;refine⟨λhs=>?_,Vr g2 O.size,g3⟩;rcases O.Ee b hs with h|h|h
    .grind
    .exact h.2.2 ⟨j,x,hj,E⟩
    grind
   .refine⟨(O.B7 j x hj b E).1,(O.B7 j x hj b E).2.1,?_⟩;rcases(O.B7 j x hj b E).2.2 with h|h
    .grind
    grind
  inj:=λj x j' x' hj hj' b Z h2=>by
   rcases L hj with hj|hj
   .rw[W j x hj]at Z;rcases L hj' with hj' |hj'
    .rw[W j' x' hj']at h2;exact J.inj j x j' x' (U hj) (U hj') b Z h2
    grind
   .rcases L hj' with hj' |hj'
    .grind
    .exact O.inj j x j' x' hj hj' b Z h2
  Dh:=O.Dh
  one:=λj Y st j' Y' st' hj hj'=>J.one j Y st j' Y' st' (I (a1 _ _ _ hj).2) (I (a1 _ _ _ hj').2)
  Fm:=λj Y st hj=>by
   obtain⟨a4,a5⟩:=a1 _ _ _ hj;obtain⟨Z,h2,_,h4,B,h5,h6⟩:=O.Fm j Y st a4;obtain⟨_,_,f3,f4,_⟩:=J.Fm j Y st (I a5);refine⟨Z,h2,f3,λV c' hk' b E=>?_,B,h5,λb E=>⟨(h6 b E).1,(h6 b E).2.1,?_,λV c' hk' a0=>?_⟩⟩
   .grind
   .grind
   .rcases L hk' with hk' |hk'
    .rw[W V c' hk']at a0;rcases(h6 b E).2.2.1 with h|h
     .exact h.2.2 ⟨V,c',hk',a0⟩
     grind
    grind
  fix:=O.fix }
structure Ja where
 m:List Nat
 p:List Nat
 h:List Nat
 q:List Nat
abbrev GI:=Option Ja
def GI.h:GI->List Nat
 |some z=>z.h
 |none=>[]
def GI.q:GI->List Nat
 |some z=>z.q
 |none=>[]
structure A1f(z:Ja)(bx:Aa)(r:SV)(bx':Aa)(pg:List Nat):Prop where
 Zo:∀k,k∈z.m->k∉z.h
 pgs:∀k,k∈pg->k∈z.p
 pm:∀k,k∈z.p->k∈z.m
 rest:∀k c,k∉z.m->((k,c)∈bx'↔k∉z.h/\(k,c)∈bx)
 old:∀k c,k∈z.m->(k,c)∈bx->c.real=true/\∀q,q∈z.q->c.has q=false
 new:∀k c,k∈z.m->(k,c)∈bx'->c.real=true/\∀q,q∈z.q->c.has q=false
 res:∀q,q∈z.q->r.has q=false
 hid:∀k c,k∈z.h->(k,c)∈bx->c.real=true/\∀q,q∈pg->c.has q=false
structure GOp(P:Program)(o:Oper)(i:GI)(g:Bool)(sl:SL)(bx:Aa)(r:SV)(bx':Aa)(pg:List Nat):Prop where
 yes:g=true->Bp P o (Ao (Fe i.q sl)) (Ic i.h bx) r bx' pg
 no:g=false->r=.tuple []/\pg=[]/\∀k c,(k,c)∈bx'↔(k,c)∈Ic i.h bx
 cond:∀z,i=some z->A1f z bx r bx' pg
def Lp(P:Program)(n:Nat)(ops:Array Oper):List (Oper × GI)->SL->Aa->(SL->Aa->Prop)->Prop
 |[],sl,bx,K=>K sl bx
 |x::os,sl,bx,K=>∃g r bx' pg,N3 ops sl x.1=some g/\Kp n x.1.dst/\GOp P x.1 x.2 g sl bx r bx' pg/\Lp P n ops os (Ft (Fe pg sl) x.1.dst r) (bx'++bin x.2.h bx) K
def Eqv(sl:SL)(bx:Aa)(sl':SL)(bx':Aa):Prop:=(∀t,Ag sl t=Ag sl' t)/\∀k c,(k,c)∈bx↔(k,c)∈bx'
def KE(K:SL->Aa->Prop):SL->Aa->Prop:=λsl bx=>∃sl' bx',K sl' bx'/\Eqv sl bx sl' bx'
def D9g{sl sl':SL}{x:Operand}(h:∀t,x=.tmp t->Ag sl t=Ag sl' t):Ao sl x=Ao sl' x:=by
 cases x with
 |tmp t=>exact h t rfl
 |_=>rfl
def Lp.congr{ops:Array Oper}{K:SL->Aa->Prop}:∀(os:List (Oper × GI)) {sl sl':SL} {bx bx':Aa},Eqv sl bx sl' bx'->Lp P n ops os sl bx (KE K)->Lp P n ops os sl' bx' (KE K)
 |[],sl,sl',bx,bx',e,⟨s,b,h,L,M⟩=>⟨s,b,h,λt=>(e.1 t).symm.trans (L t),λk c=>(e.2 k c).symm.trans (M k c)⟩
 |x::os,sl,sl',bx,bx',e,⟨g,r,b,pg,L,M,I,U⟩=>by
  refine⟨g,r,b,pg,(F9j λ_ _ t _ _=>(e.1 t).symm).trans L,M,⟨λJ=>(I.yes J).congr (λk c E=>R4.2 ⟨(R4.1 E).1,(e.2 k c).1 (R4.1 E).2⟩) λy _=>D9g λt _=>by rw[Rc,Rc,e.1],
   λJ=>⟨(I.no J).1,(I.no J).2.1,λk c=>((I.no J).2.2 k c).trans (by rw[R4,R4,e.2])⟩,λz hz=>?_⟩,Lp.congr os ⟨λt=>by rw[A0p,A0p,Rc,Rc,e.1],λk c=>by rw[D2,D2,W5,W5,e.2]⟩ U⟩
  have c:=I.cond z hz;exact⟨c.Zo,c.pgs,c.pm,λk x E=>(c.rest k x E).trans (by rw[e.2]),λk x E O=>c.old k x E ((e.2 k x).2 O),c.new,c.res,λk x E O=>c.hid k x E ((e.2 k x).2 O)⟩
structure A9w(z1 z2:Ja):Prop where
 m:∀k,k∈z1.m->k∈z2.h
 p:∀k,k∈z1.p->k∈z2.q
structure Un(ops:Array Oper)(x y:Oper × GI):Prop where
 u1:∀t,x.1.dst=some t->t∉B0x ops y.1
 u2:∀t,y.1.dst=some t->t∉B0x ops x.1
 d:∀t,x.1.dst=some t->y.1.dst≠some t
 i:∃z1 z2,x.2=some z1/\y.2=some z2/\A9w z1 z2/\A9w z2 z1
def A1f.out{z:Ja}{r:SV}{bx':Aa}{pg:List Nat}(c:A1f z bx r bx' pg){k:Nat}{x:Ap}(E:k∉z.m):(k,x)∈bx'++bin z.h bx↔(k,x)∈bx:=by
 rw[D2,c.rest k x E,W5]
 grind
def A1f.move{M U:Ja}{r1 r2:SV}{O V:Aa}{pg1 W:List Nat}(J:A1f M bx r1 O pg1)(e1:A9w M U)(e2:A9w U M) :
  A1f U (O++bin M.h bx) r2 V W↔A1f U bx r2 V W:=by
 constructor
 .intro c;have d:∀k,k∈U.m->k∉M.m:=λk I E=>c.Zo k I (e1.m k E);refine⟨c.Zo,c.pgs,c.pm,λk x I=>(c.rest k x I).trans (and_congr_right λhh=>J.out λE=>hh (e1.m k E)),λk x I L=>c.old k x I ((J.out (d k I)).2 L),c.new,c.res,λk x I L=>?_⟩;by_cases E:k∈M.m
  .exact⟨(J.old k x E L).1,λq hq=>(J.old k x E L).2 q (e2.p q (c.pgs q hq))⟩
  .exact c.hid k x I ((J.out E).2 L)
 .intro c;have d:∀k,k∈U.m->k∉M.m:=λk I E=>c.Zo k I (e1.m k E);refine⟨c.Zo,c.pgs,c.pm,λk x I=>(c.rest k x I).trans (and_congr_right λhh=>(J.out λE=>hh (e1.m k E)).symm),λk x I L=>c.old k x I ((J.out (d k I)).1 L),c.new,c.res,λk x I L=>?_⟩;by_cases E:k∈M.m
  .have Z:(k,x)∈O:=by
    rcases D2.1 L with h|h
    .exact h
    .exact absurd (W5.1 h).1 (J.Zo k E)
   exact⟨(J.new k x E Z).1,λq hq=>(J.new k x E Z).2 q (e2.p q (c.pgs q hq))⟩
  .exact c.hid k x I ((J.out E).1 L)
def G7k{pg h:List Nat}(e:∀k,k∈pg->k∈h){d:Option Nat}{r:SV}{t:Nat}(ht:d≠some t)(sl:SL):Ag (Fe h (Ft (Fe pg sl) d r)) t=Ag (Fe h sl) t:=by rw[Rc,A0p,A6 ht,Rc,Rc,G3k e]
def GOp.move{g:Bool}{U I:Ja}{r1 r2:SV}{J L:Aa}{pg1 M:List Nat}{d1:Option Nat}{ops:Array Oper}(Z:A1f U bx r1 J pg1)(e1:A9w U I)(e2:A9w I U)(hu:∀t,d1=some t->t∉B0x ops o) :
  GOp P o (some I) g (Ft (Fe pg1 sl) d1 r1) (J++bin U.h bx) r2 L M↔GOp P o (some I) g sl bx r2 L M:=by
 have hs:∀x,x∈o.op.operands->Ao (Fe I.q (Ft (Fe pg1 sl) d1 r1)) x=Ao (Fe I.q sl) x:=λx V=>D9g λt ht=>G7k (λk O=>e1.p k (Z.pgs k O)) (λhd=>hu t hd (H1v (ht ▸ V))) sl;have W:∀k c,(k,c)∈Ic I.h (J++bin U.h bx)↔(k,c)∈Ic I.h bx:=λk c=>by rw[R4,R4];exact and_congr_right λhh=>Z.out λa0=>hh (e1.m k a0)
 exact⟨λh=>⟨λE=>(h.yes E).congr (λk c O=>(W k c).1 O) λx V=>(hs x V).symm,λE=>⟨(h.no E).1,(h.no E).2.1,λk c=>((h.no E).2.2 k c).trans (W k c)⟩,λz hz=>by cases hz;exact(Z.move e1 e2).1 (h.cond _ rfl)⟩,
  λh=>⟨λE=>(h.yes E).congr (λk c O=>(W k c).2 O) λx V=>hs x V,λE=>⟨(h.no E).1,(h.no E).2.1,λk c=>((h.no E).2.2 k c).trans (W k c).symm⟩,λz hz=>by cases hz;exact(Z.move e1 e2).2 (h.cond _ rfl)⟩⟩
def D1w{ops:Array Oper}{s E:SL}{pg:List Nat}(h:∀t,t∈B0x ops o->Ag E t=Sn pg (Ag s t)):N3 ops E o=N3 ops s o:=by
 unfold N3;cases M:o.guard with
 |none=>rfl
 |some L =>
  obtain⟨j,I⟩:=L;simp only;cases J:Qe ops j with
  |none=>rfl
  |some t =>
   simp only[h t (G1m M J)]
   grind [A8c,SV.has,SV.Lx]
def Lp.swap{ops:Array Oper}{K:SL->Aa->Prop}{x y:Oper × GI}{R:List (Oper × GI)}(u:Un ops x y)(h:Lp P n ops (x::y::R) sl bx (KE K)):Lp P n ops (y::x::R) sl bx (KE K):=by
 obtain⟨g1,r1,L,pg1,a1,a2,a3,g2,r2,J,M,b1,b2,b3,hR⟩:=h;obtain⟨z1,z2,i1,i2,Z,V⟩:=u.i;obtain⟨o1,i⟩:=x;obtain⟨o2,j⟩:=y;simp only at i1 i2;subst i1;subst i2;have U:=a3.cond _ rfl;have W:=(GOp.move U Z V u.u1).1 b3;have O:=W.cond _ rfl;have a0:=(GOp.move (pg1:=M) (d1:=o2.dst) O V Z u.u2).2 a3;refine⟨g2,r2,J,M,(D1w (pg:=pg1) λt ht=>?_).symm.trans b1,b2,W,g1,r1,L,pg1,(D1w (pg:=M) λt ht=>?_).trans a1,a2,a0,Lp.congr R ⟨λt=>?_,λk c=>?_⟩ hR⟩
 .rw[A0p,A6 λhd=>u.u1 t hd ht,Rc]
 .rw[A0p,A6 λhd=>u.u2 t hd ht,Rc]
 .rw[A0p,Rc,A0p,Rc,A0p,Rc,A0p,Rc];by_cases I:o2.dst=some t
  .rw[A9 I,A9 I,A6 λE=>u.d t E I,D6x λq hq=>O.res q (Z.p q (U.pgs q hq))]
  .rw[A6 I,A6 I];by_cases E:o1.dst=some t
   .rw[A9 E,A9 E,D6x λq hq=>U.res q (V.p q (O.pgs q hq))]
   .rw[A6 E,A6 E,G4w]
 .show(k,c)∈J++bin z2.h (L++bin z1.h bx)↔(k,c)∈L++bin z1.h (J++bin z2.h bx);by_cases k1:k∈z1.m
  .have n1:=U.Zo k k1;have k2:=Z.m k k1;have n2:k∉z2.m:=λhh=>n1 (V.m k hh);have:=O.rest k c n2;simp[W5,k2,n1,this]
  .by_cases k2:k∈z2.m
   .have n2:=O.Zo k k2;have:=U.rest k c k1;simp[W5,V.m k k2,n2,this]
   .have q1:=U.rest k c k1;have q2:=O.rest k c k2
    grind [W5]
def Lp.front{ops:Array Oper}{K:SL->Aa->Prop}:∀(E:List (Oper × GI)) {I:List (Oper × GI)} {y:Oper × GI} {sl:SL} {bx:Aa},(∀x,x∈E->Un ops x y)->Lp P n ops (E++y::I) sl bx (KE K)->Lp P n ops (y::(E++I)) sl bx (KE K)
 |[],I,y,sl,bx,_,h=>h
 |x::E,I,y,sl,bx,J,⟨g,r,b,pg,O,M,L,h⟩=>Lp.swap (J x (by simp)) ⟨g,r,b,pg,O,M,L,Lp.front E (λz hz=>J z (by grind)) h⟩
def St.sub{C:Ctx}{S:Nat->Prop}{w:World}{β:Names}{a:Act}{bx':Aa}(h:St C n S w β a sl bx)(hs:∀k c,(k,c)∈bx'->(k,c)∈bx):St C n S w β a sl bx':=⟨h.inv.sub hs,h.size,h.defers,h.slot⟩
def GOp.exec{C:Ctx}{S:Nat->Prop}{w:World}{β:Names}{a:Act}{i:GI}{r:SV}{bx':Aa}{pg:List Nat}(h:GOp P o i true sl bx r bx' pg)(hs:St C n S w β a sl bx)(Z:Kp n o.dst) :
  o.wpx P a w λO w'=>∃S' β',St C n S' w' β' O (Ft (Fe pg sl) o.dst r) (bx'++bin i.h bx):=by
 have ho:=h.yes rfl;have W:∀x,x∈o.op.operands->Ak S w β (Ao (Fe i.q sl) x) (a.eval x):=λx _=>by
  have:=hs.Ao x;cases x with
  |tmp t =>
   show Ak S w β (Ag (Fe i.q sl) t) _;rw[Rc];rcases A8c i.q (Ag sl t)with⟨e,_⟩|⟨e,_⟩ <;> rw[e]
   .exact this
   .exact .undef _
  |_=>exact this
 cases i with
 |none =>refine Oper.B2g (ho C S w β a (hs.inv.sub λk c E=>(R4.1 E).2) W) ?_;rintro O w' ⟨v,S',β',rfl,I,U,V,L⟩;exact⟨S',β',(hs.put Z I U V L).sub λk c E=>by grind [GI.h,A4s]⟩
 |some z =>
  have c:=h.cond z rfl;refine Oper.B2g (ho.F1e (bin z.h bx) (λk x E=>?_) (λk Y st E=>?_) (hs.inv.sub λk x E=>?_) W) ?_
  .obtain⟨k1,k2⟩:=W5.1 E;have km:k∉z.m:=λJ=>c.Zo k J k1;exact⟨(c.hid k x k1 k2).1,λhp=>km (c.pm k (c.pgs k hp)),(c.hid k x k1 k2).2,λy M=>(R4.1 M).1 k1,λy M=>((c.rest k y km).1 M).1 k1⟩
  .by_cases J:k∈z.m
   .have:=(c.new k _ J E).1;simp[Ap.real]at this
   .exact R4.2 ((c.rest k _ J).1 E)
  .grind [W5,R4]
  rintro O w' ⟨v,S',β',rfl,I,U,V,L⟩;exact⟨S',β',(hs.put Z I U V L).sub λk c E=>D2.2 (D2.1 E).symm⟩
def gUn(ops:Array Oper)(x y:Oper × GI):Bool:=match x.2,y.2 with
 |some E,some I=>(match x.1.dst with|some t=>!(B0x ops y.1).contains t && y.1.dst !=some t|none=>true) && (match y.1.dst with|some t=>!(B0x ops x.1).contains t|none=>true) && E.m.all (λk=>I.h.contains k) && I.m.all (λk=>E.h.contains k) && E.p.all (λk=>I.q.contains k) && I.p.all (λk=>E.q.contains k)
 |_,_=>false
def G2r{ops:Array Oper}{x y:Oper × GI}(h:gUn ops x y=true):Un ops x y:=by
 unfold gUn at h;split at h
 .rename_i J U I E;simp only[Bc,Dr,Am2]at h;obtain⟨⟨⟨⟨⟨Z,W⟩,M⟩,V⟩,L⟩,O⟩:=h;refine⟨λt ht=>?_,λt ht=>?_,λt ht=>?_,J,U,I,E,⟨M,L⟩,⟨V,O⟩⟩
  .grind
  .grind
  grind
 grind
def Wk(ops:Array Oper)(is:Nat->GI)(j:Nat):Oper × GI:=(ops.getD j default,is j)
def X6(ops:Array Oper)(is:Nat->GI)(B:Array Nat):Bool :=
 ((List.range ops.size).all λi=>(ops.getD i default).after.toList.all λe=>!Region.binds .any e ||decide (e.on<i)) &&
 ((List.range ops.size).all λi=>(List.range ops.size).all λj=>!(B.getD i 0).testBit j ||((ops.getD i default).after.toList.any λe=>Region.binds .any e && (e.on ==j ||(B.getD e.on 0).testBit j))) &&
 ((List.range ops.size).all λi=>(List.range i).all λj=>(B.getD i 0).testBit j ||gUn ops (Wk ops is j) (Wk ops is i))
structure GOK(ops:Array Oper)(is:Nat->GI):Prop where
 back:∀(i:Nat) (o:Oper),ops[i]?=some o->∀e,e∈o.after->Region.binds .any e=true->e.on<i
 un:∀(X:Nat->Prop),(∀(i:Nat) (o:Oper),ops[i]?=some o->X i->∀e,e∈o.after->Region.binds .any e=true->X e.on) ->
  ∀(i:Nat) (o:Oper),ops[i]?=some o->(∀e,e∈o.after->Region.binds .any e=true->X e.on)->∀j,j<i->¬X j->Un ops (Wk ops is j) (Wk ops is i)
def G0x{ops:Array Oper}{is:Nat->GI}{B:Array Nat}(h:X6 ops is B=true):GOK ops is:=by
 unfold X6 at h;simp only[Bc,Dr,Aq9,Yj,M1,Array.mem_toList_iff,Da]at h;obtain⟨⟨h2,h5⟩,h6⟩:=h;have I:∀{i:Nat} {o:Oper},ops[i]?=some o->i<ops.size/\ops.getD i default=o:=by intro i o L;obtain⟨E,he⟩:=Vd.1 L;exact⟨E,by simp_all⟩
 have M:∀(i:Nat) (o:Oper),ops[i]?=some o->∀e,e∈o.after->Region.binds .any e=true->e.on<i:=by
  intro i o L e he hb;obtain⟨E,U⟩:=I L;rcases h2 i E e (by grind)with h|h
  .grind
  .exact h
 refine⟨M,?_⟩;intro X hX i o L J j V a0;have key:∀(k i:Nat) (o:Oper),i<=k->ops[i]?=some o->(∀e,e∈o.after->Region.binds .any e=true->X e.on)->∀j,j<ops.size->(B.getD i 0).testBit j=true->X j:=by
  intro k
  induction k with
  |zero =>
   intro i o a2 L J j V hb;obtain⟨E,U⟩:=I L;have:=(h5 i E j V).resolve_left (by grind);rw[List.any_eq_true]at this
   grind
  |succ k ih =>
   intro i o a2 L J j V hb;obtain⟨E,U⟩:=I L;have:=(h5 i E j V).resolve_left (by grind);rw[List.any_eq_true]at this;obtain⟨e,he,O⟩:=this;rw[U]at he;simp only[Bc,Yj,Tu]at O;have a3:=J e (by grind) O.1;rcases O.2 with h|h
   .grind
   .have a4:=M i o L e (by grind) O.1;have W:ops[e.on]?=some ops[e.on]:=Nt (by omega);exact ih e.on ops[e.on] (by omega) W (λe' Z a1=>hX e.on _ W a3 e' Z a1) j V h
 obtain⟨E,U⟩:=I L;rcases h6 i E j V with h|h
 .exact absurd (key i i o (Bi _) L J j (by omega) h) a0
 .exact G2r h
def G1i{C:Ctx}{ops:Array Oper}{is:Nat->GI}{QQ:Exit->Act->World->Prop}{K:SL->Aa->Prop}(hd:GOK ops is)(ad:∀o,o∈ops.toList->Kp n o.dst)(aj:∀o,o∈ops.toList->A4k o=true)
  (hK:∀sl bx S w β a,K sl bx->St C n S w β a sl bx->QQ .normal a w) :
  ∀(J:Nat) (E:Array Bool) (a:Act) (w:World),E.size=ops.size->left ops.size E<=J ->
   (∀(i:Nat) (o:Oper),ops[i]?=some o->E.getD i false=true->∀e,e∈o.after->Region.binds .any e=true->E.getD e.on false=true) ->
   (∃(L:List Nat) (sl:SL) (bx:Aa) (S:Nat->Prop) (β:Names),L.Pairwise (· < ·)/\(∀j,j∈L↔j<ops.size/\E.getD j false=false)/\Lp P n ops (L.map (Wk ops is)) sl bx (KE K)/\St C n S w β a sl bx) ->
   wpAnyIn (FW ro) 0 P .any ops QQ J E a w:=by
 have a7:∀(E:Array Bool) (a:Act) (w:World),(∀i,i<ops.size->E.getD i false=true) ->
   (∃(L:List Nat) (sl:SL) (bx:Aa) (S:Nat->Prop) (β:Names),L.Pairwise (· < ·)/\(∀j,j∈L↔j<ops.size/\E.getD j false=false)/\Lp P n ops (L.map (Wk ops is)) sl bx (KE K)/\St C n S w β a sl bx)->QQ .normal a w:=by
  rintro E a w V ⟨L,sl,bx,S,β,_,hL,hR,hs⟩;have:L=[]:=As7.2 λj hj=>by grind
  subst this;obtain⟨sl',bx',h1,h2,h3⟩:=hR;exact hK sl' bx' S w β a h1 ⟨hs.inv.sub λk c hk=>(h3 k c).2 hk,hs.size,hs.defers,λt=>h2 t ▸ hs.slot t⟩
 have I:∀E:Array Bool,E.size=ops.size->Region.ready .any ops E=[]->∀i,i<ops.size->E.getD i false=true:=by
  intro E hs hr i
  induction i using Nat.strongRecOn with
  |_ i ih =>
   intro hi;cases hl:E.getD i false with
   |true=>rfl
   |false =>
    exfalso;have:i∈Region.ready .any ops E:=by
     rw[mem_ready];refine⟨?_,ops[i],Nt hi,λe he hb=>?_⟩
     .grind
     .have af:=hd.back i _ (Nt hi) e he hb
      grind
    grind
 intro J
 induction J with
 |zero =>
  intro E a w hs a9 a4 O;have V:∀i,i<ops.size->E.getD i false=true:=by
   intro i hi;cases hl:E.getD i false with
   |true=>rfl
   |false =>grind [left,List.countP_pos_iff]
  have M:Region.ready .any ops E=[]:=by
   rw[As7];intro i hi;rw[mem_ready]at hi;obtain⟨h1,o,ho,_⟩:=hi;have af:=(Vd.1 ho).1;have:=V i af;have ai:i<E.size:=by omega
   simp[Array.getD,ai]at this h1;rw[this]at h1;simp at h1
  exact⟨M,a7 E a w V O⟩
 |succ J ih =>
  intro E a w hs a9 a4 O;refine⟨λM=>a7 E a w (I E hs M) O,?_⟩;intro i hi;rw[mem_ready]at hi;obtain⟨a8,o,ho,ae⟩:=hi;have W:i<ops.size:=(Vd.1 ho).1;have am:i<E.size:=by omega
  have U:E.getD i false=false:=by simp[Array.getD,am]at a8 |-;exact a8
  have a6:left ops.size (E.setIfInBounds i true)<=J:=by have:=G2q hs W U;omega
  have ah:∀j,(E.setIfInBounds i true).getD j false=true↔(j=i\/E.getD j false=true):=by
   intro j;by_cases hj:i=j
   .simp_all
   .rw[getD_set_ne false hj];grind
  have a5:∀(k:Nat) (o':Oper),ops[k]?=some o'->(E.setIfInBounds i true).getD k false=true->∀e,e∈o'.after->Region.binds .any e=true->(E.setIfInBounds i true).getD e.on false=true:=by
   intro k o' ap hk e he hb;rw[ah]at hk |-;rcases hk with rfl|hk
   .grind
   .grind
  have aa:o∈ops.toList:=by have:=Array.mem_of_getElem? ho;simpa using this
  have ak:ops.getD i default=o:=by simp[Array.getD,W,(Vd.1 ho).2]
  simp only[wpOpIn,ho];obtain⟨L,sl,bx,S,β,hp,hL,hR,a0⟩:=O;obtain⟨R1,R2,rfl⟩:=List.append_of_mem ((hL i).2 ⟨W,U⟩);rw[Gg,Ck]at hR;have ac:=Ap7.1 hp;have aq:=Yy.1 ac.2.1;obtain⟨g,r,bx',pg,a1,a2,a3,Z⟩:=Lp.front _ (λx hx=>by obtain⟨j,hj,rfl⟩:=B1.1 hx;exact hd.un (λj=>E.getD j false=true) a4 i o ho ae j (ac.2.2 j hj i (by simp)) (by grind)) hR
  rw[show(Wk ops is i).1=o from ak]at a1 a2 a3 Z;rw[<-Gg]at Z;have ab:∀(S':Nat->Prop) (β':Names) (a':Act) (w':World),St C n S' w' β' a' (Ft (Fe pg sl) o.dst r) (bx'++bin (Wk ops is i).2.h bx)->wpAnyIn (FW ro) 0 P .any ops QQ J (E.setIfInBounds i true) a' w':=λS' β' a' w' ag =>
   ih _ _ _ (by grind) a6 a5 ⟨R1++R2,_,_,S',β',hp.sublist ((List.Sublist.refl R1).append (List.sublist_cons_self i R2)),λj=>by grind,Z,ag⟩
  have hw:=B0c (a:=a) (S:=S) (w:=w) (β:=β) (λt ht=>by obtain⟨j,ao,_,hj⟩:=ht;exact⟨a0.slot t,by rw[a0.size];exact A8k ad hj⟩) a1
  rw[hw];cases g with
  |true =>
   simp only[Ae];refine Oper.B1o (aj o aa) (a3.exec a0 a2) ?_
   grind
  |false =>
   simp only[I6,Fy];obtain⟨rfl,rfl,hb⟩:=a3.no rfl;refine⟨λ_ _=>trivial,ab S β _ _ ?_⟩;refine(a0.put (pg:=[]) a2 a0.inv (Bk.refl S w) (.tuple [] [] rfl (by simp)) (λ_ _=>rfl)).sub λk c hk=>?_
   grind [R4,W5]
def A0.D7e{id:Nat}{ops:Array Oper}(is:Nat->GI)(B:Array Nat)(ks:List Nat)(J:P.follows .mixedOrders=true)(M:X6 ops is B=true)(I:E6 n ops.toList=true)
  (h:Lp P n ops ((List.range ops.size).map (Wk ops is)) sl bx (KE λsl' bx'=>Q .normal (Wz ks sl') (T4 ks bx'))):A0 ro P n (.region id ops true) Q sl bx:=by
 intro C S w β a hs;refine wpIn_region_any J ?_;refine G1i (P:=P) (G0x M) (Q2 I) (Xf I) (λsl' bx' S' w' β' U L E=>⟨_,_,S',β',L,E.S9 ks ks⟩) ops.size _ a _ (by simp) ?_ ?_ ⟨List.range ops.size,sl,bx,S,β,List.pairwise_lt_range,λj=>?_,h,?_⟩
 .grind [left,List.countP_le_length]
 .intro i o V O;simp[Array.getD]at O
 .simp_all
 .exact⟨(hs.inv.grow (w':={ w with drawn:=w.drawn+1 }) (λ_ h=>h) (λ_ h=>.inl h) hs.inv.Bf (λ_ _=>rfl) rfl rfl rfl (Bi _)).1,hs.size,hs.defers.ext ⟨λ_ h=>h,λ_ _=>rfl⟩,λt=>(hs.slot t).ext ⟨λ_ h=>h,λ_ _=>rfl⟩ (λ_ _=>rfl)⟩
def Gc:List Ja->Ja
 |[]=>⟨[],[],[],[]⟩
 |z::_=>z
def A3u:List Nat->SV->Bool
 |[],_=>true
 |k::r,x=>!x.has k && A3u r x
def B1f:List Nat->Ap->Bool
 |[],_=>true
 |k::r,x=>!x.has k && B1f r x
def Yx(m h:List Nat):Aa->Bool
 |[]=>true
 |(k,c)::r=>(!Ss k m ||(c.real && B1f h c)) && Yx m h r
def A2c:List Nat->List Nat->Bool
 |[],_=>true
 |k::r,m=>Ss k m && A2c r m
def A3o:List Nat->List Nat->Bool
 |[],_=>true
 |k::r,m=>!Ss k m && A3o r m
def D8c{x:SV}:∀{h:List Nat},A3u h x=true->∀q,q∈h->x.has q=false
 |[],_,q,hq=>by grind
 |k::r,e,q,hq=>by
  simp only[A3u,Bc,M1]at e;rcases Aw.1 hq with rfl|hq
  .grind
  .exact D8c e.2 q hq
theorem D9r{x:Ap}:∀{h:List Nat},B1f h x=true->∀q,q∈h->x.has q=false
 |[],_,q,hq=>by grind
 |k::r,e,q,hq=>by
  simp only[B1f,Bc,M1]at e;rcases Aw.1 hq with rfl|hq
  .grind
  .exact D9r e.2 q hq
def B8h{m h:List Nat}:∀{bx:Aa},Yx m h bx=true->∀k c,k∈m->(k,c)∈bx->c.real=true/\∀q,q∈h->c.has q=false
 |[],_,k,c,_,hc=>by grind
 |(j,x)::r,e,k,c,E,hc=>by
  simp only[Yx,Bc,Yj,M1]at e;rcases Aw.1 hc with I|hc
  .grind [A5g,D9r]
  .exact B8h e.2 k c E hc
def C8e{m:List Nat}:∀{l:List Nat},A2c l m=true->∀k,k∈l->k∈m
 |[],_,k,hk=>by grind
 |j::r,e,k,hk=>by
  simp only[A2c,Bc]at e;rcases Aw.1 hk with rfl|hk
  .exact A5g.1 e.1
  .exact C8e e.2 k hk
def D9q{m:List Nat}:∀{l:List Nat},A3o l m=true->∀k,k∈l->k∉m
 |[],_,k,hk=>by grind
 |j::r,e,k,hk=>by
  simp only[A3o,Bc,M1]at e;rcases Aw.1 hk with rfl|hk
  .grind [A5g]
  .exact D9q e.2 k hk
def Ug(m p h q:List Nat)(bx:Aa)(r:SV)(bx':Aa)(pg:List Nat):Prop :=
 A3o m h=true/\A2c pg p=true/\A2c p m=true/\Ic m bx'=Ic m (Ic h bx)/\Yx m q bx=true/\Yx m q bx'=true/\A3u q r=true/\Yx h pg bx=true
def Ug.cond{z:Ja}{r:SV}{bx':Aa}{pg:List Nat}(c:Ug z.m z.p z.h z.q bx r bx' pg):A1f z bx r bx' pg:=by
 obtain⟨M,U,L,Z,O,E,J,I⟩:=c;refine⟨D9q M,C8e U,C8e L,λk c W=>?_,B8h O,B8h E,D8c J,B8h I⟩;have V:=R4 (ks:=z.m) (k:=k) (c:=c) (bx:=bx')
 grind [R4]
def B8w(h:List Nat):∀bx:Aa,Yx [] h bx=true
 |[]=>rfl
 |(k,c)::r=>by rw[Yx,Ss,B8w h r];rfl
def Iy(P:Program)(own:List Nat)(ops:Array Oper):List Oper->List Ja->SL->Aa->(SL->Aa->Prop)->Prop
 |[],_,sl,bx,K=>K sl bx
 |o::os,is,sl,bx,K=>match o.guard with
  |none=>I7 P own o.dst (Fe (Gc is).q sl) (Ic (Gc is).h bx) o.op λr bx' pg=>Ug (Gc is).m (Gc is).p (Gc is).h (Gc is).q bx r bx' pg/\Iy P own ops os is.tail (Ft (Fe pg sl) o.dst r) (bx'++bin (Gc is).h bx) K
  |some (j,E)=>match Qe ops j with
   |some t=>match Ag sl t with
    |.d (.bool b)=>S4 b E (I7 P own o.dst (Fe (Gc is).q sl) (Ic (Gc is).h bx) o.op λr bx' pg=>Ug (Gc is).m (Gc is).p (Gc is).h (Gc is).q bx r bx' pg/\Iy P own ops os is.tail (Ft (Fe pg sl) o.dst r) (bx'++bin (Gc is).h bx) K)
     (Ug (Gc is).m (Gc is).p (Gc is).h (Gc is).q bx (.tuple []) (Ic (Gc is).h bx) []/\Iy P own ops os is.tail (Ft sl o.dst (.tuple [])) (Ic (Gc is).h bx++bin (Gc is).h bx) K)
    |.tuple []=>Ug (Gc is).m (Gc is).p (Gc is).h (Gc is).q bx (.tuple []) (Ic (Gc is).h bx) []/\Iy P own ops os is.tail (Ft sl o.dst (.tuple [])) (Ic (Gc is).h bx++bin (Gc is).h bx) K
    |_=>False
   |none=>False
section
variable (P:Program) (own:List Nat) (ops:Array Oper) (os:List Oper) (is:List Ja) (sl:SL) (bx:Aa) (dst:Option Nat) (op:Op) (z:Ja) (m p h q:List Nat) (K:SL->Aa->Prop)
def A9y:KB:=λr bx' pg=>Ug z.m z.p z.h z.q bx r bx' pg/\Iy P own ops os is (Ft (Fe pg sl) dst r) (bx'++bin z.h bx) K
def opG:Prop:=I7 P own dst (Fe z.q sl) (Ic z.h bx) op (A9y P own ops os is sl bx dst z K)
def A2i:Prop:=Ug z.m z.p z.h z.q bx (.tuple []) (Ic z.h bx) []/\Iy P own ops os is (Ft sl dst (.tuple [])) (Ic z.h bx++bin z.h bx) K
def Yi(E b:Bool):Prop:=S4 b E (opG P own ops os is sl bx dst op z K) (A2i P own ops os is sl bx dst z K)
def C6n(E:Bool):SV->Prop
 |.d (.bool b)=>Yi P own ops os is sl bx dst op z K E b
 |.tuple []=>A2i P own ops os is sl bx dst z K
 |_=>False
def C9p(E:Bool):Option Nat->Prop
 |some t=>C6n P own ops os is sl bx dst op z K E (Ag sl t)
 |none=>False
variable (ty:TypeId) (pos:String) (after:Array Edge)
def F3b:Iy P own ops [] is sl bx K=K sl bx:=by rfl
def H1o:Iy P own ops (⟨dst,op,ty,pos,after,none⟩::os) is sl bx K=opG P own ops os is.tail sl bx dst op (Gc is) K:=by rfl
def F2y(j:Nat)(E:Bool):Iy P own ops (⟨dst,op,ty,pos,after,some (j,E)⟩::os) is sl bx K=C9p P own ops os is.tail sl bx dst op (Gc is) K E (Qe ops j):=by rfl
def G6u:opG P own ops os is sl bx dst op ⟨m,p,[],[]⟩ K=I7 P own dst sl bx op (A9y P own ops os is sl bx dst ⟨m,p,[],[]⟩ K):=by rw[opG,A5a];rfl
def F1r(k:Nat)(h q:List Nat):opG P own ops os is sl bx dst op ⟨m,p,k::h,q⟩ K=I7 P own dst (Fe q sl) (Ic (k::h) bx) op (A9y P own ops os is sl bx dst ⟨m,p,k::h,q⟩ K):=rfl
def G9c(r:SV):A9y P own ops os is sl bx dst ⟨[],[],[],[]⟩ K r bx []=Iy P own ops os is (Ft sl dst r) bx K:=by simp only[A9y,Ug,A3o,A2c,B8w,A3u,A5a,A4s,I8,Fe,Qi]
def G8n(r:SV)(bx':Aa)(pg:List Nat):A9y P own ops os is sl bx dst ⟨m,p,h,q⟩ K r bx' pg=(Ug m p h q bx r bx' pg/\Iy P own ops os is (Ft (Fe pg sl) dst r) (bx'++bin h bx) K):=rfl
def G3e:A2i P own ops os is sl bx dst ⟨[],[],[],[]⟩ K=Iy P own ops os is (Ft sl dst (.tuple [])) bx K:=by simp only[A2i,Ug,A3o,A2c,B8w,A3u,A5a,A4s,I8,Qi]
def E8c:A2i P own ops os is sl bx dst ⟨m,p,h,q⟩ K=(Ug m p h q bx (.tuple []) (Ic h bx) []/\Iy P own ops os is (Ft sl dst (.tuple [])) (Ic h bx++bin h bx) K):=rfl
def G3p(E b:Bool):C6n P own ops os is sl bx dst op z K E (.d (.bool b))=Yi P own ops os is sl bx dst op z K E b:=rfl
def G4c(E:Bool):C6n P own ops os is sl bx dst op z K E (.tuple [])=A2i P own ops os is sl bx dst z K:=rfl
def F8b:Yi P own ops os is sl bx dst op z K true true=opG P own ops os is sl bx dst op z K:=by simp[Yi,S4]
def F0k:Yi P own ops os is sl bx dst op z K false false=opG P own ops os is sl bx dst op z K:=by simp[Yi,S4]
def E9d:Yi P own ops os is sl bx dst op z K true false=A2i P own ops os is sl bx dst z K:=by simp[Yi,S4]
def F4k:Yi P own ops os is sl bx dst op z K false true=A2i P own ops os is sl bx dst z K:=by simp[Yi,S4]
def Yu:SL->Aa->Prop:=λsl bx=>F7 P own ops os sl bx K
def H0w:Yu P own ops os K sl bx=F7 P own ops os sl bx K:=rfl
end
def Uw:List Oper->List Ja->List (Oper × GI)
 |[],_=>[]
 |o::os,is=>(o,some (Gc is))::Uw os is.tail
def B2z{own:List Nat}{ops:Array Oper}{R:List (Oper × GI)}{K U:SL->Aa->Prop}(M:∀sl bx,K sl bx->Lp P n ops R sl bx U):∀(os:List Oper)(is:List Ja)(sl:SL)(bx:Aa),E6 n os=true ->
  Iy P own ops os is sl bx K->Lp P n ops (Uw os is++R) sl bx U
 |[],is,sl,bx,_,h=>by rw[Iy]at h;exact M sl bx h
 |o::os,is,sl,bx,I,h=>by
  simp only[E6,Ro,Bc]at I;rw[Iy]at h;obtain⟨g,O,Z,V⟩:=E3i h;have E:=Q2 (n:=n) (ops:=[o]) (by simp[E6,I.1]) o (by simp);cases g with
  |true =>obtain⟨r,bx',pg,W,J,L⟩:=D1p (Z rfl);exact⟨true,r,bx',pg,O,E,⟨λ_=>W,(λh=>by cases h),λz hz=>by cases hz;exact J.cond⟩,B2z M os _ _ _ I.2 L⟩
  |false =>obtain⟨J,L⟩:=V rfl;exact⟨false,.tuple [],_,[],O,E,⟨(λh=>by cases h),λ_=>⟨rfl,rfl,λ_ _=>Iff.rfl⟩,λz hz=>by cases hz;exact J.cond⟩,B2z M os _ _ _ I.2 L⟩
def Z3.gen{ops:Array Oper}{K:SL->Aa->Prop}:∀(os:List Oper)(sl:SL)(bx:Aa),Z3 P n ops os sl bx K->Lp P n ops (os.map λo=>(o,none)) sl bx (KE K)
 |[],sl,bx,h=>⟨sl,bx,h,λ_=>rfl,λ_ _=>Iff.rfl⟩
 |o::os,sl,bx,⟨g,E,I,M,L⟩=>by
  cases g with
  |true =>obtain⟨r,bx',pg,O,J⟩:=M rfl;exact⟨true,r,bx',pg,E,I,⟨λ_=>by rw[show GI.h none=[] from rfl,A5a];exact O,(λh=>by cases h),(λz hz=>by cases hz)⟩,by rw[show GI.h (o,(none:GI)).2=[] from rfl,A4s,I8];exact Z3.gen os _ _ J⟩
  |false=>exact⟨false,.tuple [],bx,[],E,I,⟨(λh=>by cases h),λ_=>⟨rfl,rfl,λ_ _=>by grind [GI.h,A5a]⟩,(λz hz=>by cases hz)⟩,by rw[show GI.h (o,(none:GI)).2=[] from rfl,A4s,I8];exact Z3.gen os _ _ (L rfl)⟩
def Ze(m:Nat)(is:List Ja)(j:Nat):GI:=if j<m then some (Gc (is.drop j))else none
def D8t:∀(os:List Oper)(is:List Ja)(j:Nat),(Uw os is)[j]?=(os[j]?).map λo=>(o,some (Gc (is.drop j)))
 |[],is,j=>by rfl
 |o::os,is,0=>by rfl
 |o::os,is,j+1=>by rw[Uw,Xo,D8t,Xo];simp
theorem B4s:∀(os:List Oper)(is:List Ja),(Uw os is).length=os.length
 |[],_=>rfl
 |_::os,is=>by rw[Uw,C6,B4s,C6]
def D5z(ops:Array Oper)(m:Nat)(is:List Ja):(List.range ops.size).map (Wk ops (Ze m is))=Uw (ops.toList.take m) is++(ops.toList.drop m).map λo=>(o,none):=by
 apply M3;intro j;rw[Db];by_cases I:j<ops.size
 .have hr:(List.range ops.size)[j]?=some j:=by rw[Yo I]
  have J:ops.toList[j]?=some (ops.getD j default):=by simp[Array.getD,I]
  rw[hr,Eu];unfold Wk Ze;by_cases E:j<m
  .rw[A9 E,Ls (by rw[B4s];grind),D8t,An1,A9 E,J];rfl
  .rw[A6 E,M5 (by rw[B4s];grind),B4s,Db,Th,show m+(j - (ops.toList.take m).length)=j by grind,J];rfl
 grind [B4s]
def A0.E4x{id:Nat}{ops:Array Oper}(ks own:List Nat)(m:Nat)(is:List Ja)(M:P.follows .mixedOrders=true)(V:X6 ops (Ze m is) (Region.before ops)=true)(I:E6 n ops.toList=true)
  (h:Iy P own ops (ops.toList.take m) is sl bx (Yu P own ops (ops.toList.drop m) (He ks (Q .normal)))):A0 ro P n (.region id ops true) Q sl bx:=by
 have E:E6 n (ops.toList.take m)=true:=by unfold E6 at*;rw[Dr]at*;exact λo J=>I o (Hh J)
 have L:E6 n (ops.toList.drop m)=true:=by unfold E6 at*;rw[Dr]at*;exact λo J=>I o (X3 J)
 refine A0.D7e _ _ ks M V I ?_;rw[D5z];exact B2z (λO U h=>(Xk _ _ _ L h).gen) _ _ _ _ E h
def A0.D5q{id:Nat}{ops:Array Oper}{y:Code}(ks own:List Nat)(m:Nat)(is:List Ja)(I:P.follows .mixedOrders=true)(J:X6 ops (Ze m is) (Region.before ops)=true)(E:E6 n ops.toList=true)
  (h:∀K:SL->Aa->Prop,(∀sl' bx',A0 ro P n y Q sl' bx'->K sl' bx')->Iy P own ops (ops.toList.take m) is sl bx (Yu P own ops (ops.toList.drop m) (He ks K))):A0 ro P n (.seq (.region id ops true) y) Q sl bx :=
 A0.seq (A0.E4x ks own m is I J E (h _ λ_ _ h=>h))
def A0.G6o{id:Nat}{ops:Array Oper}(ks own:List Nat)(m:Nat)(is:List Ja)(I:P.follows .mixedOrders=true)(J:X6 ops (Ze m is) (Region.before ops)=true)(E:E6 n ops.toList=true)
  (h:∀K:SL->Aa->Prop,(∀sl' bx',Q .normal sl' bx'->K sl' bx')->Iy P own ops (ops.toList.take m) is sl bx (Yu P own ops (ops.toList.drop m) (He ks K))):A0 ro P n (.region id ops true) Q sl bx :=
 A0.E4x ks own m is I J E (h _ λ_ _ h=>h)
end Go.Abs
