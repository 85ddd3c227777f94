/- Drawn regions: any order that the edges allow comes to what the text's order comes to. Own framework. -/
import Derived.Test.YtieakoebgfiniaaGreatDoorZAb4
set_option linter.all false
namespace Go.Abs
open Go
variable {ro:Option Nat} {P:Program} {n:Nat} {Q:Exit->SL->Ab->Prop} {sl:SL} {bx:Ab} {o:Oper} {ρ:Hz}
def A1y(k:Nat):Ab->Bool
 |[]=>false
 |(j,c)::r=>j ==k ||c.has k ||A1y k r
def C0h{k:Nat}:∀{bx:Ab},A1y k bx=false->∀j c,(j,c)∈bx->j≠k/\c.has k=false
 |[],_,j,c,h=>by grind
 |(i,x)::r,h,j,c,hm=>by
  simp only[A1y,An6,beq_eq_false_iff_ne]at h;rcases B1.1 hm with E|hm
  .grind
  .exact C0h h.2 j c hm
def Rt(k:Nat):List Nat->Bool
 |[]=>false
 |j::r=>k ==j ||Rt k r
theorem A1t{k:Nat}:∀{l:List Nat},Rt k l=true↔k∈l
 |[]=>by simp[Rt]
 |j::r=>by simp[Rt,A1t]
def Hu(ks:List Nat):Ab->Ab
 |[]=>[]
 |(k,c)::r=>if Rt k ks=true then Hu ks r else(k,c)::Hu ks r
def bin(ks:List Nat):Ab->Ab
 |[]=>[]
 |(k,c)::r=>if Rt k ks=true then(k,c)::bin ks r else bin ks r
theorem Pe{ks:List Nat}{k:Nat}{c:Aq}:∀{bx:Ab},(k,c)∈Hu ks bx↔k∉ks/\(k,c)∈bx
 |[]=>by simp[Hu]
 |(j,x)::r=>by
  rw[Hu];by_cases h:Rt j ks=true
  .have I:=A1t.1 h;rw[A8 h,Pe,B1,Fp]
   grind
  .have I:j∉ks:=λE=>h (A1t.2 E);rw[A6 h,B1,Pe,B1,Fp]
   grind
theorem Tx{ks:List Nat}{k:Nat}{c:Aq}:∀{bx:Ab},(k,c)∈bin ks bx↔k∈ks/\(k,c)∈bx
 |[]=>by simp[bin]
 |(j,x)::r=>by
  rw[bin];by_cases h:Rt j ks=true
  .have I:=A1t.1 h;rw[A8 h,B1,Tx,B1,Fp]
   grind
  .have I:j∉ks:=λE=>h (A1t.2 E);rw[A6 h,Tx,B1,Fp]
   grind
theorem A1r:∀bx:Ab,Hu [] bx=bx
 |[]=>rfl
 |(k,c)::r=>by rw[Hu,Rt,A6 (by decide),A1r r]
theorem A3m:∀bx:Ab,bin [] bx=[]
 |[]=>rfl
 |(k,c)::r=>by rw[bin,Rt,A6 (by decide),A3m r]
def Rk:List Nat->SV->SV
 |[],x=>x
 |k::ks,x=>Rk ks (Ly k x)
def Qc:∀(ks:List Nat)(sl:SL)(t:Nat),Ae (G1 ks sl) t=Rk ks (Ae sl t)
 |[],_,_=>rfl
 |k::ks,sl,t=>by rw[G1,Qc ks,A7h];rfl
theorem A4u:∀(ks:List Nat)(x:SV),(Rk ks x=x/\∀q,q∈ks->x.has q=false)\/(Rk ks x=.undef/\∃q,q∈ks/\x.has q=true)
 |[],x=>.inl ⟨rfl,by simp⟩
 |k::ks,x=>by
  rw[Rk];unfold Ly;by_cases h:x.has k=true
  .rw[A8 h];refine .inr ⟨?_,k,by simp,h⟩;rcases A4u ks .undef with h|h <;> grind
  .rw[A6 h];rcases A4u ks x with⟨I,E⟩|⟨I,q,E,J⟩
   .grind
   grind
def E2w{ks:List Nat}{x:SV}(h:∀q,q∈ks->x.has q=false):Rk ks x=x:=by grind[A4u]
def H3y{a b:List Nat}(h:∀k,k∈b->k∈a)(x:SV):Rk a (Rk b x)=Rk a x:=by grind[A4u]
def F6s(a b:List Nat)(x:SV):Rk a (Rk b x)=Rk b (Rk a x):=by grind[A4u]
def Yz(sl:SL)(d:Option Nat)(r:SV)(t:Nat):Ae (Fy sl d r) t=if d=some t then r else Ae sl t:=by
 cases d with
 |none=>rfl
 |some u=>simp[Fy,Ae]
def Br.congr{I:Hz}{E bx':Ab}{r:SV}{pg:List Nat}(h:Br P o ρ bx r bx' pg)(L:∀k c,(k,c)∈bx->(k,c)∈E)(U:∀x,x∈o.op.operands->I x =ρ x):Br P o I E r bx' pg :=
 λC S w β a J V=>h C S w β a (J.sub L) λx O=>by grind
def E4r(β:Names)(F:Ab)(b:Nat):Prop:=∃k c,(k,c)∈F/\(β k).base=some b
def Br.G4a{r:SV}{bx':Ab}{pg:List Nat}(h:Br P o ρ bx r bx' pg)(F:Ab)(hF:∀k c,(k,c)∈F->c.real=true/\k∉pg/\(∀q,q∈pg->c.has q=false)/\(∀x,(k,x) ∉bx)/\∀x,(k,x) ∉bx')
  (hG:∀k Y st,(k,Aq.ghost Y st)∈bx'->(k,Aq.ghost Y st)∈bx){C:Ctx}{S:Nat->Prop}{w:World}{β:Names}{a:Act}(J:Inv C S w β (F++bx))(ha:∀x,x∈o.op.operands->Am S w β (ρ x) (a.eval x)) :
  o.wpx P a w (λa' w'=>∃v S' β',a'=a.put o.dst v/\Inv C S' w' β' (F++bx')/\C4 S w S' w'/\Am S' w' β' r v/\∀k,k∉pg->β' k =β k):=by
 have I:∀{j:Nat} {x:Aq},(j,x)∈bx->(j,x)∈F++bx:=λh=>Bz.2 (.inr h);have V:∀{j:Nat} {x:Aq},(j,x)∈F->(j,x)∈F++bx:=λh=>Bz.2 (.inl h);have a5:∀{j:Nat} {x:Aq} {b:Nat},(j,x)∈bx->(β j).base=some b->¬E4r β F b:=λhj h1 ⟨k,c,hk,O⟩=>by
  obtain⟨rfl,_⟩:=J.inj _ _ _ _ (V hk) (I hj) _ O h1
  grind
 have a6:Inv ⟨w,S,λb=>¬S b/\(C.pre b\/C.w0.heap.size<=b)/\¬E4r β F b,C.B0u,C.G⟩ S w β bx:={
  Fe:=λ_ O=>O,Ej:=λ_ O=>.inl O,Bw:=J.Bw,kept:=λ_ _ _=>rfl,os:=rfl,tape:=rfl,output:=rfl,size:=Bs _,
  box:=λj x hj=>J.box j x (I hj)
  Ba:=λj x hj b O=>⟨(J.Ba j x (I hj) b O).1,(J.Ba j x (I hj) b O).2.1,.inl ⟨(J.Ba j x (I hj) b O).1,(J.Ba j x (I hj) b O).2.2,a5 hj O⟩⟩
  inj:=λj x j' x' hj hj'=>J.inj j x j' x' (I hj) (I hj')
  E2:=J.E2
  one:=λj Y st j' Y' st' hj hj'=>J.one j Y st j' Y' st' (I hj) (I hj')
  Fo:=λj Y st hj=>by obtain⟨h1,h2,h3,h4,B,h5,h6⟩:=J.Fo j Y st (I hj);exact⟨h1,h2,Cp h3 J.size,λW Z hk'=>h4 W Z (I hk'),B,h5,λb O=>⟨(h6 b O).1,(h6 b O).2.1,.inl ⟨(h6 b O).1,(h6 b O).2.2.1,λ⟨k,c,hk,E⟩=>(h6 b O).2.2.2 k c (V hk) E⟩,λW Z hk'=>(h6 b O).2.2.2 W Z (I hk')⟩⟩
  fix:=J.fix }
 refine Oper.C9g (h _ S w β a a6 ha) ?_;rintro a' w' ⟨v,S',β',rfl,U,he,hv,O⟩;have aa:w.heap.size<=w'.heap.size:=U.size;have a9:=J.size;have a0:∀k c,(k,c)∈F->β' k =β k:=λk c hk=>O k (hF k c hk).2.1;have a3:∀k c b,(k,c)∈F->(β k).base=some b->b<w.heap.size:=λk c b hk E=>(J.Ba k c (V hk) b E).2.1;have a8:∀k c W Z b,(k,c)∈F->(W,Z)∈bx'->(β k).base=some b->(β' W).base≠some b:=λk c W Z b hk hk' h1 h2=>by
  rcases(U.Ba W Z hk' b h2).2.2 with h|h
  .exact h.2.2 ⟨k,c,hk,h1⟩
  grind
 have L:∀{k c},(k,c)∈F++bx'->(k,c)∈F\/(k,c)∈bx':=λhm=>Bz.1 hm;have a2:∀k Y st,(k,Aq.ghost Y st)∈F++bx'->(k,Aq.ghost Y st)∈bx'/\(k,Aq.ghost Y st)∈bx:=λk Y st hm=>by grind[Aq.real]
 refine⟨v,S',β',rfl,?_,he,hv,O⟩;exact{
  Fe:=λb E=>U.Fe b (J.Fe b E)
  Ej:=λb E=>by
   rcases U.Ej b E with h|h|h
   .exact J.Ej b h
   .grind
   grind
  Bw:=U.Bw
  kept:=λb E hp=>by
   refine(U.kept b (W5 E J.size) ?_).trans (J.kept b E hp)
   grind
  os:=U.os.trans J.os
  tape:=U.tape.trans J.tape
  output:=U.output.trans J.output
  size:=Cp J.size U.size
  box:=λj x hj=>by
   rcases L hj with hj|hj
   .rw[a0 j x hj];exact(J.box j x (V hj)).ext he (λb E=>U.kept b (a3 j x b hj E) λh=>h.2.2 ⟨j,x,hj,E⟩) (λq hq=>O q λhp=>by grind)
   .exact U.box j x hj
  Ba:=λj x hj b E=>by
   rcases L hj with hj|hj
   .rw[a0 j x hj]at E;obtain⟨g1,g2,g3⟩:=J.Ba j x (V hj) b E;refine⟨λhs=>?_,W5 g2 U.size,g3⟩;rcases U.Ej b hs with h|h|h
    .grind
    .exact h.2.2 ⟨j,x,hj,E⟩
    grind
   .refine⟨(U.Ba j x hj b E).1,(U.Ba j x hj b E).2.1,?_⟩;rcases(U.Ba j x hj b E).2.2 with h|h
    .grind
    grind
  inj:=λj x j' x' hj hj' b h1 h2=>by
   rcases L hj with hj|hj
   .rw[a0 j x hj]at h1;rcases L hj' with hj' |hj'
    .rw[a0 j' x' hj']at h2;exact J.inj j x j' x' (V hj) (V hj') b h1 h2
    grind
   .rcases L hj' with hj' |hj'
    .grind
    .exact U.inj j x j' x' hj hj' b h1 h2
  E2:=U.E2
  one:=λj Y st j' Y' st' hj hj'=>J.one j Y st j' Y' st' (I (a2 _ _ _ hj).2) (I (a2 _ _ _ hj').2)
  Fo:=λj Y st hj=>by
   obtain⟨a7,a4⟩:=a2 _ _ _ hj;obtain⟨h1,h2,_,h4,B,h5,h6⟩:=U.Fo j Y st a7;obtain⟨_,_,f3,f4,_⟩:=J.Fo j Y st (I a4);refine⟨h1,h2,f3,λW Z hk' b E=>?_,B,h5,λb E=>⟨(h6 b E).1,(h6 b E).2.1,?_,λW Z hk' a1=>?_⟩⟩
   .grind
   .grind
   .rcases L hk' with hk' |hk'
    .rw[a0 W Z hk']at a1;rcases(h6 b E).2.2.1 with h|h
     .exact h.2.2 ⟨W,Z,hk',a1⟩
     grind
    grind
  fix:=U.fix }
structure Ip where
 m:List Nat
 p:List Nat
 h:List Nat
 q:List Nat
abbrev ga:List Ip:=[⟨[],[],[],[]⟩,⟨[],[],[],[]⟩,⟨[],[],[],[]⟩,⟨[],[],[],[]⟩,⟨[],[],[],[]⟩,⟨[],[],[],[]⟩,⟨[],[],[],[]⟩,⟨[],[],[],[]⟩,⟨[],[],[],[]⟩,⟨[],[],[6],[]⟩,⟨[],[],[6],[]⟩,⟨[],[],[6],[]⟩,⟨[],[],[6],[]⟩,⟨[],[],[6],[]⟩,⟨[],[],[6],[]⟩,⟨[],[],[6],[]⟩,⟨[],[],[6],[]⟩,⟨[6],[],[],[]⟩]
abbrev gc:List Ip:=[⟨[],[],[9,10],[9,10]⟩,⟨[],[],[9,10],[9,10]⟩,⟨[],[],[9,10],[9,10]⟩,⟨[],[],[9,10],[9,10]⟩,⟨[],[],[9,10],[9,10]⟩,⟨[],[],[9,10],[9,10]⟩,⟨[],[],[9,10],[9,10]⟩,⟨[],[],[9,10],[9,10]⟩,⟨[],[],[9,10],[9,10]⟩,⟨[9],[9],[10],[10]⟩,⟨[10],[10],[9],[9]⟩,⟨[9],[],[],[]⟩]
abbrev gf:List Ip:=[⟨[],[],[21],[21]⟩,⟨[],[],[21],[21]⟩,⟨[],[],[21],[21]⟩,⟨[],[],[21],[21]⟩,⟨[],[],[21],[21]⟩,⟨[],[],[21],[21]⟩,⟨[],[],[21],[21]⟩,⟨[],[],[21],[21]⟩,⟨[],[],[21],[21]⟩,⟨[21],[21],[],[]⟩,⟨[21],[],[],[]⟩]
abbrev gg:List Ip:=[⟨[],[],[9],[9]⟩,⟨[],[],[9],[9]⟩,⟨[],[],[9],[9]⟩,⟨[],[],[9],[9]⟩,⟨[],[],[9],[9]⟩,⟨[],[],[9],[9]⟩,⟨[],[],[9],[9]⟩,⟨[],[],[9],[9]⟩,⟨[],[],[9],[9]⟩,⟨[],[],[9],[9]⟩,⟨[],[],[9],[9]⟩,⟨[],[],[9],[9]⟩,⟨[],[],[9],[9]⟩,⟨[],[],[9],[9]⟩,⟨[],[],[9],[9]⟩,⟨[],[],[9],[9]⟩,⟨[9],[9],[],[]⟩]
abbrev gh:List Ip:=[⟨[],[],[11],[11]⟩,⟨[],[],[11],[11]⟩,⟨[],[],[11],[11]⟩,⟨[],[],[11],[11]⟩,⟨[],[],[11],[11]⟩,⟨[],[],[11],[11]⟩,⟨[],[],[11],[11]⟩,⟨[],[],[11],[11]⟩,⟨[],[],[11],[11]⟩,⟨[],[],[11],[11]⟩,⟨[],[],[11],[11]⟩,⟨[],[],[11],[11]⟩,⟨[],[],[11],[11]⟩,⟨[11],[11],[],[]⟩]
abbrev gi:List Ip:=[⟨[],[],[12],[12]⟩,⟨[],[],[12],[12]⟩,⟨[],[],[12],[12]⟩,⟨[],[],[12],[12]⟩,⟨[],[],[12],[12]⟩,⟨[],[],[12],[12]⟩,⟨[],[],[12],[12]⟩,⟨[],[],[12],[12]⟩,⟨[],[],[12],[12]⟩,⟨[12],[12],[],[]⟩,⟨[12],[],[],[]⟩]
abbrev gj:List Ip:=[⟨[],[],[3],[3]⟩,⟨[],[],[3],[3]⟩,⟨[],[],[3],[3]⟩,⟨[],[],[3],[3]⟩,⟨[],[],[3],[3]⟩,⟨[],[],[3],[3]⟩,⟨[],[],[3],[3]⟩,⟨[],[],[3],[3]⟩,⟨[],[],[3],[3]⟩,⟨[],[],[3],[3]⟩,⟨[3],[3],[],[]⟩]
abbrev gk:List Ip:=[⟨[],[],[],[]⟩,⟨[],[],[],[]⟩,⟨[],[],[],[]⟩,⟨[],[],[],[]⟩,⟨[],[],[],[]⟩,⟨[900,2000003],[900,2000003],[],[]⟩,⟨[],[],[2000003],[]⟩,⟨[900],[],[2000003],[]⟩,⟨[2000003],[],[900],[]⟩]
abbrev gl:List Ip:=[⟨[],[],[],[]⟩,⟨[],[],[],[]⟩,⟨[],[],[4],[]⟩,⟨[4],[],[],[]⟩]
abbrev gm:List Ip:=[⟨[],[],[5],[5]⟩,⟨[],[],[5],[5]⟩,⟨[],[],[5],[5]⟩,⟨[],[],[5],[5]⟩,⟨[],[],[5],[5]⟩,⟨[],[],[5],[5]⟩,⟨[],[],[5],[5]⟩,⟨[],[],[5],[5]⟩,⟨[5],[5],[],[]⟩]
abbrev gp:List Ip:=[⟨[],[],[5],[5]⟩,⟨[],[],[5],[5]⟩,⟨[],[],[5],[5]⟩,⟨[],[],[5],[5]⟩,⟨[],[],[5],[5]⟩,⟨[900,901],[900,901],[5],[5]⟩,⟨[5],[5],[900,901],[900,901]⟩]
abbrev gq:List Ip:=[⟨[],[],[],[]⟩,⟨[],[],[4],[]⟩,⟨[4],[],[],[]⟩]
abbrev GI:=Option Ip
def GI.h:GI->List Nat
 |some z=>z.h
 |none=>[]
def GI.q:GI->List Nat
 |some z=>z.q
 |none=>[]
structure Ym(z:Ip)(bx:Ab)(r:SV)(bx':Ab)(pg:List Nat):Prop where
 Zh:∀k,k∈z.m->k∉z.h
 Zx:∀k,k∈pg->k∈z.p
 pm:∀k,k∈z.p->k∈z.m
 rest:∀k c,k∉z.m->((k,c)∈bx'↔k∉z.h/\(k,c)∈bx)
 Gr:∀k c,k∈z.m->(k,c)∈bx->c.real=true/\∀q,q∈z.q->c.has q=false
 new:∀k c,k∈z.m->(k,c)∈bx'->c.real=true/\∀q,q∈z.q->c.has q=false
 res:∀q,q∈z.q->r.has q=false
 hid:∀k c,k∈z.h->(k,c)∈bx->c.real=true/\∀q,q∈pg->c.has q=false
structure GOp(P:Program)(o:Oper)(i:GI)(g:Bool)(sl:SL)(bx:Ab)(r:SV)(bx':Ab)(pg:List Nat):Prop where
 yes:g=true->Br P o (Ao (G1 i.q sl)) (Hu i.h bx) r bx' pg
 no:g=false->r=.tuple []/\pg=[]/\∀k c,(k,c)∈bx'↔(k,c)∈Hu i.h bx
 cond:∀z,i=some z->Ym z bx r bx' pg
def L3(P:Program)(n:Nat)(ops:Array Oper):List (Oper × GI)->SL->Ab->(SL->Ab->Prop)->Prop
 |[],sl,bx,K=>K sl bx
 |x::os,sl,bx,K=>∃g r bx' pg,Td ops sl x.1=some g/\Qm n x.1.dst/\GOp P x.1 x.2 g sl bx r bx' pg/\L3 P n ops os (Fy (G1 pg sl) x.1.dst r) (bx'++bin x.2.h bx) K
def Eqv(sl:SL)(bx:Ab)(sl':SL)(bx':Ab):Prop:=(∀t,Ae sl t=Ae sl' t)/\∀k c,(k,c)∈bx↔(k,c)∈bx'
def KE(K:SL->Ab->Prop):SL->Ab->Prop:=λsl bx=>∃sl' bx',K sl' bx'/\Eqv sl bx sl' bx'
def D8b{sl sl':SL}{x:Operand}(h:∀t,x=.tmp t->Ae sl t=Ae sl' t):Ao sl x=Ao sl' x:=by
 cases x with
 |tmp t=>exact h t rfl
 |_=>rfl
def L3.congr{ops:Array Oper}{K:SL->Ab->Prop}:∀(os:List (Oper × GI)) {sl sl':SL} {bx bx':Ab},Eqv sl bx sl' bx'->L3 P n ops os sl bx (KE K)->L3 P n ops os sl' bx' (KE K)
 |[],sl,sl',bx,bx',e,⟨s,b,h,O,U⟩=>⟨s,b,h,λt=>(e.1 t).symm.trans (O t),λk c=>(e.2 k c).symm.trans (U k c)⟩
 |x::os,sl,sl',bx,bx',e,⟨g,r,b,pg,O,U,J,V⟩=>by
  refine⟨g,r,b,pg,(G9g λ_ _ t _ _=>(e.1 t).symm).trans O,U,⟨λI=>(J.yes I).congr (λk c E=>Pe.2 ⟨(Pe.1 E).1,(e.2 k c).1 (Pe.1 E).2⟩) λy _=>D8b λt _=>by rw[Qc,Qc,e.1],
   λI=>⟨(J.no I).1,(J.no I).2.1,λk c=>((J.no I).2.2 k c).trans (by rw[Pe,Pe,e.2])⟩,λz W=>?_⟩,L3.congr os ⟨λt=>by rw[Yz,Yz,Qc,Qc,e.1],λk c=>by rw[Bz,Bz,Tx,Tx,e.2]⟩ V⟩
  have c:=J.cond z W;exact⟨c.Zh,c.Zx,c.pm,λk x E=>(c.rest k x E).trans (by rw[e.2]),λk x E L=>c.Gr k x E ((e.2 k x).2 L),c.new,c.res,λk x E L=>c.hid k x E ((e.2 k x).2 L)⟩
structure A9y(z1 z2:Ip):Prop where
 m:∀k,k∈z1.m->k∈z2.h
 p:∀k,k∈z1.p->k∈z2.q
structure Un(ops:Array Oper)(x y:Oper × GI):Prop where
 u1:∀t,x.1.dst=some t->t∉A9d ops y.1
 u2:∀t,y.1.dst=some t->t∉A9d ops x.1
 d:∀t,x.1.dst=some t->y.1.dst≠some t
 i:∃z1 z2,x.2=some z1/\y.2=some z2/\A9y z1 z2/\A9y z2 z1
def Ym.out{z:Ip}{r:SV}{bx':Ab}{pg:List Nat}(c:Ym z bx r bx' pg){k:Nat}{x:Aq}(E:k∉z.m):(k,x)∈bx'++bin z.h bx↔(k,x)∈bx:=by
 rw[Bz,c.rest k x E,Tx]
 grind
def Ym.move{O V:Ip}{r1 r2:SV}{U a0:Ab}{pg1 W:List Nat}(J:Ym O bx r1 U pg1)(e1:A9y O V)(e2:A9y V O) :
  Ym V (U++bin O.h bx) r2 a0 W↔Ym V bx r2 a0 W:=by
 constructor
 .intro c;have d:∀k,k∈V.m->k∉O.m:=λk I E=>c.Zh k I (e1.m k E);refine⟨c.Zh,c.Zx,c.pm,λk x I=>(c.rest k x I).trans (and_congr_right λhh=>J.out λE=>hh (e1.m k E)),λk x I L=>c.Gr k x I ((J.out (d k I)).2 L),c.new,c.res,λk x I L=>?_⟩;by_cases E:k∈O.m
  .exact⟨(J.Gr k x E L).1,λq hq=>(J.Gr k x E L).2 q (e2.p q (c.Zx q hq))⟩
  .exact c.hid k x I ((J.out E).2 L)
 .intro c;have d:∀k,k∈V.m->k∉O.m:=λk I E=>c.Zh k I (e1.m k E);refine⟨c.Zh,c.Zx,c.pm,λk x I=>(c.rest k x I).trans (and_congr_right λhh=>(J.out λE=>hh (e1.m k E)).symm),λk x I L=>c.Gr k x I ((J.out (d k I)).1 L),c.new,c.res,λk x I L=>?_⟩;by_cases E:k∈O.m
  .have Z:(k,x)∈U:=by
    rcases Bz.1 L with h|h
    .exact h
    .exact absurd (Tx.1 h).1 (J.Zh k E)
   exact⟨(J.new k x E Z).1,λq hq=>(J.new k x E Z).2 q (e2.p q (c.Zx q hq))⟩
  .exact c.hid k x I ((J.out E).1 L)
def E9r{pg h:List Nat}(e:∀k,k∈pg->k∈h){d:Option Nat}{r:SV}{t:Nat}(ht:d≠some t)(sl:SL):Ae (G1 h (Fy (G1 pg sl) d r)) t=Ae (G1 h sl) t:=by rw[Qc,Yz,A6 ht,Qc,Qc,H3y e]
def GOp.move{g:Bool}{V I:Ip}{r1 r2:SV}{J W:Ab}{pg1 U:List Nat}{d1:Option Nat}{ops:Array Oper}(Z:Ym V bx r1 J pg1)(e1:A9y V I)(e2:A9y I V)(hu:∀t,d1=some t->t∉A9d ops o) :
  GOp P o (some I) g (Fy (G1 pg1 sl) d1 r1) (J++bin V.h bx) r2 W U↔GOp P o (some I) g sl bx r2 W U:=by
 have hs:∀x,x∈o.op.operands->Ao (G1 I.q (Fy (G1 pg1 sl) d1 r1)) x=Ao (G1 I.q sl) x:=λx L=>D8b λt ht=>E9r (λk O=>e1.p k (Z.Zx k O)) (λhd=>hu t hd (G9k (ht ▸ L))) sl;have hb:∀k c,(k,c)∈Hu I.h (J++bin V.h bx)↔(k,c)∈Hu I.h bx:=λk c=>by rw[Pe,Pe];exact and_congr_right λhh=>Z.out λa0=>hh (e1.m k a0)
 exact⟨λh=>⟨λE=>(h.yes E).congr (λk c O=>(hb k c).1 O) λx L=>(hs x L).symm,λE=>⟨(h.no E).1,(h.no E).2.1,λk c=>((h.no E).2.2 k c).trans (hb k c)⟩,λz hz=>by cases hz;exact(Z.move e1 e2).1 (h.cond _ rfl)⟩,
  λh=>⟨λE=>(h.yes E).congr (λk c O=>(hb k c).2 O) λx L=>hs x L,λE=>⟨(h.no E).1,(h.no E).2.1,λk c=>((h.no E).2.2 k c).trans (hb k c).symm⟩,λz hz=>by cases hz;exact(Z.move e1 e2).2 (h.cond _ rfl)⟩⟩
def D9y{ops:Array Oper}{s I:SL}{pg:List Nat}(h:∀t,t∈A9d ops o->Ae I t=Rk pg (Ae s t)):Td ops I o=Td ops s o:=by
 unfold Td;cases J:o.guard with
 |none=>rfl
 |some O =>
  obtain⟨j,E⟩:=O;simp only;cases L:Pk ops j with
  |none=>rfl
  |some t =>
   simp only[h t (G7v J L)]
   grind[A4u,SV.has,SV.Kw]
def L3.swap{ops:Array Oper}{K:SL->Ab->Prop}{x y:Oper × GI}{R:List (Oper × GI)}(u:Un ops x y)(h:L3 P n ops (x::y::R) sl bx (KE K)):L3 P n ops (y::x::R) sl bx (KE K):=by
 obtain⟨g1,r1,L,pg1,a1,a2,a3,g2,r2,O,J,b1,b2,b3,hR⟩:=h;obtain⟨z1,z2,i1,i2,e1,W⟩:=u.i;obtain⟨o1,i⟩:=x;obtain⟨o2,j⟩:=y;simp only at i1 i2;subst i1;subst i2;have U:=a3.cond _ rfl;have Z:=(GOp.move U e1 W u.u1).1 b3;have V:=Z.cond _ rfl;have a0:=(GOp.move (pg1:=J) (d1:=o2.dst) V W e1 u.u2).2 a3;refine⟨g2,r2,O,J,(D9y (pg:=pg1) λt ht=>?_).symm.trans b1,b2,Z,g1,r1,L,pg1,(D9y (pg:=J) λt ht=>?_).trans a1,a2,a0,L3.congr R ⟨λt=>?_,λk c=>?_⟩ hR⟩
 .rw[Yz,A6 λhd=>u.u1 t hd ht,Qc]
 .rw[Yz,A6 λhd=>u.u2 t hd ht,Qc]
 .rw[Yz,Qc,Yz,Qc,Yz,Qc,Yz,Qc];by_cases I:o2.dst=some t
  .rw[A8 I,A8 I,A6 λE=>u.d t E I,E2w λq hq=>V.res q (e1.p q (U.Zx q hq))]
  .rw[A6 I,A6 I];by_cases E:o1.dst=some t
   .rw[A8 E,A8 E,E2w λq hq=>U.res q (W.p q (V.Zx q hq))]
   .rw[A6 E,A6 E,F6s]
 .show(k,c)∈O++bin z2.h (L++bin z1.h bx)↔(k,c)∈L++bin z1.h (O++bin z2.h bx);by_cases k1:k∈z1.m
  .have n1:=U.Zh k k1;have k2:=e1.m k k1;have n2:k∉z2.m:=λhh=>n1 (W.m k hh);have:=V.rest k c n2;simp[Tx,k2,n1,this]
  .by_cases k2:k∈z2.m
   .have n2:=V.Zh k k2;have:=U.rest k c k1;simp[Tx,W.m k k2,n2,this]
   .have q1:=U.rest k c k1;have q2:=V.rest k c k2
    grind[Tx]
def L3.front{ops:Array Oper}{K:SL->Ab->Prop}:∀(E:List (Oper × GI)) {I:List (Oper × GI)} {y:Oper × GI} {sl:SL} {bx:Ab},(∀x,x∈E->Un ops x y)->L3 P n ops (E++y::I) sl bx (KE K)->L3 P n ops (y::(E++I)) sl bx (KE K)
 |[],I,y,sl,bx,_,h=>h
 |x::E,I,y,sl,bx,J,⟨g,r,b,pg,O,U,L,h⟩=>L3.swap (J x (by simp)) ⟨g,r,b,pg,O,U,L,L3.front E (λz V=>J z (by grind)) h⟩
def St.sub{C:Ctx}{S:Nat->Prop}{w:World}{β:Names}{a:Act}{bx':Ab}(h:St C n S w β a sl bx)(hs:∀k c,(k,c)∈bx'->(k,c)∈bx):St C n S w β a sl bx':=⟨h.inv.sub hs,h.size,h.defers,h.slot⟩
def GOp.exec{C:Ctx}{S:Nat->Prop}{w:World}{β:Names}{a:Act}{i:GI}{r:SV}{bx':Ab}{pg:List Nat}(h:GOp P o i true sl bx r bx' pg)(hs:St C n S w β a sl bx)(hd:Qm n o.dst) :
  o.wpx P a w λL w'=>∃S' β',St C n S' w' β' L (Fy (G1 pg sl) o.dst r) (bx'++bin i.h bx):=by
 have ho:=h.yes rfl;have ha:∀x,x∈o.op.operands->Am S w β (Ao (G1 i.q sl) x) (a.eval x):=λx _=>by
  have:=hs.Ao x;cases x with
  |tmp t =>
   show Am S w β (Ae (G1 i.q sl) t) _;rw[Qc];rcases A4u i.q (Ae sl t)with⟨e,_⟩|⟨e,_⟩ <;> rw[e]
   .exact this
   .exact .undef _
  |_=>exact this
 cases i with
 |none =>refine Oper.C9g (ho C S w β a (hs.inv.sub λk c E=>(Pe.1 E).2) ha) ?_;rintro L w' ⟨v,S',β',rfl,I,U,O,V⟩;exact⟨S',β',(hs.put hd I U O V).sub λk c E=>by grind[GI.h,A3m]⟩
 |some z =>
  have c:=h.cond z rfl;refine Oper.C9g (ho.G4a (bin z.h bx) (λk x E=>?_) (λk Y st E=>?_) (hs.inv.sub λk x E=>?_) ha) ?_
  .obtain⟨k1,k2⟩:=Tx.1 E;have Z:k∉z.m:=λJ=>c.Zh k J k1;exact⟨(c.hid k x k1 k2).1,λhp=>Z (c.pm k (c.Zx k hp)),(c.hid k x k1 k2).2,λy W=>(Pe.1 W).1 k1,λy W=>((c.rest k y Z).1 W).1 k1⟩
  .by_cases J:k∈z.m
   .have:=(c.new k _ J E).1;simp[Aq.real]at this
   .exact Pe.2 ((c.rest k _ J).1 E)
  .grind[Tx,Pe]
  rintro L w' ⟨v,S',β',rfl,I,U,O,V⟩;exact⟨S',β',(hs.put hd I U O V).sub λk c E=>Bz.2 (Bz.1 E).symm⟩
def gUn(ops:Array Oper)(x y:Oper × GI):Bool:=match x.2,y.2 with
 |some I,some E=>(match x.1.dst with|some t=>!(A9d ops y.1).contains t && y.1.dst !=some t|none=>true) && (match y.1.dst with|some t=>!(A9d ops x.1).contains t|none=>true) && I.m.all (λk=>E.h.contains k) && E.m.all (λk=>I.h.contains k) && I.p.all (λk=>E.q.contains k) && E.p.all (λk=>I.q.contains k)
 |_,_=>false
def G7o{ops:Array Oper}{x y:Oper × GI}(h:gUn ops x y=true):Un ops x y:=by
 unfold gUn at h;split at h
 .rename_i I E O J;simp only[Bb,Dm,An1]at h;obtain⟨⟨⟨⟨⟨g1,Z⟩,L⟩,W⟩,V⟩,U⟩:=h;refine⟨λt ht=>?_,λt ht=>?_,λt ht=>?_,I,E,O,J,⟨L,V⟩,⟨W,U⟩⟩
  .grind
  .grind
  grind
 grind
def Vo(ops:Array Oper)(is:Nat->GI)(j:Nat):Oper × GI:=(ops.getD j default,is j)
def Vu(ops:Array Oper)(is:Nat->GI)(B:Array Nat):Bool :=
 ((List.range ops.size).all λi=>(ops.getD i default).after.toList.all λe=>!Region.binds .any e ||decide (e.on<i)) &&
 ((List.range ops.size).all λi=>(List.range ops.size).all λj=>!(B.getD i 0).testBit j ||((ops.getD i default).after.toList.any λe=>Region.binds .any e && (e.on ==j ||(B.getD e.on 0).testBit j))) &&
 ((List.range ops.size).all λi=>(List.range i).all λj=>(B.getD i 0).testBit j ||gUn ops (Vo ops is j) (Vo ops is i))
structure GOK(ops:Array Oper)(is:Nat->GI):Prop where
 back:∀(i:Nat) (o:Oper),ops[i]?=some o->∀e,e∈o.after->Region.binds .any e=true->e.on<i
 un:∀(X:Nat->Prop),(∀(i:Nat) (o:Oper),ops[i]?=some o->X i->∀e,e∈o.after->Region.binds .any e=true->X e.on) ->
  ∀(i:Nat) (o:Oper),ops[i]?=some o->(∀e,e∈o.after->Region.binds .any e=true->X e.on)->∀j,j<i->¬X j->Un ops (Vo ops is j) (Vo ops is i)
def F6v{ops:Array Oper}{is:Nat->GI}{B:Array Nat}(h:Vu ops is B=true):GOK ops is:=by
 unfold Vu at h;simp only[Bb,Dm,Ar8,Vp,Js,Array.mem_toList_iff,Dp]at h;obtain⟨⟨h2,h5⟩,h6⟩:=h;have I:∀{i:Nat} {o:Oper},ops[i]?=some o->i<ops.size/\ops.getD i default=o:=by intro i o L;obtain⟨E,he⟩:=Uq.1 L;exact⟨E,by simp_all⟩
 have O:∀(i:Nat) (o:Oper),ops[i]?=some o->∀e,e∈o.after->Region.binds .any e=true->e.on<i:=by
  intro i o L e he hb;obtain⟨E,V⟩:=I L;rcases h2 i E e (by grind)with h|h
  .grind
  .exact h
 refine⟨O,?_⟩;intro X hX i o L J j W a3;have key:∀(k i:Nat) (o:Oper),i<=k->ops[i]?=some o->(∀e,e∈o.after->Region.binds .any e=true->X e.on)->∀j,j<ops.size->(B.getD i 0).testBit j=true->X j:=by
  intro k
  induction k with
  |zero =>
   intro i o a1 L J j W hb;obtain⟨E,V⟩:=I L;have:=(h5 i E j W).resolve_left (by grind);rw[List.any_eq_true]at this
   grind
  |succ k ih =>
   intro i o a1 L J j W hb;obtain⟨E,V⟩:=I L;have:=(h5 i E j W).resolve_left (by grind);rw[List.any_eq_true]at this;obtain⟨e,he,U⟩:=this;rw[V]at he;simp only[Bb,Vp,Vk]at U;have a0:=J e (by grind) U.1;rcases U.2 with h|h
   .grind
   .have a5:=O i o L e (by grind) U.1;have Z:ops[e.on]?=some ops[e.on]:=Xb (by omega);exact ih e.on ops[e.on] (by omega) Z (λe' a4 a2=>hX e.on _ Z a0 e' a4 a2) j W h
 obtain⟨E,V⟩:=I L;rcases h6 i E j W with h|h
 .exact absurd (key i i o (Bs _) L J j (by omega) h) a3
 .exact G7o h
def G8i{C:Ctx}{ops:Array Oper}{is:Nat->GI}{QQ:Exit->Act->World->Prop}{K:SL->Ab->Prop}(hd:GOK ops is)(ae:∀o,o∈ops.toList->Qm n o.dst)(ai:∀o,o∈ops.toList->A3q o=true)
  (hK:∀sl bx S w β a,K sl bx->St C n S w β a sl bx->QQ .normal a w) :
  ∀(J:Nat) (E:Array Bool) (a:Act) (w:World),E.size=ops.size->left ops.size E<=J ->
   (∀(i:Nat) (o:Oper),ops[i]?=some o->E.getD i false=true->∀e,e∈o.after->Region.binds .any e=true->E.getD e.on false=true) ->
   (∃(L:List Nat) (sl:SL) (bx:Ab) (S:Nat->Prop) (β:Names),L.Pairwise (· < ·)/\(∀j,j∈L↔j<ops.size/\E.getD j false=false)/\L3 P n ops (L.map (Vo ops is)) sl bx (KE K)/\St C n S w β a sl bx) ->
   wpAnyIn (FW ro) 0 P .any ops QQ J E a w:=by
 have a8:∀(E:Array Bool) (a:Act) (w:World),(∀i,i<ops.size->E.getD i false=true) ->
   (∃(L:List Nat) (sl:SL) (bx:Ab) (S:Nat->Prop) (β:Names),L.Pairwise (· < ·)/\(∀j,j∈L↔j<ops.size/\E.getD j false=false)/\L3 P n ops (L.map (Vo ops is)) sl bx (KE K)/\St C n S w β a sl bx)->QQ .normal a w:=by
  rintro E a w V ⟨L,sl,bx,S,β,_,hL,hR,hs⟩;have:L=[]:=As1.2 λj hj=>by grind
  subst this;obtain⟨sl',bx',h1,h2,h3⟩:=hR;exact hK sl' bx' S w β a h1 ⟨hs.inv.sub λk c hk=>(h3 k c).2 hk,hs.size,hs.defers,λt=>h2 t ▸ hs.slot t⟩
 have I:∀E:Array Bool,E.size=ops.size->Region.ready .any ops E=[]->∀i,i<ops.size->E.getD i false=true:=by
  intro E hs hr i
  induction i using Nat.strongRecOn with
  |_ i ih =>
   intro hi;cases hl:E.getD i false with
   |true=>rfl
   |false =>
    exfalso;have:i∈Region.ready .any ops E:=by
     rw[mem_ready];refine⟨?_,ops[i],Xb hi,λe he hb=>?_⟩
     .grind
     .have ad:=hd.back i _ (Xb hi) e he hb
      grind
    grind
 intro J
 induction J with
 |zero =>
  intro E a w hs aa a5 U;have V:∀i,i<ops.size->E.getD i false=true:=by
   intro i hi;cases hl:E.getD i false with
   |true=>rfl
   |false =>grind[left,List.countP_pos_iff]
  have O:Region.ready .any ops E=[]:=by
   rw[As1];intro i hi;rw[mem_ready]at hi;obtain⟨h1,o,ho,_⟩:=hi;have ad:=(Uq.1 ho).1;have:=V i ad;have ak:i<E.size:=by omega
   simp[Array.getD,ak]at this h1;rw[this]at h1;simp at h1
  exact⟨O,a8 E a w V U⟩
 |succ J ih =>
  intro E a w hs aa a5 U;refine⟨λO=>a8 E a w (I E hs O) U,?_⟩;intro i hi;rw[mem_ready]at hi;obtain⟨a9,o,ho,af⟩:=hi;have a4:i<ops.size:=(Uq.1 ho).1;have ah:i<E.size:=by omega
  have W:E.getD i false=false:=by simp[Array.getD,ah]at a9 |-;exact a9
  have a7:left ops.size (E.setIfInBounds i true)<=J:=by have:=H4p hs a4 W;omega
  have aj:∀j,(E.setIfInBounds i true).getD j false=true↔(j=i\/E.getD j false=true):=by
   intro j;by_cases hj:i=j
   .simp_all
   .rw[getD_set_ne false hj];grind
  have a6:∀(k:Nat) (o':Oper),ops[k]?=some o'->(E.setIfInBounds i true).getD k false=true->∀e,e∈o'.after->Region.binds .any e=true->(E.setIfInBounds i true).getD e.on false=true:=by
   intro k o' aq hk e he hb;rw[aj]at hk |-;rcases hk with rfl|hk
   .grind
   .grind
  have ac:o∈ops.toList:=by have:=Array.mem_of_getElem? ho;simpa using this
  have ao:ops.getD i default=o:=by simp[Array.getD,a4,(Uq.1 ho).2]
  simp only[wpOpIn,ho];obtain⟨L,sl,bx,S,β,hp,hL,hR,a0⟩:=U;obtain⟨R1,R2,rfl⟩:=List.append_of_mem ((hL i).2 ⟨a4,W⟩);rw[G0,Ck]at hR;have ag:=Ao2.1 hp;have ar:=Zo.1 ag.2.1;obtain⟨g,r,bx',pg,a1,a2,a3,Z⟩:=L3.front _ (λx hx=>by obtain⟨j,hj,rfl⟩:=Au.1 hx;exact hd.un (λj=>E.getD j false=true) a5 i o ho af j (ag.2.2 j hj i (by simp)) (by grind)) hR
  rw[show(Vo ops is i).1=o from ao]at a1 a2 a3 Z;rw[<-G0]at Z;have ab:∀(S':Nat->Prop) (β':Names) (a':Act) (w':World),St C n S' w' β' a' (Fy (G1 pg sl) o.dst r) (bx'++bin (Vo ops is i).2.h bx)->wpAnyIn (FW ro) 0 P .any ops QQ J (E.setIfInBounds i true) a' w':=λS' β' a' w' am =>
   ih _ _ _ (by grind) a7 a6 ⟨R1++R2,_,_,S',β',hp.sublist ((List.Sublist.refl R1).append (List.sublist_cons_self i R2)),λj=>by grind,Z,am⟩
  have hw:=C6j (a:=a) (S:=S) (w:=w) (β:=β) (λt ht=>by obtain⟨j,ap,_,hj⟩:=ht;exact⟨a0.slot t,by rw[a0.size];exact C7z ae hj⟩) a1
  rw[hw];cases g with
  |true =>
   simp only[Af];refine Oper.C6b (ai o ac) (a3.exec a0 a2) ?_
   grind
  |false =>
   simp only[I0,Fx];obtain⟨rfl,rfl,hb⟩:=a3.no rfl;refine⟨λ_ _=>trivial,ab S β _ _ ?_⟩;refine(a0.put (pg:=[]) a2 a0.inv (C4.refl S w) (.tuple [] [] rfl (by simp)) (λ_ _=>rfl)).sub λk c hk=>?_
   grind[Pe,Tx]
def A0.D4w{id:Nat}{ops:Array Oper}(is:Nat->GI)(B:Array Nat)(ks:List Nat)(J:P.follows .mixedOrders=true)(O:Vu ops is B=true)(hd:Ef n ops.toList=true)
  (h:L3 P n ops ((List.range ops.size).map (Vo ops is)) sl bx (KE λsl' bx'=>Q .normal (Vh ks sl') (Ri ks bx'))):A0 ro P n (.region id ops true) Q sl bx:=by
 intro C S w β a hs;refine wpIn_region_any J ?_;refine G8i (P:=P) (F6v O) (A3w hd) (B6h hd) (λsl' bx' S' w' β' U L E=>⟨_,_,S',β',L,E.W3 ks ks⟩) ops.size _ a _ (by simp) ?_ ?_ ⟨List.range ops.size,sl,bx,S,β,List.pairwise_lt_range,λj=>?_,h,?_⟩
 .grind[left,List.countP_le_length]
 .intro i o V I;simp[Array.getD]at I
 .simp_all
 .exact⟨(hs.inv.grow (w':={ w with drawn:=w.drawn+1 }) (λ_ h=>h) (λ_ h=>.inl h) hs.inv.Bw (λ_ _=>rfl) rfl rfl rfl (Bs _)).1,hs.size,hs.defers.ext ⟨λ_ h=>h,λ_ _=>rfl⟩,λt=>(hs.slot t).ext ⟨λ_ h=>h,λ_ _=>rfl⟩ (λ_ _=>rfl)⟩
def G2:List Ip->Ip
 |[]=>⟨[],[],[],[]⟩
 |z::_=>z
def A3g:List Nat->SV->Bool
 |[],_=>true
 |k::r,x=>!x.has k && A3g r x
def A7w:List Nat->Aq->Bool
 |[],_=>true
 |k::r,x=>!x.has k && A7w r x
def Y9(m h:List Nat):Ab->Bool
 |[]=>true
 |(k,c)::r=>(!Rt k m ||(c.real && A7w h c)) && Y9 m h r
def A0r:List Nat->List Nat->Bool
 |[],_=>true
 |k::r,m=>Rt k m && A0r r m
def A2a:List Nat->List Nat->Bool
 |[],_=>true
 |k::r,m=>!Rt k m && A2a r m
def E6e{x:SV}:∀{h:List Nat},A3g h x=true->∀q,q∈h->x.has q=false
 |[],_,q,hq=>by grind
 |k::r,e,q,hq=>by
  simp only[A3g,Bb,Js]at e;rcases B1.1 hq with rfl|hq
  .grind
  .exact E6e e.2 q hq
theorem E0b{x:Aq}:∀{h:List Nat},A7w h x=true->∀q,q∈h->x.has q=false
 |[],_,q,hq=>by grind
 |k::r,e,q,hq=>by
  simp only[A7w,Bb,Js]at e;rcases B1.1 hq with rfl|hq
  .grind
  .exact E0b e.2 q hq
def B8x{m h:List Nat}:∀{bx:Ab},Y9 m h bx=true->∀k c,k∈m->(k,c)∈bx->c.real=true/\∀q,q∈h->c.has q=false
 |[],_,k,c,_,hc=>by grind
 |(j,x)::r,e,k,c,E,hc=>by
  simp only[Y9,Bb,Vp,Js]at e;rcases B1.1 hc with I|hc
  .grind[A1t,E0b]
  .exact B8x e.2 k c E hc
def C7d{m:List Nat}:∀{l:List Nat},A0r l m=true->∀k,k∈l->k∈m
 |[],_,k,hk=>by grind
 |j::r,e,k,hk=>by
  simp only[A0r,Bb]at e;rcases B1.1 hk with rfl|hk
  .exact A1t.1 e.1
  .exact C7d e.2 k hk
def D0h{m:List Nat}:∀{l:List Nat},A2a l m=true->∀k,k∈l->k∉m
 |[],_,k,hk=>by grind
 |j::r,e,k,hk=>by
  simp only[A2a,Bb,Js]at e;rcases B1.1 hk with rfl|hk
  .grind[A1t]
  .exact D0h e.2 k hk
def Tf(m p h q:List Nat)(bx:Ab)(r:SV)(bx':Ab)(pg:List Nat):Prop :=
 A2a m h=true/\A0r pg p=true/\A0r p m=true/\Hu m bx'=Hu m (Hu h bx)/\Y9 m q bx=true/\Y9 m q bx'=true/\A3g q r=true/\Y9 h pg bx=true
def Tf.cond{z:Ip}{r:SV}{bx':Ab}{pg:List Nat}(c:Tf z.m z.p z.h z.q bx r bx' pg):Ym z bx r bx' pg:=by
 obtain⟨J,L,U,Z,I,E,V,O⟩:=c;refine⟨D0h J,C7d L,C7d U,λk c W=>?_,B8x I,B8x E,E6e V,B8x O⟩;have h1:=Pe (ks:=z.m) (k:=k) (c:=c) (bx:=bx')
 grind[Pe]
def B6t(h:List Nat):∀bx:Ab,Y9 [] h bx=true
 |[]=>rfl
 |(k,c)::r=>by rw[Y9,Rt,B6t h r];rfl
def I8(P:Program)(own:List Nat)(ops:Array Oper):List Oper->List Ip->SL->Ab->(SL->Ab->Prop)->Prop
 |[],_,sl,bx,K=>K sl bx
 |o::os,is,sl,bx,K=>match o.guard with
  |none=>Hq P own o.dst (G1 (G2 is).q sl) (Hu (G2 is).h bx) o.op λr bx' pg=>Tf (G2 is).m (G2 is).p (G2 is).h (G2 is).q bx r bx' pg/\I8 P own ops os is.tail (Fy (G1 pg sl) o.dst r) (bx'++bin (G2 is).h bx) K
  |some (j,E)=>match Pk ops j with
   |some t=>match Ae sl t with
    |.d (.bool b)=>Rh b E (Hq P own o.dst (G1 (G2 is).q sl) (Hu (G2 is).h bx) o.op λr bx' pg=>Tf (G2 is).m (G2 is).p (G2 is).h (G2 is).q bx r bx' pg/\I8 P own ops os is.tail (Fy (G1 pg sl) o.dst r) (bx'++bin (G2 is).h bx) K)
     (Tf (G2 is).m (G2 is).p (G2 is).h (G2 is).q bx (.tuple []) (Hu (G2 is).h bx) []/\I8 P own ops os is.tail (Fy sl o.dst (.tuple [])) (Hu (G2 is).h bx++bin (G2 is).h bx) K)
    |.tuple []=>Tf (G2 is).m (G2 is).p (G2 is).h (G2 is).q bx (.tuple []) (Hu (G2 is).h bx) []/\I8 P own ops os is.tail (Fy sl o.dst (.tuple [])) (Hu (G2 is).h bx++bin (G2 is).h bx) K
    |_=>False
   |none=>False
section
variable (P:Program) (own:List Nat) (ops:Array Oper) (os:List Oper) (is:List Ip) (sl:SL) (bx:Ab) (dst:Option Nat) (op:Op) (z:Ip) (m p h q:List Nat) (K:SL->Ab->Prop)
def A9k:KB:=λr bx' pg=>Tf z.m z.p z.h z.q bx r bx' pg/\I8 P own ops os is (Fy (G1 pg sl) dst r) (bx'++bin z.h bx) K
def opG:Prop:=Hq P own dst (G1 z.q sl) (Hu z.h bx) op (A9k P own ops os is sl bx dst z K)
def A1i:Prop:=Tf z.m z.p z.h z.q bx (.tuple []) (Hu z.h bx) []/\I8 P own ops os is (Fy sl dst (.tuple [])) (Hu z.h bx++bin z.h bx) K
def Xh(E b:Bool):Prop:=Rh b E (opG P own ops os is sl bx dst op z K) (A1i P own ops os is sl bx dst z K)
def C9e(E:Bool):SV->Prop
 |.d (.bool b)=>Xh P own ops os is sl bx dst op z K E b
 |.tuple []=>A1i P own ops os is sl bx dst z K
 |_=>False
def C8t(E:Bool):Option Nat->Prop
 |some t=>C9e P own ops os is sl bx dst op z K E (Ae sl t)
 |none=>False
variable (ty:TypeId) (pos:String) (after:Array Edge)
def G3a:I8 P own ops [] is sl bx K=K sl bx:=by rfl
def H4b:I8 P own ops (⟨dst,op,ty,pos,after,none⟩::os) is sl bx K=opG P own ops os is.tail sl bx dst op (G2 is) K:=by rfl
def H1w(j:Nat)(E:Bool):I8 P own ops (⟨dst,op,ty,pos,after,some (j,E)⟩::os) is sl bx K=C8t P own ops os is.tail sl bx dst op (G2 is) K E (Pk ops j):=by rfl
def H4u:opG P own ops os is sl bx dst op ⟨m,p,[],[]⟩ K=Hq P own dst sl bx op (A9k P own ops os is sl bx dst ⟨m,p,[],[]⟩ K):=by rw[opG,A1r];rfl
def G2t(k:Nat)(h q:List Nat):opG P own ops os is sl bx dst op ⟨m,p,k::h,q⟩ K=Hq P own dst (G1 q sl) (Hu (k::h) bx) op (A9k P own ops os is sl bx dst ⟨m,p,k::h,q⟩ K):=rfl
def G3u(r:SV):A9k P own ops os is sl bx dst ⟨[],[],[],[]⟩ K r bx []=I8 P own ops os is (Fy sl dst r) bx K:=by simp only[A9k,Tf,A2a,A0r,B6t,A3g,A1r,A3m,Fj,G1,Qi]
def F5x(r:SV)(bx':Ab)(pg:List Nat):A9k P own ops os is sl bx dst ⟨m,p,h,q⟩ K r bx' pg=(Tf m p h q bx r bx' pg/\I8 P own ops os is (Fy (G1 pg sl) dst r) (bx'++bin h bx) K):=rfl
def G0j:A1i P own ops os is sl bx dst ⟨[],[],[],[]⟩ K=I8 P own ops os is (Fy sl dst (.tuple [])) bx K:=by simp only[A1i,Tf,A2a,A0r,B6t,A3g,A1r,A3m,Fj,Qi]
def F7b:A1i P own ops os is sl bx dst ⟨m,p,h,q⟩ K=(Tf m p h q bx (.tuple []) (Hu h bx) []/\I8 P own ops os is (Fy sl dst (.tuple [])) (Hu h bx++bin h bx) K):=rfl
def G9o(E b:Bool):C9e P own ops os is sl bx dst op z K E (.d (.bool b))=Xh P own ops os is sl bx dst op z K E b:=rfl
def G7t(E:Bool):C9e P own ops os is sl bx dst op z K E (.tuple [])=A1i P own ops os is sl bx dst z K:=rfl
def G2q:Xh P own ops os is sl bx dst op z K true true=opG P own ops os is sl bx dst op z K:=by simp[Xh,Rh]
def H0f:Xh P own ops os is sl bx dst op z K false false=opG P own ops os is sl bx dst op z K:=by simp[Xh,Rh]
def F0c:Xh P own ops os is sl bx dst op z K true false=A1i P own ops os is sl bx dst z K:=by simp[Xh,Rh]
def G3j:Xh P own ops os is sl bx dst op z K false true=A1i P own ops os is sl bx dst z K:=by simp[Xh,Rh]
def Wz:SL->Ab->Prop:=λsl bx=>Fa P own ops os sl bx K
def F1v:Wz P own ops os K sl bx=Fa P own ops os sl bx K:=rfl
end
def Su:List Oper->List Ip->List (Oper × GI)
 |[],_=>[]
 |o::os,is=>(o,some (G2 is))::Su os is.tail
def B2r{own:List Nat}{ops:Array Oper}{R:List (Oper × GI)}{K V:SL->Ab->Prop}(I:∀sl bx,K sl bx->L3 P n ops R sl bx V):∀(os:List Oper)(is:List Ip)(sl:SL)(bx:Ab),Ef n os=true ->
  I8 P own ops os is sl bx K->L3 P n ops (Su os is++R) sl bx V
 |[],is,sl,bx,_,h=>by rw[I8]at h;exact I sl bx h
 |o::os,is,sl,bx,hd,h=>by
  simp only[Ef,Qv,Bb]at hd;rw[I8]at h;obtain⟨g,U,W,Z⟩:=E4e h;have E:=A3w (n:=n) (ops:=[o]) (by simp[Ef,hd.1]) o (by simp);cases g with
  |true =>obtain⟨r,bx',pg,q1,J,O⟩:=E5w (W rfl);exact⟨true,r,bx',pg,U,E,⟨λ_=>q1,(λh=>by cases h),λz L=>by cases L;exact J.cond⟩,B2r I os _ _ _ hd.2 O⟩
  |false =>obtain⟨J,O⟩:=Z rfl;exact⟨false,.tuple [],_,[],U,E,⟨(λh=>by cases h),λ_=>⟨rfl,rfl,λ_ _=>Iff.rfl⟩,λz L=>by cases L;exact J.cond⟩,B2r I os _ _ _ hd.2 O⟩
def Xu.gen{ops:Array Oper}{K:SL->Ab->Prop}:∀(os:List Oper)(sl:SL)(bx:Ab),Xu P n ops os sl bx K->L3 P n ops (os.map λo=>(o,none)) sl bx (KE K)
 |[],sl,bx,h=>⟨sl,bx,h,λ_=>rfl,λ_ _=>Iff.rfl⟩
 |o::os,sl,bx,⟨g,I,J,U,L⟩=>by
  cases g with
  |true =>obtain⟨r,bx',pg,V,O⟩:=U rfl;exact⟨true,r,bx',pg,I,J,⟨λ_=>by rw[show GI.h none=[] from rfl,A1r];exact V,(λh=>by cases h),(λz E=>by cases E)⟩,by rw[show GI.h (o,(none:GI)).2=[] from rfl,A3m,Fj];exact Xu.gen os _ _ O⟩
  |false=>exact⟨false,.tuple [],bx,[],I,J,⟨(λh=>by cases h),λ_=>⟨rfl,rfl,λ_ _=>by grind[GI.h,A1r]⟩,(λz E=>by cases E)⟩,by rw[show GI.h (o,(none:GI)).2=[] from rfl,A3m,Fj];exact Xu.gen os _ _ (L rfl)⟩
def Wx(m:Nat)(is:List Ip)(j:Nat):GI:=if j<m then some (G2 (is.drop j))else none
def E7k:∀(os:List Oper)(is:List Ip)(j:Nat),(Su os is)[j]?=(os[j]?).map λo=>(o,some (G2 (is.drop j)))
 |[],is,j=>by rfl
 |o::os,is,0=>by rfl
 |o::os,is,j+1=>by rw[Su,Ai7,E7k,Ai7];simp
theorem B2m:∀(os:List Oper)(is:List Ip),(Su os is).length=os.length
 |[],_=>rfl
 |_::os,is=>by rw[Su,Bg,B2m,Bg]
def E6m(ops:Array Oper)(m:Nat)(is:List Ip):(List.range ops.size).map (Vo ops (Wx m is))=Su (ops.toList.take m) is++(ops.toList.drop m).map λo=>(o,none):=by
 apply Ld;intro j;rw[Df];by_cases I:j<ops.size
 .have hr:(List.range ops.size)[j]?=some j:=by rw[Am0 I]
  have J:ops.toList[j]?=some (ops.getD j default):=by simp[Array.getD,I]
  rw[hr,Ez];unfold Vo Wx;by_cases E:j<m
  .rw[A8 E,L4 (by rw[B2m];grind),E7k,Ak4,A8 E,J];rfl
  .rw[A6 E,Kd (by rw[B2m];grind),B2m,Df,Wn,show m+(j - (ops.toList.take m).length)=j by grind,J];rfl
 grind[B2m]
def A0.E0v{id:Nat}{ops:Array Oper}(ks own:List Nat)(m:Nat)(is:List Ip)(U:P.follows .mixedOrders=true)(V:Vu ops (Wx m is) (Region.before ops)=true)(hd:Ef n ops.toList=true)
  (h:I8 P own ops (ops.toList.take m) is sl bx (Wz P own ops (ops.toList.drop m) (He ks (Q .normal)))):A0 ro P n (.region id ops true) Q sl bx:=by
 have I:Ef n (ops.toList.take m)=true:=by unfold Ef at*;rw[Dm]at*;exact λo E=>hd o (Ji E)
 have J:Ef n (ops.toList.drop m)=true:=by unfold Ef at*;rw[Dm]at*;exact λo E=>hd o (Zz E)
 refine A0.D4w _ _ ks U V hd ?_;rw[E6m];exact B2r (λL O h=>(A5i _ _ _ J h).gen) _ _ _ _ I h
def A0.D9k{id:Nat}{ops:Array Oper}{y:Code}(ks own:List Nat)(m:Nat)(is:List Ip)(I:P.follows .mixedOrders=true)(E:Vu ops (Wx m is) (Region.before ops)=true)(hd:Ef n ops.toList=true)
  (h:∀K:SL->Ab->Prop,(∀sl' bx',A0 ro P n y Q sl' bx'->K sl' bx')->I8 P own ops (ops.toList.take m) is sl bx (Wz P own ops (ops.toList.drop m) (He ks K))):A0 ro P n (.seq (.region id ops true) y) Q sl bx :=
 A0.seq (A0.E0v ks own m is I E hd (h _ λ_ _ h=>h))
def A0.F3o{id:Nat}{ops:Array Oper}(ks own:List Nat)(m:Nat)(is:List Ip)(I:P.follows .mixedOrders=true)(E:Vu ops (Wx m is) (Region.before ops)=true)(hd:Ef n ops.toList=true)
  (h:∀K:SL->Ab->Prop,(∀sl' bx',Q .normal sl' bx'->K sl' bx')->I8 P own ops (ops.toList.take m) is sl bx (Wz P own ops (ops.toList.drop m) (He ks K))):A0 ro P n (.region id ops true) Q sl bx :=
 A0.E0v ks own m is I E hd (h _ λ_ _ h=>h)
end Go.Abs
