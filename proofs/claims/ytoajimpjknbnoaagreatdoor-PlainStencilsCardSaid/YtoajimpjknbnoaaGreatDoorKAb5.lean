import Derived.Test.YtoajimpjknbnoaaGreatDoorKAb4
set_option linter.all false
namespace Go.iA
open Go
variable {ro:Option Nat} {P:Program} {n:Nat} {Q:Exit->SL->Ac->Prop} {sl:SL} {bx:Ac} {o:Oper} {ρ:Iq}
def aF(k:Nat):Ac->Bool
 |[]=>false
 |(j,c)::r=>j ==k ||c.has k ||aF k r
def GQ{k:Nat}:∀{bx:Ac},aF k bx=false->∀j c,(j,c)∈bx->j≠k/\c.has k=false
 |[],_,j,c,h=>by grind
 |(i,x)::r,h,j,c,hm=>by simp only[aF,DJ,BW]at h;rcases Ay.1 hm with E|hm;grind;exact GQ h.2 j c hm
def U1(k:Nat):List Nat->Bool
 |[]=>false
 |j::r=>k ==j ||U1 k r
theorem wE{k:Nat}:∀{l:List Nat},U1 k l=true↔k∈l
 |[]=>by simp[U1]
 |j::r=>by simp[U1,wE]
def Ie(ks:List Nat):Ac->Ac
 |[]=>[]
 |(k,c)::r=>if U1 k ks=true then Ie ks r else(k,c)::Ie ks r
def bin(ks:List Nat):Ac->Ac
 |[]=>[]
 |(k,c)::r=>if U1 k ks=true then(k,c)::bin ks r else bin ks r
theorem Qv{ks:List Nat}{k:Nat}{c:Ax}:∀{bx:Ac},(k,c)∈Ie ks bx↔k∉ks/\(k,c)∈bx
 |[]=>by simp[Ie]
 |(j,x)::r=>by rw[Ie];by_cases h:U1 j ks=true;have I:=wE.1 h;rw[A7 h,Qv,Ay,Gg];grind;have I:j∉ks:=λE=>h (wE.2 E);rw[A5 h,Ay,Qv,Ay,Gg];grind
theorem Wf{ks:List Nat}{k:Nat}{c:Ax}:∀{bx:Ac},(k,c)∈bin ks bx↔k∈ks/\(k,c)∈bx
 |[]=>by simp[bin]
 |(j,x)::r=>by rw[bin];by_cases h:U1 j ks=true;have I:=wE.1 h;rw[A7 h,Ay,Wf,Ay,Gg];grind;have I:j∉ks:=λE=>h (wE.2 E);rw[A5 h,Wf,Ay,Gg];grind
theorem IE:∀bx:Ac,Ie [] bx=bx
 |[]=>rfl
 |(k,c)::r=>by rw[Ie,U1,A5 (by decide),IE r]
theorem mF:∀bx:Ac,bin [] bx=[]
 |[]=>rfl
 |(k,c)::r=>by rw[bin,U1,A5 (by decide),mF r]
def Sx:List Nat->SV->SV
 |[],x=>x
 |k::ks,x=>Sx ks (Nr k x)
def Sr:∀(ks:List Nat)(sl:SL)(t:Nat),Ae (H0 ks sl) t=Sx ks (Ae sl t)
 |[],_,_=>rfl
 |k::ks,sl,t=>by rw[H0,Sr ks,KJ];rfl
theorem tH:∀(ks:List Nat)(x:SV),(Sx ks x=x/\∀q,q∈ks->x.has q=false)\/(Sx ks x=.undef/\∃q,q∈ks/\x.has q=true)
 |[],x=>.inl ⟨rfl,by simp⟩
 |k::ks,x=>by rw[Sx];unfold Nr;by_cases h:x.has k=true;rw[A7 h];refine .inr ⟨?_,k,by simp,h⟩;rcases tH ks .undef with h|h <;> grind;rw[A5 h];rcases tH ks x with⟨I,E⟩|⟨I,q,E,J⟩;grind;grind
def OW{ks:List Nat}{x:SV}(h:∀q,q∈ks->x.has q=false):Sx ks x=x:=by grind[tH]
def G3f{a b:List Nat}(h:∀k,k∈b->k∈a)(x:SV):Sx a (Sx b x)=Sx a x:=by grind[tH]
def F9x(a b:List Nat)(x:SV):Sx a (Sx b x)=Sx b (Sx a x):=by grind[tH]
def ND(sl:SL)(d:Option Nat)(r:SV)(t:Nat):Ae (Gt sl d r) t=if d=some t then r else Ae sl t:=by
 cases d with
 |none=>rfl
 |some u=>simp[Gt,Ae]
def C1.congr{I:Iq}{E bx':Ac}{r:SV}{pg:List Nat}(h:C1 P o ρ bx r bx' pg)(L:∀k c,(k,c)∈bx->(k,c)∈E)(V:∀x,x∈o.op.operands->I x =ρ x):C1 P o I E r bx' pg :=λC S w β a J O=>h C S w β a (J.sub L) λx U=>by grind
def wm(β:Names)(F:Ac)(b:Nat):Prop:=∃k c,(k,c)∈F/\(β k).base=some b
def C1.vz{r:SV}{bx':Ac}{pg:List Nat}(h:C1 P o ρ bx r bx' pg)(F:Ac)(hF:∀k c,(k,c)∈F->c.real=true/\k∉pg/\(∀q,q∈pg->c.has q=false)/\(∀x,(k,x) ∉bx)/\∀x,(k,x) ∉bx')
  (hG:∀k Y st,(k,Ax.ghost Y st)∈bx'->(k,Ax.ghost Y st)∈bx){C:Ctx}{S:Nat->Prop}{w:World}{β:Names}{a:Act}(J:Inv C S w β (F++bx))(ha:∀x,x∈o.op.operands->An S w β (ρ x) (a.eval x)) :
  o.wpx P a w (λa' w'=>∃v S' β',a'=a.put o.dst v/\Inv C S' w' β' (F++bx')/\Cg S w S' w'/\An S' w' β' r v/\∀k,k∉pg->β' k =β k):=by
 have I:∀{j:Nat} {x:Ax},(j,x)∈bx->(j,x)∈F++bx:=λh=>Bj.2 (.inr h);have V:∀{j:Nat} {x:Ax},(j,x)∈F->(j,x)∈F++bx:=λh=>Bj.2 (.inl h);have a7:∀{j:Nat} {x:Ax} {b:Nat},(j,x)∈bx->(β j).base=some b->¬wm β F b:=λhj Z ⟨k,c,hk,O⟩=>by obtain⟨rfl,_⟩:=J.inj _ _ _ _ (V hk) (I hj) _ O Z;grind
 have a5:Inv ⟨w,S,λb=>¬S b/\(C.pre b\/C.w0.heap.size<=b)/\¬wm β F b,C.bI,C.G⟩ S w β bx:={
  G7:=λ_ O=>O,F9:=λ_ O=>.inl O,C9:=J.C9,kept:=λ_ _ _=>rfl,os:=rfl,tape:=rfl,output:=rfl,size:=Bv _,
  box:=λj x hj=>J.box j x (I hj)
  Bk:=λj x hj b O=>⟨(J.Bk j x (I hj) b O).1,(J.Bk j x (I hj) b O).2.1,.inl ⟨(J.Bk j x (I hj) b O).1,(J.Bk j x (I hj) b O).2.2,a7 hj O⟩⟩
  inj:=λj x j' x' hj hj'=>J.inj j x j' x' (I hj) (I hj')
  Ek:=J.Ek
  one:=λj Y st j' Y' st' hj hj'=>J.one j Y st j' Y' st' (I hj) (I hj')
  Gf:=λj Y st hj=>by obtain⟨Z,h2,h3,h4,B,h5,h6⟩:=J.Gf j Y st (I hj);exact⟨Z,h2,Cy h3 J.size,λW c' hk'=>h4 W c' (I hk'),B,h5,λb O=>⟨(h6 b O).1,(h6 b O).2.1,.inl ⟨(h6 b O).1,(h6 b O).2.2.1,λ⟨k,c,hk,E⟩=>(h6 b O).2.2.2 k c (V hk) E⟩,λW c' hk'=>(h6 b O).2.2.2 W c' (I hk')⟩⟩
  fix:=J.fix }
 refine fB (h _ S w β a a5 ha) ?_;rintro a' w' ⟨v,S',β',rfl,U,he,hv,O⟩;have aa:w.heap.size<=w'.heap.size:=U.size;have a8:=J.size;have a1:∀k c,(k,c)∈F->β' k =β k:=λk c hk=>O k (hF k c hk).2.1;have a3:∀k c b,(k,c)∈F->(β k).base=some b->b<w.heap.size:=λk c b hk E=>(J.Bk k c (V hk) b E).2.1;have a9:∀k c W c' b,(k,c)∈F->(W,c')∈bx'->(β k).base=some b->(β' W).base≠some b:=λk c W c' b hk hk' Z h2=>by rcases(U.Bk W c' hk' b h2).2.2 with h|h;exact h.2.2 ⟨k,c,hk,Z⟩;grind
 have L:∀{k c},(k,c)∈F++bx'->(k,c)∈F\/(k,c)∈bx':=λhm=>Bj.1 hm;have a2:∀k Y st,(k,Ax.ghost Y st)∈F++bx'->(k,Ax.ghost Y st)∈bx'/\(k,Ax.ghost Y st)∈bx:=λk Y st hm=>by grind[Ax.real]
 refine⟨v,S',β',rfl,?_,he,hv,O⟩;exact{
  G7:=λb E=>U.G7 b (J.G7 b E)
  F9:=λb E=>by
   rcases U.F9 b E with h|h|h
   .exact J.F9 b h
   .grind
   grind
  C9:=U.C9
  kept:=λb E hp=>by
   refine(U.kept b (X0 E J.size) ?_).trans (J.kept b E hp)
   grind
  os:=U.os.trans J.os
  tape:=U.tape.trans J.tape
  output:=U.output.trans J.output
  size:=Cy J.size U.size
  box:=λj x hj=>by
   rcases L hj with hj|hj
   .rw[a1 j x hj];exact(J.box j x (V hj)).ext he (λb E=>U.kept b (a3 j x b hj E) λh=>h.2.2 ⟨j,x,hj,E⟩) (λq hq=>O q λhp=>by grind)
   .exact U.box j x hj
  Bk:=λj x hj b E=>by
   rcases L hj with hj|hj
   .rw[a1 j x hj]at E;obtain⟨g1,g2,g3⟩:=J.Bk j x (V hj) b E;refine⟨λhs=>?_,X0 g2 U.size,g3⟩;rcases U.F9 b hs with h|h|h
    .grind
    .exact h.2.2 ⟨j,x,hj,E⟩
    grind
   .refine⟨(U.Bk j x hj b E).1,(U.Bk j x hj b E).2.1,?_⟩;rcases(U.Bk j x hj b E).2.2 with h|h
    .grind
    grind
  inj:=λj x j' x' hj hj' b Z h2=>by
   rcases L hj with hj|hj
   .rw[a1 j x hj]at Z;rcases L hj' with hj' |hj'
    .rw[a1 j' x' hj']at h2;exact J.inj j x j' x' (V hj) (V hj') b Z h2
    grind
   .rcases L hj' with hj' |hj'
    .grind
    .exact U.inj j x j' x' hj hj' b Z h2
  Ek:=U.Ek
  one:=λj Y st j' Y' st' hj hj'=>J.one j Y st j' Y' st' (I (a2 _ _ _ hj).2) (I (a2 _ _ _ hj').2)
  Gf:=λj Y st hj=>by
   obtain⟨a6,a4⟩:=a2 _ _ _ hj;obtain⟨Z,h2,_,h4,B,h5,h6⟩:=U.Gf j Y st a6;obtain⟨_,_,f3,f4,_⟩:=J.Gf j Y st (I a4);refine⟨Z,h2,f3,λW c' hk' b E=>?_,B,h5,λb E=>⟨(h6 b E).1,(h6 b E).2.1,?_,λW c' hk' a0=>?_⟩⟩
   .grind
   .grind
   .rcases L hk' with hk' |hk'
    .rw[a1 W c' hk']at a0;rcases(h6 b E).2.2.1 with h|h
     .exact h.2.2 ⟨W,c',hk',a0⟩
     grind
    grind
  fix:=U.fix }
structure Ji where
 m:List Nat
 p:List Nat
 h:List Nat
 q:List Nat
abbrev ga:List Ji:=[⟨[],[],[],[]⟩,⟨[],[],[],[]⟩,⟨[],[],[],[]⟩,⟨[],[],[],[]⟩,⟨[],[],[],[]⟩,⟨[],[],[],[]⟩,⟨[],[],[],[]⟩,⟨[],[],[],[]⟩,⟨[],[],[],[]⟩,⟨[],[],[6],[]⟩,⟨[],[],[6],[]⟩,⟨[],[],[6],[]⟩,⟨[],[],[6],[]⟩,⟨[],[],[6],[]⟩,⟨[],[],[6],[]⟩,⟨[],[],[6],[]⟩,⟨[],[],[6],[]⟩,⟨[6],[],[],[]⟩]
abbrev gc:List Ji:=[⟨[],[],[9,10],[9,10]⟩,⟨[],[],[9,10],[9,10]⟩,⟨[],[],[9,10],[9,10]⟩,⟨[],[],[9,10],[9,10]⟩,⟨[],[],[9,10],[9,10]⟩,⟨[],[],[9,10],[9,10]⟩,⟨[],[],[9,10],[9,10]⟩,⟨[],[],[9,10],[9,10]⟩,⟨[],[],[9,10],[9,10]⟩,⟨[9],[9],[10],[10]⟩,⟨[10],[10],[9],[9]⟩,⟨[9],[],[],[]⟩]
abbrev gf:List Ji:=[⟨[],[],[21],[21]⟩,⟨[],[],[21],[21]⟩,⟨[],[],[21],[21]⟩,⟨[],[],[21],[21]⟩,⟨[],[],[21],[21]⟩,⟨[],[],[21],[21]⟩,⟨[],[],[21],[21]⟩,⟨[],[],[21],[21]⟩,⟨[],[],[21],[21]⟩,⟨[21],[21],[],[]⟩,⟨[21],[],[],[]⟩]
abbrev gg:List Ji:=[⟨[],[],[9],[9]⟩,⟨[],[],[9],[9]⟩,⟨[],[],[9],[9]⟩,⟨[],[],[9],[9]⟩,⟨[],[],[9],[9]⟩,⟨[],[],[9],[9]⟩,⟨[],[],[9],[9]⟩,⟨[],[],[9],[9]⟩,⟨[],[],[9],[9]⟩,⟨[],[],[9],[9]⟩,⟨[],[],[9],[9]⟩,⟨[],[],[9],[9]⟩,⟨[],[],[9],[9]⟩,⟨[],[],[9],[9]⟩,⟨[],[],[9],[9]⟩,⟨[],[],[9],[9]⟩,⟨[9],[9],[],[]⟩]
abbrev gh:List Ji:=[⟨[],[],[6],[6]⟩,⟨[],[],[6],[6]⟩,⟨[],[],[6],[6]⟩,⟨[],[],[6],[6]⟩,⟨[],[],[6],[6]⟩,⟨[],[],[6],[6]⟩,⟨[],[],[6],[6]⟩,⟨[],[],[6],[6]⟩,⟨[],[],[6],[6]⟩,⟨[6],[6],[],[]⟩,⟨[6],[],[],[]⟩]
abbrev gi:List Ji:=[⟨[],[],[11],[11]⟩,⟨[],[],[11],[11]⟩,⟨[],[],[11],[11]⟩,⟨[],[],[11],[11]⟩,⟨[],[],[11],[11]⟩,⟨[],[],[11],[11]⟩,⟨[],[],[11],[11]⟩,⟨[],[],[11],[11]⟩,⟨[],[],[11],[11]⟩,⟨[],[],[11],[11]⟩,⟨[],[],[11],[11]⟩,⟨[],[],[11],[11]⟩,⟨[],[],[11],[11]⟩,⟨[11],[11],[],[]⟩]
abbrev gj:List Ji:=[⟨[],[],[12],[12]⟩,⟨[],[],[12],[12]⟩,⟨[],[],[12],[12]⟩,⟨[],[],[12],[12]⟩,⟨[],[],[12],[12]⟩,⟨[],[],[12],[12]⟩,⟨[],[],[12],[12]⟩,⟨[],[],[12],[12]⟩,⟨[],[],[12],[12]⟩,⟨[12],[12],[],[]⟩,⟨[12],[],[],[]⟩]
abbrev gk:List Ji:=[⟨[],[],[3],[3]⟩,⟨[],[],[3],[3]⟩,⟨[],[],[3],[3]⟩,⟨[],[],[3],[3]⟩,⟨[],[],[3],[3]⟩,⟨[],[],[3],[3]⟩,⟨[],[],[3],[3]⟩,⟨[],[],[3],[3]⟩,⟨[],[],[3],[3]⟩,⟨[],[],[3],[3]⟩,⟨[3],[3],[],[]⟩]
abbrev gl:List Ji:=[⟨[],[],[],[]⟩,⟨[],[],[],[]⟩,⟨[],[],[],[]⟩,⟨[],[],[],[]⟩,⟨[],[],[],[]⟩,⟨[900,2000003],[900,2000003],[],[]⟩,⟨[],[],[2000003],[]⟩,⟨[900],[],[2000003],[]⟩,⟨[2000003],[],[900],[]⟩]
abbrev gm:List Ji:=[⟨[],[],[],[]⟩,⟨[],[],[],[]⟩,⟨[],[],[4],[]⟩,⟨[4],[],[],[]⟩]
abbrev gp:List Ji:=[⟨[],[],[5],[5]⟩,⟨[],[],[5],[5]⟩,⟨[],[],[5],[5]⟩,⟨[],[],[5],[5]⟩,⟨[],[],[5],[5]⟩,⟨[],[],[5],[5]⟩,⟨[],[],[5],[5]⟩,⟨[],[],[5],[5]⟩,⟨[5],[5],[],[]⟩]
abbrev gq:List Ji:=[⟨[],[],[5],[5]⟩,⟨[],[],[5],[5]⟩,⟨[],[],[5],[5]⟩,⟨[],[],[5],[5]⟩,⟨[],[],[5],[5]⟩,⟨[900,901],[900,901],[5],[5]⟩,⟨[5],[5],[900,901],[900,901]⟩]
abbrev gr:List Ji:=[⟨[],[],[],[]⟩,⟨[],[],[4],[]⟩,⟨[4],[],[],[]⟩]
abbrev GI:=Option Ji
def GI.h:GI->List Nat
 |some z=>z.h
 |none=>[]
def GI.q:GI->List Nat
 |some z=>z.q
 |none=>[]
structure WD(z:Ji)(bx:Ac)(r:SV)(bx':Ac)(pg:List Nat):Prop where
 dis:∀k,k∈z.m->k∉z.h
 pgs:∀k,k∈pg->k∈z.p
 pm:∀k,k∈z.p->k∈z.m
 rest:∀k c,k∉z.m->((k,c)∈bx'↔k∉z.h/\(k,c)∈bx)
 Hk:∀k c,k∈z.m->(k,c)∈bx->c.real=true/\∀q,q∈z.q->c.has q=false
 new:∀k c,k∈z.m->(k,c)∈bx'->c.real=true/\∀q,q∈z.q->c.has q=false
 res:∀q,q∈z.q->r.has q=false
 hid:∀k c,k∈z.h->(k,c)∈bx->c.real=true/\∀q,q∈pg->c.has q=false
structure lE(P:Program)(o:Oper)(i:GI)(g:Bool)(sl:SL)(bx:Ac)(r:SV)(bx':Ac)(pg:List Nat):Prop where
 yes:g=true->C1 P o (Aq (H0 i.q sl)) (Ie i.h bx) r bx' pg
 no:g=false->r=.tuple []/\pg=[]/\∀k c,(k,c)∈bx'↔(k,c)∈Ie i.h bx
 cond:∀z,i=some z->WD z bx r bx' pg
def Mb(P:Program)(n:Nat)(ops:Array Oper):List (Oper × GI)->SL->Ac->(SL->Ac->Prop)->Prop
 |[],sl,bx,K=>K sl bx
 |x::os,sl,bx,K=>∃g r bx' pg,Vh ops sl x.1=some g/\Sj n x.1.dst/\lE P x.1 x.2 g sl bx r bx' pg/\Mb P n ops os (Gt (H0 pg sl) x.1.dst r) (bx'++bin x.2.h bx) K
def TY(sl:SL)(bx:Ac)(sl':SL)(bx':Ac):Prop:=(∀t,Ae sl t=Ae sl' t)/\∀k c,(k,c)∈bx↔(k,c)∈bx'
def KE(K:SL->Ac->Prop):SL->Ac->Prop:=λsl bx=>∃sl' bx',K sl' bx'/\TY sl bx sl' bx'
def Oo{sl sl':SL}{x:Operand}(h:∀t,x=.tmp t->Ae sl t=Ae sl' t):Aq sl x=Aq sl' x:=by
 cases x with
 |tmp t=>exact h t rfl
 |_=>rfl
def Mb.congr{ops:Array Oper}{K:SL->Ac->Prop}:∀(os:List (Oper × GI)) {sl sl':SL} {bx bx':Ac},TY sl bx sl' bx'->Mb P n ops os sl bx (KE K)->Mb P n ops os sl' bx' (KE K)
 |[],sl,sl',bx,bx',e,⟨s,b,h,O,L⟩=>⟨s,b,h,λt=>(e.1 t).symm.trans (O t),λk c=>(e.2 k c).symm.trans (L k c)⟩
 |x::os,sl,sl',bx,bx',e,⟨g,r,b,pg,O,L,J,V⟩=>by
  refine⟨g,r,b,pg,(G8j λ_ _ t _ _=>(e.1 t).symm).trans O,L,⟨λI=>(J.yes I).congr (λk c E=>Qv.2 ⟨(Qv.1 E).1,(e.2 k c).1 (Qv.1 E).2⟩) λy _=>Oo λt _=>by rw[Sr,Sr,e.1],λI=>⟨(J.no I).1,(J.no I).2.1,λk c=>((J.no I).2.2 k c).trans (by rw[Qv,Qv,e.2])⟩,λz W=>?_⟩,Mb.congr os ⟨λt=>by rw[ND,ND,Sr,Sr,e.1],λk c=>by rw[Bj,Bj,Wf,Wf,e.2]⟩ V⟩
  have c:=J.cond z W;exact⟨c.dis,c.pgs,c.pm,λk x E=>(c.rest k x E).trans (by rw[e.2]),λk x E U=>c.Hk k x E ((e.2 k x).2 U),c.new,c.res,λk x E U=>c.hid k x E ((e.2 k x).2 U)⟩
structure kJ(z1 z2:Ji):Prop where
 m:∀k,k∈z1.m->k∈z2.h
 p:∀k,k∈z1.p->k∈z2.q
structure Un(ops:Array Oper)(x y:Oper × GI):Prop where
 u1:∀t,x.1.dst=some t->t∉TI ops y.1
 u2:∀t,y.1.dst=some t->t∉TI ops x.1
 d:∀t,x.1.dst=some t->y.1.dst≠some t
 i:∃z1 z2,x.2=some z1/\y.2=some z2/\kJ z1 z2/\kJ z2 z1
def WD.out{z:Ji}{r:SV}{bx':Ac}{pg:List Nat}(c:WD z bx r bx' pg){k:Nat}{x:Ax}(E:k∉z.m):(k,x)∈bx'++bin z.h bx↔(k,x)∈bx:=by rw[Bj,c.rest k x E,Wf];grind
def WD.move{O V:Ji}{r1 r2:SV}{U a0:Ac}{pg1 W:List Nat}(J:WD O bx r1 U pg1)(e1:kJ O V)(e2:kJ V O) :WD V (U++bin O.h bx) r2 a0 W↔WD V bx r2 a0 W:=by
 constructor;intro c;have d:∀k,k∈V.m->k∉O.m:=λk I E=>c.dis k I (e1.m k E);refine⟨c.dis,c.pgs,c.pm,λk x I=>(c.rest k x I).trans (and_congr_right λhh=>J.out λE=>hh (e1.m k E)),λk x I L=>c.Hk k x I ((J.out (d k I)).2 L),c.new,c.res,λk x I L=>?_⟩;by_cases E:k∈O.m;exact⟨(J.Hk k x E L).1,λq hq=>(J.Hk k x E L).2 q (e2.p q (c.pgs q hq))⟩;exact c.hid k x I ((J.out E).2 L)
 .intro c;have d:∀k,k∈V.m->k∉O.m:=λk I E=>c.dis k I (e1.m k E);refine⟨c.dis,c.pgs,c.pm,λk x I=>(c.rest k x I).trans (and_congr_right λhh=>(J.out λE=>hh (e1.m k E)).symm),λk x I L=>c.Hk k x I ((J.out (d k I)).1 L),c.new,c.res,λk x I L=>?_⟩;by_cases E:k∈O.m
  .have Z:(k,x)∈U:=by rcases Bj.1 L with h|h;exact h;exact absurd (Wf.1 h).1 (J.dis k E)
   exact⟨(J.new k x E Z).1,λq hq=>(J.new k x E Z).2 q (e2.p q (c.pgs q hq))⟩
  exact c.hid k x I ((J.out E).1 L)
def H4s{pg h:List Nat}(e:∀k,k∈pg->k∈h){d:Option Nat}{r:SV}{t:Nat}(ht:d≠some t)(sl:SL):Ae (H0 h (Gt (H0 pg sl) d r)) t=Ae (H0 h sl) t:=by rw[Sr,ND,A5 ht,Sr,Sr,G3f e]
def lE.move{g:Bool}{U I:Ji}{r1 r2:SV}{J V:Ac}{pg1 L:List Nat}{d1:Option Nat}{ops:Array Oper}(c1:WD U bx r1 J pg1)(Z:kJ U I)(e2:kJ I U)(hu:∀t,d1=some t->t∉TI ops o) :lE P o (some I) g (Gt (H0 pg1 sl) d1 r1) (J++bin U.h bx) r2 V L↔lE P o (some I) g sl bx r2 V L:=by
 have hs:∀x,x∈o.op.operands->Aq (H0 I.q (Gt (H0 pg1 sl) d1 r1)) x=Aq (H0 I.q sl) x:=λx W=>Oo λt ht=>H4s (λk O=>Z.p k (c1.pgs k O)) (λhd=>hu t hd (G2e (ht ▸ W))) sl;have hb:∀k c,(k,c)∈Ie I.h (J++bin U.h bx)↔(k,c)∈Ie I.h bx:=λk c=>by rw[Qv,Qv];exact and_congr_right λhh=>c1.out λa0=>hh (Z.m k a0)
 exact⟨λh=>⟨λE=>(h.yes E).congr (λk c O=>(hb k c).1 O) λx W=>(hs x W).symm,λE=>⟨(h.no E).1,(h.no E).2.1,λk c=>((h.no E).2.2 k c).trans (hb k c)⟩,λz hz=>by cases hz;exact(c1.move Z e2).1 (h.cond _ rfl)⟩,λh=>⟨λE=>(h.yes E).congr (λk c O=>(hb k c).2 O) λx W=>hs x W,λE=>⟨(h.no E).1,(h.no E).2.1,λk c=>((h.no E).2.2 k c).trans (hb k c).symm⟩,λz hz=>by cases hz;exact(c1.move Z e2).2 (h.cond _ rfl)⟩⟩
def zY{ops:Array Oper}{s I:SL}{pg:List Nat}(h:∀t,t∈TI ops o->Ae I t=Sx pg (Ae s t)):Vh ops I o=Vh ops s o:=by
 unfold Vh;cases J:o.guard with
 |none=>rfl
 |some O =>
  obtain⟨j,E⟩:=O;simp only;cases L:R7 ops j with
  |none=>rfl
  |some t =>simp only[h t (ny J L)];grind[tH,SV.has,SV.Mh]
def Mb.swap{ops:Array Oper}{K:SL->Ac->Prop}{x y:Oper × GI}{R:List (Oper × GI)}(u:Un ops x y)(h:Mb P n ops (x::y::R) sl bx (KE K)):Mb P n ops (y::x::R) sl bx (KE K):=by obtain⟨g1,r1,J,pg1,a1,a2,a3,g2,r2,L,O,b1,b2,b3,hR⟩:=h;obtain⟨z1,z2,i1,i2,e1,Z⟩:=u.i;obtain⟨o1,i⟩:=x;obtain⟨o2,j⟩:=y;simp only at i1 i2;subst i1;subst i2;have U:=a3.cond _ rfl;have W:=(lE.move U e1 Z u.u1).1 b3;have V:=W.cond _ rfl;have a0:=(lE.move (pg1:=O) (d1:=o2.dst) V Z e1 u.u2).2 a3;refine⟨g2,r2,L,O,(zY (pg:=pg1) λt ht=>?_).symm.trans b1,b2,W,g1,r1,J,pg1,(zY (pg:=O) λt ht=>?_).trans a1,a2,a0,Mb.congr R ⟨λt=>?_,λk c=>?_⟩ hR⟩;rw[ND,A5 λhd=>u.u1 t hd ht,Sr];rw[ND,A5 λhd=>u.u2 t hd ht,Sr];rw[ND,Sr,ND,Sr,ND,Sr,ND,Sr];by_cases I:o2.dst=some t;rw[A7 I,A7 I,A5 λE=>u.d t E I,OW λq hq=>V.res q (e1.p q (U.pgs q hq))];rw[A5 I,A5 I];by_cases E:o1.dst=some t;rw[A7 E,A7 E,OW λq hq=>U.res q (Z.p q (V.pgs q hq))];rw[A5 E,A5 E,F9x];show(k,c)∈L++bin z2.h (J++bin z1.h bx)↔(k,c)∈J++bin z1.h (L++bin z2.h bx);by_cases k1:k∈z1.m;have n1:=U.dis k k1;have k2:=e1.m k k1;have n2:k∉z2.m:=λhh=>n1 (Z.m k hh);have:=V.rest k c n2;simp[Wf,k2,n1,this];by_cases k2:k∈z2.m;have n2:=V.dis k k2;have:=U.rest k c k1;simp[Wf,Z.m k k2,n2,this];have q1:=U.rest k c k1;have q2:=V.rest k c k2;grind[Wf]
def Mb.front{ops:Array Oper}{K:SL->Ac->Prop}:∀(E:List (Oper × GI)) {I:List (Oper × GI)} {y:Oper × GI} {sl:SL} {bx:Ac},(∀x,x∈E->Un ops x y)->Mb P n ops (E++y::I) sl bx (KE K)->Mb P n ops (y::(E++I)) sl bx (KE K)
 |[],I,y,sl,bx,_,h=>h
 |x::E,I,y,sl,bx,J,⟨g,r,b,pg,U,O,L,h⟩=>Mb.swap (J x (by simp)) ⟨g,r,b,pg,U,O,L,Mb.front E (λz V=>J z (by grind)) h⟩
def St.sub{C:Ctx}{S:Nat->Prop}{w:World}{β:Names}{a:Act}{bx':Ac}(h:St C n S w β a sl bx)(hs:∀k c,(k,c)∈bx'->(k,c)∈bx):St C n S w β a sl bx':=⟨h.inv.sub hs,h.size,h.defers,h.slot⟩
def lE.exec{C:Ctx}{S:Nat->Prop}{w:World}{β:Names}{a:Act}{i:GI}{r:SV}{bx':Ac}{pg:List Nat}(h:lE P o i true sl bx r bx' pg)(hs:St C n S w β a sl bx)(hd:Sj n o.dst) :o.wpx P a w λW w'=>∃S' β',St C n S' w' β' W (Gt (H0 pg sl) o.dst r) (bx'++bin i.h bx):=by
 have ho:=h.yes rfl;have Z:∀x,x∈o.op.operands->An S w β (Aq (H0 i.q sl) x) (a.eval x):=λx _=>by
  have:=hs.Aq x;cases x with
  |tmp t =>show An S w β (Ae (H0 i.q sl) t) _;rw[Sr];rcases tH i.q (Ae sl t)with⟨e,_⟩|⟨e,_⟩ <;> rw[e];exact this;exact .undef _
  |_=>exact this
 cases i with
 |none =>refine fB (ho C S w β a (hs.inv.sub λk c E=>(Qv.1 E).2) Z) ?_;rintro W w' ⟨v,S',β',rfl,I,O,L,U⟩;exact⟨S',β',(hs.put hd I O L U).sub λk c E=>by grind[GI.h,mF]⟩
 |some z =>have c:=h.cond z rfl;refine fB (ho.vz (bin z.h bx) (λk x E=>?_) (λk Y st E=>?_) (hs.inv.sub λk x E=>?_) Z) ?_;obtain⟨k1,k2⟩:=Wf.1 E;have km:k∉z.m:=λJ=>c.dis k J k1;exact⟨(c.hid k x k1 k2).1,λhp=>km (c.pm k (c.pgs k hp)),(c.hid k x k1 k2).2,λy V=>(Qv.1 V).1 k1,λy V=>((c.rest k y km).1 V).1 k1⟩;by_cases J:k∈z.m;have:=(c.new k _ J E).1;simp[Ax.real]at this;exact Qv.2 ((c.rest k _ J).1 E);grind[Wf,Qv];rintro W w' ⟨v,S',β',rfl,I,O,L,U⟩;exact⟨S',β',(hs.put hd I O L U).sub λk c E=>Bj.2 (Bj.1 E).symm⟩
def gUn(ops:Array Oper)(x y:Oper × GI):Bool:=match x.2,y.2 with
 |some E,some I=>(match x.1.dst with|some t=>!(TI ops y.1).contains t && y.1.dst !=some t|none=>true) && (match y.1.dst with|some t=>!(TI ops x.1).contains t|none=>true) && E.m.all (λk=>I.h.contains k) && I.m.all (λk=>E.h.contains k) && E.p.all (λk=>I.q.contains k) && I.p.all (λk=>E.q.contains k)
 |_,_=>false
def F9t{ops:Array Oper}{x y:Oper × GI}(h:gUn ops x y=true):Un ops x y:=by unfold gUn at h;split at h;rename_i V J E L;simp only[Bh,Dz,EJ]at h;obtain⟨⟨⟨⟨⟨Z,g2⟩,I⟩,W⟩,U⟩,O⟩:=h;refine⟨λt ht=>?_,λt ht=>?_,λt ht=>?_,V,J,E,L,⟨I,U⟩,⟨W,O⟩⟩;grind;grind;grind;grind
def Xt(ops:Array Oper)(is:Nat->GI)(j:Nat):Oper × GI:=(ops.getD j default,is j)
def Xf(ops:Array Oper)(is:Nat->GI)(B:Array Nat):Bool :=((List.range ops.size).all λi=>(ops.getD i default).after.toList.all λe=>!Region.binds .any e ||decide (e.on<i)) &&
 ((List.range ops.size).all λi=>(List.range ops.size).all λj=>!(B.getD i 0).testBit j ||((ops.getD i default).after.toList.any λe=>Region.binds .any e && (e.on ==j ||(B.getD e.on 0).testBit j))) &&
 ((List.range ops.size).all λi=>(List.range i).all λj=>(B.getD i 0).testBit j ||gUn ops (Xt ops is j) (Xt ops is i))
structure KW(ops:Array Oper)(is:Nat->GI):Prop where
 back:∀(i:Nat) (o:Oper),ops[i]?=some o->∀e,e∈o.after->Region.binds .any e=true->e.on<i
 un:∀(X:Nat->Prop),(∀(i:Nat) (o:Oper),ops[i]?=some o->X i->∀e,e∈o.after->Region.binds .any e=true->X e.on) ->∀(i:Nat) (o:Oper),ops[i]?=some o->(∀e,e∈o.after->Region.binds .any e=true->X e.on)->∀j,j<i->¬X j->Un ops (Xt ops is j) (Xt ops is i)
def Ow{ops:Array Oper}{is:Nat->GI}{B:Array Nat}(h:Xf ops is B=true):KW ops is:=by
 unfold Xf at h;simp only[Bh,Dz,wJ,U7,Lu,Array.mem_toList_iff,Di]at h;obtain⟨⟨h2,h5⟩,h6⟩:=h;have I:∀{i:Nat} {o:Oper},ops[i]?=some o->i<ops.size/\ops.getD i default=o:=by intro i o L;obtain⟨E,he⟩:=U6.1 L;exact⟨E,by simp_all⟩
 have O:∀(i:Nat) (o:Oper),ops[i]?=some o->∀e,e∈o.after->Region.binds .any e=true->e.on<i:=by intro i o L e he hb;obtain⟨E,U⟩:=I L;rcases h2 i E e (by grind)with h|h;grind;exact h
 refine⟨O,?_⟩;intro X hX i o L J j W a1;have key:∀(k i:Nat) (o:Oper),i<=k->ops[i]?=some o->(∀e,e∈o.after->Region.binds .any e=true->X e.on)->∀j,j<ops.size->(B.getD i 0).testBit j=true->X j:=by
  intro k
  induction k with
  |zero =>intro i o a3 L J j W hb;obtain⟨E,U⟩:=I L;have:=(h5 i E j W).resolve_left (by grind);rw[List.any_eq_true]at this;grind
  |succ k ih =>
   intro i o a3 L J j W hb;obtain⟨E,U⟩:=I L;have:=(h5 i E j W).resolve_left (by grind);rw[List.any_eq_true]at this;obtain⟨e,he,V⟩:=this;rw[U]at he;simp only[Bh,U7,W8]at V;have a0:=J e (by grind) V.1;rcases V.2 with h|h;grind;have a5:=O i o L e (by grind) V.1;have Z:ops[e.on]?=some ops[e.on]:=Zk (by omega);exact ih e.on ops[e.on] (by omega) Z (λe' a2 a4=>hX e.on _ Z a0 e' a2 a4) j W h
 obtain⟨E,U⟩:=I L;rcases h6 i E j W with h|h;exact absurd (key i i o (Bv _) L J j (by omega) h) a1;exact F9t h
def H8b{C:Ctx}{ops:Array Oper}{is:Nat->GI}{QQ:Exit->Act->World->Prop}{K:SL->Ac->Prop}(hd:KW ops is)(af:∀o,o∈ops.toList->Sj n o.dst)(ao:∀o,o∈ops.toList->vF o=true)
  (hK:∀sl bx S w β a,K sl bx->St C n S w β a sl bx->QQ .normal a w) :
  ∀(I:Nat) (E:Array Bool) (a:Act) (w:World),E.size=ops.size->left ops.size E<=I -> (∀(i:Nat) (o:Oper),ops[i]?=some o->E.getD i false=true->∀e,e∈o.after->Region.binds .any e=true->E.getD e.on false=true) -> (∃(L:List Nat) (sl:SL) (bx:Ac) (S:Nat->Prop) (β:Names),L.Pairwise (· < ·)/\(∀j,j∈L↔j<ops.size/\E.getD j false=false)/\Mb P n ops (L.map (Xt ops is)) sl bx (KE K)/\St C n S w β a sl bx) ->wpAnyIn (FW ro) 0 P .any ops QQ I E a w:=by
 have a8:∀(E:Array Bool) (a:Act) (w:World),(∀i,i<ops.size->E.getD i false=true) ->(∃(L:List Nat) (sl:SL) (bx:Ac) (S:Nat->Prop) (β:Names),L.Pairwise (· < ·)/\(∀j,j∈L↔j<ops.size/\E.getD j false=false)/\Mb P n ops (L.map (Xt ops is)) sl bx (KE K)/\St C n S w β a sl bx)->QQ .normal a w:=by
  rintro E a w a0 ⟨L,sl,bx,S,β,_,hL,hR,hs⟩;have:L=[]:=yq.2 λj hj=>by grind
  subst this;obtain⟨sl',bx',h1,h2,h3⟩:=hR;exact hK sl' bx' S w β a h1 ⟨hs.inv.sub λk c hk=>(h3 k c).2 hk,hs.size,hs.defers,λt=>h2 t ▸ hs.slot t⟩
 have J:∀E:Array Bool,E.size=ops.size->Region.ready .any ops E=[]->∀i,i<ops.size->E.getD i false=true:=by
  intro E hs hr i
  induction i using Nat.strongRecOn with
  |_ i ih =>
   intro hi;cases hl:E.getD i false with
   |true=>rfl
   |false =>
    exfalso;have:i∈Region.ready .any ops E:=by rw[mem_ready];refine⟨?_,ops[i],Zk hi,λe he hb=>?_⟩;grind;have ae:=hd.back i _ (Zk hi) e he hb;grind
    grind
 intro I
 induction I with
 |zero =>
  intro E a w hs ab Z U;have a0:∀i,i<ops.size->E.getD i false=true:=by
   intro i hi;cases hl:E.getD i false with
   |true=>rfl
   |false =>grind[left,List.countP_pos_iff]
  have O:Region.ready .any ops E=[]:=by
   rw[yq];intro i hi;rw[mem_ready]at hi;obtain⟨h1,o,ho,_⟩:=hi;have ae:=(U6.1 ho).1;have:=a0 i ae;have ai:i<E.size:=by omega
   simp[Array.getD,ai]at this h1;rw[this]at h1;simp at h1
  exact⟨O,a8 E a w a0 U⟩
 |succ I ih =>
  intro E a w hs ab Z U;refine⟨λO=>a8 E a w (J E hs O) U,?_⟩;intro i hi;rw[mem_ready]at hi;obtain⟨a9,o,ho,ag⟩:=hi;have V:i<ops.size:=(U6.1 ho).1;have ah:i<E.size:=by omega
  have a5:E.getD i false=false:=by simp[Array.getD,ah]at a9 |-;exact a9
  have a6:left ops.size (E.setIfInBounds i true)<=I:=by have:=G6k hs V a5;omega
  have am:∀j,(E.setIfInBounds i true).getD j false=true↔(j=i\/E.getD j false=true):=by intro j;by_cases hj:i=j;simp_all;rw[getD_set_ne false hj];grind
  have a7:∀(k:Nat) (o':Oper),ops[k]?=some o'->(E.setIfInBounds i true).getD k false=true->∀e,e∈o'.after->Region.binds .any e=true->(E.setIfInBounds i true).getD e.on false=true:=by
   intro k o' ar hk e he hb;rw[am]at hk |-;rcases hk with rfl|hk
   grind;grind
  have ac:o∈ops.toList:=by have:=Array.mem_of_getElem? ho;simpa using this
  have ak:ops.getD i default=o:=by simp[Array.getD,V,(U6.1 ho).2]
  simp only[wpOpIn,ho];obtain⟨L,sl,bx,S,β,hp,hL,hR,a4⟩:=U;obtain⟨R1,R2,rfl⟩:=List.append_of_mem ((hL i).2 ⟨V,a5⟩);rw[Gy,Cj]at hR;have ad:=sN.1 hp;have aq:=Tm.1 ad.2.1;obtain⟨g,r,bx',pg,a1,a2,a3,W⟩:=Mb.front _ (λx hx=>by obtain⟨j,hj,rfl⟩:=Ap.1 hx;exact hd.un (λj=>E.getD j false=true) Z i o ho ag j (ad.2.2 j hj i (by simp)) (by grind)) hR
  rw[show(Xt ops is i).1=o from ak]at a1 a2 a3 W;rw[<-Gy]at W;have aa:∀(S':Nat->Prop) (β':Names) (a':Act) (w':World),St C n S' w' β' a' (Gt (H0 pg sl) o.dst r) (bx'++bin (Xt ops is i).2.h bx)->wpAnyIn (FW ro) 0 P .any ops QQ I (E.setIfInBounds i true) a' w':=λS' β' a' w' aj =>
   ih _ _ _ (by grind) a6 a7 ⟨R1++R2,_,_,S',β',hp.sublist ((List.Sublist.refl R1).append (List.sublist_cons_self i R2)),λj=>by grind,W,aj⟩
  have hw:=BV (a:=a) (S:=S) (w:=w) (β:=β) (λt ht=>by obtain⟨j,ap,_,hj⟩:=ht;exact⟨a4.slot t,by rw[a4.size];exact oU af hj⟩) a1
  rw[hw];cases g with
  |true =>simp only[Av];refine gB (ao o ac) (a3.exec a4 a2) ?_;grind
  |false =>simp only[Iu,Gi];obtain⟨rfl,rfl,hb⟩:=a3.no rfl;refine⟨λ_ _=>trivial,aa S β _ _ ?_⟩;refine(a4.put (pg:=[]) a2 a4.inv (Cg.refl S w) (.tuple [] [] rfl (by simp)) (λ_ _=>rfl)).sub λk c hk=>?_;grind[Qv,Wf]
def XB{id:Nat}{ops:Array Oper}(is:Nat->GI)(B:Array Nat)(ks:List Nat)(L:P.follows .mixedOrders=true)(J:Xf ops is B=true)(hd:F6 n ops.toList=true)
  (h:Mb P n ops ((List.range ops.size).map (Xt ops is)) sl bx (KE λsl' bx'=>Q .normal (Xs ks sl') (Tz ks bx'))):A0 ro P n (.region id ops true) Q sl bx:=by intro C S w β a hs;refine wpIn_region_any L ?_;refine H8b (P:=P) (Ow J) (JH hd) (nQ hd) (λsl' bx' S' w' β' V I E=>⟨_,_,S',β',I,E.Xi ks ks⟩) ops.size _ a _ (by simp) ?_ ?_ ⟨List.range ops.size,sl,bx,S,β,List.pairwise_lt_range,λj=>?_,h,?_⟩;grind[left,List.countP_le_length];intro i o U O;simp[Array.getD]at O;simp_all;exact⟨(hs.inv.grow (w':={ w with drawn:=w.drawn+1 }) (λ_ h=>h) (λ_ h=>.inl h) hs.inv.C9 (λ_ _=>rfl) rfl rfl rfl (Bv _)).1,hs.size,hs.defers.ext ⟨λ_ h=>h,λ_ _=>rfl⟩,λt=>(hs.slot t).ext ⟨λ_ h=>h,λ_ _=>rfl⟩ (λ_ _=>rfl)⟩
def H2:List Ji->Ji
 |[]=>⟨[],[],[],[]⟩
 |z::_=>z
def RE:List Nat->SV->Bool
 |[],_=>true
 |k::r,x=>!x.has k && RE r x
def oJ:List Nat->Ax->Bool
 |[],_=>true
 |k::r,x=>!x.has k && oJ r x
def Z9(m h:List Nat):Ac->Bool
 |[]=>true
 |(k,c)::r=>(!U1 k m ||(c.real && oJ h c)) && Z9 m h r
def UD:List Nat->List Nat->Bool
 |[],_=>true
 |k::r,m=>U1 k m && UD r m
def xF:List Nat->List Nat->Bool
 |[],_=>true
 |k::r,m=>!U1 k m && xF r m
def o7{x:SV}:∀{h:List Nat},RE h x=true->∀q,q∈h->x.has q=false
 |[],_,q,hq=>by grind
 |k::r,e,q,hq=>by simp only[RE,Bh,Lu]at e;rcases Ay.1 hq with rfl|hq;grind;exact o7 e.2 q hq
theorem O9{x:Ax}:∀{h:List Nat},oJ h x=true->∀q,q∈h->x.has q=false
 |[],_,q,hq=>by grind
 |k::r,e,q,hq=>by simp only[oJ,Bh,Lu]at e;rcases Ay.1 hq with rfl|hq;grind;exact O9 e.2 q hq
def YQ{m h:List Nat}:∀{bx:Ac},Z9 m h bx=true->∀k c,k∈m->(k,c)∈bx->c.real=true/\∀q,q∈h->c.has q=false
 |[],_,k,c,_,hc=>by grind
 |(j,x)::r,e,k,c,E,hc=>by simp only[Z9,Bh,U7,Lu]at e;rcases Ay.1 hc with I|hc;grind[wE,O9];exact YQ e.2 k c E hc
def WV{m:List Nat}:∀{l:List Nat},UD l m=true->∀k,k∈l->k∈m
 |[],_,k,hk=>by grind
 |j::r,e,k,hk=>by simp only[UD,Bh]at e;rcases Ay.1 hk with rfl|hk;exact wE.1 e.1;exact WV e.2 k hk
def sf{m:List Nat}:∀{l:List Nat},xF l m=true->∀k,k∈l->k∉m
 |[],_,k,hk=>by grind
 |j::r,e,k,hk=>by simp only[xF,Bh,Lu]at e;rcases Ay.1 hk with rfl|hk;grind[wE];exact sf e.2 k hk
def V0(m p h q:List Nat)(bx:Ac)(r:SV)(bx':Ac)(pg:List Nat):Prop :=xF m h=true/\UD pg p=true/\UD p m=true/\Ie m bx'=Ie m (Ie h bx)/\Z9 m q bx=true/\Z9 m q bx'=true/\RE q r=true/\Z9 h pg bx=true
def V0.cond{z:Ji}{r:SV}{bx':Ac}{pg:List Nat}(c:V0 z.m z.p z.h z.q bx r bx' pg):WD z bx r bx' pg:=by obtain⟨L,O,I,Z,E,J,V,U⟩:=c;refine⟨sf L,WV O,WV I,λk c hk=>?_,YQ E,YQ J,o7 V,YQ U⟩;have W:=Qv (ks:=z.m) (k:=k) (c:=c) (bx:=bx');grind[Qv]
def KQ(h:List Nat):∀bx:Ac,Z9 [] h bx=true
 |[]=>rfl
 |(k,c)::r=>by rw[Z9,U1,KQ h r];rfl
def J1(P:Program)(own:List Nat)(ops:Array Oper):List Oper->List Ji->SL->Ac->(SL->Ac->Prop)->Prop
 |[],_,sl,bx,K=>K sl bx
 |o::os,is,sl,bx,K=>match o.guard with
  |none=>Ib P own o.dst (H0 (H2 is).q sl) (Ie (H2 is).h bx) o.op λr bx' pg=>V0 (H2 is).m (H2 is).p (H2 is).h (H2 is).q bx r bx' pg/\J1 P own ops os is.tail (Gt (H0 pg sl) o.dst r) (bx'++bin (H2 is).h bx) K
  |some (j,E)=>match R7 ops j with
   |some t=>match Ae sl t with
    |.d (.bool b)=>T9 b E (Ib P own o.dst (H0 (H2 is).q sl) (Ie (H2 is).h bx) o.op λr bx' pg=>V0 (H2 is).m (H2 is).p (H2 is).h (H2 is).q bx r bx' pg/\J1 P own ops os is.tail (Gt (H0 pg sl) o.dst r) (bx'++bin (H2 is).h bx) K) (V0 (H2 is).m (H2 is).p (H2 is).h (H2 is).q bx (.tuple []) (Ie (H2 is).h bx) []/\J1 P own ops os is.tail (Gt sl o.dst (.tuple [])) (Ie (H2 is).h bx++bin (H2 is).h bx) K)
    |.tuple []=>V0 (H2 is).m (H2 is).p (H2 is).h (H2 is).q bx (.tuple []) (Ie (H2 is).h bx) []/\J1 P own ops os is.tail (Gt sl o.dst (.tuple [])) (Ie (H2 is).h bx++bin (H2 is).h bx) K
    |_=>False
   |none=>False
section
variable (P:Program) (own:List Nat) (ops:Array Oper) (os:List Oper) (is:List Ji) (sl:SL) (bx:Ac) (dst:Option Nat) (op:Op) (z:Ji) (m p h q:List Nat) (K:SL->Ac->Prop)
def aI:KB:=λr bx' pg=>V0 z.m z.p z.h z.q bx r bx' pg/\J1 P own ops os is (Gt (H0 pg sl) dst r) (bx'++bin z.h bx) K
def opG:Prop:=Ib P own dst (H0 z.q sl) (Ie z.h bx) op (aI P own ops os is sl bx dst z K)
def VF:Prop:=V0 z.m z.p z.h z.q bx (.tuple []) (Ie z.h bx) []/\J1 P own ops os is (Gt sl dst (.tuple [])) (Ie z.h bx++bin z.h bx) K
def Zs(E b:Bool):Prop:=T9 b E (opG P own ops os is sl bx dst op z K) (VF P own ops os is sl bx dst z K)
def wU(E:Bool):SV->Prop
 |.d (.bool b)=>Zs P own ops os is sl bx dst op z K E b
 |.tuple []=>VF P own ops os is sl bx dst z K
 |_=>False
def PS(E:Bool):Option Nat->Prop
 |some t=>wU P own ops os is sl bx dst op z K E (Ae sl t)
 |none=>False
variable (ty:TypeId) (pos:String) (after:Array Edge)
def G9u:J1 P own ops [] is sl bx K=K sl bx:=by rfl
def F4z:J1 P own ops (⟨dst,op,ty,pos,after,none⟩::os) is sl bx K=opG P own ops os is.tail sl bx dst op (H2 is) K:=by rfl
def F7r(j:Nat)(E:Bool):J1 P own ops (⟨dst,op,ty,pos,after,some (j,E)⟩::os) is sl bx K=PS P own ops os is.tail sl bx dst op (H2 is) K E (R7 ops j):=by rfl
def G7o:opG P own ops os is sl bx dst op ⟨m,p,[],[]⟩ K=Ib P own dst sl bx op (aI P own ops os is sl bx dst ⟨m,p,[],[]⟩ K):=by rw[opG,IE];rfl
def fx(k:Nat)(h q:List Nat):opG P own ops os is sl bx dst op ⟨m,p,k::h,q⟩ K=Ib P own dst (H0 q sl) (Ie (k::h) bx) op (aI P own ops os is sl bx dst ⟨m,p,k::h,q⟩ K):=rfl
def H1t(r:SV):aI P own ops os is sl bx dst ⟨[],[],[],[]⟩ K r bx []=J1 P own ops os is (Gt sl dst r) bx K:=by simp only[aI,V0,xF,UD,KQ,RE,IE,mF,Fv,H0,Qx]
def G7a(r:SV)(bx':Ac)(pg:List Nat):aI P own ops os is sl bx dst ⟨m,p,h,q⟩ K r bx' pg=(V0 m p h q bx r bx' pg/\J1 P own ops os is (Gt (H0 pg sl) dst r) (bx'++bin h bx) K):=rfl
def G4d:VF P own ops os is sl bx dst ⟨[],[],[],[]⟩ K=J1 P own ops os is (Gt sl dst (.tuple [])) bx K:=by simp only[VF,V0,xF,UD,KQ,RE,IE,mF,Fv,Qx]
def G5q:VF P own ops os is sl bx dst ⟨m,p,h,q⟩ K=(V0 m p h q bx (.tuple []) (Ie h bx) []/\J1 P own ops os is (Gt sl dst (.tuple [])) (Ie h bx++bin h bx) K):=rfl
def H8i(E b:Bool):wU P own ops os is sl bx dst op z K E (.d (.bool b))=Zs P own ops os is sl bx dst op z K E b:=rfl
def mx(E:Bool):wU P own ops os is sl bx dst op z K E (.tuple [])=VF P own ops os is sl bx dst z K:=rfl
def G1s:Zs P own ops os is sl bx dst op z K true true=opG P own ops os is sl bx dst op z K:=by simp[Zs,T9]
def vw:Zs P own ops os is sl bx dst op z K false false=opG P own ops os is sl bx dst op z K:=by simp[Zs,T9]
def vu:Zs P own ops os is sl bx dst op z K true false=VF P own ops os is sl bx dst z K:=by simp[Zs,T9]
def F8g:Zs P own ops os is sl bx dst op z K false true=VF P own ops os is sl bx dst z K:=by simp[Zs,T9]
def rC:SL->Ac->Prop:=λsl bx=>G0 P own ops os sl bx K
def fu:rC P own ops os K sl bx=G0 P own ops os sl bx K:=rfl
end
def Uq:List Oper->List Ji->List (Oper × GI)
 |[],_=>[]
 |o::os,is=>(o,some (H2 is))::Uq os is.tail
def XL{own:List Nat}{ops:Array Oper}{R:List (Oper × GI)}{K U:SL->Ac->Prop}(I:∀sl bx,K sl bx->Mb P n ops R sl bx U):∀(os:List Oper)(is:List Ji)(sl:SL)(bx:Ac),F6 n os=true ->J1 P own ops os is sl bx K->Mb P n ops (Uq os is++R) sl bx U
 |[],is,sl,bx,_,h=>by rw[J1]at h;exact I sl bx h
 |o::os,is,sl,bx,hd,h=>by
  simp only[F6,Qa,Bh]at hd;rw[J1]at h;obtain⟨g,V,Z,h3⟩:=og h;have E:=JH (n:=n) (ops:=[o]) (by simp[F6,hd.1]) o (by simp);cases g with
  |true =>obtain⟨r,bx',pg,W,L,O⟩:=BY (Z rfl);exact⟨true,r,bx',pg,V,E,⟨λ_=>W,(λh=>by cases h),λz J=>by cases J;exact L.cond⟩,XL I os _ _ _ hd.2 O⟩
  |false =>obtain⟨L,O⟩:=h3 rfl;exact⟨false,.tuple [],_,[],V,E,⟨(λh=>by cases h),λ_=>⟨rfl,rfl,λ_ _=>Iff.rfl⟩,λz J=>by cases J;exact L.cond⟩,XL I os _ _ _ hd.2 O⟩
def Zz.gen{ops:Array Oper}{K:SL->Ac->Prop}:∀(os:List Oper)(sl:SL)(bx:Ac),Zz P n ops os sl bx K->Mb P n ops (os.map λo=>(o,none)) sl bx (KE K)
 |[],sl,bx,h=>⟨sl,bx,h,λ_=>rfl,λ_ _=>Iff.rfl⟩
 |o::os,sl,bx,⟨g,J,I,V,O⟩=>by
  cases g with
  |true =>obtain⟨r,bx',pg,L,U⟩:=V rfl;exact⟨true,r,bx',pg,J,I,⟨λ_=>by rw[show GI.h none=[] from rfl,IE];exact L,(λh=>by cases h),(λz E=>by cases E)⟩,by rw[show GI.h (o,(none:GI)).2=[] from rfl,mF,Fv];exact Zz.gen os _ _ U⟩
  |false=>exact⟨false,.tuple [],bx,[],J,I,⟨(λh=>by cases h),λ_=>⟨rfl,rfl,λ_ _=>by grind[GI.h,IE]⟩,(λz E=>by cases E)⟩,by rw[show GI.h (o,(none:GI)).2=[] from rfl,mF,Fv];exact Zz.gen os _ _ (O rfl)⟩
def pC(m:Nat)(is:List Ji)(j:Nat):GI:=if j<m then some (H2 (is.drop j))else none
def tb:∀(os:List Oper)(is:List Ji)(j:Nat),(Uq os is)[j]?=(os[j]?).map λo=>(o,some (H2 (is.drop j)))
 |[],is,j=>by rfl
 |o::os,is,0=>by rfl
 |o::os,is,j+1=>by rw[Uq,WC,tb,WC];simp
theorem oM:∀(os:List Oper)(is:List Ji),(Uq os is).length=os.length
 |[],_=>rfl
 |_::os,is=>by rw[Uq,Bg,oM,Bg]
def x8(ops:Array Oper)(m:Nat)(is:List Ji):(List.range ops.size).map (Xt ops (pC m is))=Uq (ops.toList.take m) is++(ops.toList.drop m).map λo=>(o,none):=by
 apply Kx;intro j;rw[Df];by_cases I:j<ops.size
 .have hr:(List.range ops.size)[j]?=some j:=by rw[HG I]
  have J:ops.toList[j]?=some (ops.getD j default):=by simp[Array.getD,I]
  rw[hr,Em];unfold Xt pC;by_cases E:j<m;rw[A7 E,Mm (by rw[oM];grind),tb,tE,A7 E,J];rfl;rw[A5 E,Lq (by rw[oM];grind),oM,Df,Y0,show m+(j - (ops.toList.take m).length)=j by grind,J];rfl
 grind[oM]
def UB{id:Nat}{ops:Array Oper}(ks own:List Nat)(m:Nat)(is:List Ji)(V:P.follows .mixedOrders=true)(L:Xf ops (pC m is) (Region.before ops)=true)(hd:F6 n ops.toList=true)
  (h:J1 P own ops (ops.toList.take m) is sl bx (rC P own ops (ops.toList.drop m) (I1 ks (Q .normal)))):A0 ro P n (.region id ops true) Q sl bx:=by
 have J:F6 n (ops.toList.take m)=true:=by unfold F6 at*;rw[Dz]at*;exact λo I=>hd o (Kv I)
 have E:F6 n (ops.toList.drop m)=true:=by unfold F6 at*;rw[Dz]at*;exact λo I=>hd o (SC I)
 refine XB _ _ ks V L hd ?_;rw[x8];exact XL (λO U h=>(sH _ _ _ E h).gen) _ _ _ _ J h
def WB{id:Nat}{ops:Array Oper}{y:Code}(ks own:List Nat)(m:Nat)(is:List Ji)(I:P.follows .mixedOrders=true)(E:Xf ops (pC m is) (Region.before ops)=true)(hd:F6 n ops.toList=true)
  (h:∀K:SL->Ac->Prop,(∀sl' bx',A0 ro P n y Q sl' bx'->K sl' bx')->J1 P own ops (ops.toList.take m) is sl bx (rC P own ops (ops.toList.drop m) (I1 ks K))):A0 ro P n (.seq (.region id ops true) y) Q sl bx :=
 A0.seq (UB ks own m is I E hd (h _ λ_ _ h=>h))
def rG{id:Nat}{ops:Array Oper}(ks own:List Nat)(m:Nat)(is:List Ji)(I:P.follows .mixedOrders=true)(E:Xf ops (pC m is) (Region.before ops)=true)(hd:F6 n ops.toList=true)
  (h:∀K:SL->Ac->Prop,(∀sl' bx',Q .normal sl' bx'->K sl' bx')->J1 P own ops (ops.toList.take m) is sl bx (rC P own ops (ops.toList.drop m) (I1 ks K))):A0 ro P n (.region id ops true) Q sl bx :=
 UB ks own m is I E hd (h _ λ_ _ h=>h)
end Go.iA
