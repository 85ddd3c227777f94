/- Drawn regions: any order that the edges allow comes to what the text's order comes to. Own framework. -/
import Derived.Test.YtjneockcgjfhaaaGreatDoorKAb4
set_option linter.all false
namespace Go.Abs
open Go
variable {ro:Option Nat} {P:Program} {n:Nat} {Q:Exit->SL->Aa->Prop} {sl:SL} {bx:Aa} {o:Oper} {ρ:Kf}
def A1v(k:Nat):Aa->Bool
 |[]=>false
 |(j,c)::r=>j ==k ||c.has k ||A1v k r
def B5r{k:Nat}:∀{bx:Aa},A1v k bx=false->∀j c,(j,c)∈bx->j≠k/\c.has k=false
 |[],_,j,c,h=>by grind
 |(i,x)::r,h,j,c,hm=>by simp only[A1v,An3,At8]at h;rcases B5.1 hm with E|hm;grind;exact B5r h.2 j c hm
def T4(k:Nat):List Nat->Bool
 |[]=>false
 |j::r=>k ==j ||T4 k r
theorem A1u{k:Nat}:∀{l:List Nat},T4 k l=true↔k∈l
 |[]=>by simp[T4]
 |j::r=>by simp[T4,A1u]
def Im(ks:List Nat):Aa->Aa
 |[]=>[]
 |(k,c)::r=>if T4 k ks=true then Im ks r else(k,c)::Im ks r
def bin(ks:List Nat):Aa->Aa
 |[]=>[]
 |(k,c)::r=>if T4 k ks=true then(k,c)::bin ks r else bin ks r
theorem Qr{ks:List Nat}{k:Nat}{c:Aq}:∀{bx:Aa},(k,c)∈Im ks bx↔k∉ks/\(k,c)∈bx
 |[]=>by simp[Im]
 |(j,x)::r=>by rw[Im];by_cases h:T4 j ks=true;have E:=A1u.1 h;rw[A6 h,Qr,B5,Ew];grind;have E:j∉ks:=λI=>h (A1u.2 I);rw[A3 h,B5,Qr,B5,Ew];grind
theorem Vr{ks:List Nat}{k:Nat}{c:Aq}:∀{bx:Aa},(k,c)∈bin ks bx↔k∈ks/\(k,c)∈bx
 |[]=>by simp[bin]
 |(j,x)::r=>by rw[bin];by_cases h:T4 j ks=true;have E:=A1u.1 h;rw[A6 h,B5,Vr,B5,Ew];grind;have E:j∉ks:=λI=>h (A1u.2 I);rw[A3 h,Vr,B5,Ew];grind
theorem A4o:∀bx:Aa,Im [] bx=bx
 |[]=>rfl
 |(k,c)::r=>by rw[Im,T4,A3 (by decide),A4o r]
theorem A4b:∀bx:Aa,bin [] bx=[]
 |[]=>rfl
 |(k,c)::r=>by rw[bin,T4,A3 (by decide),A4b r]
def Sk:List Nat->SV->SV
 |[],x=>x
 |k::ks,x=>Sk ks (N7 k x)
def Rp:∀(ks:List Nat)(sl:SL)(t:Nat),Af (Gb ks sl) t=Sk ks (Af sl t)
 |[],_,_=>rfl
 |k::ks,sl,t=>by rw[Gb,Rp ks,A8h];rfl
theorem A6h:∀(ks:List Nat)(x:SV),(Sk ks x=x/\∀q,q∈ks->x.has q=false)\/(Sk ks x=.undef/\∃q,q∈ks/\x.has q=true)
 |[],x=>.inl ⟨rfl,by simp⟩
 |k::ks,x=>by rw[Sk];unfold N7;by_cases h:x.has k=true;rw[A6 h];refine .inr ⟨?_,k,by simp,h⟩;rcases A6h ks .undef with h|h <;> grind;rw[A3 h];rcases A6h ks x with⟨E,I⟩|⟨E,q,I,J⟩;grind;grind
def D2w{ks:List Nat}{x:SV}(h:∀q,q∈ks->x.has q=false):Sk ks x=x:=by grind[A6h]
def G5f{a b:List Nat}(h:∀k,k∈b->k∈a)(x:SV):Sk a (Sk b x)=Sk a x:=by grind[A6h]
def H0x(a b:List Nat)(x:SV):Sk a (Sk b x)=Sk b (Sk a x):=by grind[A6h]
def Zd(sl:SL)(d:Option Nat)(r:SV)(t:Nat):Af (Gk sl d r) t=if d=some t then r else Af sl t:=by
 cases d with
 |none=>rfl
 |some u=>simp[Gk,Af]
def C1.congr{I:Kf}{E bx':Aa}{r:SV}{pg:List Nat}(h:C1 P o ρ bx r bx' pg)(J:∀k c,(k,c)∈bx->(k,c)∈E)(U:∀x,x∈o.op.operands->I x =ρ x):C1 P o I E r bx' pg :=λC S w β a L V=>h C S w β a (L.sub J) λx O=>by grind
def E0t(β:Names)(F:Aa)(b:Nat):Prop:=∃k c,(k,c)∈F/\(β k).base=some b
def C1.F7s{r:SV}{bx':Aa}{pg:List Nat}(h:C1 P o ρ bx r bx' pg)(F:Aa)(hF:∀k c,(k,c)∈F->c.real=true/\k∉pg/\(∀q,q∈pg->c.has q=false)/\(∀x,(k,x) ∉bx)/\∀x,(k,x) ∉bx')
  (hG:∀k Y st,(k,Aq.ghost Y st)∈bx'->(k,Aq.ghost Y st)∈bx){C:Ctx}{S:Nat->Prop}{w:World}{β:Names}{a:Act}(J:Inv C S w β (F++bx))(ha:∀x,x∈o.op.operands->An S w β (ρ x) (a.eval x)) :
  o.wpx P a w (λa' w'=>∃v S' β',a'=a.put o.dst v/\Inv C S' w' β' (F++bx')/\C9 S w S' w'/\An S' w' β' r v/\∀k,k∉pg->β' k =β k):=by
 have I:∀{j:Nat} {x:Aq},(j,x)∈bx->(j,x)∈F++bx:=λh=>C6.2 (.inr h);have V:∀{j:Nat} {x:Aq},(j,x)∈F->(j,x)∈F++bx:=λh=>C6.2 (.inl h);have a4:∀{j:Nat} {x:Aq} {b:Nat},(j,x)∈bx->(β j).base=some b->¬E0t β F b:=λhj h1 ⟨k,c,hk,O⟩=>by obtain⟨rfl,_⟩:=J.inj _ _ _ _ (V hk) (I hj) _ O h1;grind
 have a3:Inv ⟨w,S,λb=>¬S b/\(C.pre b\/C.w0.heap.size<=b)/\¬E0t β F b,C.A6y,C.G⟩ S w β bx:={
  Fh:=λ_ O=>O,Ei:=λ_ O=>.inl O,C3:=J.C3,kept:=λ_ _ _=>rfl,os:=rfl,tape:=rfl,output:=rfl,size:=Bq _,
  box:=λj x hj=>J.box j x (I hj)
  Bh:=λj x hj b O=>⟨(J.Bh j x (I hj) b O).1,(J.Bh j x (I hj) b O).2.1,.inl ⟨(J.Bh j x (I hj) b O).1,(J.Bh j x (I hj) b O).2.2,a4 hj O⟩⟩
  inj:=λj x j' x' hj hj'=>J.inj j x j' x' (I hj) (I hj')
  Dv:=J.Dv
  one:=λj Y st j' Y' st' hj hj'=>J.one j Y st j' Y' st' (I hj) (I hj')
  Fp:=λj Y st hj=>by obtain⟨h1,h2,h3,h4,B,h5,h6⟩:=J.Fp j Y st (I hj);exact⟨h1,h2,Dd h3 J.size,λW c' hk'=>h4 W c' (I hk'),B,h5,λb O=>⟨(h6 b O).1,(h6 b O).2.1,.inl ⟨(h6 b O).1,(h6 b O).2.2.1,λ⟨k,c,hk,E⟩=>(h6 b O).2.2.2 k c (V hk) E⟩,λW c' hk'=>(h6 b O).2.2.2 W c' (I hk')⟩⟩
  fix:=J.fix }
 refine Oper.C1r (h _ S w β a a3 ha) ?_;rintro a' w' ⟨v,S',β',rfl,U,he,hv,O⟩;have a9:w.heap.size<=w'.heap.size:=U.size;have a7:=J.size;have Z:∀k c,(k,c)∈F->β' k =β k:=λk c hk=>O k (hF k c hk).2.1;have a2:∀k c b,(k,c)∈F->(β k).base=some b->b<w.heap.size:=λk c b hk E=>(J.Bh k c (V hk) b E).2.1;have a8:∀k c W c' b,(k,c)∈F->(W,c')∈bx'->(β k).base=some b->(β' W).base≠some b:=λk c W c' b hk hk' h1 h2=>by rcases(U.Bh W c' hk' b h2).2.2 with h|h;exact h.2.2 ⟨k,c,hk,h1⟩;grind
 have L:∀{k c},(k,c)∈F++bx'->(k,c)∈F\/(k,c)∈bx':=λhm=>C6.1 hm;have a1:∀k Y st,(k,Aq.ghost Y st)∈F++bx'->(k,Aq.ghost Y st)∈bx'/\(k,Aq.ghost Y st)∈bx:=λk Y st hm=>by grind[Aq.real]
 refine⟨v,S',β',rfl,?_,he,hv,O⟩;exact{
  Fh:=λb E=>U.Fh b (J.Fh b E)
  Ei:=λb E=>by
   rcases U.Ei b E with h|h|h
   .exact J.Ei b h
   .grind
   grind
  C3:=U.C3
  kept:=λb E hp=>by
   refine(U.kept b (X9 E J.size) ?_).trans (J.kept b E hp)
   grind
  os:=U.os.trans J.os
  tape:=U.tape.trans J.tape
  output:=U.output.trans J.output
  size:=Dd J.size U.size
  box:=λj x hj=>by
   rcases L hj with hj|hj
   .rw[Z j x hj];exact(J.box j x (V hj)).ext he (λb E=>U.kept b (a2 j x b hj E) λh=>h.2.2 ⟨j,x,hj,E⟩) (λq hq=>O q λhp=>by grind)
   .exact U.box j x hj
  Bh:=λj x hj b E=>by
   rcases L hj with hj|hj
   .rw[Z j x hj]at E;obtain⟨g1,g2,g3⟩:=J.Bh j x (V hj) b E;refine⟨λhs=>?_,X9 g2 U.size,g3⟩;rcases U.Ei b hs with h|h|h
    .grind
    .exact h.2.2 ⟨j,x,hj,E⟩
    grind
   .refine⟨(U.Bh j x hj b E).1,(U.Bh j x hj b E).2.1,?_⟩;rcases(U.Bh j x hj b E).2.2 with h|h
    .grind
    grind
  inj:=λj x j' x' hj hj' b h1 h2=>by
   rcases L hj with hj|hj
   .rw[Z j x hj]at h1;rcases L hj' with hj' |hj'
    .rw[Z j' x' hj']at h2;exact J.inj j x j' x' (V hj) (V hj') b h1 h2
    grind
   .rcases L hj' with hj' |hj'
    .grind
    .exact U.inj j x j' x' hj hj' b h1 h2
  Dv:=U.Dv
  one:=λj Y st j' Y' st' hj hj'=>J.one j Y st j' Y' st' (I (a1 _ _ _ hj).2) (I (a1 _ _ _ hj').2)
  Fp:=λj Y st hj=>by
   obtain⟨a5,a6⟩:=a1 _ _ _ hj;obtain⟨h1,h2,_,h4,B,h5,h6⟩:=U.Fp j Y st a5;obtain⟨_,_,f3,f4,_⟩:=J.Fp j Y st (I a6);refine⟨h1,h2,f3,λW c' hk' b E=>?_,B,h5,λb E=>⟨(h6 b E).1,(h6 b E).2.1,?_,λW c' hk' a0=>?_⟩⟩
   .grind
   .grind
   .rcases L hk' with hk' |hk'
    .rw[Z W c' hk']at a0;rcases(h6 b E).2.2.1 with h|h
     .exact h.2.2 ⟨W,c',hk',a0⟩
     grind
    grind
  fix:=U.fix }
structure Kn where
 m:List Nat
 p:List Nat
 h:List Nat
 q:List Nat
abbrev ga:List Kn:=[⟨[],[],[],[]⟩,⟨[],[],[],[]⟩,⟨[],[],[],[]⟩,⟨[],[],[],[]⟩,⟨[],[],[],[]⟩,⟨[],[],[],[]⟩,⟨[],[],[],[]⟩,⟨[],[],[],[]⟩,⟨[],[],[],[]⟩,⟨[],[],[6],[]⟩,⟨[],[],[6],[]⟩,⟨[],[],[6],[]⟩,⟨[],[],[6],[]⟩,⟨[],[],[6],[]⟩,⟨[],[],[6],[]⟩,⟨[],[],[6],[]⟩,⟨[],[],[6],[]⟩,⟨[6],[],[],[]⟩]
abbrev gc:List Kn:=[⟨[],[],[9,10],[9,10]⟩,⟨[],[],[9,10],[9,10]⟩,⟨[],[],[9,10],[9,10]⟩,⟨[],[],[9,10],[9,10]⟩,⟨[],[],[9,10],[9,10]⟩,⟨[],[],[9,10],[9,10]⟩,⟨[],[],[9,10],[9,10]⟩,⟨[],[],[9,10],[9,10]⟩,⟨[],[],[9,10],[9,10]⟩,⟨[9],[9],[10],[10]⟩,⟨[10],[10],[9],[9]⟩,⟨[9],[],[],[]⟩]
abbrev gf:List Kn:=[⟨[],[],[21],[21]⟩,⟨[],[],[21],[21]⟩,⟨[],[],[21],[21]⟩,⟨[],[],[21],[21]⟩,⟨[],[],[21],[21]⟩,⟨[],[],[21],[21]⟩,⟨[],[],[21],[21]⟩,⟨[],[],[21],[21]⟩,⟨[],[],[21],[21]⟩,⟨[21],[21],[],[]⟩,⟨[21],[],[],[]⟩]
abbrev gg:List Kn:=[⟨[],[],[7],[7]⟩,⟨[],[],[7],[7]⟩,⟨[],[],[7],[7]⟩,⟨[],[],[7],[7]⟩,⟨[],[],[7],[7]⟩,⟨[],[],[7],[7]⟩,⟨[],[],[7],[7]⟩,⟨[],[],[7],[7]⟩,⟨[],[],[7],[7]⟩,⟨[],[],[7],[7]⟩,⟨[],[],[7],[7]⟩,⟨[],[],[7],[7]⟩,⟨[],[],[7],[7]⟩,⟨[],[],[7],[7]⟩,⟨[],[],[7],[7]⟩,⟨[],[],[7],[7]⟩,⟨[],[],[7],[7]⟩,⟨[7],[7],[],[]⟩]
abbrev gh:List Kn:=[⟨[],[],[9],[9]⟩,⟨[],[],[9],[9]⟩,⟨[],[],[9],[9]⟩,⟨[],[],[9],[9]⟩,⟨[],[],[9],[9]⟩,⟨[],[],[9],[9]⟩,⟨[],[],[9],[9]⟩,⟨[],[],[9],[9]⟩,⟨[],[],[9],[9]⟩,⟨[],[],[9],[9]⟩,⟨[],[],[9],[9]⟩,⟨[],[],[9],[9]⟩,⟨[],[],[9],[9]⟩,⟨[],[],[9],[9]⟩,⟨[],[],[9],[9]⟩,⟨[],[],[9],[9]⟩,⟨[9],[9],[],[]⟩]
abbrev gi:List Kn:=[⟨[],[],[11],[11]⟩,⟨[],[],[11],[11]⟩,⟨[],[],[11],[11]⟩,⟨[],[],[11],[11]⟩,⟨[],[],[11],[11]⟩,⟨[],[],[11],[11]⟩,⟨[],[],[11],[11]⟩,⟨[],[],[11],[11]⟩,⟨[],[],[11],[11]⟩,⟨[],[],[11],[11]⟩,⟨[],[],[11],[11]⟩,⟨[],[],[11],[11]⟩,⟨[],[],[11],[11]⟩,⟨[11],[11],[],[]⟩]
abbrev gj:List Kn:=[⟨[],[],[12],[12]⟩,⟨[],[],[12],[12]⟩,⟨[],[],[12],[12]⟩,⟨[],[],[12],[12]⟩,⟨[],[],[12],[12]⟩,⟨[],[],[12],[12]⟩,⟨[],[],[12],[12]⟩,⟨[],[],[12],[12]⟩,⟨[],[],[12],[12]⟩,⟨[12],[12],[],[]⟩,⟨[12],[],[],[]⟩]
abbrev gk:List Kn:=[⟨[],[],[7],[7]⟩,⟨[],[],[7],[7]⟩,⟨[],[],[7],[7]⟩,⟨[],[],[7],[7]⟩,⟨[],[],[7],[7]⟩,⟨[],[],[7],[7]⟩,⟨[],[],[7],[7]⟩,⟨[],[],[7],[7]⟩,⟨[],[],[7],[7]⟩,⟨[],[],[7],[7]⟩,⟨[7],[7],[],[]⟩,⟨[7],[],[],[]⟩]
abbrev gl:List Kn:=[⟨[],[],[3],[3]⟩,⟨[],[],[3],[3]⟩,⟨[],[],[3],[3]⟩,⟨[],[],[3],[3]⟩,⟨[],[],[3],[3]⟩,⟨[],[],[3],[3]⟩,⟨[],[],[3],[3]⟩,⟨[],[],[3],[3]⟩,⟨[],[],[3],[3]⟩,⟨[],[],[3],[3]⟩,⟨[3],[3],[],[]⟩]
abbrev gm:List Kn:=[⟨[],[],[],[]⟩,⟨[],[],[],[]⟩,⟨[],[],[4],[]⟩,⟨[4],[],[],[]⟩]
abbrev gp:List Kn:=[⟨[],[],[5],[5]⟩,⟨[],[],[5],[5]⟩,⟨[],[],[5],[5]⟩,⟨[],[],[5],[5]⟩,⟨[],[],[5],[5]⟩,⟨[],[],[5],[5]⟩,⟨[],[],[5],[5]⟩,⟨[],[],[5],[5]⟩,⟨[5],[5],[],[]⟩]
abbrev gq:List Kn:=[⟨[],[],[5],[5]⟩,⟨[],[],[5],[5]⟩,⟨[],[],[5],[5]⟩,⟨[],[],[5],[5]⟩,⟨[],[],[5],[5]⟩,⟨[900,901],[900,901],[5],[5]⟩,⟨[5],[5],[900,901],[900,901]⟩]
abbrev gr:List Kn:=[⟨[],[],[],[]⟩,⟨[],[],[4],[]⟩,⟨[4],[],[],[]⟩]
abbrev GI:=Option Kn
def GI.h:GI->List Nat
 |some z=>z.h
 |none=>[]
def GI.q:GI->List Nat
 |some z=>z.q
 |none=>[]
structure A0j(z:Kn)(bx:Aa)(r:SV)(bx':Aa)(pg:List Nat):Prop where
 dis:∀k,k∈z.m->k∉z.h
 pgs:∀k,k∈pg->k∈z.p
 pm:∀k,k∈z.p->k∈z.m
 rest:∀k c,k∉z.m->((k,c)∈bx'↔k∉z.h/\(k,c)∈bx)
 old:∀k c,k∈z.m->(k,c)∈bx->c.real=true/\∀q,q∈z.q->c.has q=false
 new:∀k c,k∈z.m->(k,c)∈bx'->c.real=true/\∀q,q∈z.q->c.has q=false
 res:∀q,q∈z.q->r.has q=false
 hid:∀k c,k∈z.h->(k,c)∈bx->c.real=true/\∀q,q∈pg->c.has q=false
structure GOp(P:Program)(o:Oper)(i:GI)(g:Bool)(sl:SL)(bx:Aa)(r:SV)(bx':Aa)(pg:List Nat):Prop where
 yes:g=true->C1 P o (Ao (Gb i.q sl)) (Im i.h bx) r bx' pg
 no:g=false->r=.tuple []/\pg=[]/\∀k c,(k,c)∈bx'↔(k,c)∈Im i.h bx
 cond:∀z,i=some z->A0j z bx r bx' pg
def Lx(P:Program)(n:Nat)(ops:Array Oper):List (Oper × GI)->SL->Aa->(SL->Aa->Prop)->Prop
 |[],sl,bx,K=>K sl bx
 |x::os,sl,bx,K=>∃g r bx' pg,Vp ops sl x.1=some g/\I1 n x.1.dst/\GOp P x.1 x.2 g sl bx r bx' pg/\Lx P n ops os (Gk (Gb pg sl) x.1.dst r) (bx'++bin x.2.h bx) K
def Eqv(sl:SL)(bx:Aa)(sl':SL)(bx':Aa):Prop:=(∀t,Af sl t=Af sl' t)/\∀k c,(k,c)∈bx↔(k,c)∈bx'
def KE(K:SL->Aa->Prop):SL->Aa->Prop:=λsl bx=>∃sl' bx',K sl' bx'/\Eqv sl bx sl' bx'
def D7x{sl sl':SL}{x:Operand}(h:∀t,x=.tmp t->Af sl t=Af sl' t):Ao sl x=Ao sl' x:=by
 cases x with
 |tmp t=>exact h t rfl
 |_=>rfl
def Lx.congr{ops:Array Oper}{K:SL->Aa->Prop}:∀(os:List (Oper × GI)) {sl sl':SL} {bx bx':Aa},Eqv sl bx sl' bx'->Lx P n ops os sl bx (KE K)->Lx P n ops os sl' bx' (KE K)
 |[],sl,sl',bx,bx',e,⟨s,b,h,O,U⟩=>⟨s,b,h,λt=>(e.1 t).symm.trans (O t),λk c=>(e.2 k c).symm.trans (U k c)⟩
 |x::os,sl,sl',bx,bx',e,⟨g,r,b,pg,O,U,J,W⟩=>by
  refine⟨g,r,b,pg,(F4w λ_ _ t _ _=>(e.1 t).symm).trans O,U,⟨λI=>(J.yes I).congr (λk c E=>Qr.2 ⟨(Qr.1 E).1,(e.2 k c).1 (Qr.1 E).2⟩) λy _=>D7x λt _=>by rw[Rp,Rp,e.1],λI=>⟨(J.no I).1,(J.no I).2.1,λk c=>((J.no I).2.2 k c).trans (by rw[Qr,Qr,e.2])⟩,λz V=>?_⟩,Lx.congr os ⟨λt=>by rw[Zd,Zd,Rp,Rp,e.1],λk c=>by rw[C6,C6,Vr,Vr,e.2]⟩ W⟩
  have c:=J.cond z V;exact⟨c.dis,c.pgs,c.pm,λk x E=>(c.rest k x E).trans (by rw[e.2]),λk x E L=>c.old k x E ((e.2 k x).2 L),c.new,c.res,λk x E L=>c.hid k x E ((e.2 k x).2 L)⟩
structure A9t(z1 z2:Kn):Prop where
 m:∀k,k∈z1.m->k∈z2.h
 p:∀k,k∈z1.p->k∈z2.q
structure Un(ops:Array Oper)(x y:Oper × GI):Prop where
 u1:∀t,x.1.dst=some t->t∉A7y ops y.1
 u2:∀t,y.1.dst=some t->t∉A7y ops x.1
 d:∀t,x.1.dst=some t->y.1.dst≠some t
 i:∃z1 z2,x.2=some z1/\y.2=some z2/\A9t z1 z2/\A9t z2 z1
def A0j.out{z:Kn}{r:SV}{bx':Aa}{pg:List Nat}(c:A0j z bx r bx' pg){k:Nat}{x:Aq}(E:k∉z.m):(k,x)∈bx'++bin z.h bx↔(k,x)∈bx:=by rw[C6,c.rest k x E,Vr];grind
def A0j.move{O V:Kn}{r1 r2:SV}{U a0:Aa}{pg1 W:List Nat}(J:A0j O bx r1 U pg1)(e1:A9t O V)(e2:A9t V O) :A0j V (U++bin O.h bx) r2 a0 W↔A0j V bx r2 a0 W:=by
 constructor;intro c;have d:∀k,k∈V.m->k∉O.m:=λk I E=>c.dis k I (e1.m k E);refine⟨c.dis,c.pgs,c.pm,λk x I=>(c.rest k x I).trans (and_congr_right λhh=>J.out λE=>hh (e1.m k E)),λk x I L=>c.old k x I ((J.out (d k I)).2 L),c.new,c.res,λk x I L=>?_⟩;by_cases E:k∈O.m;exact⟨(J.old k x E L).1,λq hq=>(J.old k x E L).2 q (e2.p q (c.pgs q hq))⟩;exact c.hid k x I ((J.out E).2 L)
 .intro c;have d:∀k,k∈V.m->k∉O.m:=λk I E=>c.dis k I (e1.m k E);refine⟨c.dis,c.pgs,c.pm,λk x I=>(c.rest k x I).trans (and_congr_right λhh=>(J.out λE=>hh (e1.m k E)).symm),λk x I L=>c.old k x I ((J.out (d k I)).1 L),c.new,c.res,λk x I L=>?_⟩;by_cases E:k∈O.m
  .have Z:(k,x)∈U:=by rcases C6.1 L with h|h;exact h;exact absurd (Vr.1 h).1 (J.dis k E)
   exact⟨(J.new k x E Z).1,λq hq=>(J.new k x E Z).2 q (e2.p q (c.pgs q hq))⟩
  exact c.hid k x I ((J.out E).1 L)
def G8f{pg h:List Nat}(e:∀k,k∈pg->k∈h){d:Option Nat}{r:SV}{t:Nat}(ht:d≠some t)(sl:SL):Af (Gb h (Gk (Gb pg sl) d r)) t=Af (Gb h sl) t:=by rw[Rp,Zd,A3 ht,Rp,Rp,G5f e]
def GOp.move{g:Bool}{O I:Kn}{r1 r2:SV}{J W:Aa}{pg1 U:List Nat}{d1:Option Nat}{ops:Array Oper}(c1:A0j O bx r1 J pg1)(e1:A9t O I)(e2:A9t I O)(hu:∀t,d1=some t->t∉A7y ops o) :GOp P o (some I) g (Gk (Gb pg1 sl) d1 r1) (J++bin O.h bx) r2 W U↔GOp P o (some I) g sl bx r2 W U:=by
 have hs:∀x,x∈o.op.operands->Ao (Gb I.q (Gk (Gb pg1 sl) d1 r1)) x=Ao (Gb I.q sl) x:=λx L=>D7x λt ht=>G8f (λk V=>e1.p k (c1.pgs k V)) (λhd=>hu t hd (G3b (ht ▸ L))) sl;have Z:∀k c,(k,c)∈Im I.h (J++bin O.h bx)↔(k,c)∈Im I.h bx:=λk c=>by rw[Qr,Qr];exact and_congr_right λhh=>c1.out λa0=>hh (e1.m k a0)
 exact⟨λh=>⟨λE=>(h.yes E).congr (λk c V=>(Z k c).1 V) λx L=>(hs x L).symm,λE=>⟨(h.no E).1,(h.no E).2.1,λk c=>((h.no E).2.2 k c).trans (Z k c)⟩,λz hz=>by cases hz;exact(c1.move e1 e2).1 (h.cond _ rfl)⟩,λh=>⟨λE=>(h.yes E).congr (λk c V=>(Z k c).2 V) λx L=>hs x L,λE=>⟨(h.no E).1,(h.no E).2.1,λk c=>((h.no E).2.2 k c).trans (Z k c).symm⟩,λz hz=>by cases hz;exact(c1.move e1 e2).2 (h.cond _ rfl)⟩⟩
def E0v{ops:Array Oper}{s E:SL}{pg:List Nat}(h:∀t,t∈A7y ops o->Af E t=Sk pg (Af s t)):Vp ops E o=Vp ops s o:=by
 unfold Vp;cases J:o.guard with
 |none=>rfl
 |some L =>
  obtain⟨j,I⟩:=L;simp only;cases O:Qs ops j with
  |none=>rfl
  |some t =>simp only[h t (F0q J O)];grind[A6h,SV.has,SV.Lu]
def Lx.swap{ops:Array Oper}{K:SL->Aa->Prop}{x y:Oper × GI}{R:List (Oper × GI)}(u:Un ops x y)(h:Lx P n ops (x::y::R) sl bx (KE K)):Lx P n ops (y::x::R) sl bx (KE K):=by obtain⟨g1,r1,L,pg1,a1,a2,a3,g2,r2,J,O,b1,b2,b3,hR⟩:=h;obtain⟨z1,z2,i1,i2,e1,W⟩:=u.i;obtain⟨o1,i⟩:=x;obtain⟨o2,j⟩:=y;simp only at i1 i2;subst i1;subst i2;have U:=a3.cond _ rfl;have Z:=(GOp.move U e1 W u.u1).1 b3;have V:=Z.cond _ rfl;have a0:=(GOp.move (pg1:=O) (d1:=o2.dst) V W e1 u.u2).2 a3;refine⟨g2,r2,J,O,(E0v (pg:=pg1) λt ht=>?_).symm.trans b1,b2,Z,g1,r1,L,pg1,(E0v (pg:=O) λt ht=>?_).trans a1,a2,a0,Lx.congr R ⟨λt=>?_,λk c=>?_⟩ hR⟩;rw[Zd,A3 λhd=>u.u1 t hd ht,Rp];rw[Zd,A3 λhd=>u.u2 t hd ht,Rp];rw[Zd,Rp,Zd,Rp,Zd,Rp,Zd,Rp];by_cases I:o2.dst=some t;rw[A6 I,A6 I,A3 λE=>u.d t E I,D2w λq hq=>V.res q (e1.p q (U.pgs q hq))];rw[A3 I,A3 I];by_cases E:o1.dst=some t;rw[A6 E,A6 E,D2w λq hq=>U.res q (W.p q (V.pgs q hq))];rw[A3 E,A3 E,H0x];show(k,c)∈J++bin z2.h (L++bin z1.h bx)↔(k,c)∈L++bin z1.h (J++bin z2.h bx);by_cases k1:k∈z1.m;have n1:=U.dis k k1;have k2:=e1.m k k1;have n2:k∉z2.m:=λhh=>n1 (W.m k hh);have:=V.rest k c n2;simp[Vr,k2,n1,this];by_cases k2:k∈z2.m;have n2:=V.dis k k2;have:=U.rest k c k1;simp[Vr,W.m k k2,n2,this];have q1:=U.rest k c k1;have q2:=V.rest k c k2;grind[Vr]
def Lx.front{ops:Array Oper}{K:SL->Aa->Prop}:∀(E:List (Oper × GI)) {I:List (Oper × GI)} {y:Oper × GI} {sl:SL} {bx:Aa},(∀x,x∈E->Un ops x y)->Lx P n ops (E++y::I) sl bx (KE K)->Lx P n ops (y::(E++I)) sl bx (KE K)
 |[],I,y,sl,bx,_,h=>h
 |x::E,I,y,sl,bx,J,⟨g,r,b,pg,O,L,U,h⟩=>Lx.swap (J x (by simp)) ⟨g,r,b,pg,O,L,U,Lx.front E (λz V=>J z (by grind)) h⟩
def St.sub{C:Ctx}{S:Nat->Prop}{w:World}{β:Names}{a:Act}{bx':Aa}(h:St C n S w β a sl bx)(hs:∀k c,(k,c)∈bx'->(k,c)∈bx):St C n S w β a sl bx':=⟨h.inv.sub hs,h.size,h.defers,h.slot⟩
def GOp.exec{C:Ctx}{S:Nat->Prop}{w:World}{β:Names}{a:Act}{i:GI}{r:SV}{bx':Aa}{pg:List Nat}(h:GOp P o i true sl bx r bx' pg)(hs:St C n S w β a sl bx)(hd:I1 n o.dst) :o.wpx P a w λV w'=>∃S' β',St C n S' w' β' V (Gk (Gb pg sl) o.dst r) (bx'++bin i.h bx):=by
 have Z:=h.yes rfl;have ha:∀x,x∈o.op.operands->An S w β (Ao (Gb i.q sl) x) (a.eval x):=λx _=>by
  have:=hs.Ao x;cases x with
  |tmp t =>show An S w β (Af (Gb i.q sl) t) _;rw[Rp];rcases A6h i.q (Af sl t)with⟨e,_⟩|⟨e,_⟩ <;> rw[e];exact this;exact .undef _
  |_=>exact this
 cases i with
 |none =>refine Oper.C1r (Z C S w β a (hs.inv.sub λk c E=>(Qr.1 E).2) ha) ?_;rintro V w' ⟨v,S',β',rfl,I,W,L,O⟩;exact⟨S',β',(hs.put hd I W L O).sub λk c E=>by grind[GI.h,A4b]⟩
 |some z =>have c:=h.cond z rfl;refine Oper.C1r (Z.F7s (bin z.h bx) (λk x E=>?_) (λk Y st E=>?_) (hs.inv.sub λk x E=>?_) ha) ?_;obtain⟨k1,k2⟩:=Vr.1 E;have km:k∉z.m:=λJ=>c.dis k J k1;exact⟨(c.hid k x k1 k2).1,λhp=>km (c.pm k (c.pgs k hp)),(c.hid k x k1 k2).2,λy U=>(Qr.1 U).1 k1,λy U=>((c.rest k y km).1 U).1 k1⟩;by_cases J:k∈z.m;have:=(c.new k _ J E).1;simp[Aq.real]at this;exact Qr.2 ((c.rest k _ J).1 E);grind[Vr,Qr];rintro V w' ⟨v,S',β',rfl,I,W,L,O⟩;exact⟨S',β',(hs.put hd I W L O).sub λk c E=>C6.2 (C6.1 E).symm⟩
def gUn(ops:Array Oper)(x y:Oper × GI):Bool:=match x.2,y.2 with
 |some I,some E=>(match x.1.dst with|some t=>!(A7y ops y.1).contains t && y.1.dst !=some t|none=>true) && (match y.1.dst with|some t=>!(A7y ops x.1).contains t|none=>true) && I.m.all (λk=>E.h.contains k) && E.m.all (λk=>I.h.contains k) && I.p.all (λk=>E.q.contains k) && E.p.all (λk=>I.q.contains k)
 |_,_=>false
def G8h{ops:Array Oper}{x y:Oper × GI}(h:gUn ops x y=true):Un ops x y:=by unfold gUn at h;split at h;rename_i I E O J;simp only[Bi,Dr,Am9]at h;obtain⟨⟨⟨⟨⟨g1,Z⟩,L⟩,V⟩,U⟩,W⟩:=h;refine⟨λt ht=>?_,λt ht=>?_,λt ht=>?_,I,E,O,J,⟨L,U⟩,⟨V,W⟩⟩;grind;grind;grind;grind
def Wa(ops:Array Oper)(is:Nat->GI)(j:Nat):Oper × GI:=(ops.getD j default,is j)
def gOK(ops:Array Oper)(is:Nat->GI)(B:Array Nat):Bool :=((List.range ops.size).all λi=>(ops.getD i default).after.toList.all λe=>!Region.binds .any e ||decide (e.on<i)) &&
 ((List.range ops.size).all λi=>(List.range ops.size).all λj=>!(B.getD i 0).testBit j ||((ops.getD i default).after.toList.any λe=>Region.binds .any e && (e.on ==j ||(B.getD e.on 0).testBit j))) &&
 ((List.range ops.size).all λi=>(List.range i).all λj=>(B.getD i 0).testBit j ||gUn ops (Wa ops is j) (Wa ops is i))
structure GOK(ops:Array Oper)(is:Nat->GI):Prop where
 back:∀(i:Nat) (o:Oper),ops[i]?=some o->∀e,e∈o.after->Region.binds .any e=true->e.on<i
 un:∀(X:Nat->Prop),(∀(i:Nat) (o:Oper),ops[i]?=some o->X i->∀e,e∈o.after->Region.binds .any e=true->X e.on) ->∀(i:Nat) (o:Oper),ops[i]?=some o->(∀e,e∈o.after->Region.binds .any e=true->X e.on)->∀j,j<i->¬X j->Un ops (Wa ops is j) (Wa ops is i)
def G6t{ops:Array Oper}{is:Nat->GI}{B:Array Nat}(h:gOK ops is B=true):GOK ops is:=by
 unfold gOK at h;simp only[Bi,Dr,As3,Xu,Jj,Array.mem_toList_iff,E4]at h;obtain⟨⟨h2,h5⟩,h6⟩:=h;have J:∀{i:Nat} {o:Oper},ops[i]?=some o->i<ops.size/\ops.getD i default=o:=by intro i o L;obtain⟨E,he⟩:=Ai6.1 L;exact⟨E,by simp_all⟩
 have O:∀(i:Nat) (o:Oper),ops[i]?=some o->∀e,e∈o.after->Region.binds .any e=true->e.on<i:=by intro i o L e he hb;obtain⟨E,U⟩:=J L;rcases h2 i E e (by grind)with h|h;grind;exact h
 refine⟨O,?_⟩;intro X hX i o L I j W a1;have key:∀(k i:Nat) (o:Oper),i<=k->ops[i]?=some o->(∀e,e∈o.after->Region.binds .any e=true->X e.on)->∀j,j<ops.size->(B.getD i 0).testBit j=true->X j:=by
  intro k
  induction k with
  |zero =>intro i o a0 L I j W hb;obtain⟨E,U⟩:=J L;have:=(h5 i E j W).resolve_left (by grind);rw[List.any_eq_true]at this;grind
  |succ k ih =>
   intro i o a0 L I j W hb;obtain⟨E,U⟩:=J L;have:=(h5 i E j W).resolve_left (by grind);rw[List.any_eq_true]at this;obtain⟨e,he,V⟩:=this;rw[U]at he;simp only[Bi,Xu,Wy]at V;have a4:=I e (by grind) V.1;rcases V.2 with h|h;grind;have a5:=O i o L e (by grind) V.1;have Z:ops[e.on]?=some ops[e.on]:=Yr (by omega);exact ih e.on ops[e.on] (by omega) Z (λe' a3 a2=>hX e.on _ Z a4 e' a3 a2) j W h
 obtain⟨E,U⟩:=J L;rcases h6 i E j W with h|h;exact absurd (key i i o (Bq _) L I j (by omega) h) a1;exact G8h h
def E8t{C:Ctx}{ops:Array Oper}{is:Nat->GI}{QQ:Exit->Act->World->Prop}{K:SL->Aa->Prop}(hd:GOK ops is)(ad:∀o,o∈ops.toList->I1 n o.dst)(ai:∀o,o∈ops.toList->A4n o=true)
  (hK:∀sl bx S w β a,K sl bx->St C n S w β a sl bx->QQ .normal a w) :
  ∀(J:Nat) (E:Array Bool) (a:Act) (w:World),E.size=ops.size->left ops.size E<=J -> (∀(i:Nat) (o:Oper),ops[i]?=some o->E.getD i false=true->∀e,e∈o.after->Region.binds .any e=true->E.getD e.on false=true) -> (∃(L:List Nat) (sl:SL) (bx:Aa) (S:Nat->Prop) (β:Names),L.Pairwise (· < ·)/\(∀j,j∈L↔j<ops.size/\E.getD j false=false)/\Lx P n ops (L.map (Wa ops is)) sl bx (KE K)/\St C n S w β a sl bx) ->wpAnyIn (FW ro) 0 P .any ops QQ J E a w:=by
 have a8:∀(E:Array Bool) (a:Act) (w:World),(∀i,i<ops.size->E.getD i false=true) ->(∃(L:List Nat) (sl:SL) (bx:Aa) (S:Nat->Prop) (β:Names),L.Pairwise (· < ·)/\(∀j,j∈L↔j<ops.size/\E.getD j false=false)/\Lx P n ops (L.map (Wa ops is)) sl bx (KE K)/\St C n S w β a sl bx)->QQ .normal a w:=by
  rintro E a w W ⟨L,sl,bx,S,β,_,hL,hR,hs⟩;have:L=[]:=As6.2 λj hj=>by grind
  subst this;obtain⟨sl',bx',h1,h2,h3⟩:=hR;exact hK sl' bx' S w β a h1 ⟨hs.inv.sub λk c hk=>(h3 k c).2 hk,hs.size,hs.defers,λt=>h2 t ▸ hs.slot t⟩
 have I:∀E:Array Bool,E.size=ops.size->Region.ready .any ops E=[]->∀i,i<ops.size->E.getD i false=true:=by
  intro E hs hr i
  induction i using Nat.strongRecOn with
  |_ i ih =>
   intro hi;cases hl:E.getD i false with
   |true=>rfl
   |false =>
    exfalso;have:i∈Region.ready .any ops E:=by rw[mem_ready];refine⟨?_,ops[i],Yr hi,λe he hb=>?_⟩;grind;have af:=hd.back i _ (Yr hi) e he hb;grind
    grind
 intro J
 induction J with
 |zero =>
  intro E a w hs aa a5 U;have W:∀i,i<ops.size->E.getD i false=true:=by
   intro i hi;cases hl:E.getD i false with
   |true=>rfl
   |false =>grind[left,List.countP_pos_iff]
  have O:Region.ready .any ops E=[]:=by
   rw[As6];intro i hi;rw[mem_ready]at hi;obtain⟨h1,o,ho,_⟩:=hi;have af:=(Ai6.1 ho).1;have:=W i af;have ah:i<E.size:=by omega
   simp[Array.getD,ah]at this h1;rw[this]at h1;simp at h1
  exact⟨O,a8 E a w W U⟩
 |succ J ih =>
  intro E a w hs aa a5 U;refine⟨λO=>a8 E a w (I E hs O) U,?_⟩;intro i hi;rw[mem_ready]at hi;obtain⟨a9,o,ho,ae⟩:=hi;have Z:i<ops.size:=(Ai6.1 ho).1;have am:i<E.size:=by omega
  have a0:E.getD i false=false:=by simp[Array.getD,am]at a9 |-;exact a9
  have a6:left ops.size (E.setIfInBounds i true)<=J:=by have:=F5f hs Z a0;omega
  have ao:∀j,(E.setIfInBounds i true).getD j false=true↔(j=i\/E.getD j false=true):=by intro j;by_cases hj:i=j;simp_all;rw[getD_set_ne false hj];grind
  have a7:∀(k:Nat) (o':Oper),ops[k]?=some o'->(E.setIfInBounds i true).getD k false=true->∀e,e∈o'.after->Region.binds .any e=true->(E.setIfInBounds i true).getD e.on false=true:=by
   intro k o' aq hk e he hb;rw[ao]at hk |-;rcases hk with rfl|hk
   grind;grind
  have ac:o∈ops.toList:=by have:=Array.mem_of_getElem? ho;simpa using this
  have ak:ops.getD i default=o:=by simp[Array.getD,Z,(Ai6.1 ho).2]
  simp only[wpOpIn,ho];obtain⟨L,sl,bx,S,β,hp,hL,hR,V⟩:=U;obtain⟨R1,R2,rfl⟩:=List.append_of_mem ((hL i).2 ⟨Z,a0⟩);rw[Hc,Cp]at hR;have ag:=Ao5.1 hp;have ar:=Aj7.1 ag.2.1;obtain⟨g,r,bx',pg,a1,a2,a3,a4⟩:=Lx.front _ (λx hx=>by obtain⟨j,hj,rfl⟩:=Au.1 hx;exact hd.un (λj=>E.getD j false=true) a5 i o ho ae j (ag.2.2 j hj i (by simp)) (by grind)) hR
  rw[show(Wa ops is i).1=o from ak]at a1 a2 a3 a4;rw[<-Hc]at a4;have ab:∀(S':Nat->Prop) (β':Names) (a':Act) (w':World),St C n S' w' β' a' (Gk (Gb pg sl) o.dst r) (bx'++bin (Wa ops is i).2.h bx)->wpAnyIn (FW ro) 0 P .any ops QQ J (E.setIfInBounds i true) a' w':=λS' β' a' w' aj =>
   ih _ _ _ (by grind) a6 a7 ⟨R1++R2,_,_,S',β',hp.sublist ((List.Sublist.refl R1).append (List.sublist_cons_self i R2)),λj=>by grind,a4,aj⟩
  have hw:=D2g (a:=a) (S:=S) (w:=w) (β:=β) (λt ht=>by obtain⟨j,ap,_,hj⟩:=ht;exact⟨V.slot t,by rw[V.size];exact D3w ad hj⟩) a1
  rw[hw];cases g with
  |true =>simp only[Ac];refine Oper.C9h (ai o ac) (a3.exec V a2) ?_;grind
  |false =>simp only[I5,Fm];obtain⟨rfl,rfl,hb⟩:=a3.no rfl;refine⟨λ_ _=>trivial,ab S β _ _ ?_⟩;refine(V.put (pg:=[]) a2 V.inv (C9.refl S w) (.tuple [] [] rfl (by simp)) (λ_ _=>rfl)).sub λk c hk=>?_;grind[Qr,Vr]
def A0.G3w{id:Nat}{ops:Array Oper}(is:Nat->GI)(B:Array Nat)(ks:List Nat)(O:P.follows .mixedOrders=true)(J:gOK ops is B=true)(hd:Fu n ops.toList=true)
  (h:Lx P n ops ((List.range ops.size).map (Wa ops is)) sl bx (KE λsl' bx'=>Q .normal (Vy ks sl') (T2 ks bx'))):A0 ro P n (.region id ops true) Q sl bx:=by intro C S w β a hs;refine wpIn_region_any O ?_;refine E8t (P:=P) (G6t J) (B8f hd) (E6w hd) (λsl' bx' S' w' β' V L E=>⟨_,_,S',β',L,E.X3 ks ks⟩) ops.size _ a _ (by simp) ?_ ?_ ⟨List.range ops.size,sl,bx,S,β,List.pairwise_lt_range,λj=>?_,h,?_⟩;grind[left,List.countP_le_length];intro i o U I;simp[Array.getD]at I;simp_all;exact⟨(hs.inv.grow (w':={ w with drawn:=w.drawn+1 }) (λ_ h=>h) (λ_ h=>.inl h) hs.inv.C3 (λ_ _=>rfl) rfl rfl rfl (Bq _)).1,hs.size,hs.defers.ext ⟨λ_ h=>h,λ_ _=>rfl⟩,λt=>(hs.slot t).ext ⟨λ_ h=>h,λ_ _=>rfl⟩ (λ_ _=>rfl)⟩
def Gm:List Kn->Kn
 |[]=>⟨[],[],[],[]⟩
 |z::_=>z
def A2p:List Nat->SV->Bool
 |[],_=>true
 |k::r,x=>!x.has k && A2p r x
def A7r:List Nat->Aq->Bool
 |[],_=>true
 |k::r,x=>!x.has k && A7r r x
def Xm(m h:List Nat):Aa->Bool
 |[]=>true
 |(k,c)::r=>(!T4 k m ||(c.real && A7r h c)) && Xm m h r
def Z7:List Nat->List Nat->Bool
 |[],_=>true
 |k::r,m=>T4 k m && Z7 r m
def A2t:List Nat->List Nat->Bool
 |[],_=>true
 |k::r,m=>!T4 k m && A2t r m
def E5h{x:SV}:∀{h:List Nat},A2p h x=true->∀q,q∈h->x.has q=false
 |[],_,q,hq=>by grind
 |k::r,e,q,hq=>by simp only[A2p,Bi,Jj]at e;rcases B5.1 hq with rfl|hq;grind;exact E5h e.2 q hq
theorem E5s{x:Aq}:∀{h:List Nat},A7r h x=true->∀q,q∈h->x.has q=false
 |[],_,q,hq=>by grind
 |k::r,e,q,hq=>by simp only[A7r,Bi,Jj]at e;rcases B5.1 hq with rfl|hq;grind;exact E5s e.2 q hq
def B6a{m h:List Nat}:∀{bx:Aa},Xm m h bx=true->∀k c,k∈m->(k,c)∈bx->c.real=true/\∀q,q∈h->c.has q=false
 |[],_,k,c,_,hc=>by grind
 |(j,x)::r,e,k,c,E,hc=>by simp only[Xm,Bi,Xu,Jj]at e;rcases B5.1 hc with I|hc;grind[A1u,E5s];exact B6a e.2 k c E hc
def C1f{m:List Nat}:∀{l:List Nat},Z7 l m=true->∀k,k∈l->k∈m
 |[],_,k,hk=>by grind
 |j::r,e,k,hk=>by simp only[Z7,Bi]at e;rcases B5.1 hk with rfl|hk;exact A1u.1 e.1;exact C1f e.2 k hk
def D2s{m:List Nat}:∀{l:List Nat},A2t l m=true->∀k,k∈l->k∉m
 |[],_,k,hk=>by grind
 |j::r,e,k,hk=>by simp only[A2t,Bi,Jj]at e;rcases B5.1 hk with rfl|hk;grind[A1u];exact D2s e.2 k hk
def Ti(m p h q:List Nat)(bx:Aa)(r:SV)(bx':Aa)(pg:List Nat):Prop :=A2t m h=true/\Z7 pg p=true/\Z7 p m=true/\Im m bx'=Im m (Im h bx)/\Xm m q bx=true/\Xm m q bx'=true/\A2p q r=true/\Xm h pg bx=true
def Ti.cond{z:Kn}{r:SV}{bx':Aa}{pg:List Nat}(c:Ti z.m z.p z.h z.q bx r bx' pg):A0j z bx r bx' pg:=by obtain⟨O,I,J,Z,E,L,V,U⟩:=c;refine⟨D2s O,C1f I,C1f J,λk c hk=>?_,B6a E,B6a L,E5h V,B6a U⟩;have W:=Qr (ks:=z.m) (k:=k) (c:=c) (bx:=bx');grind[Qr]
def B7u(h:List Nat):∀bx:Aa,Xm [] h bx=true
 |[]=>rfl
 |(k,c)::r=>by rw[Xm,T4,B7u h r];rfl
def Lh(P:Program)(own:List Nat)(ops:Array Oper):List Oper->List Kn->SL->Aa->(SL->Aa->Prop)->Prop
 |[],_,sl,bx,K=>K sl bx
 |o::os,is,sl,bx,K=>match o.guard with
  |none=>Ie P own o.dst (Gb (Gm is).q sl) (Im (Gm is).h bx) o.op λr bx' pg=>Ti (Gm is).m (Gm is).p (Gm is).h (Gm is).q bx r bx' pg/\Lh P own ops os is.tail (Gk (Gb pg sl) o.dst r) (bx'++bin (Gm is).h bx) K
  |some (j,E)=>match Qs ops j with
   |some t=>match Af sl t with
    |.d (.bool b)=>Su b E (Ie P own o.dst (Gb (Gm is).q sl) (Im (Gm is).h bx) o.op λr bx' pg=>Ti (Gm is).m (Gm is).p (Gm is).h (Gm is).q bx r bx' pg/\Lh P own ops os is.tail (Gk (Gb pg sl) o.dst r) (bx'++bin (Gm is).h bx) K) (Ti (Gm is).m (Gm is).p (Gm is).h (Gm is).q bx (.tuple []) (Im (Gm is).h bx) []/\Lh P own ops os is.tail (Gk sl o.dst (.tuple [])) (Im (Gm is).h bx++bin (Gm is).h bx) K)
    |.tuple []=>Ti (Gm is).m (Gm is).p (Gm is).h (Gm is).q bx (.tuple []) (Im (Gm is).h bx) []/\Lh P own ops os is.tail (Gk sl o.dst (.tuple [])) (Im (Gm is).h bx++bin (Gm is).h bx) K
    |_=>False
   |none=>False
section
variable (P:Program) (own:List Nat) (ops:Array Oper) (os:List Oper) (is:List Kn) (sl:SL) (bx:Aa) (dst:Option Nat) (op:Op) (z:Kn) (m p h q:List Nat) (K:SL->Aa->Prop)
def A8b:KB:=λr bx' pg=>Ti z.m z.p z.h z.q bx r bx' pg/\Lh P own ops os is (Gk (Gb pg sl) dst r) (bx'++bin z.h bx) K
def opG:Prop:=Ie P own dst (Gb z.q sl) (Im z.h bx) op (A8b P own ops os is sl bx dst z K)
def A3n:Prop:=Ti z.m z.p z.h z.q bx (.tuple []) (Im z.h bx) []/\Lh P own ops os is (Gk sl dst (.tuple [])) (Im z.h bx++bin z.h bx) K
def X6(E b:Bool):Prop:=Su b E (opG P own ops os is sl bx dst op z K) (A3n P own ops os is sl bx dst z K)
def C3d(E:Bool):SV->Prop
 |.d (.bool b)=>X6 P own ops os is sl bx dst op z K E b
 |.tuple []=>A3n P own ops os is sl bx dst z K
 |_=>False
def C6e(E:Bool):Option Nat->Prop
 |some t=>C3d P own ops os is sl bx dst op z K E (Af sl t)
 |none=>False
variable (ty:TypeId) (pos:String) (after:Array Edge)
def F6g:Lh P own ops [] is sl bx K=K sl bx:=by rfl
def H1i:Lh P own ops (⟨dst,op,ty,pos,after,none⟩::os) is sl bx K=opG P own ops os is.tail sl bx dst op (Gm is) K:=by rfl
def F5n(j:Nat)(E:Bool):Lh P own ops (⟨dst,op,ty,pos,after,some (j,E)⟩::os) is sl bx K=C6e P own ops os is.tail sl bx dst op (Gm is) K E (Qs ops j):=by rfl
def E7z:opG P own ops os is sl bx dst op ⟨m,p,[],[]⟩ K=Ie P own dst sl bx op (A8b P own ops os is sl bx dst ⟨m,p,[],[]⟩ K):=by rw[opG,A4o];rfl
def F7o(k:Nat)(h q:List Nat):opG P own ops os is sl bx dst op ⟨m,p,k::h,q⟩ K=Ie P own dst (Gb q sl) (Im (k::h) bx) op (A8b P own ops os is sl bx dst ⟨m,p,k::h,q⟩ K):=rfl
def G1z(r:SV):A8b P own ops os is sl bx dst ⟨[],[],[],[]⟩ K r bx []=Lh P own ops os is (Gk sl dst r) bx K:=by simp only[A8b,Ti,A2t,Z7,B7u,A2p,A4o,A4b,Gy,Gb,Qo]
def F9e(r:SV)(bx':Aa)(pg:List Nat):A8b P own ops os is sl bx dst ⟨m,p,h,q⟩ K r bx' pg=(Ti m p h q bx r bx' pg/\Lh P own ops os is (Gk (Gb pg sl) dst r) (bx'++bin h bx) K):=rfl
def E7o:A3n P own ops os is sl bx dst ⟨[],[],[],[]⟩ K=Lh P own ops os is (Gk sl dst (.tuple [])) bx K:=by simp only[A3n,Ti,A2t,Z7,B7u,A2p,A4o,A4b,Gy,Qo]
def H0g:A3n P own ops os is sl bx dst ⟨m,p,h,q⟩ K=(Ti m p h q bx (.tuple []) (Im h bx) []/\Lh P own ops os is (Gk sl dst (.tuple [])) (Im h bx++bin h bx) K):=rfl
def G4q(E b:Bool):C3d P own ops os is sl bx dst op z K E (.d (.bool b))=X6 P own ops os is sl bx dst op z K E b:=rfl
def F9j(E:Bool):C3d P own ops os is sl bx dst op z K E (.tuple [])=A3n P own ops os is sl bx dst z K:=rfl
def E7h:X6 P own ops os is sl bx dst op z K true true=opG P own ops os is sl bx dst op z K:=by simp[X6,Su]
def G2g:X6 P own ops os is sl bx dst op z K false false=opG P own ops os is sl bx dst op z K:=by simp[X6,Su]
def F9w:X6 P own ops os is sl bx dst op z K true false=A3n P own ops os is sl bx dst z K:=by simp[X6,Su]
def G9k:X6 P own ops os is sl bx dst op z K false true=A3n P own ops os is sl bx dst z K:=by simp[X6,Su]
def A4c:SL->Aa->Prop:=λsl bx=>Fo P own ops os sl bx K
def G2r:A4c P own ops os K sl bx=Fo P own ops os sl bx K:=rfl
end
def A4e:List Oper->List Kn->List (Oper × GI)
 |[],_=>[]
 |o::os,is=>(o,some (Gm is))::A4e os is.tail
def C6a{own:List Nat}{ops:Array Oper}{R:List (Oper × GI)}{K V:SL->Aa->Prop}(O:∀sl bx,K sl bx->Lx P n ops R sl bx V):∀(os:List Oper)(is:List Kn)(sl:SL)(bx:Aa),Fu n os=true ->Lh P own ops os is sl bx K->Lx P n ops (A4e os is++R) sl bx V
 |[],is,sl,bx,_,h=>by rw[Lh]at h;exact O sl bx h
 |o::os,is,sl,bx,hd,h=>by
  simp only[Fu,Rx,Bi]at hd;rw[Lh]at h;obtain⟨g,U,h2,W⟩:=D4b h;have E:=B8f (n:=n) (ops:=[o]) (by simp[Fu,hd.1]) o (by simp);cases g with
  |true =>obtain⟨r,bx',pg,Z,J,I⟩:=D7p (h2 rfl);exact⟨true,r,bx',pg,U,E,⟨λ_=>Z,(λh=>by cases h),λz L=>by cases L;exact J.cond⟩,C6a O os _ _ _ hd.2 I⟩
  |false =>obtain⟨J,I⟩:=W rfl;exact⟨false,.tuple [],_,[],U,E,⟨(λh=>by cases h),λ_=>⟨rfl,rfl,λ_ _=>Iff.rfl⟩,λz L=>by cases L;exact J.cond⟩,C6a O os _ _ _ hd.2 I⟩
def Run.gen{ops:Array Oper}{K:SL->Aa->Prop}:∀(os:List Oper)(sl:SL)(bx:Aa),Run P n ops os sl bx K->Lx P n ops (os.map λo=>(o,none)) sl bx (KE K)
 |[],sl,bx,h=>⟨sl,bx,h,λ_=>rfl,λ_ _=>Iff.rfl⟩
 |o::os,sl,bx,⟨g,I,J,L,V⟩=>by
  cases g with
  |true =>obtain⟨r,bx',pg,U,O⟩:=L rfl;exact⟨true,r,bx',pg,I,J,⟨λ_=>by rw[show GI.h none=[] from rfl,A4o];exact U,(λh=>by cases h),(λz E=>by cases E)⟩,by rw[show GI.h (o,(none:GI)).2=[] from rfl,A4b,Gy];exact Run.gen os _ _ O⟩
  |false=>exact⟨false,.tuple [],bx,[],I,J,⟨(λh=>by cases h),λ_=>⟨rfl,rfl,λ_ _=>by grind[GI.h,A4o]⟩,(λz E=>by cases E)⟩,by rw[show GI.h (o,(none:GI)).2=[] from rfl,A4b,Gy];exact Run.gen os _ _ (V rfl)⟩
def A3k(m:Nat)(is:List Kn)(j:Nat):GI:=if j<m then some (Gm (is.drop j))else none
def D9v:∀(os:List Oper)(is:List Kn)(j:Nat),(A4e os is)[j]?=(os[j]?).map λo=>(o,some (Gm (is.drop j)))
 |[],is,j=>by rfl
 |o::os,is,0=>by rfl
 |o::os,is,j+1=>by rw[A4e,Q3,D9v,Q3];simp
theorem B1z:∀(os:List Oper)(is:List Kn),(A4e os is).length=os.length
 |[],_=>rfl
 |_::os,is=>by rw[A4e,Ar,B1z,Ar]
def F8x(ops:Array Oper)(m:Nat)(is:List Kn):(List.range ops.size).map (Wa ops (A3k m is))=A4e (ops.toList.take m) is++(ops.toList.drop m).map λo=>(o,none):=by
 apply Mm;intro j;rw[Db];by_cases J:j<ops.size
 .have hr:(List.range ops.size)[j]?=some j:=by rw[Am0 J]
  have I:ops.toList[j]?=some (ops.getD j default):=by simp[Array.getD,J]
  rw[hr,Ef];unfold Wa A3k;by_cases E:j<m;rw[A6 E,N0 (by rw[B1z];grind),D9v,Ak4,A6 E,I];rfl;rw[A3 E,Ma (by rw[B1z];grind),B1z,Db,Vw,show m+(j - (ops.toList.take m).length)=j by grind,I];rfl
 grind[B1z]
def A0.D0r{id:Nat}{ops:Array Oper}(ks own:List Nat)(m:Nat)(is:List Kn)(U:P.follows .mixedOrders=true)(O:gOK ops (A3k m is) (Region.before ops)=true)(hd:Fu n ops.toList=true)
  (h:Lh P own ops (ops.toList.take m) is sl bx (A4c P own ops (ops.toList.drop m) (J0 ks (Q .normal)))):A0 ro P n (.region id ops true) Q sl bx:=by
 have I:Fu n (ops.toList.take m)=true:=by unfold Fu at*;rw[Dr]at*;exact λo E=>hd o (Mt E)
 have J:Fu n (ops.toList.drop m)=true:=by unfold Fu at*;rw[Dr]at*;exact λo E=>hd o (Aj6 E)
 refine A0.G3w _ _ ks U O hd ?_;rw[F8x];exact C6a (λV L h=>(B8t _ _ _ J h).gen) _ _ _ _ I h
def A0.E3q{id:Nat}{ops:Array Oper}{y:Code}(ks own:List Nat)(m:Nat)(is:List Kn)(I:P.follows .mixedOrders=true)(E:gOK ops (A3k m is) (Region.before ops)=true)(hd:Fu n ops.toList=true)
  (h:∀K:SL->Aa->Prop,(∀sl' bx',A0 ro P n y Q sl' bx'->K sl' bx')->Lh P own ops (ops.toList.take m) is sl bx (A4c P own ops (ops.toList.drop m) (J0 ks K))):A0 ro P n (.seq (.region id ops true) y) Q sl bx :=
 A0.seq (A0.D0r ks own m is I E hd (h _ λ_ _ h=>h))
def A0.F1j{id:Nat}{ops:Array Oper}(ks own:List Nat)(m:Nat)(is:List Kn)(I:P.follows .mixedOrders=true)(E:gOK ops (A3k m is) (Region.before ops)=true)(hd:Fu n ops.toList=true)
  (h:∀K:SL->Aa->Prop,(∀sl' bx',Q .normal sl' bx'->K sl' bx')->Lh P own ops (ops.toList.take m) is sl bx (A4c P own ops (ops.toList.drop m) (J0 ks K))):A0 ro P n (.region id ops true) Q sl bx :=
 A0.D0r ks own m is I E hd (h _ λ_ _ h=>h)
end Go.Abs
