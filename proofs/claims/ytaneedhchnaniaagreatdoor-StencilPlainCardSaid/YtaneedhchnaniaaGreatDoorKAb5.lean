/- Drawn regions: any order that the edges allow comes to what the text's order comes to. Own framework. -/
import Derived.Test.YtaneedhchnaniaaGreatDoorKAb4
set_option linter.all false
namespace Go.Abs
open Go
variable {ro:Option Nat} {P:Program} {n:Nat} {Q:Exit→SL→Ab→Prop} {sl:SL} {bx:Ab} {o:Oper} {ρ:Hq}
def A1a (k:Nat):Ab→Bool
 |[]=>false
 |(j,c)::r=>j == k ||c.has k ||A1a k r
theorem B5r {k:Nat}:∀{bx:Ab},A1a k bx=false→∀j c,(j,c)∈bx→j≠k∧c.has k=false
 |[],_,j,c,h=>by simp at h
 |(i,x)::r,h,j,c,hm=>by
  simp only [A1a,Wf,Av2] at h;rcases As.1 hm with E| hm
  ·simp only [Df] at E;obtain⟨rfl,rfl⟩:=E;exact⟨h.1.1,h.1.2⟩
  ·exact B5r h.2 j c hm
def Rv (k:Nat):List Nat→Bool
 |[]=>false
 |j::r=>k == j ||Rv k r
theorem A1o {k:Nat}:∀{l:List Nat},Rv k l=true↔k∈l
 |[]=>by simp [Rv]
 |j::r=>by simp [Rv,A1o]
def Ho (ks:List Nat):Ab→Ab
 |[]=>[]
 |(k,c)::r=>if Rv k ks=true then Ho ks r else (k,c)::Ho ks r
def bin (ks:List Nat):Ab→Ab
 |[]=>[]
 |(k,c)::r=>if Rv k ks=true then (k,c)::bin ks r else bin ks r
theorem Nf {ks:List Nat} {k:Nat} {c:Ar}:∀{bx:Ab},(k,c)∈Ho ks bx↔k ∉ ks∧(k,c)∈bx
 |[]=>by simp [Ho]
 |(j,x)::r=>by
  rw [Ho];by_cases h:Rv j ks=true
  ·have E:=A1o.1 h;rw [A8 h,Nf,As,Df];exact⟨fun⟨a,b⟩=>⟨a,.inr b⟩,fun⟨a,b⟩=>⟨a,b.resolve_left fun e=>a (e.1 ▸ E)⟩⟩
  ·have E:j ∉ ks:=fun I=>h (A1o.2 I);rw [A6 h,As,Nf,As,Df];exact⟨fun e=>e.elim (fun e=>⟨e.1 ▸ E,.inl e⟩) fun e=>⟨e.1,.inr e.2⟩,fun⟨a,b⟩=>b.imp id fun b=>⟨a,b⟩⟩
theorem Tg {ks:List Nat} {k:Nat} {c:Ar}:∀{bx:Ab},(k,c)∈bin ks bx↔k∈ks∧(k,c)∈bx
 |[]=>by simp [bin]
 |(j,x)::r=>by
  rw [bin];by_cases h:Rv j ks=true
  ·have E:=A1o.1 h;rw [A8 h,As,Tg,As,Df];exact⟨fun e=>e.elim (fun e=>⟨e.1 ▸ E,.inl e⟩) fun e=>⟨e.1,.inr e.2⟩,fun⟨a,b⟩=>b.imp id fun b=>⟨a,b⟩⟩
  ·have E:j ∉ ks:=fun I=>h (A1o.2 I);rw [A6 h,Tg,As,Df];exact⟨fun⟨a,b⟩=>⟨a,.inr b⟩,fun⟨a,b⟩=>⟨a,b.resolve_left fun e=>E (e.1 ▸ a)⟩⟩
theorem A1m:∀bx:Ab,Ho [] bx=bx
 |[]=>rfl
 |(k,c)::r=>by rw [Ho,Rv,A6 (by decide),A1m r]
theorem A2s:∀bx:Ab,bin [] bx=[]
 |[]=>rfl
 |(k,c)::r=>by rw [bin,Rv,A6 (by decide),A2s r]
def Qo:List Nat→SV→SV
 |[],x=>x
 |k::ks,x=>Qo ks (L6 k x)
theorem Py:∀(ks:List Nat)(sl:SL)(t:Nat),Ae (Fb ks sl) t=Qo ks (Ae sl t)
 |[],_,_=>rfl
 |k::ks,sl,t=>by rw [Fb,Py ks,A5j];rfl
theorem Yn:∀(ks:List Nat)(x:SV),(Qo ks x=x∧∀q,q∈ks→x.has q=false)∨(Qo ks x=.undef∧∃q,q∈ks∧x.has q=true)
 |[],x=>.inl ⟨rfl,by simp⟩
 |k::ks,x=>by
  rw [Qo];unfold L6;by_cases h:x.has k=true
  ·rw [A8 h];refine .inr ⟨?_,k,by simp,h⟩;rcases Yn ks .undef with h| h <;> exact h.1
  ·rw [A6 h];rcases Yn ks x with ⟨I,E⟩| ⟨I,q,E,J⟩
   ·refine .inl ⟨I,fun q hq=>?_⟩;rcases As.1 hq with rfl| hq
    ·simpa using h
    ·exact E q hq
   ·exact .inr ⟨I,q,Ar6 _ E,J⟩
theorem C0y {ks:List Nat} {x:SV} (h:∀q,q∈ks→x.has q=false):Qo ks x=x:=by
 rcases Yn ks x with ⟨J,_⟩| ⟨_,q,I,E⟩
 ·exact J
 ·rw [h q I] at E;cases E
theorem D2t (ks:List Nat):Qo ks .undef=.undef:=C0y fun _ _=>rfl
theorem F1p {a b:List Nat} (h:∀k,k∈b→k∈a)(x:SV):Qo a (Qo b x)=Qo a x:=by
 rcases Yn b x with ⟨I,_⟩| ⟨I,q,L,J⟩
 ·rw [I]
 ·rw [I,D2t];rcases Yn a x with ⟨_,E⟩| ⟨E,_⟩
  ·rw [E q (h q L)] at J;cases J
  ·exact E.symm
theorem E7i (a b:List Nat)(x:SV):Qo a (Qo b x)=Qo b (Qo a x):=by rcases Yn a x with ⟨I,J⟩| ⟨I,J⟩ <;> rcases Yn b x with ⟨E,L⟩| ⟨E,L⟩ <;> simp only [I,E,D2t]
theorem Yg (sl:SL)(d:Option Nat)(r:SV)(t:Nat):Ae (Fi sl d r) t=if d=some t then r else Ae sl t:=by
 cases d with
 |none=>simp [Fi]
 |some u=>simp [Fi,Ae]
theorem Bt.congr {J:Hq} {E bx':Ab} {r:SV} {pg:List Nat} (h:Bt P o ρ bx r bx' pg)(R:∀k c,(k,c)∈bx→(k,c)∈E) (U:∀x,x∈o.op.operands→J x = ρ x):Bt P o J E r bx' pg :=
 fun C S w β a O L=>h C S w β a (O.sub R) fun x I=>by rw [←U x I];exact L x I
def E1c (β:Names)(F:Ab)(b:Nat):Prop:=∃k c,(k,c)∈F∧(β k).base=some b
theorem Bt.F5q {r:SV} {bx':Ab} {pg:List Nat} (h:Bt P o ρ bx r bx' pg)(F:Ab)(hF:∀k c,(k,c)∈F→c.real=true∧k ∉ pg∧(∀q,q∈pg→c.has q=false)∧(∀x,(k,x) ∉ bx)∧∀x,(k,x) ∉ bx')
  (hG:∀k Y st,(k,Ar.ghost Y st)∈bx'→(k,Ar.ghost Y st)∈bx) {C:Ctx} {S:Nat→Prop} {w:World} {β:Names} {a:Act} (L:Inv C S w β (F++bx)) (ha:∀x,x∈o.op.operands→Am S w β (ρ x) (a.eval x)) :
  o.wpx P a w (fun a' w'=>∃v S' β',a'=a.put o.dst v∧Inv C S' w' β' (F++bx')∧Bo S w S' w'∧Am S' w' β' r v∧∀k,k ∉ pg→β' k = β k):=by
 have I:∀{j:Nat} {x:Ar},(j,x)∈bx→(j,x)∈F++bx:=fun h=>Bw.2 (.inr h);have W:∀{j:Nat} {x:Ar},(j,x)∈F→(j,x)∈F++bx:=fun h=>Bw.2 (.inl h);have a7:∀{j:Nat} {x:Ar} {b:Nat},(j,x)∈bx→(β j).base=some b→¬E1c β F b:=fun hj h1 ⟨k,c,hk,O⟩=>by obtain⟨rfl,_⟩:=L.inj _ _ _ _ (W hk) (I hj) _ O h1;exact (hF _ _ hk).2.2.2.1 _ hj
 have a6:Inv ⟨w,S,fun b=>¬S b∧(C.pre b∨C.w0.heap.size≤b)∧¬E1c β F b,C.A6p,C.G⟩ S w β bx:={
  Ek:=fun _ O=>O,Dx:=fun _ O=>.inl O,Bi:=L.Bi,kept:=fun _ _ _=>rfl,os:=rfl,tape:=rfl,output:=rfl,size:=Cq _,
  box:=fun j x hj=>L.box j x (I hj)
  B8:=fun j x hj b O=>⟨(L.B8 j x (I hj) b O).1,(L.B8 j x (I hj) b O).2.1,.inl ⟨(L.B8 j x (I hj) b O).1,(L.B8 j x (I hj) b O).2.2,a7 hj O⟩⟩
  inj:=fun j x j' x' hj hj'=>L.inj j x j' x' (I hj) (I hj')
  D9:=L.D9
  one:=fun j Y st j' Y' a3 hj hj'=>L.one j Y st j' Y' a3 (I hj) (I hj')
  Ez:=fun j Y st hj=>by obtain⟨h1,h2,h3,h4,B,h5,h6⟩:=L.Ez j Y st (I hj);exact⟨h1,h2,Dk h3 L.size,fun V Z hk'=>h4 V Z (I hk'),B,h5,fun b O=>⟨(h6 b O).1,(h6 b O).2.1,.inl ⟨(h6 b O).1,(h6 b O).2.2.1,fun⟨k,c,hk,E⟩=>(h6 b O).2.2.2 k c (W hk) E⟩,fun V Z hk'=>(h6 b O).2.2.2 V Z (I hk')⟩⟩
  fix:=L.fix }
 refine Oper.C2j (h _ S w β a a6 ha) ?_;rintro a' w' ⟨v,S',β',rfl,R,he,hv,O⟩;have aa:w.heap.size≤w'.heap.size:=R.size;have a9:=L.size;have a0:∀k c,(k,c)∈F→β' k = β k:=fun k c hk=>O k (hF k c hk).2.1;have a1:∀k c b,(k,c)∈F→(β k).base=some b→b < w.heap.size:=fun k c b hk E=>(L.B8 k c (W hk) b E).2.1;have a2:∀k c V Z b,(k,c)∈F→(V,Z)∈bx'→(β k).base=some b→(β' V).base≠some b:=fun k c V Z b hk hk' h1 h2=>by
  rcases (R.B8 V Z hk' b h2).2.2 with h| h
  ·exact h.2.2 ⟨k,c,hk,h1⟩
  ·have:=a1 k c b hk h1;simp only at h;omega
 have J:∀{k c},(k,c)∈F++bx'→(k,c)∈F∨(k,c)∈bx':=fun hm=>Bw.1 hm;have a4:∀k Y st,(k,Ar.ghost Y st)∈F++bx'→(k,Ar.ghost Y st)∈bx'∧(k,Ar.ghost Y st)∈bx:=fun k Y st hm=>by
  rcases J hm with hm| hm
  ·have:=(hF _ _ hm).1;simp [Ar.real] at this
  ·exact⟨hm,hG _ _ _ hm⟩
 refine⟨v,S',β',rfl,?_,he,hv,O⟩;exact {
  Ek:=fun b E=>R.Ek b (L.Ek b E)
  Dx:=fun b E=>by
   rcases R.Dx b E with h| h| h
   ·exact L.Dx b h
   ·exact .inr h.2.1
   ·exact .inr (.inr (Dk L.size h))
  Bi:=R.Bi
  kept:=fun b E hp=>by
   refine (R.kept b (Wj E L.size) ?_).trans (L.kept b E hp);rintro⟨_,h| h,_⟩
   ·exact hp h
   ·omega
  os:=R.os.trans L.os
  tape:=R.tape.trans L.tape
  output:=R.output.trans L.output
  size:=Dk L.size R.size
  box:=fun j x hj=>by
   rcases J hj with hj| hj
   ·rw [a0 j x hj];exact (L.box j x (W hj)).ext he (fun b E=>R.kept b (a1 j x b hj E) fun h=>h.2.2 ⟨j,x,hj,E⟩) (fun q hq=>O q fun hp=>by rw [(hF j x hj).2.2.1 q hp] at hq;cases hq)
   ·exact R.box j x hj
  B8:=fun j x hj b E=>by
   rcases J hj with hj| hj
   ·rw [a0 j x hj] at E;obtain⟨g1,g2,g3⟩:=L.B8 j x (W hj) b E;refine⟨fun hs=>?_,Wj g2 R.size,g3⟩;rcases R.Dx b hs with h| h| h
    ·exact g1 h
    ·exact h.2.2 ⟨j,x,hj,E⟩
    ·simp only at h;omega
   ·refine⟨(R.B8 j x hj b E).1,(R.B8 j x hj b E).2.1,?_⟩;rcases (R.B8 j x hj b E).2.2 with h| h
    ·exact h.2.1
    ·exact .inr (Dk L.size h)
  inj:=fun j x j' x' hj hj' b h1 h2=>by
   rcases J hj with hj| hj
   ·rw [a0 j x hj] at h1;rcases J hj' with hj' | hj'
    ·rw [a0 j' x' hj'] at h2;exact L.inj j x j' x' (W hj) (W hj') b h1 h2
    ·exact absurd h2 (a2 j x j' x' b hj hj' h1)
   ·rcases J hj' with hj' | hj'
    ·rw [a0 j' x' hj'] at h2;exact absurd h1 (a2 j' x' j x b hj' hj h2)
    ·exact R.inj j x j' x' hj hj' b h1 h2
  D9:=R.D9
  one:=fun j Y st j' Y' a3 hj hj'=>L.one j Y st j' Y' a3 (I (a4 _ _ _ hj).2) (I (a4 _ _ _ hj').2)
  Ez:=fun j Y st hj=>by
   obtain⟨a5,a8⟩:=a4 _ _ _ hj;obtain⟨h1,h2,_,h4,B,h5,h6⟩:=R.Ez j Y st a5;obtain⟨_,_,f3,f4,_⟩:=L.Ez j Y st (I a8);refine⟨h1,h2,f3,fun V Z hk' b E=>?_,B,h5,fun b E=>⟨(h6 b E).1,(h6 b E).2.1,?_,fun V Z hk' U=>?_⟩⟩
   ·rcases J hk' with hk' | hk'
    ·rw [a0 V Z hk'] at E;exact f4 V Z (W hk') b E
    ·exact h4 V Z hk' b E
   ·rcases (h6 b E).2.2.1 with h| h
    ·exact h.2.1
    ·exact .inr (Dk L.size h)
   ·rcases J hk' with hk' | hk'
    ·rw [a0 V Z hk'] at U;rcases (h6 b E).2.2.1 with h| h
     ·exact h.2.2 ⟨V,Z,hk',U⟩
     ·have:=a1 V Z b hk' U;simp only at h;omega
    ·exact (h6 b E).2.2.2 V Z hk' U
  fix:=R.fix }
structure Ie where
 m:List Nat
 p:List Nat
 h:List Nat
 q:List Nat
abbrev GI:=Option Ie
def GI.h:GI→List Nat
 |some z=>z.h
 |none=>[]
def GI.q:GI→List Nat
 |some z=>z.q
 |none=>[]
structure Za (z:Ie)(bx:Ab)(r:SV)(bx':Ab)(pg:List Nat):Prop where
 Zc:∀k,k∈z.m→k ∉ z.h
 Y8:∀k,k∈pg→k∈z.p
 pm:∀k,k∈z.p→k∈z.m
 rest:∀k c,k ∉ z.m→((k,c)∈bx'↔k ∉ z.h∧(k,c)∈bx)
 Yb:∀k c,k∈z.m→(k,c)∈bx→c.real=true∧∀q,q∈z.q→c.has q=false
 new:∀k c,k∈z.m→(k,c)∈bx'→c.real=true∧∀q,q∈z.q→c.has q=false
 res:∀q,q∈z.q→r.has q=false
 hid:∀k c,k∈z.h→(k,c)∈bx→c.real=true∧∀q,q∈pg→c.has q=false
structure GOp (P:Program)(o:Oper)(i:GI)(g:Bool)(sl:SL)(bx:Ab)(r:SV)(bx':Ab)(pg:List Nat):Prop where
 yes:g=true→Bt P o (Ao (Fb i.q sl)) (Ho i.h bx) r bx' pg
 no:g=false→r=.tuple []∧pg=[]∧∀k c,(k,c)∈bx'↔(k,c)∈Ho i.h bx
 cond:∀z,i=some z→Za z bx r bx' pg
def Ks (P:Program)(n:Nat)(ops:Array Oper):List (Oper × GI)→SL→Ab→(SL→Ab→Prop)→Prop
 |[],sl,bx,K=>K sl bx
 |x::os,sl,bx,K=>∃g r bx' pg,Qn ops sl x.1=some g∧Xo n x.1.dst∧GOp P x.1 x.2 g sl bx r bx' pg∧Ks P n ops os (Fi (Fb pg sl) x.1.dst r) (bx'++bin x.2.h bx) K
def Eqv (sl:SL)(bx:Ab)(sl':SL)(bx':Ab):Prop:=(∀t,Ae sl t=Ae sl' t)∧∀k c,(k,c)∈bx↔(k,c)∈bx'
def KE (K:SL→Ab→Prop):SL→Ab→Prop:=fun sl bx=>∃sl' bx',K sl' bx'∧Eqv sl bx sl' bx'
theorem C7g {sl sl':SL} {x:Operand} (h:∀t,x=.tmp t→Ae sl t=Ae sl' t):Ao sl x=Ao sl' x:=by
 cases x with
 |tmp t=>exact h t rfl
 |_=>rfl
theorem Ks.congr {ops:Array Oper} {K:SL→Ab→Prop}:∀(os:List (Oper × GI)) {sl sl':SL} {bx bx':Ab},Eqv sl bx sl' bx'→Ks P n ops os sl bx (KE K)→Ks P n ops os sl' bx' (KE K)
 |[],sl,sl',bx,bx',e,⟨s,b,h,R,L⟩=>⟨s,b,h,fun t=>(e.1 t).symm.trans (R t),fun k c=>(e.2 k c).symm.trans (L k c)⟩
 |x::os,sl,sl',bx,bx',e,⟨g,r,b,pg,R,L,J,U⟩=>by
  refine⟨g,r,b,pg,(F0h fun _ _ t _ _=>(e.1 t).symm).trans R,L,⟨fun I=>(J.yes I).congr (fun k c E=>Nf.2 ⟨(Nf.1 E).1,(e.2 k c).1 (Nf.1 E).2⟩) fun y _=>C7g fun t _=>by rw [Py,Py,e.1],
   fun I=>⟨(J.no I).1,(J.no I).2.1,fun k c=>((J.no I).2.2 k c).trans (by rw [Nf,Nf,e.2])⟩,fun z V=>?_⟩,Ks.congr os ⟨fun t=>by rw [Yg,Yg,Py,Py,e.1],fun k c=>by rw [Bw,Bw,Tg,Tg,e.2]⟩ U⟩
  have c:=J.cond z V;exact⟨c.Zc,c.Y8,c.pm,fun k x E=>(c.rest k x E).trans (by rw [e.2]),fun k x E O=>c.Yb k x E ((e.2 k x).2 O),c.new,c.res,fun k x E O=>c.hid k x E ((e.2 k x).2 O)⟩
structure A7u (z1 z2:Ie):Prop where
 m:∀k,k∈z1.m→k∈z2.h
 p:∀k,k∈z1.p→k∈z2.q
structure Un (ops:Array Oper)(x y:Oper × GI):Prop where
 u1:∀t,x.1.dst=some t→t ∉ A8i ops y.1
 u2:∀t,y.1.dst=some t→t ∉ A8i ops x.1
 d:∀t,x.1.dst=some t→y.1.dst≠some t
 i:∃z1 z2,x.2=some z1∧y.2=some z2∧A7u z1 z2∧A7u z2 z1
theorem Za.out {z:Ie} {r:SV} {bx':Ab} {pg:List Nat} (c:Za z bx r bx' pg) {k:Nat} {x:Ar} (E:k ∉ z.m):(k,x)∈bx'++bin z.h bx↔(k,x)∈bx:=by rw [Bw,c.rest k x E,Tg];by_cases I:k∈z.h <;> simp [I]
theorem Za.move {O U:Ie} {r1 r2:SV} {R V:Ab} {pg1 Z:List Nat} (J:Za O bx r1 R pg1)(e1:A7u O U)(e2:A7u U O) :
  Za U (R++bin O.h bx) r2 V Z↔Za U bx r2 V Z:=by
 constructor
 ·intro c;have d:∀k,k∈U.m→k ∉ O.m:=fun k I E=>c.Zc k I (e1.m k E);refine⟨c.Zc,c.Y8,c.pm,fun k x I=>(c.rest k x I).trans (and_congr_right fun hh=>J.out fun E=>hh (e1.m k E)),fun k x I L=>c.Yb k x I ((J.out (d k I)).2 L),c.new,c.res,fun k x I L=>?_⟩;by_cases E:k∈O.m
  ·exact⟨(J.Yb k x E L).1,fun q hq=>(J.Yb k x E L).2 q (e2.p q (c.Y8 q hq))⟩
  ·exact c.hid k x I ((J.out E).2 L)
 ·intro c;have d:∀k,k∈U.m→k ∉ O.m:=fun k I E=>c.Zc k I (e1.m k E);refine⟨c.Zc,c.Y8,c.pm,fun k x I=>(c.rest k x I).trans (and_congr_right fun hh=>(J.out fun E=>hh (e1.m k E)).symm),fun k x I L=>c.Yb k x I ((J.out (d k I)).1 L),c.new,c.res,fun k x I L=>?_⟩;by_cases E:k∈O.m
  ·have W:(k,x)∈R:=by
    rcases Bw.1 L with h| h
    ·exact h
    ·exact absurd (Tg.1 h).1 (J.Zc k E)
   exact⟨(J.new k x E W).1,fun q hq=>(J.new k x E W).2 q (e2.p q (c.Y8 q hq))⟩
  ·exact c.hid k x I ((J.out E).1 L)
theorem F7q {pg h:List Nat} (e:∀k,k∈pg→k∈h) {d:Option Nat} {r:SV} {t:Nat} (ht:d≠some t)(sl:SL):Ae (Fb h (Fi (Fb pg sl) d r)) t=Ae (Fb h sl) t:=by rw [Py,Yg,A6 ht,Py,Py,F1p e]
theorem GOp.move {g:Bool} {R I:Ie} {r1 r2:SV} {J L:Ab} {pg1 U:List Nat} {d1:Option Nat} {ops:Array Oper} (c1:Za R bx r1 J pg1)(W:A7u R I)(e2:A7u I R)(hu:∀t,d1=some t→t ∉ A8i ops o) :
  GOp P o (some I) g (Fi (Fb pg1 sl) d1 r1) (J++bin R.h bx) r2 L U↔GOp P o (some I) g sl bx r2 L U:=by
 have hs:∀x,x∈o.op.operands→Ao (Fb I.q (Fi (Fb pg1 sl) d1 r1)) x=Ao (Fb I.q sl) x:=fun x O=>C7g fun t ht=>F7q (fun k V=>W.p k (c1.Y8 k V)) (fun hd=>hu t hd (F8b (ht ▸ O))) sl;have Z:∀k c,(k,c)∈Ho I.h (J++bin R.h bx)↔(k,c)∈Ho I.h bx:=fun k c=>by rw [Nf,Nf];exact and_congr_right fun hh=>c1.out fun a0=>hh (W.m k a0)
 exact⟨fun h=>⟨fun E=>(h.yes E).congr (fun k c V=>(Z k c).1 V) fun x O=>(hs x O).symm,fun E=>⟨(h.no E).1,(h.no E).2.1,fun k c=>((h.no E).2.2 k c).trans (Z k c)⟩,fun z hz=>by cases hz;exact (c1.move W e2).1 (h.cond _ rfl)⟩,
  fun h=>⟨fun E=>(h.yes E).congr (fun k c V=>(Z k c).2 V) fun x O=>hs x O,fun E=>⟨(h.no E).1,(h.no E).2.1,fun k c=>((h.no E).2.2 k c).trans (Z k c).symm⟩,fun z hz=>by cases hz;exact (c1.move W e2).2 (h.cond _ rfl)⟩⟩
theorem D1s {ops:Array Oper} {s J:SL} {pg:List Nat} (h:∀t,t∈A8i ops o→Ae J t=Qo pg (Ae s t)):Qn ops J o=Qn ops s o:=by
 unfold Qn;cases L:o.guard with
 |none=>rfl
 |some R =>
  obtain⟨j,I⟩:=R;simp only;cases O:M1 ops j with
  |none=>rfl
  |some t =>
   simp only [h t (G3z L O)];rcases Yn pg (Ae s t) with ⟨e,_⟩| ⟨e,q,_,E⟩
   ·rw [e]
   ·rw [e];generalize Ae s t=x at E;cases x with
    |d x=>simp [SV.has] at E
    |tuple xs=>cases xs with
     |nil=>simp [SV.has,SV.Hi] at E
     |cons=>rfl
    |_=>rfl
theorem Ks.swap {ops:Array Oper} {K:SL→Ab→Prop} {x y:Oper × GI} {R:List (Oper × GI)} (u:Un ops x y)(h:Ks P n ops (x::y::R) sl bx (KE K)):Ks P n ops (y::x::R) sl bx (KE K):=by
 obtain⟨g1,r1,O,pg1,a1,a2,a3,g2,r2,J,L,b1,b2,b3,hR⟩:=h;obtain⟨z1,Z,i1,i2,e1,e2⟩:=u.i;obtain⟨o1,i⟩:=x;obtain⟨o2,j⟩:=y;simp only at i1 i2;subst i1;subst i2;have V:=a3.cond _ rfl;have W:=(GOp.move V e1 e2 u.u1).1 b3;have U:=W.cond _ rfl;have a4:=(GOp.move (pg1:=L) (d1:=o2.dst) U e2 e1 u.u2).2 a3;refine⟨g2,r2,J,L,(D1s (pg:=pg1) fun t ht=>?_).symm.trans b1,b2,W,g1,r1,O,pg1,(D1s (pg:=L) fun t ht=>?_).trans a1,a2,a4,Ks.congr R ⟨fun t=>?_,fun k c=>?_⟩ hR⟩
 ·rw [Yg,A6 fun hd=>u.u1 t hd ht,Py]
 ·rw [Yg,A6 fun hd=>u.u2 t hd ht,Py]
 ·rw [Yg,Py,Yg,Py,Yg,Py,Yg,Py];by_cases I:o2.dst=some t
  ·rw [A8 I,A8 I,A6 fun E=>u.d t E I,C0y fun q hq=>U.res q (e1.p q (V.Y8 q hq))]
  ·rw [A6 I,A6 I];by_cases E:o1.dst=some t
   ·rw [A8 E,A8 E,C0y fun q hq=>V.res q (e2.p q (U.Y8 q hq))]
   ·rw [A6 E,A6 E,E7i]
 ·show (k,c)∈J++bin Z.h (O++bin z1.h bx)↔(k,c)∈O++bin z1.h (J++bin Z.h bx);by_cases k1:k∈z1.m
  ·have n1:=V.Zc k k1;have k2:=e1.m k k1;have n2:k ∉ Z.m:=fun hh=>n1 (e2.m k hh);have:=U.rest k c n2;simp [Tg,k2,n1,this]
  ·by_cases k2:k∈Z.m
   ·have n2:=U.Zc k k2;have:=V.rest k c k1;simp [Tg,e2.m k k2,n2,this]
   ·have q1:=V.rest k c k1;have q2:=U.rest k c k2;simp only [Bw,Tg,q1,q2];by_cases a5:k∈z1.h <;> by_cases a0:k∈Z.h <;> simp [a5,a0]
theorem Ks.front {ops:Array Oper} {K:SL→Ab→Prop}:∀(E:List (Oper × GI)) {I:List (Oper × GI)} {y:Oper × GI} {sl:SL} {bx:Ab},(∀x,x∈E→Un ops x y)→Ks P n ops (E++y::I) sl bx (KE K)→Ks P n ops (y::(E++I)) sl bx (KE K)
 |[],I,y,sl,bx,_,h=>h
 |x::E,I,y,sl,bx,J,⟨g,r,b,pg,O,L,R,h⟩=>Ks.swap (J x (by simp)) ⟨g,r,b,pg,O,L,R,Ks.front E (fun z U=>J z (by simp [U])) h⟩
theorem St.sub {C:Ctx} {S:Nat→Prop} {w:World} {β:Names} {a:Act} {bx':Ab} (h:St C n S w β a sl bx)(hs:∀k c,(k,c)∈bx'→(k,c)∈bx):St C n S w β a sl bx':=⟨h.inv.sub hs,h.size,h.defers,h.slot⟩
theorem GOp.exec {C:Ctx} {S:Nat→Prop} {w:World} {β:Names} {a:Act} {i:GI} {r:SV} {bx':Ab} {pg:List Nat} (h:GOp P o i true sl bx r bx' pg)(hs:St C n S w β a sl bx)(hd:Xo n o.dst) :
  o.wpx P a w fun L w'=>∃S' β',St C n S' w' β' L (Fi (Fb pg sl) o.dst r) (bx'++bin i.h bx):=by
 have W:=h.yes rfl;have V:∀x,x∈o.op.operands→Am S w β (Ao (Fb i.q sl) x) (a.eval x):=fun x _=>by
  have:=hs.Ao x;cases x with
  |tmp t =>
   show Am S w β (Ae (Fb i.q sl) t) _;rw [Py];rcases Yn i.q (Ae sl t) with ⟨e,_⟩| ⟨e,_⟩ <;> rw [e]
   ·exact this
   ·exact .undef _
  |_=>exact this
 cases i with
 |none =>refine Oper.C2j (W C S w β a (hs.inv.sub fun k c hk=>(Nf.1 hk).2) V) ?_;rintro L w' ⟨v,S',β',rfl,E,U,R,O⟩;exact⟨S',β',(hs.put hd E U R O).sub fun k c hk=>by simpa [GI.h,A2s] using hk⟩
 |some z =>
  have c:=h.cond z rfl;refine Oper.C2j (W.F5q (bin z.h bx) (fun k x hk=>?_) (fun k Y st hk=>?_) (hs.inv.sub fun k x hk=>?_) V) ?_
  ·obtain⟨k1,k2⟩:=Tg.1 hk;have Z:k ∉ z.m:=fun I=>c.Zc k I k1;exact⟨(c.hid k x k1 k2).1,fun hp=>Z (c.pm k (c.Y8 k hp)),(c.hid k x k1 k2).2,fun y J=>(Nf.1 J).1 k1,fun y J=>((c.rest k y Z).1 J).1 k1⟩
  ·by_cases I:k∈z.m
   ·have:=(c.new k _ I hk).1;simp [Ar.real] at this
   ·exact Nf.2 ((c.rest k _ I).1 hk)
  ·rcases Bw.1 hk with hk| hk
   ·exact (Tg.1 hk).2
   ·exact (Nf.1 hk).2
  rintro L w' ⟨v,S',β',rfl,E,U,R,O⟩;exact⟨S',β',(hs.put hd E U R O).sub fun k c hk=>Bw.2 (Bw.1 hk).symm⟩
def gUn (ops:Array Oper)(x y:Oper × GI):Bool:=match x.2,y.2 with
 |some E,some I=>(match x.1.dst with| some t=>!(A8i ops y.1).contains t && y.1.dst != some t| none=>true) && (match y.1.dst with| some t=>!(A8i ops x.1).contains t| none=>true) && E.m.all (fun k=>I.h.contains k) && I.m.all (fun k=>E.h.contains k) && E.p.all (fun k=>I.q.contains k) && I.p.all (fun k=>E.q.contains k)
 |_,_=>false
theorem E9n {ops:Array Oper} {x y:Oper × GI} (h:gUn ops x y=true):Un ops x y:=by
 unfold gUn at h;split at h
 ·rename_i R W U Z;simp only [B1,Cf,Ak2] at h;obtain⟨⟨⟨⟨⟨E,I⟩,J⟩,V⟩,O⟩,L⟩:=h;refine⟨fun t ht=>?_,fun t ht=>?_,fun t ht=>?_,R,W,U,Z,⟨J,O⟩,⟨V,L⟩⟩
  ·rw [ht] at E;simp at E;exact E.1
  ·rw [ht] at I;simpa using I
  ·rw [ht] at E;simp at E;exact E.2
 ·cases h
def V7 (ops:Array Oper)(is:Nat→GI)(j:Nat):Oper × GI:=(ops.getD j default,is j)
def V9 (ops:Array Oper)(is:Nat→GI)(B:Array Nat):Bool :=
 ((List.range ops.size).all fun i=>(ops.getD i default).after.toList.all fun e=>!Region.binds .any e ||decide (e.on < i)) &&
 ((List.range ops.size).all fun i=>(List.range ops.size).all fun j=>!(B.getD i 0).testBit j ||((ops.getD i default).after.toList.any fun e=>Region.binds .any e && (e.on == j ||(B.getD e.on 0).testBit j))) &&
 ((List.range ops.size).all fun i=>(List.range i).all fun j=>(B.getD i 0).testBit j ||gUn ops (V7 ops is j) (V7 ops is i))
structure GOK (ops:Array Oper)(is:Nat→GI):Prop where
 back:∀(i:Nat) (o:Oper),ops[i]? = some o→∀e,e∈o.after→Region.binds .any e=true→e.on < i
 un:∀(X:Nat→Prop),(∀(i:Nat) (o:Oper),ops[i]? = some o→X i→∀e,e∈o.after→Region.binds .any e=true→X e.on) →
  ∀(i:Nat) (o:Oper),ops[i]? = some o→(∀e,e∈o.after→Region.binds .any e=true→X e.on)→∀j,j < i→¬X j→Un ops (V7 ops is j) (V7 ops is i)
theorem E7b {ops:Array Oper} {is:Nat→GI} {B:Array Nat} (h:V9 ops is B=true):GOK ops is:=by
 unfold V9 at h;simp only [B1,Cf,Xs,Ta,Jo,Array.mem_toList_iff,D8] at h;obtain⟨⟨h2,h5⟩,h6⟩:=h;have O:∀{i:Nat} {o:Oper},ops[i]? = some o→i < ops.size∧ops.getD i default=o:=by intro i o U;obtain⟨E,V⟩:=X6.1 U;exact⟨E,by simp [Array.getD,E,V]⟩
 have J:∀(i:Nat) (o:Oper),ops[i]? = some o→∀e,e∈o.after→Region.binds .any e=true→e.on < i:=by
  intro i o U e V hb;obtain⟨E,R⟩:=O U;rcases h2 i E e (by rw [R];exact V) with h| h
  ·rw [hb] at h;simp at h
  ·exact h
 refine⟨J,?_⟩;intro X hX i o U L j W a1;have key:∀(k i:Nat) (o:Oper),i≤k→ops[i]? = some o→(∀e,e∈o.after→Region.binds .any e=true→X e.on)→∀j,j < ops.size→(B.getD i 0).testBit j=true→X j:=by
  intro k
  induction k with
  |zero =>intro i o a3 U L j W hb;obtain⟨E,R⟩:=O U;have:=(h5 i E j W).resolve_left (by rw [hb];simp);rw [List.any_eq_true] at this;obtain⟨e,V,I⟩:=this;rw [R] at V;simp only [B1,Ta,Ug] at I;have:=J i o U e (by simpa using V) I.1;omega
  |succ k ih =>
   intro i o a3 U L j W hb;obtain⟨E,R⟩:=O U;have:=(h5 i E j W).resolve_left (by rw [hb];simp);rw [List.any_eq_true] at this;obtain⟨e,V,I⟩:=this;rw [R] at V;simp only [B1,Ta,Ug] at I;have a0:=L e (by simpa using V) I.1;rcases I.2 with h| h
   ·rw [←h];exact a0
   ·have a5:=J i o U e (by simpa using V) I.1;have Z:ops[e.on]? = some ops[e.on]:=Rj (by omega);exact ih e.on ops[e.on] (by omega) Z (fun e' a4 a2=>hX e.on _ Z a0 e' a4 a2) j W h
 obtain⟨E,R⟩:=O U;rcases h6 i E j W with h| h
 ·exact absurd (key i i o (Cq _) U L j (by omega) h) a1
 ·exact E9n h
theorem G0y {C:Ctx} {ops:Array Oper} {is:Nat→GI} {QQ:Exit→Act→World→Prop} {K:SL→Ab→Prop} (hd:GOK ops is)(am:∀o,o∈ops.toList→Xo n o.dst)(ap:∀o,o∈ops.toList→A2f o=true)
  (hK:∀sl bx S w β a,K sl bx→St C n S w β a sl bx→QQ .normal a w) :
  ∀(J:Nat) (E:Array Bool) (a:Act) (w:World),E.size=ops.size→left ops.size E≤J →
   (∀(i:Nat) (o:Oper),ops[i]? = some o→E.getD i false=true→∀e,e∈o.after→Region.binds .any e=true→E.getD e.on false=true) →
   (∃(L:List Nat) (sl:SL) (bx:Ab) (S:Nat→Prop) (β:Names),L.Pairwise (· < ·)∧(∀j,j∈L↔j < ops.size∧E.getD j false=false)∧Ks P n ops (L.map (V7 ops is)) sl bx (KE K)∧St C n S w β a sl bx) →
   wpAnyIn (FW ro) 0 P .any ops QQ J E a w:=by
 have ac:∀(E:Array Bool) (a:Act) (w:World),(∀i,i < ops.size→E.getD i false=true) →
   (∃(L:List Nat) (sl:SL) (bx:Ab) (S:Nat→Prop) (β:Names),L.Pairwise (· < ·)∧(∀j,j∈L↔j < ops.size∧E.getD j false=false)∧Ks P n ops (L.map (V7 ops is)) sl bx (KE K)∧St C n S w β a sl bx)→QQ .normal a w:=by
  rintro E a w W ⟨L,sl,bx,S,β,_,hL,hR,hs⟩;have:L=[]:=At6.2 fun j O=>by obtain⟨h1,h2⟩:=(hL j).1 O;rw [W j h1] at h2;cases h2
  subst this;obtain⟨sl',bx',h1,h2,h3⟩:=hR;exact hK sl' bx' S w β a h1 ⟨hs.inv.sub fun k c hk=>(h3 k c).2 hk,hs.size,hs.defers,fun t=>h2 t ▸ hs.slot t⟩
 have I:∀E:Array Bool,E.size=ops.size→Region.ready .any ops E=[]→∀i,i < ops.size→E.getD i false=true:=by
  intro E hs hr i
  induction i using Nat.strongRecOn with
  |_ i ih =>
   intro hi;cases hl:E.getD i false with
   |true=>rfl
   |false =>
    exfalso;have:i∈Region.ready .any ops E:=by
     rw [mem_ready];refine⟨?_,ops[i],Rj hi,fun e he hb=>?_⟩
     ·have af:i < E.size:=by omega
      simp [Array.getD,af] at hl ⊢;exact hl
     ·have ai:=hd.back i _ (Rj hi) e he hb;exact ih e.on ai (by omega)
    rw [hr] at this;simp at this
 intro J
 induction J with
 |zero =>
  intro E a w hs ah U V;have W:∀i,i < ops.size→E.getD i false=true:=by
   intro i hi;cases hl:E.getD i false with
   |true=>rfl
   |false =>
    exfalso;have:0 < left ops.size E:=by unfold left;rw [List.countP_pos_iff];exact⟨i,Xs.2 hi,by simp [hl]⟩
    omega
  have R:Region.ready .any ops E=[]:=by
   rw [At6];intro i hi;rw [mem_ready] at hi;obtain⟨h1,o,ho,_⟩:=hi;have ai:=(X6.1 ho).1;have:=W i ai;have af:i < E.size:=by omega
   simp [Array.getD,af] at this h1;rw [this] at h1;simp at h1
  exact⟨R,ac E a w W V⟩
 |succ J ih =>
  intro E a w hs ah U V;refine⟨fun R=>ac E a w (I E hs R) V,?_⟩;intro i hi;rw [mem_ready] at hi;obtain⟨aa,o,ho,ab⟩:=hi;have a6:i < ops.size:=(X6.1 ho).1;have ak:i < E.size:=by omega
  have a4:E.getD i false=false:=by simp [Array.getD,ak] at aa ⊢;exact aa
  have a7:left ops.size (E.setIfInBounds i true)≤J:=by have:=E4r hs a6 a4;omega
  have aj:∀j,(E.setIfInBounds i true).getD j false=true↔(j=i∨E.getD j false=true):=by
   intro j;by_cases O:i=j
   ·subst O;simp [ak]
   ·rw [getD_set_ne false O];simp [Pp O]
  have a9:∀(k:Nat) (o':Oper),ops[k]? = some o'→(E.setIfInBounds i true).getD k false=true→∀e,e∈o'.after→Region.binds .any e=true→(E.setIfInBounds i true).getD e.on false=true:=by
   intro k o' a8 hk e he hb;rw [aj] at hk ⊢;rcases hk with rfl| hk
   ·rw [ho] at a8;simp only [Av] at a8;subst a8;exact .inr (ab e he hb)
   ·exact .inr (U k o' a8 hk e he hb)
  have ag:o∈ops.toList:=by have:=Array.mem_of_getElem? ho;simpa using this
  have ao:ops.getD i default=o:=by simp [Array.getD,a6,(X6.1 ho).2]
  simp only [wpOpIn,ho];obtain⟨L,sl,bx,S,β,hp,hL,hR,a5⟩:=V;obtain⟨R1,R2,rfl⟩:=List.append_of_mem ((hL i).2 ⟨a6,a4⟩);rw [Fz,Cz] at hR;have ae:=Ap6.1 hp;have aq:=Am3.1 ae.2.1;obtain⟨g,r,bx',pg,a1,a2,a3,Z⟩:=Ks.front _ (fun x hx=>by obtain⟨j,O,rfl⟩:=Ax.1 hx;exact hd.un (fun j=>E.getD j false=true) U i o ho ab j (ae.2.2 j O i (by simp)) (by rw [((hL j).1 (by simp [O])).2];simp)) hR
  rw [show (V7 ops is i).1=o from ao] at a1 a2 a3 Z;rw [←Fz] at Z;have a0:∀(S':Nat→Prop) (β':Names) (a':Act) (w':World),St C n S' w' β' a' (Fi (Fb pg sl) o.dst r) (bx'++bin (V7 ops is i).2.h bx)→wpAnyIn (FW ro) 0 P .any ops QQ J (E.setIfInBounds i true) a' w':=fun S' β' a' w' ad =>
   ih _ _ _ (by simpa using hs) a7 a9 ⟨R1++R2,_,_,S',β',hp.sublist ((List.Sublist.refl R1).append (List.sublist_cons_self i R2)),fun j=>by
    have ar:j∈R1++R2→j≠i:=fun O he=>by
     subst he;rcases Bw.1 O with h| h
     ·exact absurd (ae.2.2 j h j (by simp)) (Nat.lt_irrefl _)
     ·exact absurd (aq.1 j h) (Nat.lt_irrefl _)
    have h1:j∈R1++i::R2↔j=i∨j∈R1++R2:=by simp only [Bw,As];constructor <;> intro h <;> rcases h with h| h| h <;> simp [h]
    have h2:=hL j;rw [h1] at h2;rw [←Au1,aj,Nb,Au1];constructor
    ·exact fun O=>⟨(h2.1 (.inr O)).1,ar O,(h2.1 (.inr O)).2⟩
    ·exact fun O=>(h2.2 ⟨O.1,O.2.2⟩).resolve_left O.2.1,Z,ad⟩
  have hw:=B4f (a:=a) (S:=S) (w:=w) (β:=β) (fun t ht=>by obtain⟨j,as,_,O⟩:=ht;exact⟨a5.slot t,by rw [a5.size];exact B7i am O⟩) a1
  rw [hw];cases g with
  |true =>simp only [Af];refine Oper.B3r (ap o ag) (a3.exec a5 a2) ?_;rintro a' w' ⟨S',β',ad⟩;exact a0 S' β' a' w' ad
  |false =>
   simp only [Hh,Et];obtain⟨rfl,rfl,hb⟩:=a3.no rfl;refine⟨fun _ _=>trivial,a0 S β _ _ ?_⟩;refine (a5.put (pg:=[]) a2 a5.inv (Bo.refl S w) (.tuple [] [] rfl (by simp)) (fun _ _=>rfl)).sub fun k c hk=>?_;rcases Bw.1 hk with hk| hk
   ·exact (Nf.1 ((hb k c).1 hk)).2
   ·exact (Tg.1 hk).2
theorem A0.C7e {id:Nat} {ops:Array Oper} (is:Nat→GI)(B:Array Nat)(ks:List Nat)(O:P.follows .mixedOrders=true)(R:V9 ops is B=true)(hd:E4 n ops.toList=true)
  (h:Ks P n ops ((List.range ops.size).map (V7 ops is)) sl bx (KE fun sl' bx'=>Q .normal (V4 ks sl') (Re ks bx'))):A0 ro P n (.region id ops true) Q sl bx:=by
 intro C S w β a hs;refine wpIn_region_any O ?_;refine G0y (P:=P) (E7b R) (Vm hd) (A3q hd) (fun sl' bx' S' w' β' V J I=>⟨_,_,S',β',J,I.Sf ks ks⟩) ops.size _ a _ (by simp) ?_ ?_ ⟨List.range ops.size,sl,bx,S,β,List.pairwise_lt_range,fun j=>?_,h,?_⟩
 ·unfold left;exact Dk (List.countP_le_length) (by simp)
 ·intro i o U L;simp [Array.getD] at L
 ·simp only [Xs,Array.getD];constructor
  ·intro E;exact⟨E,by simp⟩
  ·exact fun E=>E.1
 ·exact⟨(hs.inv.grow (w':={ w with drawn:=w.drawn+1 }) (fun _ h=>h) (fun _ h=>.inl h) hs.inv.Bi (fun _ _=>rfl) rfl rfl rfl (Cq _)).1,hs.size,hs.defers.ext ⟨fun _ h=>h,fun _ _=>rfl⟩,fun t=>(hs.slot t).ext ⟨fun _ h=>h,fun _ _=>rfl⟩ (fun _ _=>rfl)⟩
def Fw:List Ie→Ie
 |[]=>⟨[],[],[],[]⟩
 |z::_=>z
def A0r:List Nat→SV→Bool
 |[],_=>true
 |k::r,x=>!x.has k && A0r r x
def A6k:List Nat→Ar→Bool
 |[],_=>true
 |k::r,x=>!x.has k && A6k r x
def Xj (m h:List Nat):Ab→Bool
 |[]=>true
 |(k,c)::r=>(!Rv k m ||(c.real && A6k h c)) && Xj m h r
def Zk:List Nat→List Nat→Bool
 |[],_=>true
 |k::r,m=>Rv k m && Zk r m
def A0s:List Nat→List Nat→Bool
 |[],_=>true
 |k::r,m=>!Rv k m && A0s r m
theorem D6j {x:SV}:∀{h:List Nat},A0r h x=true→∀q,q∈h→x.has q=false
 |[],_,q,hq=>by simp at hq
 |k::r,e,q,hq=>by
  simp only [A0r,B1,Jo] at e;rcases As.1 hq with rfl| hq
  ·exact e.1
  ·exact D6j e.2 q hq
theorem E2j {x:Ar}:∀{h:List Nat},A6k h x=true→∀q,q∈h→x.has q=false
 |[],_,q,hq=>by simp at hq
 |k::r,e,q,hq=>by
  simp only [A6k,B1,Jo] at e;rcases As.1 hq with rfl| hq
  ·exact e.1
  ·exact E2j e.2 q hq
theorem B8j {m h:List Nat}:∀{bx:Ab},Xj m h bx=true→∀k c,k∈m→(k,c)∈bx→c.real=true∧∀q,q∈h→c.has q=false
 |[],_,k,c,_,hc=>by simp at hc
 |(j,x)::r,e,k,c,E,hc=>by
  simp only [Xj,B1,Ta,Jo] at e;rcases As.1 hc with I| hc
  ·simp only [Df] at I;obtain⟨rfl,rfl⟩:=I;rcases e.1 with h1| h1
   ·rw [A1o.2 E] at h1;cases h1
   ·exact⟨h1.1,E2j h1.2⟩
  ·exact B8j e.2 k c E hc
theorem C4w {m:List Nat}:∀{l:List Nat},Zk l m=true→∀k,k∈l→k∈m
 |[],_,k,hk=>by simp at hk
 |j::r,e,k,hk=>by
  simp only [Zk,B1] at e;rcases As.1 hk with rfl| hk
  ·exact A1o.1 e.1
  ·exact C4w e.2 k hk
theorem E1e {m:List Nat}:∀{l:List Nat},A0s l m=true→∀k,k∈l→k ∉ m
 |[],_,k,hk=>by simp at hk
 |j::r,e,k,hk=>by
  simp only [A0s,B1,Jo] at e;rcases As.1 hk with rfl| hk
  ·exact fun E=>by rw [A1o.2 E] at e;cases e.1
  ·exact E1e e.2 k hk
def Sp (m p h q:List Nat)(bx:Ab)(r:SV)(bx':Ab)(pg:List Nat):Prop :=
 A0s m h=true∧Zk pg p=true∧Zk p m=true∧Ho m bx'=Ho m (Ho h bx)∧Xj m q bx=true∧Xj m q bx'=true∧A0r q r=true∧Xj h pg bx=true
theorem Sp.cond {z:Ie} {r:SV} {bx':Ab} {pg:List Nat} (c:Sp z.m z.p z.h z.q bx r bx' pg):Za z bx r bx' pg:=by
 obtain⟨R,L,W,c3,Z,V,U,O⟩:=c;refine⟨E1e R,C4w L,C4w W,fun k c J=>?_,B8j Z,B8j V,D6j U,B8j O⟩;have I:=Nf (ks:=z.m) (k:=k) (c:=c) (bx:=bx');rw [c3,Nf,Nf] at I;constructor
 ·exact fun E=>(I.2 ⟨J,E⟩).2
 ·exact fun E=>(I.1 ⟨J,E⟩).2
theorem B3z (h:List Nat):∀bx:Ab,Xj [] h bx=true
 |[]=>rfl
 |(k,c)::r=>by rw [Xj,Rv,B3z h r];rfl
def Hf (P:Program)(own:List Nat)(ops:Array Oper):List Oper→List Ie→SL→Ab→(SL→Ab→Prop)→Prop
 |[],_,sl,bx,K=>K sl bx
 |o::os,is,sl,bx,K=>match o.guard with
  |none=>Hp P own o.dst (Fb (Fw is).q sl) (Ho (Fw is).h bx) o.op fun r bx' pg=>Sp (Fw is).m (Fw is).p (Fw is).h (Fw is).q bx r bx' pg∧Hf P own ops os is.tail (Fi (Fb pg sl) o.dst r) (bx'++bin (Fw is).h bx) K
  |some (j,E)=>match M1 ops j with
   |some t=>match Ae sl t with
    |.d (.bool b)=>Qx b E (Hp P own o.dst (Fb (Fw is).q sl) (Ho (Fw is).h bx) o.op fun r bx' pg=>Sp (Fw is).m (Fw is).p (Fw is).h (Fw is).q bx r bx' pg∧Hf P own ops os is.tail (Fi (Fb pg sl) o.dst r) (bx'++bin (Fw is).h bx) K)
     (Sp (Fw is).m (Fw is).p (Fw is).h (Fw is).q bx (.tuple []) (Ho (Fw is).h bx) []∧Hf P own ops os is.tail (Fi sl o.dst (.tuple [])) (Ho (Fw is).h bx++bin (Fw is).h bx) K)
    |.tuple []=>Sp (Fw is).m (Fw is).p (Fw is).h (Fw is).q bx (.tuple []) (Ho (Fw is).h bx) []∧Hf P own ops os is.tail (Fi sl o.dst (.tuple [])) (Ho (Fw is).h bx++bin (Fw is).h bx) K
    |_=>False
   |none=>False
section
variable (P:Program) (own:List Nat) (ops:Array Oper) (os:List Oper) (is:List Ie) (sl:SL) (bx:Ab) (dst:Option Nat) (op:Op) (z:Ie) (m p h q:List Nat) (K:SL→Ab→Prop)
def A5q:KB:=fun r bx' pg=>Sp z.m z.p z.h z.q bx r bx' pg∧Hf P own ops os is (Fi (Fb pg sl) dst r) (bx'++bin z.h bx) K
def opG:Prop:=Hp P own dst (Fb z.q sl) (Ho z.h bx) op (A5q P own ops os is sl bx dst z K)
def A1w:Prop:=Sp z.m z.p z.h z.q bx (.tuple []) (Ho z.h bx) []∧Hf P own ops os is (Fi sl dst (.tuple [])) (Ho z.h bx++bin z.h bx) K
def Wx (E b:Bool):Prop:=Qx b E (opG P own ops os is sl bx dst op z K) (A1w P own ops os is sl bx dst z K)
def B6c (E:Bool):SV→Prop
 |.d (.bool b)=>Wx P own ops os is sl bx dst op z K E b
 |.tuple []=>A1w P own ops os is sl bx dst z K
 |_=>False
def B5y (E:Bool):Option Nat→Prop
 |some t=>B6c P own ops os is sl bx dst op z K E (Ae sl t)
 |none=>False
variable (ty:TypeId) (pos:String) (after:Array Edge)
theorem F9c:Hf P own ops [] is sl bx K=K sl bx:=by rw [Hf]
theorem G5j:Hf P own ops (⟨dst,op,ty,pos,after,none⟩::os) is sl bx K=opG P own ops os is.tail sl bx dst op (Fw is) K:=by rw [Hf];rfl
theorem F9y (j:Nat)(E:Bool):Hf P own ops (⟨dst,op,ty,pos,after,some (j,E)⟩::os) is sl bx K=B5y P own ops os is.tail sl bx dst op (Fw is) K E (M1 ops j):=by
 rw [Hf];simp only;cases M1 ops j with
 |none=>rfl
 |some t =>simp only [B5y,B6c];split <;> rfl
theorem G1j:opG P own ops os is sl bx dst op ⟨m,p,[],[]⟩ K=Hp P own dst sl bx op (A5q P own ops os is sl bx dst ⟨m,p,[],[]⟩ K):=by rw [opG,A1m];rfl
theorem G1x (k:Nat)(h q:List Nat):opG P own ops os is sl bx dst op ⟨m,p,k::h,q⟩ K=Hp P own dst (Fb q sl) (Ho (k::h) bx) op (A5q P own ops os is sl bx dst ⟨m,p,k::h,q⟩ K):=rfl
theorem G0n (r:SV):A5q P own ops os is sl bx dst ⟨[],[],[],[]⟩ K r bx []=Hf P own ops os is (Fi sl dst r) bx K:=by simp only [A5q,Sp,A0s,Zk,B3z,A0r,A1m,A2s,Ge,Fb,Qv]
theorem F0j (r:SV)(bx':Ab)(pg:List Nat):A5q P own ops os is sl bx dst ⟨m,p,h,q⟩ K r bx' pg=(Sp m p h q bx r bx' pg∧Hf P own ops os is (Fi (Fb pg sl) dst r) (bx'++bin h bx) K):=rfl
theorem E5s:A1w P own ops os is sl bx dst ⟨[],[],[],[]⟩ K=Hf P own ops os is (Fi sl dst (.tuple [])) bx K:=by simp only [A1w,Sp,A0s,Zk,B3z,A0r,A1m,A2s,Ge,Qv]
theorem F7m:A1w P own ops os is sl bx dst ⟨m,p,h,q⟩ K=(Sp m p h q bx (.tuple []) (Ho h bx) []∧Hf P own ops os is (Fi sl dst (.tuple [])) (Ho h bx++bin h bx) K):=rfl
theorem F5u (E b:Bool):B6c P own ops os is sl bx dst op z K E (.d (.bool b))=Wx P own ops os is sl bx dst op z K E b:=rfl
theorem E7n (E:Bool):B6c P own ops os is sl bx dst op z K E (.tuple [])=A1w P own ops os is sl bx dst z K:=rfl
theorem F0r:Wx P own ops os is sl bx dst op z K true true=opG P own ops os is sl bx dst op z K:=by simp [Wx,Qx]
theorem G2g:Wx P own ops os is sl bx dst op z K false false=opG P own ops os is sl bx dst op z K:=by simp [Wx,Qx]
theorem F1m:Wx P own ops os is sl bx dst op z K true false=A1w P own ops os is sl bx dst z K:=by simp [Wx,Qx]
theorem F0x:Wx P own ops os is sl bx dst op z K false true=A1w P own ops os is sl bx dst z K:=by simp [Wx,Qx]
def Wr:SL→Ab→Prop:=fun sl bx=>Ee P own ops os sl bx K
theorem G3a:Wr P own ops os K sl bx=Ee P own ops os sl bx K:=rfl
end
def Pw:List Oper→List Ie→List (Oper × GI)
 |[],_=>[]
 |o::os,is=>(o,some (Fw is))::Pw os is.tail
theorem A9p {own:List Nat} {ops:Array Oper} {R:List (Oper × GI)} {K U:SL→Ab→Prop} (I:∀sl bx,K sl bx→Ks P n ops R sl bx U):∀(os:List Oper)(is:List Ie)(sl:SL)(bx:Ab),E4 n os=true →
  Hf P own ops os is sl bx K→Ks P n ops (Pw os is++R) sl bx U
 |[],is,sl,bx,_,h=>by rw [Hf] at h;exact I sl bx h
 |o::os,is,sl,bx,hd,h=>by
  simp only [E4,Na,B1] at hd;rw [Hf] at h;obtain⟨g,V,W,h3⟩:=D5t h;have E:=Vm (n:=n) (ops:=[o]) (by simp [E4,hd.1]) o (by simp);cases g with
  |true =>obtain⟨r,bx',pg,Z,L,J⟩:=D4m (W rfl);exact⟨true,r,bx',pg,V,E,⟨fun _=>Z,(fun h=>by cases h),fun z O=>by cases O;exact L.cond⟩,A9p I os _ _ _ hd.2 J⟩
  |false =>obtain⟨L,J⟩:=h3 rfl;exact⟨false,.tuple [],_,[],V,E,⟨(fun h=>by cases h),fun _=>⟨rfl,rfl,fun _ _=>Iff.rfl⟩,fun z O=>by cases O;exact L.cond⟩,A9p I os _ _ _ hd.2 J⟩
theorem Xh.gen {ops:Array Oper} {K:SL→Ab→Prop}:∀(os:List Oper)(sl:SL)(bx:Ab),Xh P n ops os sl bx K→Ks P n ops (os.map fun o=>(o,none)) sl bx (KE K)
 |[],sl,bx,h=>⟨sl,bx,h,fun _=>rfl,fun _ _=>Iff.rfl⟩
 |o::os,sl,bx,⟨g,J,I,O,U⟩=>by
  cases g with
  |true =>obtain⟨r,bx',pg,L,R⟩:=O rfl;exact⟨true,r,bx',pg,J,I,⟨fun _=>by rw [show GI.h none=[] from rfl,A1m];exact L,(fun h=>by cases h),(fun z E=>by cases E)⟩,by rw [show GI.h (o,(none:GI)).2=[] from rfl,A2s,Ge];exact Xh.gen os _ _ R⟩
  |false=>exact⟨false,.tuple [],bx,[],J,I,⟨(fun h=>by cases h),fun _=>⟨rfl,rfl,fun _ _=>by rw [show GI.h none=[] from rfl,A1m]⟩,(fun z E=>by cases E)⟩,by rw [show GI.h (o,(none:GI)).2=[] from rfl,A2s,Ge];exact Xh.gen os _ _ (U rfl)⟩
def X4 (m:Nat)(is:List Ie)(j:Nat):GI:=if j < m then some (Fw (is.drop j)) else none
theorem C7z:∀(os:List Oper)(is:List Ie)(j:Nat),(Pw os is)[j]? = (os[j]?).map fun o=>(o,some (Fw (is.drop j)))
 |[],is,j=>by simp [Pw]
 |o::os,is,0=>by simp [Pw]
 |o::os,is,j+1=>by rw [Pw,Ny,C7z,Ny];simp
theorem B2n:∀(os:List Oper)(is:List Ie),(Pw os is).length=os.length
 |[],_=>rfl
 |_::os,is=>by rw [Pw,Bg,B2n,Bg]
theorem D2q (ops:Array Oper)(m:Nat)(is:List Ie):(List.range ops.size).map (V7 ops (X4 m is))=Pw (ops.toList.take m) is++(ops.toList.drop m).map fun o=>(o,none):=by
 apply Lu;intro j;rw [D3];by_cases J:j < ops.size
 ·have hr:(List.range ops.size)[j]? = some j:=by rw [Ww J]
  have I:ops.toList[j]? = some (ops.getD j default):=by simp [Array.getD,J]
  rw [hr,E8];unfold V7 X4;by_cases E:j < m
  ·rw [A8 E,J6 (by rw [B2n];simp;omega),C7z,Yd,A8 E,I];rfl
  ·rw [A6 E,Jh (by rw [B2n];simp;omega),B2n,D3,Ri,show m+(j - (ops.toList.take m).length)=j by simp;omega,I];rfl
 ·rw [Xn (by simp;omega),Xn (by simp [B2n];omega)];rfl
theorem A0.C6z {id:Nat} {ops:Array Oper} (ks own:List Nat)(m:Nat)(is:List Ie)(L:P.follows .mixedOrders=true)(O:V9 ops (X4 m is) (Region.before ops)=true)(hd:E4 n ops.toList=true)
  (h:Hf P own ops (ops.toList.take m) is sl bx (Wr P own ops (ops.toList.drop m) (H9 ks (Q .normal)))):A0 ro P n (.region id ops true) Q sl bx:=by
 have J:E4 n (ops.toList.take m)=true:=by unfold E4 at *;rw [Cf] at *;exact fun o I=>hd o (Iq I)
 have E:E4 n (ops.toList.drop m)=true:=by unfold E4 at *;rw [Cf] at *;exact fun o I=>hd o (U5 I)
 refine A0.C7e _ _ ks L O hd ?_;rw [D2q];exact A9p (fun R U h=>(Zf _ _ _ E h).gen) _ _ _ _ J h
theorem A0.D4d {id:Nat} {ops:Array Oper} {y:Code} (ks own:List Nat)(m:Nat)(is:List Ie)(E:P.follows .mixedOrders=true)(I:V9 ops (X4 m is) (Region.before ops)=true)(hd:E4 n ops.toList=true)
  (h:∀K:SL→Ab→Prop,(∀sl' bx',A0 ro P n y Q sl' bx'→K sl' bx')→Hf P own ops (ops.toList.take m) is sl bx (Wr P own ops (ops.toList.drop m) (H9 ks K))):A0 ro P n (.seq (.region id ops true) y) Q sl bx :=
 A0.seq (A0.C6z ks own m is E I hd (h _ fun _ _ h=>h))
theorem A0.G2j {id:Nat} {ops:Array Oper} (ks own:List Nat)(m:Nat)(is:List Ie)(E:P.follows .mixedOrders=true)(I:V9 ops (X4 m is) (Region.before ops)=true)(hd:E4 n ops.toList=true)
  (h:∀K:SL→Ab→Prop,(∀sl' bx',Q .normal sl' bx'→K sl' bx')→Hf P own ops (ops.toList.take m) is sl bx (Wr P own ops (ops.toList.drop m) (H9 ks K))):A0 ro P n (.region id ops true) Q sl bx :=
 A0.C6z ks own m is E I hd (h _ fun _ _ h=>h)
end Go.Abs
