/- Calls that hand back two slices of their own; bytes to a string. Own framework. -/
import Derived.Laws.IdiomStrings
import Derived.Test.YtieakoebgfiniaaGreatDoorZAb6
set_option linter.all false
namespace Go.Abs
open Go
variable {P:Program} {sl:SL} {bx:Ab}
def two(E I k1 k2:Nat)(q:Nat):Nat:=if q=E then k1 else if q=I then k2 else q
def C4g{f:FuncId}{fo:Operand}{args:List Operand}{Da:List TypeId}{dst:Option Nat}{caps a4:List SV}{r:SV}{q1 Z W V:Nat}{I E:List (List D)}(k1 k2:Nat)
  (hf:Ao sl fo=.Bf f caps)(a6:G7 [] (args.map (Ao sl)++caps)=some a4)(hc:C8 P f a4 [] r [(q1,.rows W I),(Z,.rows V E)])(hr:r.only [q1,Z]=true)(hq:q1≠Z)
  (h1:k1<=999999)(h2:k2<=999999)(hk:k1≠k2)(f1:A1y k1 bx=false)(f2:A1y k2 bx=false) :
  OpB P sl bx dst (.call ⟨.value fo,args.toArray,Da.toArray⟩) (r.Ek (two q1 Z k1 k2)) ((k1,.rows W I)::(k2,.rows V E)::bx) [k1,k2]:=by
 intro o ho _ C S w β a hi ha;have a7:=ha fo (mC ho);rw[hf]at a7;generalize ac:a.eval fo=v at a7;cases a7 with
 |Bf _ _ cs g1 g2 =>
  have a9:Bv S w β (args.map (Ao sl)++caps) (args.map a.eval++cs):=(Bv.Vd _ λx hx=>ha x (mo ho (by grind[Op.operands,Call.operands]))).append ⟨g1,g2⟩;have a':Inv ⟨w,S,λ_=>False,λ_ _=>False,C.G⟩ S w β []:=hi.begin hi.Bw (λ_ h=>h);obtain⟨r1,r2⟩:=Uf a' (C4.refl S w) (by simp) a6 a9;have a8:=hc.2 ⟨w,S,λ_=>False,λ_ _=>False,C.G⟩ β _ a' r1;refine I7 ?_;unfold Oper.wp;rw[Yh hc.1 ho ac,X2];have a5:(args.toArray.map a.eval)++(⟨cs⟩:Array Value)=⟨args.map a.eval++cs⟩:=by apply Kt;simp
  rw[a5];refine a8.mono ?_;rintro e w' ⟨v,S',β',rfl,hI,hv⟩;have aa:w.heap.size<=w'.heap.size:=hI.size;have ad:∀b,S' b->S b\/w.heap.size<=b:=λb J=>by
   rcases hI.Ej b J with h|h|h
   all_goals grind
  have e:C4 S w S' w':=⟨hI.Fe,λb J=>hI.kept b (hi.Bw b J) id⟩;have u1:Ed (Ed β k2 (β' Z)) k1 (β' q1) k1 =β' q1:=Gw ..;have u2:Ed (Ed β k2 (β' Z)) k1 (β' q1) k2 =β' Z:=by rw[Lu (Xn hk),Gw]
  have u3:∀j,j≠k1->j≠k2->Ed (Ed β k2 (β' Z)) k1 (β' q1) j =β j:=λj a b=>by rw[Lu a,Lu b]
  have m1:(q1,Aq.rows W I)∈[(q1,Aq.rows W I),(Z,.rows V E)]:=by simp
  have m2:(Z,Aq.rows V E)∈[(q1,Aq.rows W I),(Z,.rows V E)]:=by simp
  have U:∀q c,(q,c)∈[(q1,Aq.rows W I),(Z,.rows V E)]->∀b,(β' q).base=some b->¬S' b/\b<w'.heap.size/\w.heap.size<=b:=λq c hm b J=>by
   obtain⟨p1,p2,p3⟩:=hI.Ba q c hm b J
   grind
  have O:∀k c,(k,c)∈bx->k≠k1/\k≠k2/\(∀j,c.has j=true->j≠k1/\j≠k2):=λk c hm=>by
   obtain⟨a1,a2⟩:=C0h f1 k c hm;obtain⟨b1,b2⟩:=C0h f2 k c hm
   grind
  have L:∀k c,(k,c)∈(k1,Aq.rows W I)::(k2,.rows V E)::bx->(k=k1/\c=.rows W I)\/(k=k2/\c=.rows V E)\/(k,c)∈bx:=λk c hm=>by grind
  refine⟨v,S',Ed (Ed β k2 (β' Z)) k1 (β' q1),rfl,?_,e,hv.Ek λk ab=>?_,λj hj=>?_⟩
  .refine hi.step e ad hI.Bw (λb J _=>hI.kept b J id) hI.os hI.tape hI.output aa ?_ ?_ (λj hj=>u3 j (by omega) (by omega)) ?_
   .intro k c hm;rcases L k c hm with⟨rfl,rfl⟩|⟨rfl,rfl⟩|hm
    .rw[u1];exact⟨De.ext (c:=.rows W I) (hI.box q1 _ m1) (C4.refl _ _) (λ_ _=>rfl) (by simp[Aq.has]),λb J=>⟨(U _ _ m1 b J).1,(U _ _ m1 b J).2.1,.inl (U _ _ m1 b J).2.2⟩⟩
    .rw[u2];exact⟨De.ext (c:=.rows V E) (hI.box Z _ m2) (C4.refl _ _) (λ_ _=>rfl) (by simp[Aq.has]),λb J=>⟨(U _ _ m2 b J).1,(U _ _ m2 b J).2.1,.inl (U _ _ m2 b J).2.2⟩⟩
    .obtain⟨a1,a2,a3⟩:=O k c hm;rw[u3 k a1 a2];obtain⟨p1,p2,p3⟩:(∀b,(β k).base=some b->¬S b)/\(∀b,(β k).base=some b->b<w.heap.size)/\True:=⟨λb J=>(hi.Ba k c hm b J).1,λb J=>(hi.Ba k c hm b J).2.1,trivial⟩;refine⟨(hi.box k c hm).ext e (λb J=>hI.kept b (p2 b J) id) (λj hj=>u3 j (a3 j hj).1 (a3 j hj).2),λb J=>⟨λhs=>?_,W5 (p2 b J) aa,.inr ⟨k,c,hm,J⟩⟩⟩
     grind
   .intro k c k' c' hm hm' b J a0;have low:∀k c,(k,c)∈bx->(Ed (Ed β k2 (β' Z)) k1 (β' q1) k).base=some b->b<w.heap.size:=λk c hm J=>by
     rw[u3 k (O k c hm).1 (O k c hm).2.1]at J;exact(hi.Ba k c hm b J).2.1
    rcases L k c hm with⟨rfl,rfl⟩|⟨rfl,rfl⟩|hm
    .rw[u1]at J;rcases L k' c' hm' with⟨rfl,rfl⟩|⟨rfl,rfl⟩|hm'
     .simp
     .rw[u2]at a0;exact absurd (hI.inj _ _ _ _ m1 m2 b J a0).1 hq
     grind
    .rw[u2]at J;rcases L k' c' hm' with⟨rfl,rfl⟩|⟨rfl,rfl⟩|hm'
     .rw[u1]at a0;exact absurd (hI.inj _ _ _ _ m1 m2 b a0 J).1 hq
     all_goals grind
    .have ae:=low _ _ hm J;rcases L k' c' hm' with⟨rfl,rfl⟩|⟨rfl,rfl⟩|hm'
     .grind
     .grind
     .rw[u3 k (O k c hm).1 (O k c hm).2.1]at J;rw[u3 k' (O k' c' hm').1 (O k' c' hm').2.1]at a0;exact hi.inj k c k' c' hm hm' b J a0
   simp
  .have:=SV.B6p hr ab;simp at this;rcases this with rfl|rfl
   .simp only[two,Af];exact u1
   .simp only[two,A6 (Xn hq),Af];exact u2
  grind
def D1x{src dst e:TypeId}{x:Operand}{rows:List (List D)}(l:A2)(hs:P.underlying src=some (.slice e))(he:P.underlying e=some (.int .u8))(hd:P.underlying dst=some .string)(hx:Ao sl x=.d (.slice rows))
  (hr:rows=l.map λc=>[.int .u8 c.toNat])(hl:l≠[]):Z9 P sl bx (.convert src dst x) (.d (.str l)):=by
 intro o V;refine .E4 λC S w β a hi ha=>?_;have W:=ha x (mC V);rw[hx]at W;have U:=W.Ij;have Z:rows.length=l.length:=by rw[hr];simp
 generalize hv:a.eval x=v at U;cases U with
 |Mk=>grind
 |slice _ b off cap sz hb h3 h4 h5 h6 h7 h8 =>
  subst hr;have L:sz=1:=by
   cases l with
   |nil=>grind
   |cons c l=>simp_all
  subst L;have E:∀j (hj:j<l.length),w.cell? ((⟨b,off,none⟩:Addr).add j)=some (.int .u8 (l[j].toNat:Int)):=λj hj=>by
   obtain⟨u,O⟩:=h7 j 0 (by omega) (by omega);have J:=h8 j 0 [.int .u8 l[j].toNat] (.int .u8 l[j].toNat) u (by grind) rfl O;rw[Wt];have:off+(j*1+0)=off+j:=by omega
   rw[this]at O;rw[O];cases J;rfl
  have I:=run_convert_bytes_back (P:=P) w src dst e ⟨b,off,none⟩ cap l hs he hd E;refine⟨_,?_,.d _ _ (.str l (by omega))⟩;simp at hv;simp only[execOp,V,hv,Hm,I,H0,K8];rfl
def C8.B8e{f:FuncId}{args:List SV}{r U:SV}{J:Ab}(h:C8 P f args [] r J)(hr:B3n J=true)(Z:coerce J r=some U):Aa P f args U:=by
 refine⟨h.1,λC β vs W O=>(h.2 C β vs W O).mono ?_⟩;rintro e w' ⟨v,S',β',rfl,I,O⟩;refine⟨v,λb=>S' b\/∃k c,(k,c)∈J/\(β' k).base=some b,β',rfl,?_,(A6b I ⟨λ_ h=>.inl h,λ_ _=>rfl⟩ (λk c L b E=>.inr ⟨k,c,L,E⟩) Z O).1⟩;exact{
  Fe:=λb E=>.inl (I.Fe b E)
  Ej:=λb E=>by
   rcases E with E|⟨k,c,L,E⟩
   .exact I.Ej b E
   .exact .inr (I.Ba k c L b E).2.2
  Bw:=λb E=>by
   rcases E with E|⟨k,c,L,E⟩
   .exact I.Bw b E
   .exact(I.Ba k c L b E).2.1
  kept:=I.kept
  os:=I.os
  tape:=I.tape
  output:=I.output
  size:=I.size
  box:=λk c L=>by grind
  Ba:=λk c L=>by grind
  inj:=λk c V c' L=>by simp
  E2:=λb cs E=>⟨.inl (I.E2 b cs E).1,(I.E2 b cs E).2⟩
  one:=λk Y st V Y' st' L=>by simp
  Fo:=λk Y st L=>by grind
  fix:=I.fix }
end Go.Abs
/- (empty: the law of drawn regions stands in Ab5) -/
