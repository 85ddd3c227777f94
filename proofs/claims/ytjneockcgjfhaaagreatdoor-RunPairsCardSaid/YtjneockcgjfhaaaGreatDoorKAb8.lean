/- Calls that hand back two slices of their own; bytes to a string. Own framework. -/
import Derived.Laws.IdiomStrings
import Derived.Test.YtjneockcgjfhaaaGreatDoorKAb6
set_option linter.all false
namespace Go.Abs
open Go
variable {P:Program} {sl:SL} {bx:Aa}
def two(I E k1 k2:Nat)(q:Nat):Nat:=if q=I then k1 else if q=E then k2 else q
def C0x{f:FuncId}{fo:Operand}{args:List Operand}{E2:List TypeId}{dst:Option Nat}{caps a4:List SV}{r:SV}{q1 q2 V W:Nat}{I E:List (List D)}(k1 k2:Nat)
  (hf:Ao sl fo=.Bk f caps)(a8:H6 [] (args.map (Ao sl)++caps)=some a4)(hc:Ch P f a4 [] r [(q1,.rows V I),(q2,.rows W E)])(hr:r.only [q1,q2]=true)(hq:q1≠q2)
  (h1:k1<=999999)(h2:k2<=999999)(hk:k1≠k2)(f1:A1v k1 bx=false)(f2:A1v k2 bx=false) :
  OpB P sl bx dst (.call ⟨.value fo,args.toArray,E2.toArray⟩) (r.Ep (two q1 q2 k1 k2)) ((k1,.rows V I)::(k2,.rows W E)::bx) [k1,k2]:=by
 intro o ho _ C S w β a hi ha;have a6:=ha fo (mC ho);rw[hf]at a6;generalize ac:a.eval fo=v at a6;cases a6 with
 |Bk _ _ cs g1 g2 =>
  have a9:Bz S w β (args.map (Ao sl)++caps) (args.map a.eval++cs):=(Bz.Yn _ λx hx=>ha x (mo ho (by grind[Op.operands,Call.operands]))).append ⟨g1,g2⟩;have a':Inv ⟨w,S,λ_=>False,λ_ _=>False,C.G⟩ S w β []:=hi.begin hi.C3 (λ_ h=>h);obtain⟨r1,r2⟩:=W3 a' (C9.refl S w) (by simp) a8 a9;have a7:=hc.2 ⟨w,S,λ_=>False,λ_ _=>False,C.G⟩ β _ a' r1;refine Jk ?_;unfold Oper.wp;rw[A1n hc.1 ho ac,Am8];have a5:(args.toArray.map a.eval)++(⟨cs⟩:Array Value)=⟨args.map a.eval++cs⟩:=by apply Lk;simp
  rw[a5];refine a7.mono ?_;rintro e w' ⟨v,S',β',rfl,Z,hv⟩;have aa:w.heap.size<=w'.heap.size:=Z.size;have ad:∀b,S' b->S b\/w.heap.size<=b:=λb J=>by rcases Z.Ei b J with h|h|h;all_goals grind
  have e:C9 S w S' w':=⟨Z.Fh,λb J=>Z.kept b (hi.C3 b J) id⟩;have u1:Ej (Ej β k2 (β' q2)) k1 (β' q1) k1 =β' q1:=Hp ..;have u2:Ej (Ej β k2 (β' q2)) k1 (β' q1) k2 =β' q2:=by rw[M3 (Yo hk),Hp]
  have u3:∀j,j≠k1->j≠k2->Ej (Ej β k2 (β' q2)) k1 (β' q1) j =β j:=λj a b=>by rw[M3 a,M3 b]
  have m1:(q1,Aq.rows V I)∈[(q1,Aq.rows V I),(q2,.rows W E)]:=by simp
  have m2:(q2,Aq.rows W E)∈[(q1,Aq.rows V I),(q2,.rows W E)]:=by simp
  have U:∀q c,(q,c)∈[(q1,Aq.rows V I),(q2,.rows W E)]->∀b,(β' q).base=some b->¬S' b/\b<w'.heap.size/\w.heap.size<=b:=λq c hm b J=>by obtain⟨p1,p2,p3⟩:=Z.Bh q c hm b J;grind
  have O:∀k c,(k,c)∈bx->k≠k1/\k≠k2/\(∀j,c.has j=true->j≠k1/\j≠k2):=λk c hm=>by obtain⟨a1,a2⟩:=B5r f1 k c hm;obtain⟨b1,b2⟩:=B5r f2 k c hm;grind
  have L:∀k c,(k,c)∈(k1,Aq.rows V I)::(k2,.rows W E)::bx->(k=k1/\c=.rows V I)\/(k=k2/\c=.rows W E)\/(k,c)∈bx:=λk c hm=>by grind
  refine⟨v,S',Ej (Ej β k2 (β' q2)) k1 (β' q1),rfl,?_,e,hv.Ep λk ab=>?_,λj hj=>?_⟩
  .refine hi.step e ad Z.C3 (λb J _=>Z.kept b J id) Z.os Z.tape Z.output aa ?_ ?_ (λj hj=>u3 j (by omega) (by omega)) ?_;intro k c hm;rcases L k c hm with⟨rfl,rfl⟩|⟨rfl,rfl⟩|hm;rw[u1];exact⟨Dj.ext (c:=.rows V I) (Z.box q1 _ m1) (C9.refl _ _) (λ_ _=>rfl) (by simp[Aq.has]),λb J=>⟨(U _ _ m1 b J).1,(U _ _ m1 b J).2.1,.inl (U _ _ m1 b J).2.2⟩⟩;rw[u2];exact⟨Dj.ext (c:=.rows W E) (Z.box q2 _ m2) (C9.refl _ _) (λ_ _=>rfl) (by simp[Aq.has]),λb J=>⟨(U _ _ m2 b J).1,(U _ _ m2 b J).2.1,.inl (U _ _ m2 b J).2.2⟩⟩;obtain⟨a1,a2,a3⟩:=O k c hm;rw[u3 k a1 a2];obtain⟨p1,p2,p3⟩:(∀b,(β k).base=some b->¬S b)/\(∀b,(β k).base=some b->b<w.heap.size)/\True:=⟨λb J=>(hi.Bh k c hm b J).1,λb J=>(hi.Bh k c hm b J).2.1,trivial⟩;refine⟨(hi.box k c hm).ext e (λb J=>Z.kept b (p2 b J) id) (λj hj=>u3 j (a3 j hj).1 (a3 j hj).2),λb J=>⟨λhs=>?_,X9 (p2 b J) aa,.inr ⟨k,c,hm,J⟩⟩⟩;grind
   .intro k c k' c' hm hm' b J a0;have low:∀k c,(k,c)∈bx->(Ej (Ej β k2 (β' q2)) k1 (β' q1) k).base=some b->b<w.heap.size:=λk c hm J=>by rw[u3 k (O k c hm).1 (O k c hm).2.1]at J;exact(hi.Bh k c hm b J).2.1
    rcases L k c hm with⟨rfl,rfl⟩|⟨rfl,rfl⟩|hm;rw[u1]at J;rcases L k' c' hm' with⟨rfl,rfl⟩|⟨rfl,rfl⟩|hm';simp;rw[u2]at a0;exact absurd (Z.inj _ _ _ _ m1 m2 b J a0).1 hq;grind
    .rw[u2]at J;rcases L k' c' hm' with⟨rfl,rfl⟩|⟨rfl,rfl⟩|hm';rw[u1]at a0;exact absurd (Z.inj _ _ _ _ m1 m2 b a0 J).1 hq;all_goals grind
    have ae:=low _ _ hm J;rcases L k' c' hm' with⟨rfl,rfl⟩|⟨rfl,rfl⟩|hm';grind;grind;rw[u3 k (O k c hm).1 (O k c hm).2.1]at J;rw[u3 k' (O k' c' hm').1 (O k' c' hm').2.1]at a0;exact hi.inj k c k' c' hm hm' b J a0
   simp
  have:=SV.B5q hr ab;simp at this;rcases this with rfl|rfl;simp only[two,Ac];exact u1;simp only[two,A3 (Yo hq),Ac];exact u2;grind
def D0a{src dst e:TypeId}{x:Operand}{rows:List (List D)}(l:A2)(hs:P.underlying src=some (.slice e))(he:P.underlying e=some (.int .u8))(hd:P.underlying dst=some .string)(hx:Ao sl x=.d (.slice rows))
  (hr:rows=l.map λc=>[.int .u8 c.toNat])(hl:l≠[]):OpQ P sl bx (.convert src dst x) (.d (.str l)):=by
 intro o W;refine .E3 λC S w β a hi ha=>?_;have V:=ha x (mC W);rw[hx]at V;have Z:=V.Gq;have a0:rows.length=l.length:=by rw[hr];simp
 generalize U:a.eval x=v at Z;cases Z with
 |Lw=>grind
 |slice _ b off cap sz hb h3 h4 h5 h6 h7 h8 =>
  subst hr;have O:sz=1:=by
   cases l with
   |nil=>grind
   |cons c l=>simp_all
  subst O;have E:∀j (hj:j<l.length),w.cell? ((⟨b,off,none⟩:Addr).add j)=some (.int .u8 (l[j].toNat:Int)):=λj hj=>by
   obtain⟨u,L⟩:=h7 j 0 (by omega) (by omega);have I:=h8 j 0 [.int .u8 l[j].toNat] (.int .u8 l[j].toNat) u (by grind) rfl L;rw[Yi];have:off+(j*1+0)=off+j:=by omega
   rw[this]at L;rw[L];cases I;rfl
  have J:=run_convert_bytes_back (P:=P) w src dst e ⟨b,off,none⟩ cap l hs he hd E;refine⟨_,?_,.d _ _ (.str l (by omega))⟩;simp at U;simp only[execOp,W,U,Ii,J,Hm,L8];rfl
def Ch.C0a{f:FuncId}{args:List SV}{r U:SV}{I:Aa}(h:Ch P f args [] r I)(hr:B3b I=true)(V:coerce I r=some U):Ab P f args U:=by
 refine⟨h.1,λC β vs Z O=>(h.2 C β vs Z O).mono ?_⟩;rintro e w' ⟨v,S',β',rfl,J,O⟩;refine⟨v,λb=>S' b\/∃k c,(k,c)∈I/\(β' k).base=some b,β',rfl,?_,(A5z J ⟨λ_ h=>.inl h,λ_ _=>rfl⟩ (λk c L b E=>.inr ⟨k,c,L,E⟩) V O).1⟩;exact{
  Fh:=λb E=>.inl (J.Fh b E)
  Ei:=λb E=>by
   rcases E with E|⟨k,c,L,E⟩
   .exact J.Ei b E
   .exact .inr (J.Bh k c L b E).2.2
  C3:=λb E=>by
   rcases E with E|⟨k,c,L,E⟩
   .exact J.C3 b E
   .exact(J.Bh k c L b E).2.1
  kept:=J.kept
  os:=J.os
  tape:=J.tape
  output:=J.output
  size:=J.size
  box:=λk c L=>by grind
  Bh:=λk c L=>by grind
  inj:=λk c W c' L=>by simp
  Dv:=λb cs E=>⟨.inl (J.Dv b cs E).1,(J.Dv b cs E).2⟩
  one:=λk Y st W Y' st' L=>by simp
  Fp:=λk Y st L=>by grind
  fix:=J.fix }
end Go.Abs
/- (empty: the law of drawn regions stands in Ab5) -/
