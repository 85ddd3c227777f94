/- Calls that hand back two slices of their own; bytes to a string. Own framework. -/
import Derived.Laws.IdiomStrings
import Derived.Test.YtcmlfpcaeflleaaGreatDoorGAb6
set_option linter.all false
namespace Go.Abs
open Go
variable {P:Program} {sl:SL} {bx:Aa}
def two(I E k1 k2:Nat)(q:Nat):Nat:=if q=I then k1 else if q=E then k2 else q
def C6w{f:FuncId}{fo:Operand}{args:List Operand}{Cq:List TypeId}{dst:Option Nat}{caps a0:List SV}{r:SV}{Z q2 W V:Nat}{E J:List (List D)}(k1 k2:Nat)
  (hf:Ao sl fo=.B0 f caps)(a7:G8 [] (args.map (Ao sl)++caps)=some a0)(hc:Bj P f a0 [] r [(Z,.rows W E),(q2,.rows V J)])(hr:r.only [Z,q2]=true)(hq:Z≠q2)
  (h1:k1<=999999)(h2:k2<=999999)(hk:k1≠k2)(f1:A0h k1 bx=false)(f2:A0h k2 bx=false) :
  OpB P sl bx dst (.call ⟨.value fo,args.toArray,Cq.toArray⟩) (r.Dt (two Z q2 k1 k2)) ((k1,.rows W E)::(k2,.rows V J)::bx) [k1,k2]:=by
 intro o ho _ C S w β a hi ha;have a5:=ha fo (mC ho);rw[hf]at a5;generalize ac:a.eval fo=v at a5;cases a5 with
 |B0 _ _ cs g1 g2 =>
  have aa:Bv S w β (args.map (Ao sl)++caps) (args.map a.eval++cs):=(Bv.U1 _ λx hx=>ha x (mo ho (by simp[Op.operands,Call.operands];exact .inr hx))).append ⟨g1,g2⟩;have a9:Inv ⟨w,S,λ_=>False,λ_ _=>False,C.G⟩ S w β []:=hi.begin hi.Bf (λ_ h=>h);obtain⟨r1,r2⟩:=W7 a9 (Bk.refl S w) (by simp) a7 aa;have a6:=hc.2 ⟨w,S,λ_=>False,λ_ _=>False,C.G⟩ β _ a9 r1;refine H6 ?_;unfold Oper.wp;rw[Sp hc.1 ho ac,R6];have a4:(args.toArray.map a.eval)++(⟨cs⟩:Array Value)=⟨args.map a.eval++cs⟩:=by apply J6;simp
  rw[a4];refine a6.mono ?_;rintro e w' ⟨v,S',β',rfl,hI,hv⟩;have a':w.heap.size<=w'.heap.size:=hI.size;have a8:∀b,S' b->S b\/w.heap.size<=b:=λb I=>by
   rcases hI.Ee b I with h|h|h
   .exact .inl h
   .exact h.elim
   .exact .inr h
  have e:Bk S w S' w':=⟨hI.Fg,λb I=>hI.kept b (hi.Bf b I) id⟩;have u1:Eg (Eg β k2 (β' q2)) k1 (β' Z) k1 =β' Z:=H2 ..;have u2:Eg (Eg β k2 (β' q2)) k1 (β' Z) k2 =β' q2:=by rw[Lo (Um hk),H2]
  have u3:∀j,j≠k1->j≠k2->Eg (Eg β k2 (β' q2)) k1 (β' Z) j =β j:=λj a b=>by rw[Lo a,Lo b]
  have m1:(Z,Ap.rows W E)∈[(Z,Ap.rows W E),(q2,.rows V J)]:=by simp
  have m2:(q2,Ap.rows V J)∈[(Z,Ap.rows W E),(q2,.rows V J)]:=by simp
  have L:∀q c,(q,c)∈[(Z,Ap.rows W E),(q2,.rows V J)]->∀b,(β' q).base=some b->¬S' b/\b<w'.heap.size/\w.heap.size<=b:=λq c hm b I=>by obtain⟨p1,p2,p3⟩:=hI.B7 q c hm b I;exact⟨p1,p2,p3.resolve_left id⟩
  have U:∀k c,(k,c)∈bx->k≠k1/\k≠k2/\(∀j,c.has j=true->j≠k1/\j≠k2):=λk c hm=>by obtain⟨a1,a2⟩:=B4t f1 k c hm;obtain⟨b1,b2⟩:=B4t f2 k c hm;exact⟨a1,b1,λj hj=>⟨λhe=>by subst he;rw[a2]at hj;simp at hj,λhe=>by subst he;rw[b2]at hj;simp at hj⟩⟩
  have M:∀k c,(k,c)∈(k1,Ap.rows W E)::(k2,.rows V J)::bx->(k=k1/\c=.rows W E)\/(k=k2/\c=.rows V J)\/(k,c)∈bx:=λk c hm=>by simp only[Aw,Eo]at hm;exact hm
  refine⟨v,S',Eg (Eg β k2 (β' q2)) k1 (β' Z),rfl,?_,e,hv.Dt λk ab=>?_,λj hj=>?_⟩
  .refine hi.step e a8 hI.Bf (λb I _=>hI.kept b I id) hI.os hI.tape hI.output a' ?_ ?_ (λj hj=>u3 j (by omega) (by omega)) ?_
   .intro k c hm;rcases M k c hm with⟨rfl,rfl⟩|⟨rfl,rfl⟩|hm
    .rw[u1];exact⟨Df.ext (c:=.rows W E) (hI.box Z _ m1) (Bk.refl _ _) (λ_ _=>rfl) (by simp[Ap.has]),λb I=>⟨(L _ _ m1 b I).1,(L _ _ m1 b I).2.1,.inl (L _ _ m1 b I).2.2⟩⟩
    .rw[u2];exact⟨Df.ext (c:=.rows V J) (hI.box q2 _ m2) (Bk.refl _ _) (λ_ _=>rfl) (by simp[Ap.has]),λb I=>⟨(L _ _ m2 b I).1,(L _ _ m2 b I).2.1,.inl (L _ _ m2 b I).2.2⟩⟩
    .obtain⟨a1,a2,a3⟩:=U k c hm;rw[u3 k a1 a2];obtain⟨p1,p2,p3⟩:(∀b,(β k).base=some b->¬S b)/\(∀b,(β k).base=some b->b<w.heap.size)/\True:=⟨λb I=>(hi.B7 k c hm b I).1,λb I=>(hi.B7 k c hm b I).2.1,trivial⟩;refine⟨(hi.box k c hm).ext e (λb I=>hI.kept b (p2 b I) id) (λj hj=>u3 j (a3 j hj).1 (a3 j hj).2),λb I=>⟨λhs=>?_,Vr (p2 b I) a',.inr ⟨k,c,hm,I⟩⟩⟩;rcases a8 b hs with h|h
     .exact p1 b I h
     .have:=p2 b I;omega
   .intro k c k' c' hm hm' b I O;have low:∀k c,(k,c)∈bx->(Eg (Eg β k2 (β' q2)) k1 (β' Z) k).base=some b->b<w.heap.size:=λk c hm I=>by
     rw[u3 k (U k c hm).1 (U k c hm).2.1]at I;exact(hi.B7 k c hm b I).2.1
    rcases M k c hm with⟨rfl,rfl⟩|⟨rfl,rfl⟩|hm
    .rw[u1]at I;rcases M k' c' hm' with⟨rfl,rfl⟩|⟨rfl,rfl⟩|hm'
     .exact⟨rfl,rfl⟩
     .rw[u2]at O;exact absurd (hI.inj _ _ _ _ m1 m2 b I O).1 hq
     .have:=low _ _ hm' O;have:=(L _ _ m1 b I).2.2;omega
    .rw[u2]at I;rcases M k' c' hm' with⟨rfl,rfl⟩|⟨rfl,rfl⟩|hm'
     .rw[u1]at O;exact absurd (hI.inj _ _ _ _ m1 m2 b O I).1 hq
     .exact⟨rfl,rfl⟩
     .have:=low _ _ hm' O;have:=(L _ _ m2 b I).2.2;omega
    .have ad:=low _ _ hm I;rcases M k' c' hm' with⟨rfl,rfl⟩|⟨rfl,rfl⟩|hm'
     .rw[u1]at O;have:=(L _ _ m1 b O).2.2;omega
     .rw[u2]at O;have:=(L _ _ m2 b O).2.2;omega
     .rw[u3 k (U k c hm).1 (U k c hm).2.1]at I;rw[u3 k' (U k' c' hm').1 (U k' c' hm').2.1]at O;exact hi.inj k c k' c' hm hm' b I O
   .intro k Y st hm;rcases M k _ hm with⟨_,h⟩|⟨_,h⟩|hm
    .cases h
    .cases h
    .exact hm
  .have:=SV.B2f hr ab;simp only[Aw,Ej,Eh]at this;rcases this with rfl|rfl
   .simp only[two,Ae];exact u1
   .simp only[two,A6 (Um hq),Ae];exact u2
  .simp only[Aw,Ej,Eh,Uh]at hj;exact u3 j hj.1 hj.2
def E0v{src dst e:TypeId}{x:Operand}{rows:List (List D)}(l:A3)(hs:P.underlying src=some (.slice e))(he:P.underlying e=some (.int .u8))(hd:P.underlying dst=some .string)(hx:Ao sl x=.d (.slice rows))
  (hr:rows=l.map λc=>[.int .u8 c.toNat])(V:l≠[]):OpQ P sl bx (.convert src dst x) (.d (.str l)):=by
 intro o W;refine .Eb λC S w β a hi ha=>?_;have Z:=ha x (mC W);rw[hx]at Z;have h2:=Z.J0;have E:rows.length=l.length:=by rw[hr];simp
 generalize hv:a.eval x=v at h2;cases h2 with
 |Jz=>simp only[Dy]at E;exact absurd (Pa E.symm) V
 |slice _ b off cap sz hb h3 h4 h5 h6 h7 h8 =>
  subst hr;have O:sz=1:=by
   cases l with
   |nil=>exact absurd rfl V
   |cons c l=>have:=h5 [.int .u8 c.toNat] (by simp);simpa using this.symm
  subst O;have I:∀j (U:j<l.length),w.cell? ((⟨b,off,none⟩:Addr).add j)=some (.int .u8 (l[j].toNat:Int)):=λj U=>by
   obtain⟨u,M⟩:=h7 j 0 (by simpa using U) (by omega);have J:=h8 j 0 [.int .u8 l[j].toNat] (.int .u8 l[j].toNat) u (by simp[U]) rfl M;rw[Yv];have:off+(j*1+0)=off+j:=by omega
   rw[this]at M;rw[M];cases J;rfl
  have L:=run_convert_bytes_back (P:=P) w src dst e ⟨b,off,none⟩ cap l hs he hd I;refine⟨_,?_,.d _ _ (.str l (by simpa using h3))⟩;simp only[Bn]at hv;simp only[execOp,W,hv,H5,L,Gz,Kx];rfl
def Bj.B7u{f:FuncId}{args:List SV}{r O:SV}{J:Aa}(h:Bj P f args [] r J)(hr:B3j J=true)(V:coerce J r=some O):Ac P f args O:=by
 refine⟨h.1,λC β vs U M=>(h.2 C β vs U M).mono ?_⟩;rintro e w' ⟨v,S',β',rfl,L,M⟩;refine⟨v,λb=>S' b\/∃k c,(k,c)∈J/\(β' k).base=some b,β',rfl,?_,(Xm L ⟨λ_ h=>.inl h,λ_ _=>rfl⟩ (λk c I b E=>.inr ⟨k,c,I,E⟩) V M).1⟩;exact{
  Fg:=λb E=>.inl (L.Fg b E)
  Ee:=λb E=>by
   rcases E with E|⟨k,c,I,E⟩
   .exact L.Ee b E
   .exact .inr (L.B7 k c I b E).2.2
  Bf:=λb E=>by
   rcases E with E|⟨k,c,I,E⟩
   .exact L.Bf b E
   .exact(L.B7 k c I b E).2.1
  kept:=L.kept
  os:=L.os
  tape:=L.tape
  output:=L.output
  size:=L.size
  box:=λk c I=>by simp at I
  B7:=λk c I=>by simp at I
  inj:=λk c W Z I=>by simp at I
  Dh:=λb cs E=>⟨.inl (L.Dh b cs E).1,(L.Dh b cs E).2⟩
  one:=λk Y st W Y' st' I=>by simp at I
  Fm:=λk Y st I=>by simp at I
  fix:=L.fix }
end Go.Abs
/- (empty: the law of drawn regions stands in Ab5) -/
