/- Calls that hand back two slices of their own; bytes to a string. Own framework. -/
import Derived.Laws.IdiomStrings
import Derived.Test.YtaneedhchnaniaaGreatDoorKAb6
set_option linter.all false
namespace Go.Abs
open Go
variable {P:Program} {sl:SL} {bx:Ab}
def two (I E k1 k2:Nat)(q:Nat):Nat:=if q=I then k1 else if q=E then k2 else q
theorem C4z {f:FuncId} {fo:Operand} {args:List Operand} {Co:List TypeId} {dst:Option Nat} {caps a0:List SV} {r:SV} {q1 q2 V W:Nat} {I E:List (List D)} (k1 k2:Nat)
  (hf:Ao sl fo=.Bf f caps) (a7:Gy [] (args.map (Ao sl)++caps)=some a0) (hc:Cd P f a0 [] r [(q1,.rows V I),(q2,.rows W E)]) (hr:r.only [q1,q2]=true) (hq:q1≠q2)
  (h1:k1≤999999) (h2:k2≤999999) (hk:k1≠k2) (f1:A1a k1 bx=false) (f2:A1a k2 bx=false) :
  OpB P sl bx dst (.call ⟨.value fo,args.toArray,Co.toArray⟩) (r.Eg (two q1 q2 k1 k2)) ((k1,.rows V I)::(k2,.rows W E)::bx) [k1,k2]:=by
 intro o ho _ C S w β a hi ha;have a5:=ha fo (mC ho);rw [hf] at a5;generalize ac:a.eval fo=v at a5;cases a5 with
 |Bf _ _ cs g1 g2 =>
  have a8:Bm S w β (args.map (Ao sl)++caps) (args.map a.eval++cs):=(Bm.Tk _ fun x hx=>ha x (mo ho (by simp [Op.operands,Call.operands];exact .inr hx))).append ⟨g1,g2⟩;have aa:Inv ⟨w,S,fun _=>False,fun _ _=>False,C.G⟩ S w β []:=hi.begin hi.Bi (fun _ h=>h);obtain⟨r1,r2⟩:=Ua aa (Bo.refl S w) (by simp) a7 a8;have a6:=hc.2 ⟨w,S,fun _=>False,fun _ _=>False,C.G⟩ β _ aa r1;refine He ?_;unfold Oper.wp;rw [Rn hc.1 ho ac,R0];have a4:(args.toArray.map a.eval)++(⟨cs⟩:Array Value)=⟨args.map a.eval++cs⟩:=by apply I6;simp
  rw [a4];refine a6.mono ?_;rintro e w' ⟨v,S',β',rfl,Z,hv⟩;have a9:w.heap.size≤w'.heap.size:=Z.size;have a':∀b,S' b→S b∨w.heap.size≤b:=fun b J=>by
   rcases Z.Dx b J with h| h| h
   ·exact .inl h
   ·exact h.elim
   ·exact .inr h
  have e:Bo S w S' w':=⟨Z.Ek,fun b J=>Z.kept b (hi.Bi b J) id⟩;have u1:E3 (E3 β k2 (β' q2)) k1 (β' q1) k1 = β' q1:=G8 ..;have u2:E3 (E3 β k2 (β' q2)) k1 (β' q1) k2 = β' q2:=by rw [Jk (Pp hk),G8]
  have u3:∀j,j≠k1→j≠k2→E3 (E3 β k2 (β' q2)) k1 (β' q1) j = β j:=fun j a b=>by rw [Jk a,Jk b]
  have m1:(q1,Ar.rows V I)∈[(q1,Ar.rows V I),(q2,.rows W E)]:=by simp
  have m2:(q2,Ar.rows W E)∈[(q1,Ar.rows V I),(q2,.rows W E)]:=by simp
  have L:∀q c,(q,c)∈[(q1,Ar.rows V I),(q2,.rows W E)]→∀b,(β' q).base=some b→¬S' b∧b < w'.heap.size∧w.heap.size≤b:=fun q c hm b J=>by obtain⟨p1,p2,p3⟩:=Z.B8 q c hm b J;exact⟨p1,p2,p3.resolve_left id⟩
  have U:∀k c,(k,c)∈bx→k≠k1∧k≠k2∧(∀j,c.has j=true→j≠k1∧j≠k2):=fun k c hm=>by obtain⟨a1,a2⟩:=B5r f1 k c hm;obtain⟨b1,b2⟩:=B5r f2 k c hm;exact⟨a1,b1,fun j hj=>⟨fun he=>by subst he;rw [a2] at hj;simp at hj,fun he=>by subst he;rw [b2] at hj;simp at hj⟩⟩
  have O:∀k c,(k,c)∈(k1,Ar.rows V I)::(k2,.rows W E)::bx→(k=k1∧c=.rows V I)∨(k=k2∧c=.rows W E)∨(k,c)∈bx:=fun k c hm=>by simp only [As,Df] at hm;exact hm
  refine⟨v,S',E3 (E3 β k2 (β' q2)) k1 (β' q1),rfl,?_,e,hv.Eg fun k ab=>?_,fun j hj=>?_⟩
  ·refine hi.step e a' Z.Bi (fun b J _=>Z.kept b J id) Z.os Z.tape Z.output a9 ?_ ?_ (fun j hj=>u3 j (by omega) (by omega)) ?_
   ·intro k c hm;rcases O k c hm with ⟨rfl,rfl⟩| ⟨rfl,rfl⟩| hm
    ·rw [u1];exact⟨Dh.ext (c:=.rows V I) (Z.box q1 _ m1) (Bo.refl _ _) (fun _ _=>rfl) (by simp [Ar.has]),fun b J=>⟨(L _ _ m1 b J).1,(L _ _ m1 b J).2.1,.inl (L _ _ m1 b J).2.2⟩⟩
    ·rw [u2];exact⟨Dh.ext (c:=.rows W E) (Z.box q2 _ m2) (Bo.refl _ _) (fun _ _=>rfl) (by simp [Ar.has]),fun b J=>⟨(L _ _ m2 b J).1,(L _ _ m2 b J).2.1,.inl (L _ _ m2 b J).2.2⟩⟩
    ·obtain⟨a1,a2,a3⟩:=U k c hm;rw [u3 k a1 a2];obtain⟨p1,p2,p3⟩:(∀b,(β k).base=some b→¬S b)∧(∀b,(β k).base=some b→b < w.heap.size)∧True:=⟨fun b J=>(hi.B8 k c hm b J).1,fun b J=>(hi.B8 k c hm b J).2.1,trivial⟩;refine⟨(hi.box k c hm).ext e (fun b J=>Z.kept b (p2 b J) id) (fun j hj=>u3 j (a3 j hj).1 (a3 j hj).2),fun b J=>⟨fun hs=>?_,Wj (p2 b J) a9,.inr ⟨k,c,hm,J⟩⟩⟩;rcases a' b hs with h| h
     ·exact p1 b J h
     ·have:=p2 b J;omega
   ·intro k c k' c' hm hm' b J R;have low:∀k c,(k,c)∈bx→(E3 (E3 β k2 (β' q2)) k1 (β' q1) k).base=some b→b < w.heap.size:=fun k c hm J=>by
     rw [u3 k (U k c hm).1 (U k c hm).2.1] at J;exact (hi.B8 k c hm b J).2.1
    rcases O k c hm with ⟨rfl,rfl⟩| ⟨rfl,rfl⟩| hm
    ·rw [u1] at J;rcases O k' c' hm' with ⟨rfl,rfl⟩| ⟨rfl,rfl⟩| hm'
     ·exact⟨rfl,rfl⟩
     ·rw [u2] at R;exact absurd (Z.inj _ _ _ _ m1 m2 b J R).1 hq
     ·have:=low _ _ hm' R;have:=(L _ _ m1 b J).2.2;omega
    ·rw [u2] at J;rcases O k' c' hm' with ⟨rfl,rfl⟩| ⟨rfl,rfl⟩| hm'
     ·rw [u1] at R;exact absurd (Z.inj _ _ _ _ m1 m2 b R J).1 hq
     ·exact⟨rfl,rfl⟩
     ·have:=low _ _ hm' R;have:=(L _ _ m2 b J).2.2;omega
    ·have ad:=low _ _ hm J;rcases O k' c' hm' with ⟨rfl,rfl⟩| ⟨rfl,rfl⟩| hm'
     ·rw [u1] at R;have:=(L _ _ m1 b R).2.2;omega
     ·rw [u2] at R;have:=(L _ _ m2 b R).2.2;omega
     ·rw [u3 k (U k c hm).1 (U k c hm).2.1] at J;rw [u3 k' (U k' c' hm').1 (U k' c' hm').2.1] at R;exact hi.inj k c k' c' hm hm' b J R
   ·intro k Y st hm;rcases O k _ hm with ⟨_,h⟩| ⟨_,h⟩| hm
    ·cases h
    ·cases h
    ·exact hm
  ·have:=SV.B5u hr ab;simp only [As,Dt,Du] at this;rcases this with rfl| rfl
   ·simp only [two,Af];exact u1
   ·simp only [two,A6 (Pp hq),Af];exact u2
  ·simp only [As,Dt,Du,Nb] at hj;exact u3 j hj.1 hj.2
theorem D0f {src dst e:TypeId} {x:Operand} {rows:List (List D)} (l:A3)(hs:P.underlying src=some (.slice e))(he:P.underlying e=some (.int .u8))(hd:P.underlying dst=some .string)(hx:Ao sl x=.d (.slice rows))
  (hr:rows=l.map fun c=>[.int .u8 c.toNat]) (W:l≠[]):OpQ P sl bx (.convert src dst x) (.d (.str l)):=by
 intro o Z;refine .Ef fun C S w β a hi ha=>?_;have V:=ha x (mC Z);rw [hx] at V;have h2:=V.Gp;have E:rows.length=l.length:=by rw [hr];simp
 generalize hv:a.eval x=v at h2;cases h2 with
 |Ja=>simp only [Ch] at E;exact absurd (Rk E.symm) W
 |slice _ b off cap sz hb h3 h4 h5 h6 h7 h8 =>
  subst hr;have R:sz=1:=by
   cases l with
   |nil=>exact absurd rfl W
   |cons c l=>have:=h5 [.int .u8 c.toNat] (by simp);simpa using this.symm
  subst R;have I:∀j (U:j < l.length),w.cell? ((⟨b,off,none⟩:Addr).add j)=some (.int .u8 (l[j].toNat:Int)):=fun j U=>by
   obtain⟨u,O⟩:=h7 j 0 (by simpa using U) (by omega);have L:=h8 j 0 [.int .u8 l[j].toNat] (.int .u8 l[j].toNat) u (by simp [U]) rfl O;rw [Xk];have:off+(j*1+0)=off+j:=by omega
   rw [this] at O;rw [O];cases L;rfl
  have J:=run_convert_bytes_back (P:=P) w src dst e ⟨b,off,none⟩ cap l hs he hd I;refine⟨_,?_,.d _ _ (.str l (by simpa using h3))⟩;simp only [B6] at hv;simp only [execOp,Z,hv,Hu,J,H8,Kp];rfl
theorem Cd.B3t {f:FuncId} {args:List SV} {r R:SV} {L:Ab} (h:Cd P f args [] r L)(hr:B0z L=true)(Z:coerce L r=some R):Ac P f args R:=by
 refine⟨h.1,fun C β vs V O=>(h.2 C β vs V O).mono ?_⟩;rintro e w' ⟨v,S',β',rfl,J,O⟩;refine⟨v,fun b=>S' b∨∃k c,(k,c)∈L∧(β' k).base=some b,β',rfl,?_,(A5e J ⟨fun _ h=>.inl h,fun _ _=>rfl⟩ (fun k c I b E=>.inr ⟨k,c,I,E⟩) Z O).1⟩;exact {
  Ek:=fun b E=>.inl (J.Ek b E)
  Dx:=fun b E=>by
   rcases E with E| ⟨k,c,I,E⟩
   ·exact J.Dx b E
   ·exact .inr (J.B8 k c I b E).2.2
  Bi:=fun b E=>by
   rcases E with E| ⟨k,c,I,E⟩
   ·exact J.Bi b E
   ·exact (J.B8 k c I b E).2.1
  kept:=J.kept
  os:=J.os
  tape:=J.tape
  output:=J.output
  size:=J.size
  box:=fun k c I=>by simp at I
  B8:=fun k c I=>by simp at I
  inj:=fun k c W c' I=>by simp at I
  D9:=fun b cs E=>⟨.inl (J.D9 b cs E).1,(J.D9 b cs E).2⟩
  one:=fun k Y st W Y' U I=>by simp at I
  Ez:=fun k Y st I=>by simp at I
  fix:=J.fix }
end Go.Abs
