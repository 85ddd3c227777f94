/- Calls that hand back two slices of their own; bytes to a string. Own framework. -/
import Derived.Laws.IdiomStrings
import Derived.Test.YtfjaahliphbklaaGreatDoorJAb6
set_option linter.unusedVariables false
set_option linter.unusedSimpArgs false
namespace Go.Abs
open Go
variable {P:Program} {sl:SL} {bx:A0b}
def two (q1 q2 k1 k2:Nat)(q:Nat):Nat:=if q=q1 then k1 else if q=q2 then k2 else q
theorem C1c {f:FuncId} {fo:Operand} {args:List Operand} {tys:List TypeId} {dst:Option Nat} {caps args':List SV} {r:SV} {q1 q2 sz1 sz2:Nat} {rows1 rows2:List (List D)} (k1 k2:Nat)
  (hf:opnd sl fo=.clo f caps) (hargs:A2e [] (args.map (opnd sl)++caps)=some args') (hc:A1p P f args' [] r [(q1,.rows sz1 rows1),(q2,.rows sz2 rows2)]) (hr:r.only [q1,q2]=true) (hq:q1≠q2)
  (h1:k1≤999999) (h2:k2≤999999) (hk:k1≠k2) (f1:D5g k1 bx=false) (f2:D5g k2 bx=false) :
  OpB P sl bx dst (.call ⟨.value fo,args.toArray,tys.toArray⟩) (r.ren (two q1 q2 k1 k2)) ((k1,.rows sz1 rows1)::(k2,.rows sz2 rows2)::bx) [k1,k2]:=by
 intro o ho _ C S w β a hi ha;have hf1:=ha fo (mC ho);rw [hf] at hf1;generalize hfv:a.eval fo=v at hf1;cases hf1 with
 | clo _ _ cs g1 g2 =>
  have hall:A3e S w β (args.map (opnd sl)++caps) (args.map a.eval++cs):=(A3e.evals _ fun x hx=>ha x (mo ho (by simp [Op.operands,Call.operands];exact .inr hx))).append ⟨g1,g2⟩;have hin:Inv ⟨w,S,fun _=>False,fun _ _=>False,C.G⟩ S w β []:=hi.begin hi.Slt (fun _ h=>h);obtain⟨r1,r2⟩:=A2y hin (SExt.refl S w) (by simp) hargs hall;have hcall:=hc.2 ⟨w,S,fun _=>False,fun _ _=>False,C.G⟩ β _ hin r1;refine Or.inl ?_;unfold Oper.wp;rw [A3f hc.1 ho hfv,Oper.upon_enter];have hargsEq:(args.toArray.map a.eval)++(⟨cs⟩:Array Value)=⟨args.map a.eval++cs⟩:=by apply Array.ext';simp
  rw [hargsEq];refine hcall.mono ?_;rintro e w' ⟨v,S',β',rfl,hI,hv⟩;have hsz:w.heap.size≤w'.heap.size:=hI.size;have hSn:∀ b,S' b→S b∨w.heap.size≤b:=fun b hb=>by
   rcases hI.Snew b hb with h | h | h
   ·exact .inl h
   ·exact h.elim
   ·exact .inr h
  have e:SExt S w S' w':=⟨hI.S0sub,fun b hb=>hI.kept b (hi.Slt b hb) id⟩;have u1:upd (upd β k2 (β' q2)) k1 (β' q1) k1 = β' q1:=A0x ..;have u2:upd (upd β k2 (β' q2)) k1 (β' q1) k2 = β' q2:=by rw [A3z (Ne.symm hk),A0x]
  have u3:∀ j,j≠k1→j≠k2→upd (upd β k2 (β' q2)) k1 (β' q1) j = β j:=fun j a b=>by rw [A3z a,A3z b]
  have m1:(q1,BoxC.rows sz1 rows1)∈[(q1,BoxC.rows sz1 rows1),(q2,.rows sz2 rows2)]:=by simp
  have m2:(q2,BoxC.rows sz2 rows2)∈[(q1,BoxC.rows sz1 rows1),(q2,.rows sz2 rows2)]:=by simp
  have hnew:∀ q c,(q,c)∈[(q1,BoxC.rows sz1 rows1),(q2,.rows sz2 rows2)]→∀ b,(β' q).base=some b→¬ S' b∧b < w'.heap.size∧w.heap.size≤b:=fun q c hm b hb=>by obtain⟨p1,p2,p3⟩:=hI.priv q c hm b hb;exact⟨p1,p2,p3.resolve_left id⟩
  have hold:∀ k c,(k,c)∈bx→k≠k1∧k≠k2∧(∀ j,c.has j=true→j≠k1∧j≠k2):=fun k c hm=>by obtain⟨a1,a2⟩:=B5r f1 k c hm;obtain⟨b1,b2⟩:=B5r f2 k c hm;exact⟨a1,b1,fun j hj=>⟨fun he=>by subst he;rw [a2] at hj;simp at hj,fun he=>by subst he;rw [b2] at hj;simp at hj⟩⟩
  have hcase:∀ k c,(k,c)∈(k1,BoxC.rows sz1 rows1)::(k2,.rows sz2 rows2)::bx→(k=k1∧c=.rows sz1 rows1)∨(k=k2∧c=.rows sz2 rows2)∨(k,c)∈bx:=fun k c hm=>by simp only [List.mem_cons,Prod.mk.injEq] at hm;exact hm
  refine⟨v,S',upd (upd β k2 (β' q2)) k1 (β' q1),rfl,?_,e,hv.ren fun k hkk=>?_,fun j hj=>?_⟩
  ·refine hi.step e hSn hI.Slt (fun b hb _=>hI.kept b hb id) hI.os hI.tape hI.output hsz ?_ ?_ (fun j hj=>u3 j (by omega) (by omega)) ?_
   ·intro k c hm;rcases hcase k c hm with ⟨rfl,rfl⟩ | ⟨rfl,rfl⟩ | hm
    ·rw [u1];exact⟨A2h.ext (c:=.rows sz1 rows1) (hI.box q1 _ m1) (SExt.refl _ _) (fun _ _=>rfl) (by simp [BoxC.has]),fun b hb=>⟨(hnew _ _ m1 b hb).1,(hnew _ _ m1 b hb).2.1,.inl (hnew _ _ m1 b hb).2.2⟩⟩
    ·rw [u2];exact⟨A2h.ext (c:=.rows sz2 rows2) (hI.box q2 _ m2) (SExt.refl _ _) (fun _ _=>rfl) (by simp [BoxC.has]),fun b hb=>⟨(hnew _ _ m2 b hb).1,(hnew _ _ m2 b hb).2.1,.inl (hnew _ _ m2 b hb).2.2⟩⟩
    ·obtain⟨a1,a2,a3⟩:=hold k c hm;rw [u3 k a1 a2];obtain⟨p1,p2,p3⟩:(∀ b,(β k).base=some b→¬ S b)∧(∀ b,(β k).base=some b→b < w.heap.size)∧True:=⟨fun b hb=>(hi.priv k c hm b hb).1,fun b hb=>(hi.priv k c hm b hb).2.1,trivial⟩;refine⟨(hi.box k c hm).ext e (fun b hb=>hI.kept b (p2 b hb) id) (fun j hj=>u3 j (a3 j hj).1 (a3 j hj).2),fun b hb=>⟨fun hs=>?_,Nat.lt_of_lt_of_le (p2 b hb) hsz,.inr ⟨k,c,hm,hb⟩⟩⟩;rcases hSn b hs with h | h
     ·exact p1 b hb h
     ·have:=p2 b hb;omega
   ·intro k c k' c' hm hm' b hb hb';have low:∀ k c,(k,c)∈bx→(upd (upd β k2 (β' q2)) k1 (β' q1) k).base=some b→b < w.heap.size:=fun k c hm hb=>by
     rw [u3 k (hold k c hm).1 (hold k c hm).2.1] at hb;exact (hi.priv k c hm b hb).2.1
    rcases hcase k c hm with ⟨rfl,rfl⟩ | ⟨rfl,rfl⟩ | hm
    ·rw [u1] at hb;rcases hcase k' c' hm' with ⟨rfl,rfl⟩ | ⟨rfl,rfl⟩ | hm'
     ·exact⟨rfl,rfl⟩
     ·rw [u2] at hb';exact absurd (hI.inj _ _ _ _ m1 m2 b hb hb').1 hq
     ·have:=low _ _ hm' hb';have:=(hnew _ _ m1 b hb).2.2;omega
    ·rw [u2] at hb;rcases hcase k' c' hm' with ⟨rfl,rfl⟩ | ⟨rfl,rfl⟩ | hm'
     ·rw [u1] at hb';exact absurd (hI.inj _ _ _ _ m1 m2 b hb' hb).1 hq
     ·exact⟨rfl,rfl⟩
     ·have:=low _ _ hm' hb';have:=(hnew _ _ m2 b hb).2.2;omega
    ·have hlt:=low _ _ hm hb;rcases hcase k' c' hm' with ⟨rfl,rfl⟩ | ⟨rfl,rfl⟩ | hm'
     ·rw [u1] at hb';have:=(hnew _ _ m1 b hb').2.2;omega
     ·rw [u2] at hb';have:=(hnew _ _ m2 b hb').2.2;omega
     ·rw [u3 k (hold k c hm).1 (hold k c hm).2.1] at hb;rw [u3 k' (hold k' c' hm').1 (hold k' c' hm').2.1] at hb';exact hi.inj k c k' c' hm hm' b hb hb'
   ·intro k Y st hm;rcases hcase k _ hm with ⟨_,h⟩ | ⟨_,h⟩ | hm
    ·cases h
    ·cases h
    ·exact hm
  ·have:=SV.only_has hr hkk;simp only [List.mem_cons,List.not_mem_nil,or_false] at this;rcases this with rfl | rfl
   ·simp only [two,if_true];exact u1
   ·simp only [two,if_neg (Ne.symm hq),if_true];exact u2
  ·simp only [List.mem_cons,List.not_mem_nil,or_false,not_or] at hj;exact u3 j hj.1 hj.2
theorem D3n {src dst e:TypeId} {x:Operand} {rows:List (List D)} (l:Str)(hs:P.underlying src=some (.slice e))(he:P.underlying e=some (.int .u8))(hd:P.underlying dst=some .string)(hx:opnd sl x=.d (.slice rows))
  (hr:rows=l.map fun c=>[.int .u8 c.toNat]) (hl:l≠[]):OpQ P sl bx (.convert src dst x) (.d (.str l)):=by
 intro o ho;refine .of_value fun C S w β a hi ha=>?_;have h1:=ha x (mC ho);rw [hx] at h1;have h2:=h1.inv_d;have hlen:rows.length=l.length:=by rw [hr];simp
 generalize hv:a.eval x=v at h2;cases h2 with
 | slice0=>simp only [List.length_nil] at hlen;exact absurd (List.eq_nil_of_length_eq_zero hlen.symm) hl
 | slice _ b off cap sz hb h3 h4 h5 h6 h7 h8 =>
  subst hr;have hsz:sz=1:=by
   cases l with
   | nil=>exact absurd rfl hl
   | cons c l=>have:=h5 [.int .u8 c.toNat] (by simp);simpa using this.symm
  subst hsz;have hcell:∀ j (hj:j < l.length),w.cell? ((⟨b,off,none⟩:Addr).add j)=some (.int .u8 (l[j].toNat:Int)):=fun j hj=>by
   obtain⟨u,hu⟩:=h7 j 0 (by simpa using hj) (by omega);have hrep:=h8 j 0 [.int .u8 l[j].toNat] (.int .u8 l[j].toNat) u (by simp [hj]) rfl hu;rw [A5s];have:off+(j*1+0)=off+j:=by omega
   rw [this] at hu;rw [hu];cases hrep;rfl
  have hrun:=run_convert_bytes_back (P:=P) w src dst e ⟨b,off,none⟩ cap l hs he hd hcell;refine⟨_,?_,.d _ _ (.str l (by simpa using h3))⟩;simp only [List.length_map] at hv;simp only [execOp,ho,hv,Sem.run_bind,hrun,Result.andThen_ok,Sem.run_pure];rfl
theorem A1p.pubAll {f:FuncId} {args:List SV} {r r':SV} {post:A0b} (h:A1p P f args [] r post)(hr:F2u post=true)(hc:A2a post r=some r'):A0a P f args r':=by
 refine⟨h.1,fun C β vs hi hv=>(h.2 C β vs hi hv).mono ?_⟩;rintro e w' ⟨v,S',β',rfl,hk,hv⟩;refine⟨v,fun b=>S' b∨∃ k c,(k,c)∈post∧(β' k).base=some b,β',rfl,?_,(A5j hk ⟨fun _ h=>.inl h,fun _ _=>rfl⟩ (fun k c hm b hb=>.inr ⟨k,c,hm,hb⟩) hc hv).1⟩;exact {
  S0sub:=fun b hb=>.inl (hk.S0sub b hb)
  Snew:=fun b hb=>by
   rcases hb with hb | ⟨k,c,hm,hb⟩
   ·exact hk.Snew b hb
   ·exact .inr (hk.priv k c hm b hb).2.2
  Slt:=fun b hb=>by
   rcases hb with hb | ⟨k,c,hm,hb⟩
   ·exact hk.Slt b hb
   ·exact (hk.priv k c hm b hb).2.1
  kept:=hk.kept
  os:=hk.os
  tape:=hk.tape
  output:=hk.output
  size:=hk.size
  box:=fun k c hm=>by simp at hm
  priv:=fun k c hm=>by simp at hm
  inj:=fun k c k' c' hm=>by simp at hm
  tab:=fun b cs hb=>⟨.inl (hk.tab b cs hb).1,(hk.tab b cs hb).2⟩
  one:=fun k Y st k' Y' st' hm=>by simp at hm
  frn:=fun k Y st hm=>by simp at hm
  fix:=hk.fix }
end Go.Abs
