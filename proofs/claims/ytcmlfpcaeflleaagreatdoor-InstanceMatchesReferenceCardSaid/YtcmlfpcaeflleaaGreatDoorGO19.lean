/- maps.Values, slices.AppendSeq, Collect, SortedFunc for any map: its entries come in any order -/
import Derived.Test.YtcmlfpcaeflleaaGreatDoorGO08
import Derived.Test.YtcmlfpcaeflleaaGreatDoorGP43
import Derived.Test.YtcmlfpcaeflleaaGreatDoorGV04
set_option linter.all false
set_option maxHeartbeats 4000000
set_option maxRecDepth 100000
namespace Go.Abs
open Go Go.Proofs Tryz
section
variable {P:Program} {o:Oper} {ρ:Hb} {bx:Aa}
theorem D2d{fo x:Operand}{Cq:Array TypeId}(U:o.op=.call { callee:=.value fo,args:=#[x],argTypes:=Cq }){g l j V:Nat}{Y:Iw}{y:SV}(hf:ρ fo=.Ek l)(hb:(g,Ap.ghost Y (some j))∈bx)
  (hx:coerce [] (ρ x)=some y)(hP:Y.P=P)(hl:Y.l=l)(hm:Y.more j y V):Bp P o ρ bx (.d (.bool true)) ((g,.ghost Y (some V))::Ca g bx) []:=by
 intro C S w β a L Z;have I:=(Z fo (mC U));rw[hf]at I;generalize W:a.eval fo=v at I;cases I;have J:Inv ⟨w,S,λ_=>False,λ_ _=>False,C.G⟩ S w β []:=L.begin L.Bf (λ_ h=>h);obtain⟨g1,_⟩:=Xm J (Bk.refl S w) (by simp) hx (Z x (mC U));obtain⟨e1,e2,e3,e4,B,e5,O⟩:=L.Fm g Y (some j) hb;subst e1;subst hP;subst hl;obtain⟨f,tmps,E,body,h1,h2⟩:=e2.F5h j y V B S w β _ hm e5 L.Bf (λb M=>⟨(O b M).1,(O b M).2.1⟩) g1;refine Or.inr ⟨C.G.Y.l,f,tmps,E,body,w,?_,h2.mono ?_⟩
 .simp[execOp,U,resolve,Deferred.ofValue,W,invoke,h1]
 .rintro e w' ⟨S',B',rfl,q5,t⟩;obtain⟨r1,r2⟩:=L.B1y hb O t q5;exact⟨.bool true,S',β,rfl,r1,r2,.bool _,λ_ _=>rfl⟩
end
def Mb:List Nat->Nat
 |[]=>0
 |i::h=>2 ^ i*(2*Mb h+1)
theorem D1y:∀{i k a b:Nat},2 ^ i*(2*a+1)=2 ^ k*(2*b+1)->i=k/\a=b
 |0,0,a,b,h=>⟨rfl,by simp at h;omega⟩
 |0,k+1,a,b,h=>by rw[Nat.pow_succ,Uu (2 ^ k) 2,Nat.mul_assoc]at h;simp only[Nat.pow_zero,Xr]at h;omega
 |i+1,0,a,b,h=>by rw[Nat.pow_succ,Uu (2 ^ i) 2,Nat.mul_assoc]at h;simp only[Nat.pow_zero,Xr]at h;omega
 |i+1,k+1,a,b,h=>by rw[Nat.pow_succ,Nat.pow_succ,Uu (2 ^ i) 2,Uu (2 ^ k) 2,Nat.mul_assoc,Nat.mul_assoc]at h;obtain⟨I,E⟩:=D1y (Nat.eq_of_mul_eq_mul_left (by decide) h);exact⟨by omega,E⟩
theorem D9k:∀{h k:List Nat},Mb h=Mb k->h=k
 |[],[],_=>rfl
 |[],k::ks,h=>by have:0<Mb (k::ks):=Nat.mul_pos (Nat.pow_pos (by decide)) (by omega);rw[<-h]at this;exact absurd this (by decide)
 |i::is,[],h=>by have:0<Mb (i::is):=Nat.mul_pos (Nat.pow_pos (by decide)) (by omega);rw[h]at this;exact absurd this (by decide)
 |i::is,k::ks,h=>by obtain⟨I,E⟩:=D1y (show 2 ^ i*(2*Mb is+1)=2 ^ k*(2*Mb ks+1) from h);rw[I,D9k E]
open Classical in
noncomputable def A9m (j:Nat):List Nat:=if h:∃l,Mb l=j then Classical.choose h else[]
theorem A3z(l:List Nat):A9m (Mb l)=l:=by unfold A9m;have h:∃k,Mb k=Mb l:=⟨l,rfl⟩;rw[dif_pos h];exact D9k (Classical.choose_spec h)
def B8c(kvs:List (D × D))(j:Nat)(y:SV)(E:Nat):Prop:=∃h i kv,kvs[i]?=some kv/\h.length<kvs.length/\j=Mb h/\E=Mb (i::h)/\y=Iq kv.2
def allM(kvs:List (D × D))(st:Option Nat):Prop:=∃h:List Nat,st=some (Mb h)/\h.Nodup/\(∀i,i∈h->i<kvs.length)/\∀i,i<kvs.length->i∈h
def Mt{α:Type}(l:List α)(h:List Nat):List α:=h.reverse.filterMap λi=>l[i]?
theorem D7o{α:Type}{l:List α}{i:Nat}{x:α}(E:l[i]?=some x)(h:List Nat):Mt l (i::h)=Mt l h++[x]:=by simp[Mt,E]
theorem D1q{α:Type}(l:List α)(h:List Nat):(Mt l h).length<=h.length:=by unfold Mt;exact D3 (List.length_filterMap_le _ _) (by simp)
theorem E6g{α:Type}:∀l:List α,(List.range l.length).filterMap (λi=>l[i]?)=l
 |[]=>rfl
 |x::l=>by
  rw[C6,List.range_succ_eq_map,List.filterMap_cons];simp only[Qt,List.filterMap_map];have:((λi=>(x::l)[i]?) ∘ Nat.succ)=λi=>l[i]?:=by funext i;simp
  rw[this,E6g l]
theorem E7k{α:Type}{l:List α}{h:List Nat}(J:h.Nodup)(I:∀i,i∈h->i<l.length)(E:∀i,i<l.length->i∈h):(Mt l h).Perm l:=by
 have hp:h.reverse.Perm (List.range l.length):=(List.reverse_perm h).trans ((List.perm_ext_iff_of_nodup J List.nodup_range).2 λa=>by simp;exact⟨I a,E a⟩);have:=hp.filterMap λi=>l[i]?;unfold Mt
 rwa [E6g]at this
section
variable {ro:Option Nat} {P:Program} {n:Nat} {Q:Exit->SL->Aa->Prop} {sl:SL} {bx:Aa}
def D6f(P:Program)(o:Oper)(ρ:Hb)(bx:Aa)(pg:List Nat)(R:SV->Aa->Prop):Prop :=
 ∀(C:Ctx) (S:Nat->Prop) (w:World) (β:Names) (a:Act),Inv C S w β bx->(∀x,x∈o.op.operands->Ak S w β (ρ x) (a.eval x)) ->
  o.wpx P a w (λE w'=>∃r bx' v S' β',R r bx'/\E=a.put o.dst v/\Inv C S' w' β' bx'/\Bk S w S' w'/\Ak S' w' β' r v/\(∀k,k∉pg->β' k =β k))
theorem A0.C1x{id:Nat}{ops:Array Oper}{y:Code}(ks own:List Nat)(i:Nat)(o:Oper)(hi:ops[i]?=some o)(hg:o.guard=none)(L:E6 n ops.toList=true)
  (h:∀K:SL->Aa->Prop,(∀sl' bx',A0 ro P n y Q sl' bx'->K sl' bx')->F7 P own ops (ops.toList.take i) sl bx λE W=>∃pg R,Fe pg E=E/\D6f P o (Ao E) W pg R/\∀r J,R r J->F7 P own ops (ops.toList.drop (i+1)) (Ft E o.dst r) J (He ks K)) :
  A0 ro P n (.seq (.region id ops false) y) Q sl bx:=by
 have V:∀l:List Oper,(∀x,x∈l->x∈ops.toList)->E6 n l=true:=λl hl=>by unfold E6 at*;rw[Dr]at*;exact λo ho=>L o (hl o ho)
 obtain⟨a6,U⟩:=Vd.1 hi;have M:o∈ops.toList:=by rw[<-U];simp
 have h1:=h _ λ_ _ h=>h;refine A0.seq λC S w β a hs=>wpIn_region ?_;have hr:List.range ops.size=List.range' 0 i++List.range' i (ops.size - i - 1+1):=by
  have:=@List.range'_append_1 0 i (ops.size - i - 1+1);rw[Nd]at this;rw[List.range_eq_range',this]
  congr 1
  omega
 rw[hr];refine B6m (Q2 L) (Xf L) (λE W S1 w1 β1 a1 hK I=>?_) i 0 sl bx S w β a (by omega) (Xk _ _ _ (V _ λx hx=>Hh (by simpa using hx)) (by simpa using h1)) hs;obtain⟨pg,a0,R,a5,O⟩:=hK;simp only[Aq7,wpOpsIn,Nt a6,U];have a3:N3 ops E o=some true:=by unfold N3;rw[hg]
 have hw:=B0c (a:=a1) (S:=S1) (w:=w1) (β:=β1) (λt ht=>by obtain⟨j,a7,_,hj⟩:=ht;exact⟨I.slot t,by rw[I.size];exact A8k (Q2 L) hj⟩) a3
 rw[hw];simp only[Ae];refine Oper.B1o (Xf L o M) (a5 C S1 w1 β1 a1 I.inv λx _=>I.Ao x) ?_;rintro a' w' ⟨r,J,v,S',β',h0,rfl,a4,he,hv,hb⟩;have Z:=I.put (pg:=pg) (Q2 L o M) a4 he hv hb;rw[a0]at Z;exact A9a (Q2 L) (Xf L) (λsl' bx' S' w' β' a' hK a2=>⟨_,_,S',β',hK,a2.S9 ks ks⟩) (ops.size - i - 1) (i+1) _ _ _ _ _ _ (by omega) (Xk _ _ _ (V _ λx hx=>X3 hx) (O r J h0)) Z
theorem C0y{f:FuncId}{fo:Operand}{args:List Operand}{Cq:List TypeId}{o:Oper}{ρ:Hb}{caps M:List SV}{r:SV}{V O:Nat}{RR:List (List D)->Prop}(k1:Nat)(ho:o.op=.call ⟨.value fo,args.toArray,Cq.toArray⟩)
  (hf:ρ fo=.B0 f caps)(a7:args.map ρ++caps=M)(ae:SV.Mc M=true)(hc:Kz P f M [] λr' a4=>∃rows,RR rows/\r'=r/\a4=[(V,.rows O rows)])(hr:r.only [V]=true)
  (h1:k1<=999999)(f1:A0h k1 bx=false) :
  D6f P o ρ bx [k1] λr' bx'=>∃rows,RR rows/\r'=r.Dt (X4 V k1)/\bx'=(k1,.rows O rows)::bx:=by
 subst a7;intro C S w β a hi ha;have a5:=ha fo (mC ho);rw[hf]at a5;generalize ac:a.eval fo=v at a5;cases a5 with
 |B0 _ _ cs g1 g2 =>
  have a':Bv S w β (args.map ρ++caps) (args.map a.eval++cs):=(Bv.U1 _ λx hx=>ha x (mo ho (by simp[Op.operands,Call.operands];exact .inr hx))).append ⟨g1,g2⟩;have aa:Inv ⟨w,S,λ_=>False,λ_ _=>False,C.G⟩ S w β []:=hi.begin hi.Bf (λ_ h=>h);have a6:=hc.2 ⟨w,S,λ_=>False,λ_ _=>False,C.G⟩ β _ aa a';refine H6 ?_;unfold Oper.wp;rw[Sp hc.1 ho ac,R6];have Z:(args.toArray.map a.eval)++(⟨cs⟩:Array Value)=⟨args.map a.eval++cs⟩:=by apply J6;simp
  rw[Z];refine a6.mono ?_;rintro e w' ⟨r',v,a4,S',β',⟨E,ad,rfl,rfl⟩,rfl,W,hv⟩;have a9:w.heap.size<=w'.heap.size:=W.size;have a8:∀b,S' b->S b\/w.heap.size<=b:=λb I=>by
   rcases W.Ee b I with h|h|h
   .exact .inl h
   .exact h.elim
   .exact .inr h
  have e:Bk S w S' w':=⟨W.Fg,λb I=>W.kept b (hi.Bf b I) id⟩;have u1:Eg β k1 (β' V) k1 =β' V:=H2 ..;have u3:∀j,j≠k1->Eg β k1 (β' V) j =β j:=λj a=>by rw[Lo a]
  have m1:(V,Ap.rows O E)∈[(V,Ap.rows O E)]:=by simp
  have L:∀b,(β' V).base=some b->¬S' b/\b<w'.heap.size/\w.heap.size<=b:=λb I=>by obtain⟨p1,p2,p3⟩:=W.B7 V _ m1 b I;exact⟨p1,p2,p3.resolve_left id⟩
  have U:∀k c,(k,c)∈bx->k≠k1/\(∀j,c.has j=true->j≠k1):=λk c hm=>by obtain⟨a1,a2⟩:=B4t f1 k c hm;exact⟨a1,λj hj he=>by subst he;rw[a2]at hj;simp at hj⟩
  have J:∀k c,(k,c)∈(k1,Ap.rows O E)::bx->(k=k1/\c=.rows O E)\/(k,c)∈bx:=λk c hm=>by simp only[Aw,Eo]at hm;exact hm
  refine⟨_,_,v,S',Eg β k1 (β' V),⟨E,ad,rfl,rfl⟩,rfl,?_,e,hv.Dt λk ab=>?_,λj hj=>?_⟩
  .refine hi.step e a8 W.Bf (λb I _=>W.kept b I id) W.os W.tape W.output a9 ?_ ?_ (λj hj=>u3 j (by omega)) ?_
   .intro k c hm;rcases J k c hm with⟨rfl,rfl⟩|hm
    .rw[u1];exact⟨Df.ext (c:=.rows O E) (W.box V _ m1) (Bk.refl _ _) (λ_ _=>rfl) (by simp[Ap.has]),λb I=>⟨(L b I).1,(L b I).2.1,.inl (L b I).2.2⟩⟩
    .obtain⟨a1,a3⟩:=U k c hm;rw[u3 k a1];refine⟨(hi.box k c hm).ext e (λb I=>W.kept b (hi.B7 k c hm b I).2.1 id) (λj hj=>u3 j (a3 j hj)),λb I=>⟨λhs=>?_,Vr (hi.B7 k c hm b I).2.1 a9,.inr ⟨k,c,hm,I⟩⟩⟩;rcases a8 b hs with h|h
     .exact(hi.B7 k c hm b I).1 h
     .have:=(hi.B7 k c hm b I).2.1;omega
   .intro k c k' c' hm hm' b I a0;have low:∀k c,(k,c)∈bx->(Eg β k1 (β' V) k).base=some b->b<w.heap.size:=λk c hm I=>by
     rw[u3 k (U k c hm).1]at I;exact(hi.B7 k c hm b I).2.1
    rcases J k c hm with⟨rfl,rfl⟩|hm
    .rw[u1]at I;rcases J k' c' hm' with⟨rfl,rfl⟩|hm'
     .exact⟨rfl,rfl⟩
     .have:=low _ _ hm' a0;have:=(L b I).2.2;omega
    .have af:=low _ _ hm I;rcases J k' c' hm' with⟨rfl,rfl⟩|hm'
     .rw[u1]at a0;have:=(L b a0).2.2;omega
     .rw[u3 k (U k c hm).1]at I;rw[u3 k' (U k' c' hm').1]at a0;exact hi.inj k c k' c' hm hm' b I a0
   .intro k Y st hm;rcases J k _ hm with⟨_,h⟩|hm
    .cases h
    .exact hm
  .have:=SV.B2f hr ab;simp only[Aw,Ej,Eh]at this;subst this;simp only[X4,Ae];exact u1
  .simp only[Aw,Ej,Eh]at hj;exact u3 j hj
end
theorem G8u(ts:List Ty)(Y:Iw)(hP:Y.P=Tryz.prog)(hm:Y.more=B8c (tM ts)) :
  Kz Tryz.prog 92 [.Ek Y.l,.Ah [.map (tM ts)] 0] [(1000000,.ghost Y (some 0))] λ_ M=>∃st,allM (tM ts) st/\M=[(1000000,.ghost Y st)]:=by
 have a1:Tryz.prog.underlying 79=some (.map 9 25):=by kernel_rfl
 (refine Kz.L5 func92 rfl (by decide) (by rw[ntmps92];simp) ?_;rw[ntmps92])
 (refine A0.Ef [0,1,4,6,8,14,1000000] [800006] (by decide +kernel) λK z=>?_;refine ev ?_;refine⟨_,_,_,C0w (by decide) rfl a1,?_⟩;(try refine ev ?_);apply z;clear z K)
 refine A0.bb (A0.loop (X:=List Nat) (λ_=>[(0,.Ek Y.l),(6,.box 6 0)])
  (λh=>[(6,.iter (tM ts) h),(1000000,.ghost Y (some (Mb h)))])
  (λh=>h.Nodup/\∀i,i∈h->i<ts.length) (λh=>ts.length - h.length) [] (by simp) sS (by simp[ble,A7,Mb]) ?_)
 rintro h ⟨O,W⟩;refine A0.M0 [0,6,8,1000000] [] 0 _ rfl rfl (by decide +kernel) λK L=>?_;simp only[Ig];refine ev ?_;refine⟨_,B8z rfl rfl (F8 rfl),?_⟩;rintro r Z (⟨rfl,rfl,U⟩|⟨i,kv,J,a0,rfl,rfl⟩)
 .simp only[Ho,Hm,];refine ev ?_;refine L _ _ ?_;clear L K;refine A0.stop rfl ?_;simp only[A4,Ab,Ae];exact⟨_,_,[(1000000,.ghost Y (some (Mb h)))],by rw[results92];rfl,.inr rfl,by simp[ble,A7],_,⟨h,rfl,O,λi hi=>by rw[A9o];exact W i hi,U⟩,rfl⟩
 obtain⟨x,hx,rfl⟩:=C9g J;have E:(i::h).Nodup:=Ui.2 ⟨a0,O⟩;have I:∀j,j∈i::h->j<ts.length:=λj hj=>(Aw.1 hj).elim (λe=>e ▸ (B5.1 hx).1) (W j);have V:=C3d E I;simp only[C6]at V;simp only[Ho,Hm,];simp -implicitDefEqProofs only[EV,Nat.reduceEqDiff,reduceCtorEq,Iq,];refine L _ _ ?_;clear L K;refine A0.Fk rfl<|A0.bb ?_
 (refine A0.Ef [0,1,4,6,8,14,1000000] [800009] (by decide +kernel) λK z=>?_;refine ev ?_;refine⟨_,_,_,B9r rfl (F8 rfl) J,?_⟩;(try simp -implicitDefEqProofs only[EV,Nat.reduceAdd,Nat.reduceEqDiff,Nat.reduceBEq,Nat.reduceLeDiff,reduceCtorEq,I3,Iq,]);apply z;clear z K)
 refine A0.M0 [0,6,14,1000000] [] 2 _ rfl rfl (by decide +kernel) λK L=>?_;simp only[Ia,Ig];refine ev ?_;refine⟨_,(D2d (g:=1000000) rfl rfl (F8 rfl) rfl hP rfl (by rw[hm];exact⟨h,i,_,J,by rw[A9o];omega,rfl,rfl,rfl⟩)).toP,?_⟩;rintro r Z ⟨rfl,rfl⟩;simp only[Ho,Kr,Hm,];refine ev ?_;refine L _ _ ?_;clear L K;refine A0.ff rfl (A0.kk ?_);exact⟨i::h,⟨E,I⟩,by simp only[C6];omega,sS,by simp[ble,A7]⟩
abbrev B7t:List Nat:=[0,1,2,4,5,6,7,900,2000002]
theorem G5n(ts:List Ty)(hl:ts.length<=sm):Kz Tryz.prog 149 [.d .nil,.B0 92 [.Ah [.map (tM ts)] 0]] [] λr I=>∃rows,(∃Z:List Ty,Z.Perm ts/\rows=Au Z)/\r=.acc 900/\I=[(900,.rows 3 rows)]:=by
 (refine Kz.L5 func149 rfl (by decide) (by rw[ntmps149];simp) ?_;rw[ntmps149])
 refine sR B7t ?_;refine A0.U7 900 3 2 0 rfl rfl (by decide)<|kR B7t λK1 L=>?_;refine A0.bb (A0.C7b (caps:=[.Ah [.map (tM ts)] 0]) (caps':=[.Ah [.map (tM ts)] 0]) (f:=92) (N:=0) (xs:=λ_=>A8 0) (go:=λ_=>true) (jump:=.ret) (ks:=[2000002,900]) (slR:=[(2,.box 2000002 0)]) (more:=B8c (tM ts)) (RS:=allM (tM ts))
  (mb:=λst=>match st with|some j=>[(2000002,.cells [.acc 900]),(900,.rows 3 (Au (Mt ts (A9m j))))]|none=>[]) ⟨⟨⟨_,rfl⟩,by decide,by decide,rfl,λst=>by cases st <;> rfl,by decide,λ_=>rfl,λj J=>by omega⟩,?_⟩ (λst=>by cases st <;> simp) rfl rfl ?_ ⟨.inr (.inl rfl),trivial⟩ (by simp only[show A9m 0=[] from A3z []];exact⟨rfl,rfl,trivial⟩) ?_ ?_)
 .rintro j y j' ⟨h,i,kv,U,E,rfl,rfl,rfl⟩;obtain⟨x,hx,rfl⟩:=C9g U;refine⟨rfl,λ_=>rfl,λl=>?_⟩;have a0:=D1q ts h;rw[A9o]at E;have O:Au (Mt ts (i::h))=Au (Mt ts h)++[Be x]:=by rw[D7o hx,C5g,A7z,X2]
  have a2:(Au (Mt ts h)).length<=sm:=by rw[C4g];omega
  simp only[A3z];generalize Au (Mt ts h)=PR at*
  (refine lQ B7t λK z=>?_;simp -implicitDefEqProofs only[EV,Nat.reduceAdd,Nat.reduceEqDiff,Nat.reduceBEq,Nat.reduceLeDiff,reduceCtorEq,I3,Iq,];apply z;clear z K;try simp only[A4,])
  refine⟨rfl,?_⟩;refine A0.bb ?_
  (refine A0.F8y [0,1,2,4,5,6,7,900,2000002] [] 8 3 23 25 [⟨[],[],[],[]⟩,⟨[],[],[],[]⟩,⟨[],[],[],[]⟩,⟨[],[],[],[]⟩,⟨[900,2000002],[900,2000002],[],[]⟩,⟨[],[],[2000002],[]⟩,⟨[900],[],[2000002],[]⟩,⟨[2000002],[],[900],[]⟩] mixed (by decide +kernel) (by decide +kernel) _ rfl rfl rfl rfl rfl (by simp only[Lq]) (by simp only[I3]) (by simp only[I3];rfl) λK z=>?_;refine ev ?_;refine⟨by simp,by unfold lim sm at*;omega,?_⟩;(try refine ev ?_);refine⟨by omega,by simp,B2n,Be x,by simp,rfl,by decide,?_⟩;(try refine ev ?_);apply z;clear z K;try simp only[Ab])
  exact⟨rfl,by simp[ble,A7,A3z,O,Be]⟩
 .intro Y hP hN a1 hg hm;exact G8u ts Y hP hm
 .rintro j ⟨h,J,M,V,W⟩ _;obtain rfl:=Pb J;simp only[A9o]at V W;have hp:=E7k M V W;simp only[A4,Ab,A3z];refine L _ _ (wk [(2,.box 2 0)] [(2,.cells [.acc 900]),(900,.rows 3 (Au (Mt ts h)))] ?_);refine sR B7t ?_;exact A0.ret ⟨_,_,_,by rw[results149];rfl,.inl rfl,by simp[ble,A7],_,⟨_,hp,rfl⟩,rfl,rfl⟩
 .rintro⟨h,J,_⟩;cases J
theorem F9b(ts:List Ty)(O:ts.length<=sm):Kz Tryz.prog 90 [.B0 92 [.Ah [.map (tM ts)] 0]] [] λr E=>∃rows,(∃I:List Ty,I.Perm ts/\rows=Au I)/\r=.acc 4/\E=[(4,.rows 3 rows)]:=by
 have M:=G5n ts O
 (refine Kz.L5 func90 rfl (by decide) (by rw[ntmps90];simp) ?_;rw[ntmps90])
 refine sR [0,2,4] ?_;refine A0.C1x [2,4] [] 1 _ rfl rfl (by decide +kernel) λK J=>?_;simp only[Ia,Ig];refine ev ?_;refine⟨[4],_,rfl,C0y 4 rfl rfl rfl rfl M rfl (by decide) rfl,?_⟩;rintro r L ⟨rows,hr,rfl,rfl⟩;simp only[Ho,Kr,Hm,SV.Dt,X4,Ae];refine ev ?_;refine J _ _ ?_;clear J K;exact A0.ret ⟨_,_,_,by rw[results90];rfl,.inl rfl,by simp[ble,A7],_,hr,rfl,rfl⟩
theorem F9u(ts:List Ty)(O:ts.length<=sm)(hs:∀t,t∈ts->t.Sm):G5 Tryz.prog 35 [.B0 92 [.Ah [.map (tM ts)] 0],.B0 37 []] λr=>∃I:List Ty,I.Perm ts/\I.Pairwise (λa b=>Cs a b<=0)/\r=.d (.slice (Au I)):=by
 have U:=F9b ts O;refine G5.L5 func35 rfl (by decide) (by rw[ntmps35];simp) ?_;rw[ntmps35];refine sR [0,1,4,5,7] ?_;refine A0.C1x [1,5,7] [] 1 _ rfl rfl (by decide +kernel) λK J=>?_;simp only[Ia,Ig];refine ev ?_;refine⟨[7],_,rfl,C0y 7 rfl rfl rfl rfl U rfl (by decide) rfl,?_⟩;rintro r L ⟨rows,⟨V,E,rfl⟩,rfl,rfl⟩;simp only[Ho,Kr,Hm,SV.Dt,X4,Ae];refine ev ?_;refine J _ _ ?_;clear J K;refine A0.M0 [5,7] [] 2 _ rfl rfl (by decide +kernel) λK J=>?_;simp only[Ia,Ig];refine ev ?_;refine⟨_,F4a 7 V rfl rfl rfl rfl (by rw[E.length_eq];exact O) (λt ht=>hs t (E.mem_iff.1 ht)),?_⟩;rintro r L ⟨rfl,I,hp,M,rfl⟩;simp only[Ho,Kr,Hm,];refine ev ?_;refine J _ _ ?_;clear J K
 (refine A0.Jq 7 rfl (wk [(5,.d (.slice (Au I)))] [] ?_))
 refine sR [0,1,4,5,7] ?_;exact A0.ret ⟨_,_,by rw[results35];rfl,rfl,I,hp.trans E,M,rfl⟩
theorem F7h(ts:List Ad)(Y:Iw)(hP:Y.P=Tryz.prog)(hm:Y.more=B8c (cM ts)) :
  Kz Tryz.prog 94 [.Ek Y.l,.Ah [.map (cM ts)] 0] [(1000000,.ghost Y (some 0))] λ_ M=>∃st,allM (cM ts) st/\M=[(1000000,.ghost Y st)]:=by
 have a1:Tryz.prog.underlying 80=some (.map 9 53):=by kernel_rfl
 (refine Kz.L5 func94 rfl (by decide) (by rw[ntmps94];simp) ?_;rw[ntmps94])
 (refine A0.Ef [0,1,4,6,8,14,1000000] [800006] (by decide +kernel) λK z=>?_;refine ev ?_;refine⟨_,_,_,C0w (by decide) rfl a1,?_⟩;(try refine ev ?_);apply z;clear z K)
 refine A0.bb (A0.loop (X:=List Nat) (λ_=>[(0,.Ek Y.l),(6,.box 6 0)])
  (λh=>[(6,.iter (cM ts) h),(1000000,.ghost Y (some (Mb h)))])
  (λh=>h.Nodup/\∀i,i∈h->i<ts.length) (λh=>ts.length - h.length) [] (by simp) sS (by simp[ble,A7,Mb]) ?_)
 rintro h ⟨O,W⟩;refine A0.M0 [0,6,8,1000000] [] 0 _ rfl rfl (by decide +kernel) λK L=>?_;simp only[Ig];refine ev ?_;refine⟨_,B8z rfl rfl (F8 rfl),?_⟩;rintro r Z (⟨rfl,rfl,U⟩|⟨i,kv,J,a0,rfl,rfl⟩)
 .simp only[Ho,Hm,];refine ev ?_;refine L _ _ ?_;clear L K;refine A0.stop rfl ?_;simp only[A4,Ab,Ae];exact⟨_,_,[(1000000,.ghost Y (some (Mb h)))],by rw[results94];rfl,.inr rfl,by simp[ble,A7],_,⟨h,rfl,O,λi hi=>by rw[A8j];exact W i hi,U⟩,rfl⟩
 obtain⟨x,hx,rfl⟩:=C6y J;have E:(i::h).Nodup:=Ui.2 ⟨a0,O⟩;have I:∀j,j∈i::h->j<ts.length:=λj hj=>(Aw.1 hj).elim (λe=>e ▸ (B5.1 hx).1) (W j);have V:=C3d E I;simp only[C6]at V;simp only[Ho,Hm,];simp -implicitDefEqProofs only[EV,Nat.reduceEqDiff,reduceCtorEq,Iq,];refine L _ _ ?_;clear L K;refine A0.Fk rfl<|A0.bb ?_
 (refine A0.Ef [0,1,4,6,8,14,1000000] [800009] (by decide +kernel) λK z=>?_;refine ev ?_;refine⟨_,_,_,B9r rfl (F8 rfl) J,?_⟩;(try simp -implicitDefEqProofs only[EV,Nat.reduceAdd,Nat.reduceEqDiff,Nat.reduceBEq,Nat.reduceLeDiff,reduceCtorEq,A7a,Iq,]);apply z;clear z K)
 refine A0.M0 [0,6,14,1000000] [] 2 _ rfl rfl (by decide +kernel) λK L=>?_;simp only[Ia,Ig];refine ev ?_;refine⟨_,(D2d (g:=1000000) rfl rfl (F8 rfl) rfl hP rfl (by rw[hm];exact⟨h,i,_,J,by rw[A8j];omega,rfl,rfl,rfl⟩)).toP,?_⟩;rintro r Z ⟨rfl,rfl⟩;simp only[Ho,Kr,Hm,];refine ev ?_;refine L _ _ ?_;clear L K;refine A0.ff rfl (A0.kk ?_);exact⟨i::h,⟨E,I⟩,by simp only[C6];omega,sS,by simp[ble,A7]⟩
abbrev B6c:List Nat:=[0,1,2,4,5,6,7,900,2000002]
theorem F0z(ts:List Ad)(hl:ts.length<=sm):Kz Tryz.prog 151 [.d .nil,.B0 94 [.Ah [.map (cM ts)] 0]] [] λr I=>∃rows,(∃Z:List Ad,Z.Perm ts/\rows=C7 Z)/\r=.acc 900/\I=[(900,.rows 5 rows)]:=by
 (refine Kz.L5 func151 rfl (by decide) (by rw[ntmps151];simp) ?_;rw[ntmps151])
 refine sR B6c ?_;refine A0.U7 900 5 2 0 rfl rfl (by decide)<|kR B6c λK1 L=>?_;refine A0.bb (A0.C7b (caps:=[.Ah [.map (cM ts)] 0]) (caps':=[.Ah [.map (cM ts)] 0]) (f:=94) (N:=0) (xs:=λ_=>A8 0) (go:=λ_=>true) (jump:=.ret) (ks:=[2000002,900]) (slR:=[(2,.box 2000002 0)]) (more:=B8c (cM ts)) (RS:=allM (cM ts))
  (mb:=λst=>match st with|some j=>[(2000002,.cells [.acc 900]),(900,.rows 5 (C7 (Mt ts (A9m j))))]|none=>[]) ⟨⟨⟨_,rfl⟩,by decide,by decide,rfl,λst=>by cases st <;> rfl,by decide,λ_=>rfl,λj J=>by omega⟩,?_⟩ (λst=>by cases st <;> simp) rfl rfl ?_ ⟨.inr (.inl rfl),trivial⟩ (by simp only[show A9m 0=[] from A3z []];exact⟨rfl,rfl,trivial⟩) ?_ ?_)
 .rintro j y j' ⟨h,i,kv,U,E,rfl,rfl,rfl⟩;obtain⟨x,hx,rfl⟩:=C6y U;refine⟨rfl,λ_=>rfl,λl=>?_⟩;have a0:=D1q ts h;rw[A8j]at E;have O:C7 (Mt ts (i::h))=C7 (Mt ts h)++[Du x]:=by rw[D7o hx];simp[C7]
  have a2:(C7 (Mt ts h)).length<=sm:=by rw[Er];omega
  simp only[A3z];generalize C7 (Mt ts h)=PR at*
  (refine lQ B6c λK z=>?_;simp -implicitDefEqProofs only[EV,Nat.reduceAdd,Nat.reduceEqDiff,Nat.reduceBEq,Nat.reduceLeDiff,reduceCtorEq,A7a,Iq,];apply z;clear z K;try simp only[A4,])
  refine⟨rfl,?_⟩;refine A0.bb ?_
  (refine lV B6c λK z=>?_;refine⟨by simp,by unfold lim sm at*;omega,?_⟩;(try refine ev ?_);apply z;clear z K;try simp only[Ab])
  exact⟨rfl,by simp[ble,A7,A3z,O,Du]⟩
 .intro Y hP hN a1 hg hm;exact F7h ts Y hP hm
 .rintro j ⟨h,J,M,V,W⟩ _;obtain rfl:=Pb J;simp only[A8j]at V W;have hp:=E7k M V W;simp only[A4,Ab,A3z];refine L _ _ (wk [(2,.box 2 0)] [(2,.cells [.acc 900]),(900,.rows 5 (C7 (Mt ts h)))] ?_);refine sR B6c ?_;exact A0.ret ⟨_,_,_,by rw[results151];rfl,.inl rfl,by simp[ble,A7],_,⟨_,hp,rfl⟩,rfl,rfl⟩
 .rintro⟨h,J,_⟩;cases J
theorem F1h(ts:List Ad)(O:ts.length<=sm):Kz Tryz.prog 93 [.B0 94 [.Ah [.map (cM ts)] 0]] [] λr E=>∃rows,(∃I:List Ad,I.Perm ts/\rows=C7 I)/\r=.acc 4/\E=[(4,.rows 5 rows)]:=by
 have M:=F0z ts O
 (refine Kz.L5 func93 rfl (by decide) (by rw[ntmps93];simp) ?_;rw[ntmps93])
 refine sR [0,2,4] ?_;refine A0.C1x [2,4] [] 1 _ rfl rfl (by decide +kernel) λK J=>?_;simp only[Ia,Ig];refine ev ?_;refine⟨[4],_,rfl,C0y 4 rfl rfl rfl rfl M rfl (by decide) rfl,?_⟩;rintro r L ⟨rows,hr,rfl,rfl⟩;simp only[Ho,Kr,Hm,SV.Dt,X4,Ae];refine ev ?_;refine J _ _ ?_;clear J K;exact A0.ret ⟨_,_,_,by rw[results93];rfl,.inl rfl,by simp[ble,A7],_,hr,rfl,rfl⟩
theorem F9o(ts:List Ad)(O:ts.length<=sm)(hs:∀t,t∈ts->t.Sm):G5 Tryz.prog 38 [.B0 94 [.Ah [.map (cM ts)] 0],.B0 23 []] λr=>∃I:List Ad,I.Perm ts/\I.Pairwise (λa b=>Ba a b<=0)/\r=.d (.slice (C7 I)):=by
 have U:=F1h ts O;refine G5.L5 func38 rfl (by decide) (by rw[ntmps38];simp) ?_;rw[ntmps38];refine sR [0,1,4,5,7] ?_;refine A0.C1x [1,5,7] [] 1 _ rfl rfl (by decide +kernel) λK J=>?_;simp only[Ia,Ig];refine ev ?_;refine⟨[7],_,rfl,C0y 7 rfl rfl rfl rfl U rfl (by decide) rfl,?_⟩;rintro r L ⟨rows,⟨V,E,rfl⟩,rfl,rfl⟩;simp only[Ho,Kr,Hm,SV.Dt,X4,Ae];refine ev ?_;refine J _ _ ?_;clear J K;refine A0.M0 [5,7] [] 2 _ rfl rfl (by decide +kernel) λK J=>?_;simp only[Ia,Ig];refine ev ?_;refine⟨_,D8r 7 V rfl rfl rfl rfl (by rw[E.length_eq];exact O) (λt ht=>hs t (E.mem_iff.1 ht)),?_⟩;rintro r L ⟨rfl,I,hp,M,rfl⟩;simp only[Ho,Kr,Hm,];refine ev ?_;refine J _ _ ?_;clear J K
 (refine A0.Jq 7 rfl (wk [(5,.d (.slice (C7 I)))] [] ?_))
 refine sR [0,1,4,5,7] ?_;exact A0.ret ⟨_,_,by rw[results38];rfl,rfl,I,hp.trans E,M,rfl⟩
end Go.Abs
/- instance.Find in general -/
namespace Go.Abs
open Go Go.Proofs Tryz
abbrev Nv(k:Nat):Nat:=if k=15 then 1000000 else k+999990
abbrev Rv(p:Prog)(b:Int)(ts:List Ty)(cs:List Ad)(ds:List (A3 × A3)):Aa:=Kh 15 11 12 13 p b ts cs ds
def leC{α:Type}(cmp:α->α->Int)(a b:α):Bool:=decide (cmp a b<=0)
def A0s{α:Type}(cmp:α->α->Int)(l:List α):List α:=l.mergeSort (leC cmp)
theorem Tj{α:Type}(cmp:α->α->Int)(l:List α):(A0s cmp l).Perm l:=List.mergeSort_perm _ _
theorem D1x{α:Type}{cmp:α->α->Int}(E:∀a b c,T3 (cmp a b) (cmp b c) (cmp a c))(L:∀a b,cmp b a = - cmp a b)(l:List α):(A0s cmp l).Pairwise λa b=>cmp a b<=0:=by
 have h:=List.pairwise_mergeSort (le:=leC cmp) (λa b c J I=>by
  simp only[leC,Da]at*;rcases Int.lt_or_eq_of_le J with h|h
  .have:=(E a b c).1 h I;omega
  .rcases Int.lt_or_eq_of_le I with h' |h'
   .have:=(E a b c).2.1 J h';omega
   .have:=(E a b c).2.2 h h';omega) (λa b=>by
  simp only[leC,Yj,Da];have:=L a b;omega) l
 exact h.imp λh=>by simpa [leC]using h
theorem E5u{α:Type}{cmp:α->α->Int}(M:∀a b c,T3 (cmp a b) (cmp b c) (cmp a c))(I:∀a b,cmp b a = - cmp a b){l E:List α}(L:∀a b,a∈l->b∈l->cmp a b=0->a=b)(hp:E.Perm l)(hs:E.Pairwise λa b=>cmp a b<=0):E=A0s cmp l :=
 List.Perm.eq_of_pairwise (le:=λa b=>cmp a b<=0) (λa b J O U V=>L a b (hp.mem_iff.1 J) ((Tj cmp l).mem_iff.1 O) (by have:=I a b;omega)) hs (D1x M I l) (hp.trans (Tj cmp l).symm)
theorem G4a(ts:List Ty)(M:ts.length<=sm)(hs:∀t,t∈ts->t.Sm)(I:∀a b,a∈ts->b∈ts->Cs a b=0->a=b):Ac Tryz.prog 35 [.B0 92 [.Ah [.map (tM ts)] 0],.B0 37 []] (.d (.slice (Au (A0s Cs ts)))) :=
 G5.one ((F9u ts M hs).imp λr ⟨O,E,L,J⟩=>by rw[J,E5u A3e Ww I E L])
theorem F0j(cs:List Ad)(M:cs.length<=sm)(hs:∀t,t∈cs->t.Sm)(I:∀a b,a∈cs->b∈cs->Ba a b=0->a=b):Ac Tryz.prog 38 [.B0 94 [.Ah [.map (cM cs)] 0],.B0 23 []] (.d (.slice (C7 (A0s Ba cs)))) :=
 G5.one ((F9o cs M hs).imp λr ⟨O,E,L,J⟩=>by rw[J,E5u A1z Ru I E L])
structure E2a(p:Prog)(b:Int)(M:Nat)(I:FS->Prop):Prop where
 r:D2z p b I
 tl:∀S,I S->S.ts.length<=sm
 cl:∀S,I S->S.cs.length<=sm
 dl:∀S,I S->S.ds.length<=M
 ts:∀S,I S->∀t,t∈S.ts->t.Sm
 cs:∀S,I S->∀t,t∈S.cs->t.Sm
 tu:∀S,I S->∀a b,a∈S.ts->b∈S.ts->Cs a b=0->a=b
 cu:∀S,I S->∀a b,a∈S.cs->b∈S.cs->Ba a b=0->a=b
def D1i(n:Int)(I:FS->Prop)(r:SV):Prop:=∃S,I S/\((S.full n/\r=.tuple [Ur [] [],Ay false])\/(¬S.full n/\(∀x,x∈S.ts->S.done x)/\r=.tuple [Ur (A0s Cs S.ts) (A0s Ba S.cs),Ay true]))
abbrev A1k:List Nat:=[0,1,2,4,5,6,11,12,13,15,21,23,25]
theorem E8r(p:Prog)(h:p.Sm)(n:Int)(M:Nat)(I:FS->Prop)(O:E2a p n M I)(S0:FS)(h0:I S0)(he:S0.ds=[])
  (a4:Bj Tryz.prog 32 [.box 1000000 0,D0 p.main,.d (.slice [])] (Ci p n [] [] []) (.tuple []) (Ci p n S0.ts S0.cs [])) :
  G5 Tryz.prog 11 [D7 p,A8 n] (D1i n I):=by
 have a0:=C7m p h;have hF:=λS (J:I S)=>B6j p n S.ts S.cs S.ds (O.tl S J) (O.cl S J);refine G5.L5 func11 rfl (by decide) (by rw[ntmps11];simp) ?_;rw[ntmps11];refine sR A1k ?_
 (refine sG A1k [] 7 [⟨[],[],[11,12,13],[11,12,13]⟩,⟨[],[],[11,12,13],[11,12,13]⟩,⟨[],[],[11,12,13],[11,12,13]⟩,⟨[],[],[11,12,13],[11,12,13]⟩,⟨[11],[11],[12,13],[12,13]⟩,⟨[12],[12],[11,13],[11,13]⟩,⟨[13],[13],[11,12],[11,12]⟩] λK z=>?_;refine ev ?_;refine cc a0 ?_;apply z;clear z K)
 (refine A0.Ef A1k [800019] (by decide +kernel) λK z=>?_;refine ev ?_;refine⟨_,_,_,Kd Nv (Rv p n [] [] []) (Rv p n S0.ts S0.cs []) rfl ⟨rfl,rfl,rfl,rfl,trivial⟩ (by simp[Nv]) (by simp[Nv]) rfl rfl a4 rfl rfl rfl,?_⟩;(try simp -implicitDefEqProofs only[EV,Nat.reduceEqDiff,reduceCtorEq,Gu,Ht]);apply z;clear z K)
 refine A0.C4y λK1 a2 a1=>?_;have Z:∀S,I S->(S.full n\/∀x,x∈S.ts->S.done x)->K1 [(2,.box 2 0),(4,.box 4 0),(6,.box 15 0)] ((2,.cells ((An p).map .d))::(4,.cells [.d .nil,.d .nil])::Rv p n S.ts S.cs S.ds):=by
  intro S J a7;refine a2 _ _ ?_;have U:=hF S J;refine sK λK2 L=>?_;by_cases E:S.full n
  .rw[Bo (show n<(S.ts.length:Int)+S.cs.length from E)]at U
   (refine A0.Ef A1k [800025] (by decide +kernel) λK z=>?_;refine ev ?_;refine⟨_,_,_,Kd Nv (Rv p n S.ts S.cs S.ds) (Rv p n S.ts S.cs S.ds) rfl ⟨rfl,rfl,rfl,rfl,trivial⟩ (by simp[Nv]) (by simp[Nv]) rfl rfl U rfl rfl rfl,?_⟩;(try simp -implicitDefEqProofs only[EV,Nat.reduceEqDiff,reduceCtorEq,Gu,Ht]);apply z;clear z K)
   refine tI ?_;refine sR A1k ?_;exact A0.ret ⟨_,_,by rw[results11];rfl,rfl,S,J,.inl ⟨E,rfl⟩⟩
  .rw[Ce (show ¬n<(S.ts.length:Int)+S.cs.length from E)]at U;have a8:=F8e (tM S.ts);have a5:=H0x (cM S.cs);have a3:=G4a S.ts (O.tl S J) (O.ts S J) (O.tu S J);have a6:=F0j S.cs (O.cl S J) (O.cs S J) (O.cu S J)
   (refine A0.Ef A1k [800025] (by decide +kernel) λK z=>?_;refine ev ?_;refine⟨_,_,_,Kd Nv (Rv p n S.ts S.cs S.ds) (Rv p n S.ts S.cs S.ds) rfl ⟨rfl,rfl,rfl,rfl,trivial⟩ (by simp[Nv]) (by simp[Nv]) rfl rfl U rfl rfl rfl,?_⟩;(try simp -implicitDefEqProofs only[EV,Nat.reduceEqDiff,reduceCtorEq,Gu,Ht]);apply z;clear z K)
   refine kI L ?_;clear L K2;refine A0.C8f 11 rfl (A0.C8f 12 rfl ?_);refine A0.ww (sl':=[(4,.box 4 0),(6,.box 15 0)]) (bx':=[(4,.cells [.d .nil,.d .nil]),(15,.cells [.Ah (Ep p) 0,.d (.slice (Ix p.decls)),.d (.int .i64 p.main.kind),.d (.str p.main.name),.d (.str p.main.type.name),.d (.slice (Au p.main.type.args)),.d (.int .i64 p.main.type.pos),
    .d (.slice (Au p.main.targs)),.d (.slice (Ew p.main.kids)),.d (.int .i64 p.main.pos),.d (.int .i64 n),.d (.map (tM S.ts)),.d (.map (cM S.cs)),.mp 13])]) (by simp[Mk,SV.sub,sle,Ax,Ag]) (by simp[Lk,Ap.sub,SV.La,SV.sub,ble,A7,Ca]) ?_
   (refine sG A1k [] 10 [] λK z=>?_;refine ev ?_;refine cc a8 ?_;refine cc a3 ?_;refine cc a5 ?_;refine cc a6 ?_;apply z;clear z K)
   exact A0.ret ⟨_,_,by rw[results11];rfl,rfl,S,J,.inr ⟨E,a7.resolve_left E,rfl⟩⟩
 refine A0.bb (A0.loop (X:=FS) (λ_=>[(2,.box 2 0),(4,.box 4 0),(6,.box 15 0)])
  (λS=>(2,.cells ((An p).map .d))::(4,.cells [.d .nil,.d .nil])::Rv p n S.ts S.cs S.ds)
  I (λS=>M - S.ds.length) S0 h0 sS (by simp[ble,A7,An,he]) ?_)
 intro S J;have hR:=E9u p n I O.r S J;refine sK λK2 L=>A0.M0 [2,4,6,21,11,12,13,15] [] 1 _ rfl rfl (by decide +kernel) λK hK=>?_;simp only[Ia,Ig];refine ev ?_;refine⟨_,D5g Nv (Rv p n S.ts S.cs S.ds) (R:=λr L'=>∃S' m,r=Ay m/\L'=Rv p n S'.ts S'.cs S'.ds/\RJ I S S' m/\(m=false->S.full n\/∀x,x∈S.ts->S.done x)) rfl rfl (A1d ⟨rfl,rfl,rfl,rfl,trivial⟩) (by simp[Nv]) (by simp[Nv]) rfl rfl (hR.imp λr a9 ⟨S',m,e1,e2,h1,h2⟩=>⟨Rv p n S'.ts S'.cs S'.ds,by rw[e2];rfl,rfl,rfl,by rw[e1];rfl,S',m,e1,rfl,h1,h2⟩),?_⟩;rintro r a' ⟨L',⟨S',m,rfl,rfl,W,hd⟩,rfl⟩;simp only[Ho,Kr,Hm,];simp -implicitDefEqProofs only[EV,Nat.reduceEqDiff,Gu,Ht,];cases m with
 |false =>refine hK _ _ ?_;clear hK K;refine A0.ss rfl ?_;simp only[A4,Ab,Ae];have e1:=W.f rfl;refine a1 sS (by simp[ble,A7,An]) (Z S' W.i ?_);rw[e1];exact hd rfl
 |true =>
  have V:=hF S' W.i;have ab:=W.t rfl;have aa:=O.dl S' W.i;refine hK _ _ ?_;clear hK K;refine gI L ?_;clear L K2;refine A0.bb ?_;by_cases E:S'.full n
  .rw[Bo (show n<(S'.ts.length:Int)+S'.cs.length from E)]at V
   (refine A0.Ef A1k [800023] (by decide +kernel) λK z=>?_;refine ev ?_;refine⟨_,_,_,Kd Nv (Rv p n S'.ts S'.cs S'.ds) (Rv p n S'.ts S'.cs S'.ds) rfl ⟨rfl,rfl,rfl,rfl,trivial⟩ (by simp[Nv]) (by simp[Nv]) rfl rfl V rfl rfl rfl,?_⟩;(try simp -implicitDefEqProofs only[EV,Nat.reduceEqDiff,reduceCtorEq,Gu,Ht]);apply z;clear z K)
   refine A0.tt rfl (A0.xx ?_);simp only[A4,Ab,Ae];exact a1 sS (by simp[ble,A7,An]) (Z S' W.i (.inl E))
  .rw[Ce (show ¬n<(S'.ts.length:Int)+S'.cs.length from E)]at V
   (refine A0.Ef A1k [800023] (by decide +kernel) λK z=>?_;refine ev ?_;refine⟨_,_,_,Kd Nv (Rv p n S'.ts S'.cs S'.ds) (Rv p n S'.ts S'.cs S'.ds) rfl ⟨rfl,rfl,rfl,rfl,trivial⟩ (by simp[Nv]) (by simp[Nv]) rfl rfl V rfl rfl rfl,?_⟩;(try simp -implicitDefEqProofs only[EV,Nat.reduceEqDiff,reduceCtorEq,Gu,Ht]);apply z;clear z K)
   refine A0.ff rfl (A0.kk ?_);exact⟨S',W.i,by omega,sS,by simp[ble,A7,An]⟩
end Go.Abs
/- instance.Find hands back the reference's set, up to places, or none -/
namespace Go.Abs
open Go Go.Proofs Tryz
theorem C5d{α:Type}{f:α->A3}:∀{l:List α},(l.map f).Nodup->∀{a b:α},a∈l->b∈l->f a=f b->a=b
 |[],_,_,_,h,_,_=>by simp at h
 |x::l,E,a,b,J,I,e=>by
  simp only[Ck,Ui]at E;rcases Aw.1 J with h1|h1
  .rcases Aw.1 I with h2|h2
   .rw[h1,h2]
   .exact absurd (by rw[<-h1,e];exact List.mem_map_of_mem h2) E.1
  .rcases Aw.1 I with h2|h2
   .exact absurd (by rw[<-h2,<-e];exact List.mem_map_of_mem h1) E.1
   .exact C5d E.2 h1 h2 e
section
variable {p:Prog} {r:Aj} (hp:p.count<=600) (h:Vp p r) (hz:SzR r)
include hz in
theorem D2i{vars:List Param}(hc:C3.Sm ⟨p,false,[],vars⟩){e:Ex}(W:∀y,y∈Bg e->Lt p vars y r.types r.calls)(hs:e.Sm)(ht:∀y,y∈Bg e->∃K,Bw ⟨p,false,[],vars⟩ y=(K,none)):∀y,y∈Bg e->B6z p vars (L0 p vars) y:=by
 intro y J;have L:y.Sm:=A8s (Q:=Ex.Sm) (λe h x E=>h.kids.2 x E) e hs y J;obtain⟨M,n2⟩:=W y J;refine⟨λk=>⟨(hz.ts _ (M k)).1,(hz.ts _ (M k)).2⟩,λk2=>?_⟩;obtain⟨K,Z⟩:=ht y J;rcases N5.1 Z with⟨k1,_⟩|⟨k1,_⟩|⟨v,vs,x,I,E,_⟩
 .omega
 .omega
 obtain⟨U,V⟩:=n2 v vs k2 I x E;have O:=E8u ⟨p,false,[],vars⟩ hc rfl v (L.kids.2 v (by rw[I];simp));rw[E]at O;refine⟨v,x,.Jw,by rw[I];rfl,O,?_⟩;rw[D6w I E];exact⟨rfl,rfl,(hz.ts x U).1,(hz.ts x U).2,(hz.cs _ V).1,(hz.cs _ V).2⟩
include hp h hz
omit h hz in
theorem G3q{d:Decl}(I:d∈p.decls){x:Ty}{c:Ad}(M:x.Sm)(L:c.Sm):C3.Sm ⟨p,false,[],Y7 p d x c⟩:=by have E:=Prog.V8 p hp;have hs:=A6p E.sm false (E.sm.decls.2 d I) (E.two d I) (E.par d I);refine⟨E.sm,by simp,by simp,by simp only[Y7,Bn];exact hs.vl,λf E=>?_⟩;obtain⟨g,J,rfl⟩:=B1.1 E;have:=hs.vars g J;exact⟨this.name,this.type.subst (Zr M L)⟩
omit hp h in
theorem txs{S:FS}(E:IM p r S):STx (S.ts,S.cs) :=
 ⟨λt ht=>by have I:=(hz.ts t (E.q.it t ht)).2;have:=Ty.M6 t;omega,λc J=>by have I:=(hz.cs c (E.q.ic c J)).2;have:=Ad.M6 c;omega⟩
omit hp h in
theorem dss{S:FS}(M:IM p r S):∀k,k∈S.ds->k.1.length<=sm/\k.2.length<=sm:=λk I=>by
 obtain⟨E,h2⟩:=M.dk k I;obtain⟨t,ht,O⟩:=B1.1 E;have Z:=(hz.ts t ⟨t,ht,rfl⟩).2;have U:=Ty.M6 t;refine⟨by rw[<-O];omega,?_⟩;rcases Aw.1 h2 with h2|h2
 .rw[h2];simp
 .obtain⟨c,L,J⟩:=B1.1 h2;have W:=(hz.cs c ⟨c,L,A0k c⟩).2;have V:=Ad.M6 c;rw[<-J];omega
omit hp h in
theorem lens{S:FS}(E:IM p r S):S.ts.length<=sm/\S.cs.length<=sm:=by obtain⟨I,J⟩:=E.q.len;have:=hz.tl;have:=hz.cl;omega
theorem E8a(n:Int){S:FS}(hS:IM p r S)(ds:List (A3 × A3)){x:Ty}(hx:D5 x r.types){c:Ad}(hc:Hv c r.calls) :
  Bj Tryz.prog 89 [.box 1000000 0,B6 x,Nj c] (Ci p n S.ts S.cs ds) (.tuple []) (Ci p n (W8 p x c (S.ts,S.cs)).1 (W8 p x c (S.ts,S.cs)).2 ds):=by
 have J:=Prog.V8 p hp;have E:=(hz.ts x hx).1;have I:=(hz.cs c hc).1;have hn:=h.P8 hx hc;have U:=txs hz hS;unfold W8;cases hs:Km p x c with
 |none=>exact F5k p J.sm n (S.ts,S.cs) ds x E c I hs
 |some g =>
  obtain⟨n1,W,n3⟩:=hn g hs;obtain⟨a1,a2,a3⟩:=QS.ups h.ct (Ks g c) hS.q n1;obtain⟨b1,b2,b3⟩:=a1.upT h.ct W;have Z:g.Sm:=E6t J.sm (by simp) E g (D0s.1 hs).1;refine G5t p J.sm n S.ts U.ts S.cs ds x E c I g hs Z (λt ht=>⟨(hz.ts t (n1 t ht)).1,(hz.ts t (n1 t ht)).2⟩) ⟨(hz.ts _ W).1,(hz.ts _ W).2⟩ _ ?_;unfold C9f C5c;cases V:Kq p x c.name with
  |none=>exact F7t p J.sm n (Co Ty.Av ((Ks g c).foldl (Co Ty.Av) S.ts) (Lg g c),S.cs) ds x E c I V
  |some d =>
   obtain⟨d1,d2,_,_,_,t,d3,_⟩:=C1g h.ty (h.C4d hx) (h.C6u hc) hs V;have L:=C2q ((A6q h.ty.right).1 d d1 d2) x c;have O:=J.sm.decls.2 d d1;have M:STx (Co Ty.Av ((Ks g c).foldl (Co Ty.Av) S.ts) (Lg g c),S.cs) :=
    ⟨λt ht=>by have h1:=(hz.ts t (b1.it t ht)).2;have:=Ty.M6 t;omega,U.cs⟩
   refine F7w p J.sm n _ M ds x E c I d V O (J.two d d1) (J.par d d1) d2 (L0 p (Y7 p d x c)) (D2i hz (G3q hp d1 E I) (λy hy=>(n3 d V y hy).vars (B9u p d x c)) (Ex.Sm.subst (Zr E I) _ O.body) λy hy=>?_);obtain⟨_,K,hK⟩:=B1e L d3 y hy;exact⟨K,by rw[<-D4z (B9u p d x c)];exact hK⟩
theorem D6z(n:Int):E2a p n (r.types.length*(r.calls.length+1)) (IM p r):=by
 have hf:=Prog.V8 p hp;have W:∀{S:FS} {k:A3 × A3},k∉S.ds->S.ds.length<(Co id S.ds k).length:=λ{S k} hk=>by rw[C8n _ _ hk];simp
 refine⟨⟨λS0 h0 x hx S m E=>?_,λS0 h0 x hx S1 h1 c hc S m E=>?_⟩,λS E=>?_,λS E=>?_,λS E=>?_,λS E t ht=>(hz.ts t (E.q.it t ht)).1,λS E t ht=>(hz.cs t (E.q.ic t ht)).1,λS E a b ha hb he=>?_,λS E a b ha hb he=>?_⟩
 .have I:=h0.q.it x hx;obtain⟨l1,l2⟩:=lens hz E;have a1:=txs hz E;have L:=dss hz E;have M:x.Av.length<=sm:=by have h1:=(hz.ts x I).2;have:=Ty.M6 x;omega
  by_cases O:(x.Av,[])∈S.ds\/S.full n
  .exact .inl ⟨O,F4b p n x m S.ts S.cs S.ds x.Av M L l1 l2 O⟩
  .have J:(x.Av,[]) ∉S.ds:=λU=>O (.inl U);refine .inr ⟨_,E.stepT h I J,W J,F4e p hf.sm n x (hz.ts x I).1 m S.ts a1.ts S.cs S.ds x.Av M L l1 l2 (B1z hf.sm x) (λf a0=>?_) J λU=>O (.inr U)⟩;have:=hz.ts _ (h.fields I f a0);exact this
 .have I:=h0.q.it x hx;have V:=h1.q.ic c hc;obtain⟨l1,l2⟩:=lens hz E;have L:=dss hz E;have M:x.Av.length<=sm:=by have h1:=(hz.ts x I).2;have:=Ty.M6 x;omega
  have Z:c.Av.length<=sm:=by have h1:=(hz.cs c V).2;have:=Ad.M6 c;omega
  by_cases O:(x.Av,c.Av)∈S.ds\/S.full n
  .exact .inl ⟨O,F9q p n x c m S.ts S.cs S.ds x.Av c.Av M Z L l1 l2 O⟩
  .have J:(x.Av,c.Av) ∉S.ds:=λU=>O (.inl U);exact .inr ⟨_,E.G6v h I V J,W J,H0s p n x c m S.ts S.cs S.ds x.Av c.Av M Z L l1 l2 J (λU=>O (.inr U)) _ _ (E8a hp h hz n E _ I V)⟩
 .exact(lens hz E).1
 .exact(lens hz E).2
 .have a2:∀(l m:List A3),(l.flatMap λa=>m.map (Prod.mk a)).length=l.length*m.length:=λl m=>by
   induction l with
   |nil=>simp
   |cons a l ih=>rw[Au5,Bz,ih,Bn,C6,Nat.succ_mul,Nat.add_comm]
  have:=A9v E.dn (m:=(r.types.map Ty.Av).flatMap λa=>([]::r.calls.map Ad.Av).map (Prod.mk a)) λk hk=>by obtain⟨k1,k2⟩:=E.dk k hk;exact At0.2 ⟨k.1,k1,B1.2 ⟨k.2,k2,rfl⟩⟩
  rw[a2]at this;simpa only[Bn,C6]using this
 .have:=C5x ((Wd _ _).1 he);exact C5d E.q.tn ha hb this
 .exact C5d E.q.cn ha hb (E5t he)
def Wo(r:Aj)(n:Int)(z:SV):Prop:=(n<r.types.length+r.calls.length/\z=.tuple [Ur [] [],Ay false]) \/
 (r.types.length+r.calls.length<=n/\∃ts cs,z=.tuple [Ur ts cs,Ay true]/\(∀t,t∈ts->D5 t r.types)/\(∀c,c∈cs->Hv c r.calls)/\(ts.length=r.types.length/\∀(i:Nat) t u,ts[i]?=some t->r.types[i]?=some u->Cs t u=0)/\cs.length=r.calls.length/\∀(i:Nat) c d,cs[i]?=some c->r.calls[i]?=some d->Ba c d=0)
theorem E2w(n:Int):G5 Tryz.prog 11 [D7 p,A8 n] (D1i n (IM p r)):=by have I:=Prog.V8 p hp;obtain⟨t,ht⟩:=h.ty.main;have L:QS r (([],[]):List Ty × List Ad).1 (([],[]):List Ty × List Ad).2:=⟨by simp,by simp,by simp,by simp,by simp⟩;obtain⟨U,V,O⟩:=QS.Wy (p:=p) h.ct (vars:=[]) (Bg p.main) (s:=([],[])) L h.main;have J:=E1p p n [] p.main [] (L0 p []) (D2i hz ⟨I.sm,by simp,by simp,by simp,by simp⟩ h.main I.sm.main λy M=>(B1e (A6q h.ty.right).2 ht y M).2) ([],[]) ⟨by simp,by simp⟩;exact E8r p I.sm n _ (IM p r) (D6z hp h hz n) ⟨(Lh (L0 p []) ([],[]) (Bg p.main)).1,(Lh (L0 p []) ([],[]) (Bg p.main)).2,[]⟩ ⟨U,O,by simp,by simp,λ_ _ E=>by simp at E,λ_ _ _ _ E=>by simp at E⟩ rfl J
theorem F9d(hr:r=(Cp p).1)(hs:r.types.Pairwise λa b=>Cs a b<0)(V:r.calls.Pairwise λa b=>Ba a b<0)(n:Int):G5 Tryz.prog 11 [D7 p,A8 n] (Wo r n):=by
 refine(E2w hp h hz n).imp ?_;rintro z ⟨S,I,⟨L,rfl⟩|⟨L,hd,rfl⟩⟩
 .refine .inl ⟨?_,rfl⟩;obtain⟨l1,l2⟩:=I.q.len;unfold FS.full at L;omega
 .have E:=(I.all h hd).sub;rw[<-hr]at E;have M:∀{α:Type} {cmp:α->α->Int} (h3:∀a b c,T3 (cmp a b) (cmp b c) (cmp a c)) (W:∀a b,cmp b a = - cmp a b) {l:List α} (_:l.Nodup) (_:∀a b,a∈l->b∈l->cmp a b=0->a=b),(A0s cmp l).Pairwise λa b=>cmp a b<0:=λ{α cmp} h3 W {l} O J=>by
   have h1:=D1x h3 W l;have h2:(A0s cmp l).Nodup:=(Tj cmp l).nodup_iff.2 O;refine(List.Pairwise.and h1 h2).imp_of_mem λ{a b} ma mb ⟨g1,g2⟩=>?_;rcases Int.lt_or_eq_of_le g1 with g|g
   .exact g
   .exact absurd (J a b ((Tj cmp l).mem_iff.1 ma) ((Tj cmp l).mem_iff.1 mb) g) g2
  have hH:=D6z hp h hz n;have nd:∀{α:Type} {f:α->A3} {l:List α},(l.map f).Nodup->l.Nodup:=λ{α f l} O=>by
   induction l with
   |nil=>simp
   |cons a l ih =>simp only[Ck,Ui]at O |-;exact⟨λhm=>O.1 (List.mem_map_of_mem hm),ih O.2⟩
  have U:=λt=>(Tj Cs S.ts).mem_iff (a:=t);have mC:=λt=>(Tj Ba S.cs).mem_iff (a:=t);have Z:=C7u A3e Ww (M A3e Ww (nd I.q.tn) (hH.tu S I)) hs (λt ht=>by
   obtain⟨u,J,e⟩:=I.q.it t ((U t).1 ht);exact⟨u,J,(Wd _ _).2 e⟩) (λt ht=>by
   obtain⟨u,J,e⟩:=E.1 t ht;exact⟨u,(U u).2 J,(Wd _ _).2 e⟩)
  have sC:=C7u A1z Ru (M A1z Ru (nd I.q.cn) (hH.cu S I)) V (λt ht=>I.q.ic t ((mC t).1 ht)) (λt ht=>by obtain⟨u,J,e⟩:=E.2 t ht;exact⟨u,(mC u).2 J,e⟩)
  refine .inr ⟨?_,_,_,rfl,λt ht=>I.q.it t ((U t).1 ht),λc hc=>I.q.ic c ((mC c).1 hc),Z,sC⟩;have e1:=(Tj Cs S.ts).length_eq;have e2:=(Tj Ba S.cs).length_eq;unfold FS.full at L;have:=Z.1;have:=sC.1;omega
end
end Go.Abs
/- instance.Find at typed programs: the reference's set, or none; at programs without type parameters -/
namespace Go.Abs
open Go Go.Proofs Tryz
theorem A7e{p:Prog}(hp:p.count<=600)(I:Typed p)(E:(Cp p).2=true)(n:Int):G5 Tryz.prog 11 [D7 p,A8 n] (Wo (Cp p).1 n) :=
 have J:=D3y E
 F9d hp (D2f hp I E) (E0b hp E (C7o I)) rfl J.types J.calls n
def B7o(z:SV):Prop:=∃ts cs,z=.tuple [Ur ts cs,Ay true]/\(∀t,t∈ts->t.Sm/\t.args=[])/\(∀c,c∈cs->c.Sm/\c.targs=[]/\D5 c.on ts)/\ts.length<=sm/\cs.length<=sm
end Go.Abs
/- castingslaw21.plain, castingsref21.Same; the walks of InstanceMatchesReference, InstanceBudgets, InstanceMethods -/
namespace Go.Abs
open Go Go.Proofs Tryz
structure A9j(a b:Aj):Prop where
 tl:a.types.length=b.types.length
 t:∀(i:Nat) t u,a.types[i]?=some t->b.types[i]?=some u->Jr t u=true
 cl:a.calls.length=b.calls.length
 c:∀(i:Nat) c d,a.calls[i]?=some c->b.calls[i]?=some d->Ba c d=0
theorem B1m{p:Prog}(h:Yz p=true):p.count<=600/\p.right=true/\Typed p:=by unfold Yz at h;simp only[Bc,Da,M1]at h;exact⟨h.1,h.2.1,Typed.of h.2.1 h.2.2.1⟩
theorem Wo.closed{r:Aj}{n:Int}:∀z,Wo r n z->z.closed=true:=by rintro z (⟨_,rfl⟩|⟨_,ts,cs,rfl,_⟩) <;> rfl
theorem B5b{p:Prog}(hp:p.count<=600)(L:(Cp p).2=true)(O:Typed p){ts:List Ty}{cs:List Ad}(hit:∀t,t∈ts->D5 t (Cp p).1.types)(E:∀c,c∈cs->Hv c (Cp p).1.calls)
  (ht:ts.length=(Cp p).1.types.length/\∀(i:Nat) t u,ts[i]?=some t->(Cp p).1.types[i]?=some u->Cs t u=0)(I:cs.length=(Cp p).1.calls.length/\∀(i:Nat) c d,cs[i]?=some c->(Cp p).1.calls[i]?=some d->Ba c d=0) :
  Aj.Sm ⟨ts,cs,false⟩/\A9j ⟨ts,cs,false⟩ (Cp p).1:=by
 have hz:=E0b hp L (C7o O);refine⟨⟨⟨by rw[ht.1];exact hz.tl,λt h=>(hz.ts t (hit t h)).1⟩,by rw[I.1];exact hz.cl,λc h=>(hz.cs c (E c h)).1⟩,ht.1,λi t u J M=>(P1 t u).2 ((Wd t u).1 (ht.2 i t u J M)),I.1,I.2⟩
theorem B6v:Ac Tryz.prog 8 [] (Ay true):=by
 have gb:Yz X9=true:=by decide +kernel
 obtain⟨_,hr,E⟩:=B1m gb;have V:(Cp X9).2=true:=by decide +kernel
 have e:(Cp X9).1=⟨[t21],[],false⟩:=by kernel_rfl
 have h1:=A7e C7h E V 1;have h0:=A7e C7h E V 0;have L:=λ(ts:List Ty) (cs:List Ad)=>B5b C7h V E (ts:=ts) (cs:=cs);rw[e]at h1 h0 L;have hc:=C3p c21 D6g c21;have W:=D4p X9 G3c [] [c21] (by simp[sm]) (by simpa using D6g) t21 C9u;rw[A0k]at hc;have hm:Ac Tryz.prog 16 [D7 X9,Ur [] [c21],B6 t21] (.d (.slice (C7 [c21]))):=G5.H0d (W.imp λr hr=>by obtain⟨l',hp,_,rfl⟩:=hr;rw[G0w]at hp;obtain rfl:=List.perm_singleton.1 hp;rfl)
 have n4:((1:Nat):Int)=1:=rfl;have n0:((0:Nat):Int)=0:=rfl;refine G5.one ?_
 (refine G5.L5 func8 rfl (by decide) (by rw[ntmps8];simp) ?_;rw[ntmps8])
 refine sR [0,1,2,3,5,6] ?_;refine sR [0,1,2,3,5,6] ?_;refine A0.M0 [1,2,3] [] 1 _ rfl rfl (by decide +kernel) λK M=>?_;simp only[Ia,Ig];refine ev ?_;refine⟨_,A0x rfl rfl rfl h1 Wo.closed,?_⟩;rintro r U ⟨⟨O,rfl⟩|⟨J,ts,cs,rfl,hit,Z,ht,I⟩,rfl⟩
 .exfalso;simp only[C6,Dy]at O;omega
 obtain⟨f1,f2⟩:=L ts cs hit Z ht I;simp only[Ho,Kr,Hm,];refine ev ?_;refine M _ _ ?_;clear M K;refine A0.M0 [1,2,3,4,5] [] 1 _ rfl rfl (by decide +kernel) λK M=>?_;simp only[Ia,Ig];refine ev ?_;refine⟨_,A0x rfl rfl rfl h0 Wo.closed,?_⟩;rintro r U ⟨⟨O,rfl⟩|⟨J,_⟩,rfl⟩;rotate_left
 .exfalso;simp only[C6,Dy]at J;omega
 simp only[Ho,Kr,Hm,];refine ev ?_;refine M _ _ ?_;clear M K;obtain⟨l1,-⟩:=ht;obtain⟨l2,-⟩:=I;obtain⟨t,rfl⟩:=List.length_eq_one_iff.1 l1;obtain rfl:=Aq4.1 l2;have er:t.er=t21.er:=(P1 _ _).1 (f2.t 0 t t21 rfl rfl);have nn:t.name=[84]:=by have:=Gk Ty.name er;rwa [G9,J2]at this
 have hh:=B7y [t] [] t21 (by simp[sm]) f1.types.2;have hu:=B7y [t] [] u21 (by simp[sm]) f1.types.2;rw[show([t].any λt=>Jr t t21)=true by simp only[List.any_cons,(P1 _ _).2 er,Up]]at hh;rw[show([t].any λt=>Jr t u21)=false by
  cases hq:Jr t u21 with
  |false=>simp only[List.any_cons,hq,List.any_nil,Ar1]
  |true=>have:=((P1 _ _).1 hq).symm.trans er;have:=Gk Ty.name this;rw[G9,G9,J2,J2]at this;cases this]at hu
 have hg:[t][0]?=some t:=rfl;refine sR [0,1,2,3,5,6] ?_
 (refine sQ [0,1,2,3,5,6] λK z=>?_;refine As n4 ?_;refine⟨_,Dv hg,rfl,?_⟩;(try simp -implicitDefEqProofs only[EV,Nat.reduceAdd,Nat.reduceEqDiff,Nat.reduceLeDiff,reduceCtorEq,I3,P9,Rn,Er,n0,nn]);refine cc hh ?_;refine cc hu ?_;refine cc hc ?_;refine⟨_,.inl ⟨_,rfl,hm,rfl⟩,?_⟩;(try simp -implicitDefEqProofs only[EV,Nat.reduceEqDiff,reduceCtorEq,P9,Er,n4,]);apply z;clear z K)
 exact A0.ret ⟨_,_,by rw[results8];rfl,rfl,rfl⟩
end Go.Abs
/- the walks of InstanceCloses, InstancePlain -/
namespace Go.Abs
open Go Go.Proofs Tryz
theorem A7r{ts:List Ty}{cs:List Ad}{s:Aj}(h:A9j ⟨ts,cs,false⟩ s){x:Ty}(M:D5 x s.types):(ts.any λt=>Jr t x)=true:=by
 obtain⟨u,L,e⟩:=M;obtain⟨i,I⟩:=Hz L;have E:i<ts.length:=by have J:=h.tl;have O:=(B5.1 I).1;simp only at J;omega
 have hs:=h.t i ts[i] u (B8 E) I;exact List.any_eq_true.2 ⟨ts[i],Fa E,(P1 _ _).2 (((P1 _ _).1 hs).trans e.symm)⟩
theorem B7o.closed:∀z,B7o z->z.closed=true:=by rintro z ⟨ts,cs,rfl,_⟩;rfl
end Go.Abs
