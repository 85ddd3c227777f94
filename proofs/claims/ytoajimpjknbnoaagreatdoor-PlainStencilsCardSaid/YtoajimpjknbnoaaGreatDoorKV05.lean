import Derived.Test.YtoajimpjknbnoaaGreatDoorKS28
import Derived.Test.YtoajimpjknbnoaaGreatDoorKAb21
set_option linter.all false
set_option maxHeartbeats 1000000
set_option maxRecDepth 100000
namespace Go.iA
open Go Go.Proofs Tryz
def H3t(p:Prog)(e v:Ex):Ex × Int :=if B9 p v.type 1=true/\0<=E3 (λf:Param=>decide (f.name=e.name)) (Bc p v.type)/\E3 (λf:Param=>decide (f.name=e.name)) (Bc p v.type)<v.kids.length then
  ((v.kids[(E3 (λf:Param=>decide (f.name=e.name)) (Bc p v.type)).toNat]?).getD v,1)else(e,4)
def F9v(p:Prog)(e v:Ex):Ex × Int:=if Cr p [] v.type e.type=true then(v,1)else(e,3)
def G8m(e v:Ex)(d:Decl):Ex:=(d.body.subst (d.vars++Ad d.sig.A1) (v.type.args++e.targs)).Ta (d.recv::d.sig.params.map (·.name)) e.kids
def my(p:Prog)(e v:Ex):Ex × Int:=match L9 p v.type e.name with
 |none=>(e,4)
 |some d=>if d.sig.A1.length=e.targs.length/\d.sig.params.length+1=e.kids.length then(G8m e v d,1)else(e,4)
def NJ{p:Prog}(h:p.Sm)(x:Ty):(Bc p x).length<=sm:=by unfold Bc;split;rename_i E;obtain⟨d,hd,_⟩:=La (by decide) E;rw[hd,Dx];unfold fieldsD;rw[B7];exact(h.decls.2 d (P3 hd)).fields.1;simp
mutual
def Ty.er:Ty->Ty
 |.mk n a _=>.mk n (aB a) 0
def aB:List Ty->List Ty
 |[]=>[]
 |t::E=>t.er::aB E
end
def AX:∀l:List Ty,aB l=l.map Ty.er
 |[]=>by rw[aB];rfl
 |t::l=>by rw[aB,AX l];rfl
theorem Gv(t:Ty):t.er=.mk t.name (t.args.map Ty.er) 0:=by cases t with|mk n a p=>rw[Ty.er,AX];rfl
theorem Rr(n:A3)(a:List Ty)(p:Int):(Ty.mk n a p).name=n:=rfl
theorem Ig(n:A3)(a:List Ty)(p:Int):(Ty.mk n a p).args=a:=rfl
def mkQ(n:A3)(a:List Ty)(p:Int):(Ty.mk n a p).pos=p:=rfl
def RJ(t:Ty):t.er.name=t.name:=by rw[Gv];rfl
def fO(t:Ty):t.er.args=t.args.map Ty.er:=by rw[Gv];rfl
def GZ:∀l m:List Ty,(∀t,t∈l->∀u,Er t u=0↔t.er=u.er)->(Et l m=0↔l.map Ty.er=m.map Ty.er)
 |[],[],_=>by simp[Et]
 |[],_::_,_=>by simp[Et]
 |_::_,[],_=>by simp[Et]
 |x::xs,y::ys,h=>by have I:=h x (by simp) y;have L:=GZ xs ys λt ht=>h t (by simp[ht]);rw[Et];by_cases E:Er x y=0;rw[A5 (by simp[E]),L];simp[I.1 E];rw[A7 E];have:¬x.er=y.er:=λJ=>E (I.2 J);simp[E,this]
theorem U5(t:Ty):∀u,Er t u=0↔t.er=u.er:=by
 induction t using Ty.induct with
 |h t J =>
 intro u;have L:=GZ t.args u.args J;rw[DF,Gv t,Gv u];by_cases E:t.name=u.name
 .rw[A5 (by simp[To.2 E]),L];simp[E]
 .have:¬Bw t.name u.name=0:=λI=>E (To.1 I);rw[A7 this];simp[this,E]
def Ut(t u:Ty):R9 t u=true↔t.er=u.er:=by unfold R9;rw[Di];exact U5 t u
def Aj.er(f:Aj):Aj:=⟨f.name,f.bound.er,0⟩
def Param.er(f:Param):Param:=⟨f.name,f.type.er,0⟩
def A4.er(s:A4):A4:=⟨s.name,s.A1.map Aj.er,s.params.map Param.er,s.result.er,0⟩
def G7m(a b:Aj):Tc a b=true↔a.er=b.er:=by unfold Tc Aj.er;rw[Bh,Ut,Di,Aj.mk.injEq];simp
def F6v(a b:Param):Sy a b=true↔a.er=b.er:=by unfold Sy Param.er;rw[Bh,Ut,Di,Param.mk.injEq];simp
def nU{α β:Type}{p:α->α->Bool}{e:α->β}(h:∀a b,p a b=true↔e a=e b):∀l m:List α,Ga p l m=true↔l.map e=m.map e
 |[],[]=>by simp[Ga]
 |[],_::_=>by simp[Ga]
 |_::_,[]=>by simp[Ga]
 |x::xs,y::ys=>by rw[Ga,Bh,h,nU h xs ys];simp
def O1(a b:A4):Q5 a b=true↔a.er=b.er:=by unfold Q5 A4.er;rw[Bh,Bh,Bh,Ut,Di,nU G7m,nU F6v,A4.mk.injEq];simp[and_assoc]
theorem Gu(vars:List A3)(args:List Ty)(t:Ty):(t.subst vars args).er=t.er.subst vars (args.map Ty.er):=by
 induction t using Ty.induct with
 |h t J =>
 rw[W1,W1 vars (args.map Ty.er) t.er,RJ,fO,B7,B7];by_cases E:t.args.length=0/\0<=Du t.name vars 0/\Du t.name vars 0<args.length
 .have I:(Du t.name vars 0).toNat<args.length:=by omega
  rw[A7 E,A7 E,Gv,Rr,Ig];rw[Df,Bu I,Em,Dx,Dx];generalize args[(Du t.name vars 0).toNat]=u;rw[Gv u,Gv t];rfl
 .rw[A5 E,A5 E,Gv,Rr,Ig,Dn,Dn];rw[Gv t,mkQ]
  congr 1
  refine Hb λu L=>?_;exact J u L
def lz(vars:List A3)(args:List Ty)(f:Aj):(f.subst vars args).er=f.er.subst vars (args.map Ty.er):=by simp only[Aj.subst,Aj.er,Gu]
theorem rm(vars:List A3)(args:List Ty)(f:Param):(f.subst vars args).er=f.er.subst vars (args.map Ty.er):=by simp only[Param.subst,Param.er,Gu]
theorem TV(vars:List A3)(args:List Ty)(s:A4):(s.subst vars args).er=s.er.subst vars (args.map Ty.er):=by simp only[A4.subst,A4.er,Gu,Dn,A4.mk.injEq,Va,Qx];exact⟨Hb λu _=>lz vars args u,Hb λu _=>rm vars args u⟩
theorem Tv(l:List Aj):Ad (l.map Aj.er)=Ad l:=by simp only[Ad,Dn];rfl
def LU(n:Nat):(Dv n).map Ty.er=Dv n:=by simp only[Dv,Dn];refine Hb λi _=>?_;simp only[Function.comp,Vu];rw[Gv];rfl
def xO(s:A4):s.canon.er=s.er.canon:=by
 simp only[A4.canon,A4.er,A4.mk.injEq,Qx,Va];refine⟨?_,?_,?_⟩
 .refine Kx λi=>?_;simp only[I2,Df,Px,Tv,B7];cases s.A1[i]? with
  |none=>rfl
  |some f=>simp only[Em,Aj.er,Gu,LU]
 .refine Kx λi=>?_;simp only[J0,Df,Px,Tv,B7];cases s.params[i]? with
  |none=>rfl
  |some f=>simp only[Em,Param.er,Gu,LU]
 rw[Gu,LU,Tv,B7]
theorem Yu{l:List A4}(E:(l.map (·.name)).Nodup){s t:A4}(hs:s∈l)(ht:t∈l)(h:s.name=t.name):s=t:=by
 induction l with
 |nil=>simp at hs
 |cons x l L =>rw[Cj,Vm]at E;rcases Ay.1 hs with J|hs1;rcases Ay.1 ht with I|ht1;rw[J,I];exact absurd (show x.name∈l.map (·.name) from Ap.2 ⟨t,ht1,by rw[<-h,J]⟩) E.1;rcases Ay.1 ht with I|ht1;exact absurd (show x.name∈l.map (·.name) from Ap.2 ⟨s,hs1,by rw[h,I]⟩) E.1;exact L E.2 hs1 ht1
def G3c{l:List A4}(Z:(l.map (·.name)).Nodup)(w:A4):yI l w=false↔∃s,s∈l/\s.name=w.name/\s.canon.er=w.canon.er:=by
 unfold yI Fo;rcases My (λs:A4=>decide (s.name=w.name)) l with⟨L,I⟩|⟨j,x,L,I,W⟩;rw[L,A7 (by decide)];constructor;intro h;cases h;rintro⟨s,hs,J,_⟩;have:=I s hs;simp[J]at this
 .rw[L,A5 (by omega),Ic,I,Dx];have O:=Bs I;have E:x.name=w.name:=by simpa using W
  constructor
  .intro h;refine⟨x,O,E,(O1 _ _).1 ?_⟩;cases U:Q5 x.canon w.canon with
   |true=>rfl
   |false=>rw[U]at h;cases h
  rintro⟨s,hs,J,V⟩;obtain rfl:=Yu Z hs O (J.trans E.symm);rw[(O1 _ _).2 V];rfl
def F5b{l:List A4}(E:(l.map (·.name)).Nodup)(m:List A4):Ju l m=[]↔∀w,w∈m->∃s,s∈l/\s.name=w.name/\s.canon.er=w.canon.er:=by unfold Ju;rw[nN,List.filter_eq_nil_iff];refine forall_congr' λw=>forall_congr' λ_=>?_;rw[<-G3c E w];simp
def F8w{l m:List A4}(h:l.map A4.er=m.map A4.er):∀w,w∈m->∃s,s∈l/\s.name=w.name/\s.canon.er=w.canon.er:=by
 intro w I;have:w.er∈l.map A4.er:=by rw[h];exact Ap.2 ⟨w,I,rfl⟩
 obtain⟨s,hs,E⟩:=Ap.1 this;refine⟨s,hs,?_,by rw[xO,xO,E]⟩;have:s.er.name=w.er.name:=by rw[E]
 exact this
theorem PH{x y:Ty}(h:x.er=y.er):x.name=y.name/\x.args.map Ty.er=y.args.map Ty.er/\x.args.length=y.args.length:=by
 have I:x.er.name=y.er.name:=by rw[h]
 have E:x.er.args=y.er.args:=by rw[h]
 rw[RJ,RJ]at I;rw[fO,fO]at E;exact⟨I,E,by have:=F8 List.length E;simpa using this⟩
def G2i{env:List Aj}{x y:Ty}(h:x.er=y.er):Fk env x=Fk env y:=by obtain⟨I,_,E⟩:=PH h;unfold Fk;rw[I,E]
theorem gP{env:List Aj}{x y:Ty}(h:x.er=y.er):D3 env x=D3 env y:=by unfold D3;rw[G2i h]
theorem Xc{p:Prog}{x y:Ty}{k:Int}(h:x.er=y.er):B9 p x k=B9 p y k:=by obtain⟨I,_,E⟩:=PH h;unfold B9;rw[I,E]
def G7x{p:Prog}{env:List Aj}{x y:Ty}(h:x.er=y.er):isIface p env x=isIface p env y:=by unfold isIface;rw[Xc h,gP h]
def H6v{vars:List A3}{a b:List Ty}(h:a.map Ty.er=b.map Ty.er)(l:List A4)(j:Nat):(Im vars a l j).map A4.er=(Im vars b l j).map A4.er:=by unfold Im;rw[Dn,Dn];refine Hb λs _=>?_;simp only[Function.comp,TV,h]
def G4x{p:Prog}{x y:Ty}(h:x.er=y.er):(Hj p x).map A4.er=(Hj p y).map A4.er:=by obtain⟨E,I,_⟩:=PH h;unfold Hj;rw[Xc h,E];split;exact H6v I _ _;rfl
def G2r{p:Prog}{x y:Ty}(h:x.er=y.er):Jm p x=Jm p y:=by obtain⟨I,_,E⟩:=PH h;funext d i;unfold Jm Ld;rw[Xc h,I,E]
def G2p{p:Prog}{x y:Ty}(h:x.er=y.er)(j:Nat):(Hf p x j).map A4.er=(Hf p y j).map A4.er:=by unfold Hf;rw[G2r h,Dn,Dn];refine Hb λs _=>?_;simp only[Function.comp,TV,(PH h).2.1]
def JP{p:Prog}{env:List Aj}{x y:Ty}(h:x.er=y.er):(D7 p env x).map A4.er=(D7 p env y).map A4.er:=by
 unfold D7;rw[gP h];cases D3 env y with
 |some b=>rfl
 |none =>simp only[jC,Uj,Iu,Gi];rw[Xc h];split;exact G4x h;exact G2p h _
theorem kF(p:Prog)(env:List Aj)(x:Ty):((D7 p env x).map (·.name)).Nodup:=by unfold D7;split;exact XP p _;split;simp;exact(DO p _ _ (Bv _)).1
def vM(p:Prog)(env:List Aj)(x:Ty):((C3 p env x).map (·.name)).Nodup :=(((Zv (D7 p env x)).map _).nodup_iff).2 (kF p env x)
theorem Mj{p:Prog}{env:List Aj}{x:Ty}{s:A4}:s∈C3 p env x↔s∈D7 p env x:=(Zv _).mem_iff
def LH{p:Prog}{env:List Aj}{x y:Ty}:Ju (C3 p env x) (C3 p env y)=[]↔∀w,w∈D7 p env y->∃s,s∈D7 p env x/\s.name=w.name/\s.canon.er=w.canon.er:=by rw[F5b (vM p env x)];simp only[Mj]
theorem LN(p:Prog)(env:List Aj)(x:Ty):Cr p env x x=true:=by unfold Cr;split;rw[Di,LH];exact λw E=>⟨w,E,rfl,rfl⟩;exact(Ut x x).2 rfl
def Zw{p:Prog}{env:List Aj}{x y z:Ty}(I:Cr p env x y=true)(E:Cr p env y z=true):Cr p env x z=true:=by
 unfold Cr at*;by_cases L:isIface p env z=true
 .rw[A7 L]at E |-;rw[Di,LH]at E |-;have O:∀w,w∈D7 p env y->∃s,s∈D7 p env x/\s.name=w.name/\s.canon.er=w.canon.er:=by by_cases J:isIface p env y=true;rw[A7 J,Di,LH]at I;exact I;rw[A5 J,Ut]at I;exact F8w (JP I)
  intro w W;obtain⟨s,hs,U,e2⟩:=E w W;obtain⟨r,hr,V,Z⟩:=O s hs;exact⟨r,hr,V.trans U,Z.trans e2⟩
 .rw[A5 L,Ut]at E |-;have J:¬isIface p env y=true:=by rw[G7x E];exact L
  rw[A5 J,Ut]at I;exact I.trans E
theorem w7(l:List Aj)(nm:A3):(Du nm (Ad l) 0 = -1)\/∃(k:Nat)(f:Aj),l[k]?=some f/\f.name=nm/\Du nm (Ad l) 0=(k:Int):=by rcases NF nm (Ad l) 0 with⟨h,_⟩|⟨k,E,J⟩;exact .inl h;unfold Ad at E;rw[Df,Jn]at E;obtain⟨f,I,L⟩:=E;exact .inr ⟨k,f,I,L,by rw[J];simp⟩
def H8j(p:Prog)(e:Ex):Ex × Int:=if e.kind=3 then(e,2)else match e.kids[0]? with
 |none=>(e,4)
 |some v=>if e.kind=2 then my p e v else if e.kind=4 then H3t p e v else if e.kind=5 then F9v p e v else(e,4)
mutual
def uQ(p:Prog):Ex->Ex × Int
 |.mk k n t a ks q=>match kf p ks with
  |some (E,o)=>if o=1 then(.mk k n t a E q,1)else(.mk k n t a ks q,o)
  |none=>H8j p (.mk k n t a ks q)
def kf(p:Prog):List Ex->Option (List Ex × Int)
 |[]=>none
 |k::ks=>if isVal k=true then(kf p ks).map λr=>(k::r.1,r.2)else some ((uQ p k).1::ks,(uQ p k).2)
end
def YU(p:Prog):Nat->Ex->Prop
 |0,e=>e.Sm
 |n+1,e=>e.Sm/\((uQ p e).2=1->YU p n (uQ p e).1)
theorem YU.sm{p:Prog}:∀{n:Nat} {e:Ex},YU p n e->e.Sm
 |0,_,h=>h
 |_+1,_,h=>h.1
def Decl.LL(d:Decl):Bool:=decide (d.recv=[]) && (decide (d.vars.length=0) && (Q5 d.sig Jg && oI d.body U2))
def Decl.Ub(d:Decl):Bool:=if d.kind=3 then isName d.recv && (decide ((d.A1.length:Int)+(d.fields.length:Int)+(d.sigs.length:Int)=0) && (d.sig.right && d.body.right))
 else d.LL && ((decide (d.kind=1) && decide (d.sigs.length=0)) ||(decide (d.kind=2) && decide (d.fields.length=0)))
def Decl.right(d:Decl):Bool:=isName d.name && (Qn d.A1 && (Nf d.fields && (d.sigs.all A4.right && (d.vars.all isName && d.Ub))))
structure Decl.Ln(d:Decl):Prop where
 A1:d.A1.length<=sm
 fields:d.fields.length<=sm
 sigs:d.sigs.length<=3*sm
 vars:d.vars.length<=sm
 none:¬d.kind=3->d.sig.Lm/\d.body.Lm
def Decl.Sm.ln{d:Decl}(h:d.Sm):d.Ln:=⟨h.A1.1,h.fields.1,by have:=h.sigs.1;omega,h.vars.1,λ_=>⟨h.sig.lm,h.body.lm⟩⟩
abbrev Hh:=[0,1,2,3,4,5,21,26,35,40,49,52]
set_option maxHeartbeats 4000000 in
def H0j(d:Decl)(h:d.Ln)(hn:d.Nn):Ab prog 38 [Hw d] (Ar d.right):=by
 have I:=Zh d.name;have h2:=po d.A1 hn.A1;have J:=ko d.fields hn.fields;have a5:=h.A1;have a8:=h.fields;have a7:=h.sigs;have a6:=h.vars;unfold Decl.right;refine cB func38 ?_;refine sR Hh ?_;refine gA 1 rfl rfl (wk [(1,.A8 (Am d) 0)] [] ?_);refine sK λV u1=>?_;rcases Fc (isName d.name)with b1|b1;rotate_left;rw[b1]at I;rw[b1,C6];refine sC I Hh ?_;refine tI ?_;refine sR Hh ?_;exact aR;rcases Fc (Qn d.A1)with b2|b2;rotate_left;rw[b1]at I;rw[b2]at h2;rw[b1,b2,C6,Ch];refine sV Hh λK z=>?_;refine cc I ?_;refine cc h2 ?_;apply z;refine tI ?_;refine sR Hh ?_;exact aR;rcases Fc (Nf d.fields)with b3|b3;rotate_left;rw[b1]at I;rw[b2]at h2;rw[b3]at J;rw[b1,b2,b3,C6,Ch,Ch];refine sV Hh λK z=>?_;refine cc I ?_;refine cc h2 ?_;refine cc J ?_;apply z;refine tI ?_;refine sR Hh ?_;exact aR;rw[b1]at I;rw[b2]at h2;rw[b3]at J;rw[b1,b2,b3,Ch,Ch,Ch]at u1 |-
 refine sV Hh λK z=>?_;refine cc I ?_;refine cc h2 ?_;refine cc J ?_;apply z;refine kI u1 ?_;refine kR Hh λV u1=>?_;refine bA (A0.ii d.sigs (X:=Unit) (λj _=>[(1,.A8 (Am d) 0),(3,A6 j)]) (λ_ _=>[]) (λj _=>(d.sigs.drop j).all A4.right=d.sigs.all A4.right) () rfl (by simp[sle,B0,Ae,Am]) sB ?_ ?_);rotate_left;intro j _ s hd Z dp tk a1 E;rw[dp,Qa]at E;refine Ag a1 Hh λU u2=>?_;refine gI u2 ?_;refine sK λU u2=>bA ?_;refine sV Hh λK z=>?_;refine ci (Dg hd) ?_;refine cc (wb s (hn.sigs s Z)) ?_;apply z;refine A0.cond rfl (λO=>?_) (λO=>?_);refine sR Hh ?_;simp only[Lu]at O;rw[O,C6]at E;rw[<-E,C6];exact aR;simp only[Uw]at O;rw[O,Ch]at E;refine cA (u2 _ _ ?_);refine lT Hh ?_;exact⟨(),E,(by simp[sle,B0,Ae,Am]),sB⟩;intro _ E;rw[Dk,eC]at E;rw[<-E,Ch]at u1 |-;refine Ag B1 Hh λU u2=>?_;refine sE ?_;apply u1;refine kR Hh λV u1=>?_;refine bA (A0.ii d.vars (X:=Unit) (λj _=>[(1,.A8 (Am d) 0),(4,A6 j)]) (λ_ _=>[]) (λj _=>(d.vars.drop j).all isName=d.vars.all isName) () rfl (by simp[sle,B0,Ae,Am]) sB ?_ ?_)
 rotate_left;intro j _ s hd Z dp tk a1 E;rw[dp,Qa]at E;refine Ag a1 Hh λU u2=>?_;refine gI u2 ?_;refine sK λU u2=>bA ?_;refine sV Hh λK z=>?_;refine ci (Jj hd) ?_;refine cc (Zh s) ?_;apply z;refine A0.cond rfl (λO=>?_) (λO=>?_);refine sR Hh ?_;simp only[Lu]at O;rw[O,C6]at E;rw[<-E,C6];exact aR;simp only[Uw]at O;rw[O,Ch]at E;refine cA (u2 _ _ ?_);refine lT Hh ?_;exact⟨(),E,(by simp[sle,B0,Ae,Am]),sB⟩;intro _ E;rw[Dk,eC]at E;rw[<-E,Ch]at u1 |-;refine Ag B1 Hh λU u2=>?_;refine sE ?_;apply u1;unfold Decl.Ub;by_cases k3:d.kind=3
 .rw[A7 k3];refine sK λV u1=>?_;have I:=Zh d.recv;have J:=wb d.sig hn.sig;have h4:=qg d.body hn.body;refine Ak k3 Hh ?_;refine tI ?_;rcases Fc (isName d.recv)with b1|b1;rotate_left;rw[b1]at I;rw[b1,C6];refine sC I Hh ?_;exact aR;rw[b1]at I;rw[b1,Ch];by_cases L:(d.A1.length:Int)+(d.fields.length:Int)+(d.sigs.length:Int)=0;rotate_left;rw[Cb L,C6];refine sV Hh λK z=>?_;refine E0 L I ?_;refine⟨by first| (unfold B6;omega)| (simp only[B6,sm]at*;omega),?_⟩;(try refine Bb L ?_);refine⟨by first| (unfold B6;omega)| (simp only[B6,sm]at*;omega),?_⟩;(try refine Bb L ?_);apply z;exact aR;rw[Bn L,Ch];rcases Fc d.sig.right with b3|b3;rotate_left;rw[b3]at J;rw[b3,C6];refine sV Hh λK z=>?_;refine E0 L I ?_;refine⟨by first| (unfold B6;omega)| (simp only[B6,sm,lim]at*;omega),?_⟩;(try refine Bb L ?_);refine⟨by first| (unfold B6;omega)| (simp only[B6,sm,lim]at*;omega),?_⟩;(try refine Bb L ?_);refine cc J ?_;apply z;exact aR;rw[b3]at J;rw[b3,Ch];refine sV Hh λK z=>?_;refine E0 L I ?_;refine⟨by first| (unfold B6;omega)| (simp only[B6,sm,lim]at*;omega),?_⟩;(try refine Bb L ?_);refine⟨by first| (unfold B6;omega)| (simp only[B6,sm,lim]at*;omega),?_⟩;(try refine Bb L ?_);refine cc J ?_;refine cc h4 ?_;apply z;exact aR
 rw[A5 k3];refine Ag k3 Hh λV u1=>?_;refine kI u1 ?_;refine sK λV u1=>?_;have rest:∀sl bx,sle sl [(1,.A8 (Am d) 0),(5,Ar d.LL)]->V sl bx:=by
  intro sl bx a3;refine u1 _ _ (A0.ww (bx':=[]) a3 trivial ?_);rcases Fc d.LL with b|b;rotate_left;rw[b,C6];refine sR Hh ?_;exact aR;rw[b,Ch];by_cases k1:d.kind=1
  .have k2:¬d.kind=2:=by omega
   rw[Bn k1,Ch,Cb k2,C6,uJ];by_cases hs:d.sigs.length=0
   .have a0:(d.sigs.length:Int)=0:=by omega
    rw[Bn hs];refine Ee k1 a0 Hh ?_;exact aR
   .have a0:¬(d.sigs.length:Int)=0:=by omega
    have a2:¬(1:Int)=2:=by omega
    rw[Cb hs];refine sR3 k1 a0 a2 Hh ?_;exact aR
  rw[Cb k1,C6,Wd];by_cases k2:d.kind=2
  .rw[Bn k2,Ch];have a4:¬(2:Int)=1:=by omega
   have e:decide (d.fields.length=0)=decide ((d.fields.length:Int)=0):=by by_cases hf:d.fields.length=0;rw[Bn hf,Bn (by omega)];rw[Cb hf,Cb (by omega)]
   rw[e];refine Ee k2 a4 Hh ?_;exact aR
  rw[Cb k2,C6];refine Ee k1 k2 Hh ?_;exact aR
 have J:=PY d.sig Jg (h.none k3).1;have h4:=G1n d.body (h.none k3).2 U2;unfold Decl.LL at rest;by_cases hr:d.recv=[];rotate_left;rw[Cb hr,C6]at rest;(refine lQ Hh λK z=>?_;refine Bb hr ?_;apply z;try simp only[Aa,]);exact rest _ _ (by simp[sle,B0,Ae,Am]);have br:decide (d.recv=[])=true:=Bn hr;rw[br,Ch]at rest;by_cases hv:d.vars.length=0;rotate_left
 .have W:¬(d.vars.length:Int)=0:=by omega
  rw[Cb hv,C6]at rest;(refine lQ Hh λK z=>?_;refine G1 br W ?_;apply z;try simp only[Aa,]);exact rest _ _ (by simp[sle,B0,Ae,Am])
 have W:(d.vars.length:Int)=0:=by omega
 rw[Bn hv,Ch]at rest;rcases Fc (Q5 d.sig Jg)with b3|b3;rotate_left;rw[b3]at J rest;rw[C6]at rest;(refine lQ Hh λK z=>?_;refine G1 br W ?_;refine cc J ?_;apply z;try simp only[Aa,]);exact rest _ _ (by simp[sle,B0,Ae,Am]);rw[b3]at J rest;rw[Ch]at rest;(refine lQ Hh λK z=>?_;refine G1 br W ?_;refine cc J ?_;refine cc h4 ?_;apply z;try simp only[Aa,]);exact rest _ _ (by simp[sle,B0,Ae,Am])
def Prog.right(p:Prog):Bool:=p.decls.all Decl.right && p.main.right
abbrev fE:=[0,1,2,3,8,17]
def G0n(p:Prog)(V:p.decls.length<=100000000000)(h:∀d,d∈p.decls->d.Ln)(U:p.Nn):Ab prog 16 [Cs p] (Ar p.right):=by have Z:=qg p.main U.main;unfold Prog.right;refine cB func16 ?_;refine sR fE ?_;refine gA 1 rfl rfl (wk [(1,.A8 (Ah p) 0)] [] ?_);refine kR fE λK1 u1=>?_;refine bA (A0.ii p.decls (X:=Unit) (λj _=>[(1,.A8 (Ah p) 0),(3,A6 j)]) (λ_ _=>[]) (λj _=>(p.decls.drop j).all Decl.right=p.decls.all Decl.right) () rfl (by simp[sle,B0,Ae,Ah]) sB ?_ ?_);rotate_left;intro j _ s hd I W tk O E;rw[W,Qa]at E;refine Ag O fE λL u2=>?_;refine gI u2 ?_;refine sK λL u2=>bA ?_;refine sV fE λK z=>?_;refine ci (E6 hd) ?_;refine cc (H0j s (h s I) (U.decls s I)) ?_;apply z;refine A0.cond rfl (λJ=>?_) (λJ=>?_);refine sR fE ?_;simp only[Lu]at J;rw[J,C6]at E;rw[<-E,C6];exact aR;simp only[Uw]at J;rw[J,Ch]at E;refine cA (u2 _ _ ?_);(refine lV fE λK z=>?_;refine cl ?_;apply z;try simp only[Aa,]);exact⟨(),E,(by simp[sle,B0,Ae,Ah]),sB⟩;intro _ E;rw[Dk,eC]at E;rw[<-E,Ch]at u1 |-;refine Ag B1 fE λL u2=>?_;refine sE ?_;refine u1 _ _<|sC Z fE ?_;exact aR
def G6m(p:Prog)(h:p.Sm)(E:p.Nn):Ab prog 16 [Cs p] (Ar p.right):=G0n p (Cy h.decls.1 (by decide)) (λd hd=>(h.decls.2 d hd).ln) E
structure Fw where
 pos:Int
 bad:Bool
 Dw:Bool
def Gx:Fw:=⟨0,false,false⟩
def Lp(n:Int):Fw:=⟨n,true,false⟩
def Ip:Option Int->Fw
 |none=>Gx
 |some q=>Lp q
abbrev Kk(r:Fw):SV:=.agg [.d (.int .i64 r.pos),.d (.bool r.bad),.d (.bool r.Dw)]
abbrev J3:Ax:=.cells [.d (.int .i64 0),.d (.bool false),.d (.bool false)]
def oW(a b:List Aj)(E:a.length<=sm)(I:b.length<=sm):Ab prog 270 [.d (.slice (Ai a)),.d (.slice (Ai b))] (.d (.slice (Ai (a++b)))):=by rw[show Ai (a++b)=Ai a++Ai b by simp[Ai]];refine cB func270 ?_;refine sR [0,1,4] ?_;refine jA [0,1,4,5] [5] (by decide +kernel) λK z=>?_;refine ev ?_;refine⟨FO _,by unfold lim sm at*;omega,?_⟩;(try refine ev ?_);refine⟨FO _,by unfold lim sm at*;omega,?_⟩;(try refine ev ?_);apply z;exact aR
def tF(p:Prog)(pre:List Aj):List Aj->Option Int
 |[]=>none
 |f::fs=>if kindOf p f.name≠0\/f.name∈Ad pre then some f.pos else tF p (pre++[f]) fs
def PF(p:Prog)(all:List Aj):List Aj->Option Int
 |[]=>none
 |f::fs=>match Br p all f.bound with
  |some q=>some q
  |none=>if isIface p all f.bound=true then PF p all fs else some f.bound.pos
def Pn(p:Prog)(env l:List Aj):Option Int:=match tF p env l with
 |some q=>some q
 |none=>PF p (env++l) l
abbrev Lr:=[0,1,2,3,6,7,8,9,10,11,12,16,41,54,68,79]
def ZY(p:Prog)(h:p.Sm)(env l:List Aj)(a2:env.length+l.length<=sm)(he:∀f,f∈env->f.Sm)(hl:∀f,f∈l->f.Sm) :Ab prog 185 [Cs p,.d (.slice (Ai env)),.d (.slice (Ai l))] (Kk (Ip (Pn p env l))):=by
 have Z:∀f,f∈env++l->f.Sm:=λf hf=>by rcases Bj.1 hf with h|h;exact he f h;exact hl f h
 have a1:=oW env l (by omega) (by omega);unfold Pn;refine cB func185 ?_;refine sR Lr ?_;refine gA 3 rfl rfl (wk [(1,.d (.slice (Ai env))),(2,.d (.slice (Ai l))),(3,.A8 (Ah p) 0),(6,.box 6 0)] [(6,J3)] ?_);refine kR Lr λK1 u1=>?_;refine bA (A0.ii l (X:=Unit) (λj _=>[(1,.d (.slice (Ai env))),(2,.d (.slice (Ai l))),(3,.A8 (Ah p) 0),(6,.box 6 0),(7,A6 j)]) (λ_ _=>[(6,J3)]) (λj _=>tF p (env++l.take j) (l.drop j)=tF p env l) () (by simp) (by simp[sle,B0,Ae,Ah]) sB ?_ ?_);rotate_left
 .intro j _ d hd U dp tk V E;rw[dp,tF]at E;have hj:Ab prog 270 [.d (.slice (Ai env)),.d (.slice ((Ai l).take j))] (.d (.slice (Ai (env++l.take j)))):=by rw[show(Ai l).take j=Ai (l.take j) by simp[Ai,List.map_take]];exact oW env (l.take j) (by omega) (by rw[Dh];omega)
  have a0:=Ss (env++l.take j) (by rw[B5,Dh];omega);have hk:=yK p d.name;have O:=iI (Ad (env++l.take j)) d.name;refine Ag V Lr λJ u2=>?_;refine gI u2 ?_;refine sK λJ u2=>bA ?_;refine sV Lr λK z=>?_;refine⟨FO _,by omega,by omega,?_⟩;(try refine ev ?_);refine cc hj ?_;refine cc a0 ?_;apply z;by_cases I:kindOf p d.name=0;rotate_left;rw[A7 (.inl I)]at E;rw[<-E];refine sG Lr [] 15 [] λK z=>?_;refine ev ?_;refine ci (Fm hd) ?_;refine E0 I hk ?_;apply z;refine eA rfl<|sI (Fm hd) [0,1,2,3,6,7,8,9,10,11,12,16,41,54,68,79] ?_;exact aR
  by_cases hm:d.name∈Ad (env++l.take j);rw[A7 (.inr hm)]at E;rw[<-E];rw[Bn hm]at O;refine sG Lr [] 15 [] λK z=>?_;refine ev ?_;refine ci (Fm hd) ?_;refine E0 I hk ?_;refine ci (Fm hd) ?_;refine cc O ?_;apply z;refine eA rfl<|sI (Fm hd) [0,1,2,3,6,7,8,9,10,11,12,16,41,54,68,79] ?_;exact aR
  rw[A5 (by rintro(h|h);exact h I;exact hm h)]at E;rw[Cb hm]at O;refine sG Lr [] 15 [] λK z=>?_;refine ev ?_;refine ci (Fm hd) ?_;refine E0 I hk ?_;refine ci (Fm hd) ?_;refine cc O ?_;apply z;refine dA rfl (cA (u2 _ _ ?_));refine lT Lr ?_;exact⟨(),by rw[tk,<-H3];exact E,(by simp[sle,B0,Ae,Ah]),sB⟩
 intro _ E;rw[Dk,tF]at E;rw[<-E]at u1 |-;simp only;refine Ag B1 Lr λJ u2=>?_;refine sE ?_;apply u1;refine sC a1 Lr ?_;refine kR Lr λK1 u1=>?_;refine bA (A0.ii l (X:=Unit) (λj _=>[(2,.d (.slice (Ai l))),(3,.A8 (Ah p) 0),(6,.box 6 0),(9,.d (.slice (Ai (env++l)))),(10,A6 j)]) (λ_ _=>[(6,J3)]) (λj _=>PF p (env++l) (l.drop j)=PF p (env++l) l) () rfl (by simp[sle,B0,Ae,Ah]) sB ?_ ?_)
 rotate_left
 .intro j _ d hd U dp tk V E;rw[dp,PF]at E;have W:=FI p h (env++l) (by rw[B5];omega) Z d.bound (hl d U).bound;have L:=Hl p (env++l) (by rw[B5];omega) d.bound;refine Ag V Lr λJ u2=>?_;refine gI u2 ?_;refine sK λJ u2=>bA ?_;cases hq:Br p (env++l) d.bound with
  |some q =>rw[hq]at E W;simp only[V6]at W;rw[<-E];refine sG Lr [] 12 [] λK z=>?_;refine ev ?_;refine ci (Fm hd) ?_;refine cc W ?_;apply z;refine kR Lr λK3 u3=>?_;refine tI ?_;refine sR Lr ?_;exact aR
  |none =>rw[hq]at E W;simp only[V6]at W;simp only at E;refine sG Lr [] 12 [] λK z=>?_;refine ev ?_;refine ci (Fm hd) ?_;refine cc W ?_;apply z;refine kR Lr λK3 u3=>?_;refine kI u3 ?_;rcases Fc (isIface p (env++l) d.bound)with hb|hb;rw[A7 hb]at E;rw[hb]at L;refine sG Lr [] 7 [] λK z=>?_;refine ev ?_;refine ci (Fm hd) ?_;refine cc L ?_;apply z;refine dA rfl (cA (u2 _ _ ?_));refine lT Lr ?_;exact⟨(),E,(by simp[sle,B0,Ae,Ah]),sB⟩;rw[A5 (by simp[hb])]at E;rw[<-E];rw[hb]at L;refine sG Lr [] 7 [] λK z=>?_;refine ev ?_;refine ci (Fm hd) ?_;refine cc L ?_;apply z;refine eA rfl<|sI (Fm hd) [0,1,2,3,6,7,8,9,10,11,12,16,41,54,68,79] ?_;exact aR
 intro _ E;rw[Dk,PF]at E;rw[<-E]at u1 |-;refine Ag B1 Lr λJ u2=>?_;refine sE ?_;refine u1 _ _<|sR Lr ?_;exact aR
def Kc(p:Prog)(env:List Aj)(pre:List A3):List Param->Option Int
 |[]=>none
 |f::fs=>if f.name∈pre then some f.pos else match Br p env f.type with
  |some q=>some q
  |none=>Kc p env (pre++[f.name]) fs
abbrev S6:=[0,1,2,3,6,7,8,9,10,14,23,49]
def jX(p:Prog)(h:p.Sm)(env:List Aj)(V:env.length<=sm)(he:∀f,f∈env->f.Sm)(l:List Param)(a0:l.length<=sm)(hl:∀f,f∈l->f.Sm) :Ab prog 186 [Cs p,.d (.slice (Ai env)),.d (.slice (Aw l))] (Kk (Ip (Kc p env [] l))):=by
 refine cB func186 ?_;refine sR S6 ?_;refine gA 3 rfl rfl (wk [(1,.d (.slice (Ai env))),(2,.d (.slice (Aw l))),(3,.A8 (Ah p) 0),(6,.box 6 0)] [(6,J3)] ?_);refine sR S6 ?_;refine A0.pp 7 1 7 rfl<|kR S6 λK1 u1=>?_;refine bA (A0.ii l (X:=Unit) (λj _=>[(1,.d (.slice (Ai env))),(2,.d (.slice (Aw l))),(3,.A8 (Ah p) 0),(6,.box 6 0),(7,.acc 7),(8,A6 j)]) (λj _=>[(6,J3),(7,.rows 1 (Bq ((l.take j).map (·.name))))]) (λj _=>Kc p env ((l.take j).map (·.name)) (l.drop j)=Kc p env [] l) () rfl (by simp[sle,B0,Ae,Ah]) (by simp[ble,A9,Bq]) ?_ ?_)
 rotate_left
 .intro j _ d hd L dp tk W E;rw[dp,Kc]at E;have I:=iI ((l.take j).map (·.name)) d.name;have J:=FI p h env V he d.type (hl d L).type;refine Ag W S6 λO u2=>?_;refine gI u2 ?_;refine sK λO u2=>bA<|sK λK3 Z=>?_;by_cases U:d.name∈(l.take j).map (·.name)
  .rw[A7 U]at E;rw[<-E];rw[Bn U]at I
   (refine sV S6 λK z=>?_;refine ci (Dt hd) ?_;refine⟨_,.inr ⟨_,rfl,I,rfl⟩,?_⟩;(try refine ev ?_);apply z)
   refine tI ?_;refine sI (Dt hd) [0,1,2,3,6,7,8,9,10,14,23,49] ?_;exact aR
  rw[A5 U]at E;rw[Cb U]at I
  (refine sV S6 λK z=>?_;refine ci (Dt hd) ?_;refine⟨_,.inr ⟨_,rfl,I,rfl⟩,?_⟩;(try refine ev ?_);apply z)
  refine kI Z ?_
  (refine sV S6 λK z=>?_;refine ci (Dt hd) ?_;refine⟨by simp,by simp only[B7,Dh];unfold lim sm at*;omega,?_⟩;(try refine ev ?_);apply z)
  cases hq:Br p env d.type with
  |some q =>rw[hq]at E J;simp only[V6]at J;rw[<-E];refine sG S6 [] 12 [] λK z=>?_;refine ev ?_;refine ci (Dt hd) ?_;refine cc J ?_;apply z;refine sR S6 ?_;refine eA rfl<|sR S6 ?_;exact aR
  |none =>
   rw[hq]at E J;simp only[V6]at J;simp only at E;refine sG S6 [] 12 [] λK z=>?_;refine ev ?_;refine ci (Dt hd) ?_;refine cc J ?_;apply z;refine sR S6 ?_;refine dA rfl (cA (u2 _ _ ?_));refine lT S6 ?_;exact⟨(),by rw[tk,Gy];exact E,(by simp[sle,B0,Ae,Ah]),by rw[tk,Gy];simp[ble,A9,Bq]⟩
 intro _ E;rw[Dk,Kc]at E;rw[<-E]at u1 |-;refine Ag B1 S6 λO u2=>?_;refine sE ?_;refine u1 _ _<|sR S6 ?_;exact aR
def Iw(p:Prog)(env:List Aj)(s:A4):Option Int:=match Pn p env s.A1 with
 |some q=>some q
 |none=>match Kc p (env++s.A1) [] s.params with
  |some q=>some q
  |none=>Br p (env++s.A1) s.result
abbrev Mv:=[0,1,2,3,5,6,7,8,9,10,22,29,39]
def ph(p:Prog)(h:p.Sm)(env:List Aj)(s:A4)(O:env.length+s.A1.length<=sm)(he:∀f,f∈env->f.Sm)(hs:s.Sm) :Ab prog 189 [Cs p,.d (.slice (Ai env)),Db s] (Kk (Ip (Iw p env s))):=by
 have J:∀f,f∈env++s.A1->f.Sm:=λf I=>by rcases Bj.1 I with h|h;exact he f h;exact hs.A1.2 f h
 have U:(env++s.A1).length<=sm:=by rw[B5];exact O
 have L:=oW env s.A1 (by omega) (by omega);have h1:=ZY p h env s.A1 O he hs.A1.2;have W:=jX p h (env++s.A1) U J s.params hs.params.1 hs.params.2;have Z:=FI p h (env++s.A1) U J s.result hs.result;generalize V:Iw p env s=R;refine cB func189 ?_;refine sR Mv ?_;cases I:Pn p env s.A1 with
 |some q =>
  rw[I]at h1;obtain rfl:R=some q:=by rw[<-V];unfold Iw;rw[I]
  refine sC h1 Mv ?_;refine sC L Mv ?_;refine kR Mv λE u1=>?_;refine dA rfl (cA (u1 _ _ ?_));refine kR Mv λE u1=>?_;refine tI ?_;refine sR Mv ?_;exact aR
 |none =>
  rw[I]at h1;refine sC h1 Mv ?_;refine sC L Mv ?_;refine kR Mv λE u1=>?_;cases hp:Kc p (env++s.A1) [] s.params with
  |some q =>
   rw[hp]at W;obtain rfl:R=some q:=by rw[<-V];unfold Iw;rw[I];simp only[hp]
   refine eA rfl ?_;(refine lV Mv λK z=>?_;refine cc W ?_;apply z;try simp only[Aa,]);apply u1;refine kR Mv λE u1=>?_;refine tI ?_;refine sR Mv ?_;exact aR
  |none =>
   rw[hp]at W;refine eA rfl ?_
   (refine lV Mv λK z=>?_;refine cc W ?_;apply z;try simp only[Aa,])
   apply u1;refine kR Mv λE u1=>?_;refine kI u1 ?_;cases hq:Br p (env++s.A1) s.result with
   |some q =>
    rw[hq]at Z;obtain rfl:R=some q:=by rw[<-V];unfold Iw;rw[I];simp only[hp,hq]
    refine sC Z Mv ?_;refine kR Mv λE u1=>?_;refine tI ?_;refine sR Mv ?_;exact aR
   |none =>
    rw[hq]at Z;obtain rfl:R=none:=by rw[<-V];unfold Iw;rw[I];simp only[hp,hq]
    refine sC Z Mv ?_;refine kR Mv λE u1=>?_;refine kI u1 ?_;refine sR Mv ?_;exact aR
structure Cd where
 p:Prog
 strict:Bool
 env:List Aj
 vars:List Param
def ty0:Ty:=.mk [] [] 0
def M0(n:Int):Ty × Fw:=(ty0,Lp n)
def Qy(z:Ty × Fw):Ty × Fw:=if z.2.bad=false/\400<z.1.count 0 then(ty0,⟨0,true,true⟩)else z
def Kt(c:Cd)(x:Ty):Bool:=decide (Fk c.env x<0) && B9 c.p x 1
def WE(c:Cd)(x:Ty):Bool:=decide (0<=Fk c.env x) ||B9 c.p x 2
def P5(c:Cd)(E:Ty)(e:Ex)(z:Ty × Fw):Fw:=if z.2.bad=false/\Cr c.p c.env z.1 E=false then Lp e.pos else z.2
def Ka(c:Cd):List Ty->List Ex->List (Ty × Fw)->Fw
 |w::I,e::es,z::E=>if(P5 c w e z).bad=true then P5 c w e z else Ka c I es E
 |_,_,_=>Gx
def Nh(c:Cd)(e:Ex)(x:Ty):Int ⊕ A4 :=match(C3 c.p c.env x)[(Fo (C3 c.p c.env x) e.name).toNat]? with
 |none=>.inl e.pos
 |some s=>if Fo (C3 c.p c.env x) e.name<0\/s.A1.length≠e.targs.length then .inl e.pos else
  match P7 c.p c.env e.targs with
  |some q=>.inl q
  |none=>if 0<=Hn c.p c.env s.A1 e.targs then .inl ((e.targs[(Hn c.p c.env s.A1 e.targs).toNat]?).getD default).pos else
   if e.kids.length≠s.params.length+1 then .inl e.pos else .inr s
def Tu(s:A4)(a:List Ty):List Ty:=s.params.map λf=>f.type.subst (Ad s.A1) a
def zE(c:Cd)(e:Ex)(x:Ty)(E:List (Ty × Fw)):Ty × Fw:=match Nh c e x with
 |.inl q=>M0 q
 |.inr s=>Qy (s.result.subst (Ad s.A1) e.targs,Ka c (Tu s e.targs) e.kids.tail E)
def Gp(l:List Param)(nm:A3):Int:=E3 (λf:Param=>decide (f.name=nm)) l
def Zp(c:Cd)(e:Ex)(x:Ty)(r:Fw):Ty × Fw :=if Kt c x=false then M0 e.pos else
 match(Bc c.p x)[(Gp (Bc c.p x) e.name).toNat]? with
 |some f=>if Gp (Bc c.p x) e.name<0 then M0 e.pos else Qy (f.type,r)
 |none=>M0 e.pos
def rD(c:Cd)(x:Ty):Ty:=(D3 c.env x).getD x
def V7(c:Cd)(x y:Ty):Bool:=WE c x && (WE c y ||Cr c.p c.env y (rD c x))
def NI(c:Cd)(e:Ex)(x:Ty)(r:Fw):Ty × Fw:=match Br c.p c.env e.type with
 |some q=>M0 q
 |none=>if c.strict=true/\V7 c x e.type=false then M0 e.pos else(e.type,r)
def yF(c:Cd)(e:Ex):Ty × Fw:=match c.vars[(Gp c.vars e.name).toNat]? with
 |some f=>if Gp c.vars e.name<0 then M0 e.pos else(f.type,Gx)
 |none=>M0 e.pos
def LI(c:Cd)(e:Ex)(E:List (Ty × Fw)):Ty × Fw:=match Br c.p c.env e.type with
 |some q=>M0 q
 |none=>if Kt c e.type=false\/(Bc c.p e.type).length≠e.kids.length then M0 e.pos else(e.type,Ka c ((Bc c.p e.type).map (·.type)) e.kids E)
def vD(c:Cd)(e:Ex)(E:List (Ty × Fw)):Ty × Fw :=if e.kind=1 then yF c e else if e.kind=3 then LI c e E else
 if e.kind≠2/\e.kind≠4/\e.kind≠5 then M0 e.pos else
 match E with
 |[]=>M0 e.pos
 |z::E=>if z.2.bad=true then z else if e.kind=2 then zE c e z.1 E else if e.kind=4 then Zp c e z.1 z.2 else NI c e z.1 z.2
mutual
def Da(c:Cd):Ex->Ty × Fw
 |.mk k n t a ks q=>vD c (.mk k n t a ks q) (mP c ks)
def mP(c:Cd):List Ex->List (Ty × Fw)
 |[]=>[]
 |e::es=>Da c e::mP c es
end
def F0(c:Cd):∀l,mP c l=l.map (Da c)
 |[]=>by rfl
 |e::es=>by rw[mP,F0 c es];rfl
def wM(c:Cd)(e:Ex):Da c e=vD c e (e.kids.map (Da c)):=by cases e with|mk k n t a ks q=>rw[Da,F0];rfl
abbrev TO:=Ty × Option Int
def Lt(n:Int):TO:=(ty0,some n)
def dQ(c:Cd)(E:Ty)(e:Ex)(z:TO):Option Int:=match z.2 with
 |some q=>some q
 |none=>if Cr c.p c.env z.1 E=true then none else some e.pos
def Vr(c:Cd):List Ty->List Ex->List TO->Option Int
 |w::I,e::es,z::E=>match dQ c w e z with
  |some q=>some q
  |none=>Vr c I es E
 |_,_,_=>none
def orI(o:Option Int)(t:Ty):TO:=match o with
 |some q=>Lt q
 |none=>(t,none)
def cP(c:Cd)(e:Ex)(x:Ty)(E:List TO):TO:=match Nh c e x with
 |.inl q=>Lt q
 |.inr s=>orI (Vr c (Tu s e.targs) e.kids.tail E) (s.result.subst (Ad s.A1) e.targs)
def DN(c:Cd)(e:Ex)(x:Ty):TO :=if Kt c x=false then Lt e.pos else
 match(Bc c.p x)[(Gp (Bc c.p x) e.name).toNat]? with
 |some f=>if Gp (Bc c.p x) e.name<0 then Lt e.pos else(f.type,none)
 |none=>Lt e.pos
def aO(c:Cd)(e:Ex)(x:Ty):TO:=match Br c.p c.env e.type with
 |some q=>Lt q
 |none=>if c.strict=true/\V7 c x e.type=false then Lt e.pos else(e.type,none)
def qP(c:Cd)(e:Ex):TO:=match c.vars[(Gp c.vars e.name).toNat]? with
 |some f=>if Gp c.vars e.name<0 then Lt e.pos else(f.type,none)
 |none=>Lt e.pos
def gO(c:Cd)(e:Ex)(E:List TO):TO:=match Br c.p c.env e.type with
 |some q=>Lt q
 |none=>if Kt c e.type=false\/(Bc c.p e.type).length≠e.kids.length then Lt e.pos else orI (Vr c ((Bc c.p e.type).map (·.type)) e.kids E) e.type
def iL(c:Cd)(e:Ex)(E:List TO):TO :=if e.kind=1 then qP c e else if e.kind=3 then gO c e E else
 if e.kind≠2/\e.kind≠4/\e.kind≠5 then Lt e.pos else
 match E with
 |[]=>Lt e.pos
 |z::E=>match z.2 with
  |some q=>Lt q
  |none=>if e.kind=2 then cP c e z.1 E else if e.kind=4 then DN c e z.1 else aO c e z.1
mutual
def Dc(c:Cd):Ex->TO
 |.mk k n t a ks q=>iL c (.mk k n t a ks q) (bO c ks)
def bO(c:Cd):List Ex->List TO
 |[]=>[]
 |e::es=>Dc c e::bO c es
end
def aX(c:Cd):∀l,bO c l=l.map (Dc c)
 |[]=>by rfl
 |e::es=>by rw[bO,aX c es];rfl
def aV(c:Cd)(e:Ex):Dc c e=iL c e (e.kids.map (Dc c)):=by cases e with|mk k n t a ks q=>rw[Dc,aX];rfl
def TM(a:Ty × Fw)(b:TO):Prop:=a.2.Dw=true/\a.2.bad=true\/a.2.Dw=false/\(a.2.bad=true/\b.2=some a.2.pos\/a.2.bad=false/\a.2.pos=0/\b=(a.1,none))
def TM.no(n:Int):TM (M0 n) (Lt n):=.inr ⟨rfl,.inl ⟨rfl,rfl⟩⟩
def aT{c:Cd}:∀(I:List Ty)(es:List Ex)(E:List (Ty × Fw))(ys:List TO),E.length=ys.length->(∀(i:Nat)(z:Ty × Fw)(y:TO),E[i]?=some z->ys[i]?=some y->TM z y) ->(Ka c I es E).Dw=true/\(Ka c I es E).bad=true\/(Ka c I es E).Dw=false/\((Ka c I es E).bad=true/\Vr c I es ys=some (Ka c I es E).pos\/(Ka c I es E).bad=false/\(Ka c I es E).pos=0/\Vr c I es ys=none)
 |[],es,E,ys,_,_=>by grind[Ka,Vr,Gx]
 |_::_,[],E,ys,_,_=>by grind[Ka,Vr,Gx]
 |_::_,_::_,[],[],_,_=>by simp[Ka,Vr,Gx]
 |_::_,_::_,[],_::_,h,_=>by grind
 |_::_,_::_,_::_,[],h,_=>by grind
 |w::I,e::es,z::E,y::ys,hl,h=>by
  have V:=h 0 z y rfl rfl;have Z:=aT (c:=c) I es E ys (by grind) λi a b L J=>h (i+1) a b (by grind) (by grind);rw[Ka,Vr];unfold P5 dQ;rcases V with⟨L,J⟩|⟨L,⟨J,U⟩|⟨J,U,O⟩⟩
  .grind
  .grind
  .subst O;cases W:Cr c.p c.env z.1 w with
   |false=>simp[J,W,Lp]
   |true=>grind
def vo(c:Cd):∀e:Ex,TM (Da c e) (Dc c e):=by
 intro e
 induction e using Ex.induct with|_ e V=>?_
 rw[wM,aV];unfold vD iL;by_cases k1:e.kind=1
 .rw[A7 k1,A7 k1];unfold yF qP;split
  .split
   .exact .no _
   .exact .inr ⟨rfl,.inr ⟨rfl,rfl,rfl⟩⟩
  .exact .no _
 rw[A5 k1,A5 k1];have Z:∀(l:List Ex),(∀x,x∈l->x∈e.kids)->∀(i:Nat) z y,(l.map (Da c))[i]?=some z->(l.map (Dc c))[i]?=some y->TM z y:=by intro l hl i z y I E;rw[Df,Jn]at I E;obtain⟨a,W,rfl⟩:=I;obtain⟨b,hb,rfl⟩:=E;rw[W]at hb;cases hb;exact V a (hl a (Bs W))
 by_cases k3:e.kind=3
 .rw[A7 k3,A7 k3];unfold LI gO;split
  .exact .no _
  .split
   .exact .no _
   .rcases aT (c:=c) ((Bc c.p e.type).map (·.type)) e.kids _ _ (by simp) (Z e.kids λ_ h=>h)with⟨I,E⟩|⟨I,⟨E,J⟩|⟨E,J,L⟩⟩
    .exact .inl ⟨I,E⟩
    .exact .inr ⟨I,.inl ⟨E,by rw[J];rfl⟩⟩
    .exact .inr ⟨I,.inr ⟨E,J,by rw[L];rfl⟩⟩
 rw[A5 k3,A5 k3];by_cases k2:e.kind≠2/\e.kind≠4/\e.kind≠5
 .rw[A7 k2,A7 k2];exact .no _
 rw[A5 k2,A5 k2];cases a0:e.kids with
 |nil=>exact .no _
 |cons v vs =>
  simp;have hv:=V v (by grind);rcases hv with⟨I,E⟩|⟨I,⟨E,J⟩|⟨E,J,L⟩⟩;rw[A7 E];exact .inl ⟨I,E⟩;rw[A7 E,J];exact .inr ⟨I,.inl ⟨E,rfl⟩⟩
  .have hz:(Da c v).2=Gx:=by cases hr:(Da c v).2 with|mk a b d=>rw[hr]at I E J;simp only at I E J;rw[I,E,J];rfl
   rw[A5 (by grind),L,hz];simp only;by_cases U:e.kind=2;rw[A7 U,A7 U];unfold zE cP;split;exact .no _;rename_i s hs;rcases aT (c:=c) (Tu s e.targs) e.kids.tail _ _ (by simp) (Z vs λx hx=>by grind)with⟨I,E⟩|⟨I,⟨E,J⟩|⟨E,J,L⟩⟩;unfold Qy;rw[A5 (by grind)];exact .inl ⟨I,E⟩;unfold Qy;rw[A5 (by grind),J];exact .inr ⟨I,.inl ⟨E,rfl⟩⟩;rw[L];unfold Qy;split;exact .inl ⟨rfl,rfl⟩;exact .inr ⟨I,.inr ⟨E,J,rfl⟩⟩;rw[A5 U,A5 U];by_cases O:e.kind=4;rw[A7 O,A7 O];unfold Zp DN;split;exact .no _;split;split;exact .no _;unfold Qy;split;exact .inl ⟨rfl,rfl⟩;exact .inr ⟨rfl,.inr ⟨rfl,rfl,rfl⟩⟩;exact .no _;rw[A5 O,A5 O];unfold NI aO;split;exact .no _;split;exact .no _;exact .inr ⟨rfl,.inr ⟨rfl,rfl,rfl⟩⟩
def sL{c:Cd}{e:Ex}(h:(Da c e).2.bad=false):Dc c e=((Da c e).1,none):=by rcases vo c e with⟨_,E⟩|⟨_,⟨E,_⟩|⟨_,_,I⟩⟩;all_goals grind
def Fj(l:List A3):List Ty:=l.map λv=>.mk v [] 0
def Fq(p:Prog)(d:Decl):List Aj:=((Dm p d.name).zip d.vars).map λz=>⟨z.2,z.1.bound.subst (Ad (Dm p d.name)) (Fj d.vars),z.1.pos⟩
def Pu(p:Prog)(env:List Aj)(pre:List A3):List A4->Option Int
 |[]=>none
 |s::ss=>if s.name∈pre then some s.pos else match Iw p env s with
  |some q=>some q
  |none=>Pu p env (pre++[s.name]) ss
def Z5(p:Prog)(i:Nat)(d:Decl):Option Int :=if findD d.name p.decls 0≠(i:Int)then some d.pos else
 match Pn p [] d.A1 with
 |some q=>some q
 |none=>if d.kind=1 then(match Kc p d.A1 [] d.fields with
   |some q=>some q
   |none=>if d.name∈N9 p d.name then some d.pos else none)else Pu p d.A1 [] d.sigs
def W9(p:Prog)(pre:List A3):List A3->Bool
 |[]=>false
 |v::vs=>decide (kindOf p v≠0\/v∈pre) ||W9 p (pre++[v]) vs
def HL(d:Decl):Option Int->Option Int
 |some q=>some q
 |none=>(d.sig.params.find? λf=>decide (f.name=d.recv)).map (·.pos)
def xD(p:Prog)(i:Nat)(d:Decl):Option Int :=if kindOf p d.name≠1\/d.vars.length≠(Dm p d.name).length then some d.pos else
 if W9 p [] d.vars=true then some d.pos else
 if N4 p d.name d.sig.name≠(i:Int)then some d.pos else
 HL d (Iw p (Fq p d) d.sig)
def Pm(p:Prog)(i:Nat)(d:Decl):Option Int:=if d.kind=1\/d.kind=2 then Z5 p i d else if d.kind=3 then xD p i d else some d.pos
def iD(d:Decl):Ty:=.mk d.name (Fj d.vars) 0
def Hv(p:Prog)(st:Bool)(d:Decl):Cd:=⟨p,st,Fq p d++d.sig.A1,⟨d.recv,iD d,0⟩::d.sig.params⟩
def Wy(p:Prog)(st:Bool)(d:Decl):Fw:=if d.kind=3 then P5 (Hv p st d) d.sig.result d.body (Da (Hv p st d) d.body)else Gx
def Xb(p:Prog)(st:Bool):List Decl->Nat->Fw
 |[],_=>(Da ⟨p,st,[],[]⟩ p.main).2
 |d::ds,i=>match Pm p i d with
  |some q=>Lp q
  |none=>if(Wy p st d).bad=true then Wy p st d else Xb p st ds (i+1)
def Yd(p:Prog)(st:Bool):Fw:=Xb p st p.decls 0
def tV{p:Prog}{st:Bool}:∀{l:List Decl} {i:Nat},(Xb p st l i).bad=false->∀(k:Nat)(d:Decl),l[k]?=some d->Pm p (i+k) d=none/\(Wy p st d).bad=false
 |[],_,_=>by simp
 |x::l,i,h=>by
  intro k d I;rw[Xb]at h;cases E:Pm p i x with
  |some q=>rw[E]at h;cases h
  |none =>
   rw[E]at h;simp only at h;split at h;grind
   .rename_i J;cases k with
    |zero=>grind
    |succ k =>rw[WC]at I;have:=tV h k d I;grind
abbrev Pt(t:Ty):List SV:=[.d (.str t.name),.d (.slice (Au t.args)),.d (.int .i64 t.pos)]
abbrev Ti(d:Decl):List SV:=[.d (.int .i64 d.kind),.d (.str d.name),.d (.slice (Ai d.A1)),.d (.slice (Aw d.fields)),.d (.slice (B4 d.sigs)),.d (.str d.recv),.d (.slice (Bq d.vars)),.d (.str d.sig.name),.d (.slice (Ai d.sig.A1)),.d (.slice (Aw d.sig.params)),.d (.str d.sig.result.name),.d (.slice (Au d.sig.result.args)),.d (.int .i64 d.sig.result.pos),.d (.int .i64 d.sig.pos),.d (.int .i64 d.body.kind),.d (.str d.body.name),.d (.str d.body.type.name),.d (.slice (Au d.body.type.args)),.d (.int .i64 d.body.type.pos),.d (.slice (Au d.body.targs)),.d (.slice (Ed d.body.kids)),.d (.int .i64 d.body.pos),.d (.int .i64 d.pos)]
mutual
def B3:Ex->List Ex
 |.mk k n t a ks q=>.mk k n t a ks q::Cx ks
def Cx:List Ex->List Ex
 |[]=>[]
 |e::es=>B3 e++Cx es
end
def L0(e:Ex):B3 e=e::Cx e.kids:=by cases e;rw[B3];rfl
def CD:∀a b:List Ex,Cx (a++b)=Cx a++Cx b
 |[],_=>rfl
 |x::a,b=>by simp only[Kn,Cx,CD a b,H3]
def e9:∀{l:List Ex} {x:Ex},x∈l->(B3 x).length<=(Cx l).length
 |[],_,h=>by simp at h
 |y::l,x,h=>by rw[Cx,B5];rcases Ay.1 h with rfl|h;omega;have:=e9 h;omega
def Bl:∀l:List Ex,l.length<=(Cx l).length
 |[]=>Bv _
 |y::l=>by have:=Bl l;rw[Cx,B5,L0];simp only[Bg];omega
def yl(l:List Ex)(j:Nat):(Cx (l.take j)).length<=(Cx l).length:=by
 conv=>rhs;rw[<-Ue j l,CD,B5]
 omega
def HJ{Q:Ex->Prop}(U:∀e:Ex,Q e->∀x,x∈e.kids->Q x):∀e:Ex,Q e->∀x,x∈B3 e->Q x:=by
 intro e;induction e using Ex.induct with|_ e L=>?_;intro J x hx;rw[L0,Ay]at hx;rcases hx with rfl|hx;exact J
 have:∀l:List Ex,(∀y,y∈l->y∈e.kids)->x∈Cx l->Q x:=λl=>by
  induction l with
  |nil=>intro _ h;simp[Cx]at h
  |cons y l E =>
   intro I h;rw[Cx,Bj]at h;rcases h with h|h;exact L y (I y (by simp)) (U e J y (I y (by simp))) x h;exact E (λz O=>I z (by simp[O])) h
 exact this e.kids (λ_ h=>h) hx
abbrev iE:=[0,1,2,3,4,6,11]
def pP:∀e:Ex,(B3 e).length<=sm->Ab prog 45 [D6 e] (.d (.slice (Ed (B3 e)))):=by
 intro e
 induction e using Ex.induct with
 |h e U =>
 intro O;rw[L0]at O |-;simp only[Bg]at O;have a0:=Bl e.kids;refine cB func45 ?_;refine sR iE ?_
 (refine jA iE [6] (by decide +kernel) λK z=>?_;refine ev ?_;apply z)
 refine kR iE λK1 u1=>?_;refine bA (A0.ii e.kids (X:=Unit) (λj _=>[(1,.box 1 0),(3,.acc 6),(4,A6 j)]) (λj _=>[(1,.cells (exS e)),(6,.rows 8 (Ed (e::Cx (e.kids.take j))))]) (λj _=>True) () trivial sS (by simp[ble,A9,Cx,P8,Ce]) ?_ ?_)
 rotate_left
 .intro j _ u hu I dp tk L _;have W:=e9 I;have Z:=U u I (by omega);have V:=yl e.kids j;have E:=yl e.kids (j+1);rw[tk,CD]at E;simp only[Cx,Fv,B5]at E;rw[tk,CD];simp only[Cx,Fv];generalize Cx (e.kids.take j)=A at*;generalize B3 u=B at*;refine Ag L iE λJ u2=>?_;refine gI u2 ?_;refine sK λJ u2=>bA ?_
  (refine lV iE λK z=>?_;refine ci (Ey hu) ?_;refine cc Z ?_;refine⟨UU _,by unfold lim sm at*;omega,?_⟩;(try refine ev ?_);apply z;try simp only[Aa,Af])
  apply u2;refine lT iE ?_;exact⟨(),trivial,sS,by simp[ble,A9,P8,Ce]⟩
 intro _ _;rw[Ca];refine Ag B1 iE λJ u2=>?_;refine sE ?_;refine u1 _ _<|sR iE ?_;exact aR
end Go.iA
