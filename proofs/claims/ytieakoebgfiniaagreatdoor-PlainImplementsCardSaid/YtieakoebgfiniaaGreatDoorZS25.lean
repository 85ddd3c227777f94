/- sorting by name: the comparison walked with the kit -/
import Derived.Test.YtieakoebgfiniaaGreatDoorZShelfS
import Derived.Test.YtieakoebgfiniaaGreatDoorZS18
set_option linter.all false
set_option maxHeartbeats 1000000
set_option maxRecDepth 100000
namespace Go.Abs
open Go Go.Proofs Go.RowKit Go.Lib Go.Sort Tryz
abbrev sv(a:A2):Value:=.string ⟨a.toArray⟩
def E1i(a:A2)(W:World):Calls prog 267 #[sv a] W λe w'=>e=.returned (.bool false)/\w'=W:=by
 go_enter func267,ntmps267
 go_wp2
 go_ret
 exact⟨rfl,rfl⟩
def G2s(a b:A2)(W:World)(t:TypeId):(binOp .gtr t (sv a) (sv b)).run prog W=.ok (.bool (Op.bytesLess b a)) W:=by
 have:=C7p a b;have e:(!Op.bytesLess a b && !a ==b)=Op.bytesLess b a:=by rw[<-Bool.not_or,this,Bool.not_not]
 simp[binOp,Op.stringOp,e]
def G3g(a b:A2)(W:World):Calls prog 179 #[sv a,sv b] W λe w'=>e=.returned (.int .i64 (Bt a b))/\w'=W:=by
 obtain⟨O,U,L⟩:=C4k a b;have I:=λW=>E1i a W;have E:=λW=>E1i b W;generalize Bt a b=c at*
 go_enter func179,ntmps179
 go_wp2_with (first|rw[G2s]| (go_at_call 267;first| (refine(I _).mono ?_;rintro e w' ⟨rfl,J⟩;rw[J])| (refine(E _).mono ?_;rintro e w' ⟨rfl,J⟩;rw[J])))
 all_goals (go_ret;refine⟨?_,rfl⟩;rcases L with h|h|h <;> simp_all)
def F4c(a b:A2)(W:World):Calls prog 103 #[sv a,sv b] W λe w'=>e=.returned (.int .i64 (Bt a b))/\w'=W:=by
 have E:=G3g a b W;generalize Bt a b=c at*
 go_enter func103,ntmps103
 go_wp2_with (go_at_call 179;refine E.mono ?_;rintro e w' ⟨rfl,I⟩;rw[I])
 go_ret
 exact⟨rfl,rfl⟩
def G9h(a b:A2)(a1 a2 I a4 O a6 b1 L J Z U V:Value)(W:World):Calls prog 102 #[.agg #[sv a,a1,a2,I,a4,O,a6],.agg #[sv b,b1,L,J,Z,U,V]] W λe w'=>e=.returned (.int .i64 (Bt a b))/\∃q E,w'=grow (W.drewN q) E:=by
 have hc:=λW=>F4c a b W;generalize Bt a b=c at*
 go_enter func102,ntmps102
 go_wp2_with (go_at_call 103;refine(hc _).mono ?_;rintro e w' ⟨rfl,rfl⟩)
 go_ret
 exact⟨rfl,0,_,by rw[alloc_eq_grow,alloc_eq_grow,grow_grow];rfl⟩
open Go Go.Proofs Go.Sort Tryz
def X4:∀a b:A2,Bt b a = - Bt a b
 |[],[]=>rfl
 |[],_::_=>rfl
 |_::_,[]=>rfl
 |x::xs,y::ys=>by
  have E:=X4 xs ys;simp only[Bt,Ak0];rcases Ar7 x.toNat y.toNat with h|h|h
  .have:¬y.toNat<x.toNat:=by omega
   simp[h,this]
  .simp[h,E]
  .have:¬x.toNat<y.toNat:=by omega
   simp[h,this]
def B4q:∀a b c:A2,Bt a b<0->Bt b c<0->Bt a c<0
 |[],[],_,h,_=>by simp[Bt]at h
 |[],_::_,[],_,h=>by simp[Bt]at h
 |[],_::_,_::_,_,_=>by simp[Bt]
 |_::_,[],_,h,_=>by simp[Bt]at h
 |_::_,_::_,[],_,h=>by simp[Bt]at h
 |x::xs,y::ys,z::U,J,E=>by
  have V:=B4q xs ys U;simp only[Bt,Ak0]at*;by_cases W:x.toNat<y.toNat
  .by_cases L:y.toNat<z.toNat
   .rw[A8 (by omega)];decide
   .rw[A6 L]at E;by_cases I:z.toNat<y.toNat
    .rw[A8 I]at E;omega
    .rw[A8 (by omega)];decide
  .rw[A6 W]at J;by_cases O:y.toNat<x.toNat
   .rw[A8 O]at J;omega
   .rw[A6 O]at J;by_cases L:y.toNat<z.toNat
    .rw[A8 (by omega)];decide
    .rw[A6 L]at E;by_cases I:z.toNat<y.toNat
     .rw[A8 I]at E;omega
     .rw[A6 I]at E;rw[A6 (by omega),A6 (by omega)];exact V J E
def C1y(a b c:A2)(L:Bt a b<=0)(J:Bt b c<=0):Bt a c<=0:=by
 by_cases E:Bt a b=0
 .rw[Se]at E;rw[E];exact J
 .by_cases I:Bt b c=0
  .rw[Se]at I;rw[<-I];exact L
  .have:=B4q a b c (by omega) (by omega);omega
def F8o{α:Type}(nm:α->A2):SWO (ltOf λx y:α=>Bt (nm x) (nm y)) where
 irrefl x:=by simp[ltOf,C5r]
 trans x y z h1 h2:=by simp only[ltOf,Dp]at*;exact B4q _ _ _ h1 h2
 ntrans x y z h1 h2:=by simp only[ltOf,Z1]at*;have E:=X4 (nm x) (nm y);have I:=X4 (nm y) (nm z);have J:=X4 (nm x) (nm z);have:=C1y (nm z) (nm y) (nm x) (by omega) (by omega);omega
def Re(l:List A3):List A3:=l.mergeSort λa b=>decide (Bt a.name b.name<=0)
def Z3(l:List A3):(Re l).Perm l:=List.mergeSort_perm _ _
def G0f(l:List A3):(Re l).Pairwise λa b=>Bt a.name b.name<=0:=by
 refine(List.pairwise_mergeSort (le:=λa b:A3=>decide (Bt a.name b.name<=0)) ?_ ?_ l).imp (by simp)
 .intro a b c I E;simp only[Dp]at*;exact C1y _ _ _ I E
 .intro a b;have:=X4 a.name b.name;simp only[Vp,Dp];omega
def E4n{l J:List A3}(hn:(l.map (·.name)).Nodup)(V:J.Perm l)(hs:J.Pairwise λa b=>Bt a.name b.name<=0):J=Re l:=by
 refine List.Perm.eq_of_pairwise (le:=λa b:A3=>Bt a.name b.name<=0) ?_ hs (G0f l) (V.trans (Z3 l).symm);intro a b ha hb I Z;have:=X4 a.name b.name;have he:a.name=b.name:=Se.1 (by omega);have L:a∈l:=V.mem_iff.1 ha;have U:b∈l:=(Z3 l).mem_iff.1 hb;obtain⟨i,W⟩:=Qu L;obtain⟨j,O⟩:=Qu U;have I:(l.map (·.name))[i]?=some a.name:=by simp[W]
 have Z:(l.map (·.name))[j]?=some a.name:=by simp[O,he]
 have E:i<(l.map (·.name)).length:=(Az.1 I).1;have:=(List.getElem?_inj E hn).1 (I.trans Z.symm);subst this;rw[W]at O;simpa using O
def C4m{sl:SL}{bx:Ab}{dst:Option Nat}{x:Operand}{Da:List TypeId}(k:Nat)(l:List A3)(hx:Ao sl x=.acc k)(hb:A7 bx k=some (.rows 7 (B0 l)))(hn:(l.map (·.name)).Nodup)(b0:l.length<=sm) :
  OpB prog sl bx dst (.call ⟨.value (.func 101),[x,.func 102].toArray,Da.toArray⟩) (.tuple []) ((k,.rows 7 (B0 (Re l)))::Cd k bx) []:=by
 intro o ho _ C S w β a hi ha;have hE:Enters prog 101:=(Enters.of func101 rfl (by decide));have ag:=ha x (mC ho);rw[hx]at ag;have a7:=Gu hb;obtain⟨q1,q2,q3,q4,q5,q6,q7⟩:=hi.box k _ a7;generalize hv:a.eval x=v at ag;cases ag;have U:(#[x,.func 102].map a.eval)++(#[]:Array Value) = #[.slice ((β k).base.map λb=>⟨b,(β k).off*(β k).sz,none⟩) (β k).len (β k).cap,.func (.func 102) #[] #[]]:=by apply Kt;rw[Array.toList_append,Aq7];show[a.eval x,Value.func (.func 102) #[] #[]]++[]=_;rw[hv];rfl
 have b9:a.eval (.func 101)=.func (.func 101) #[] #[]:=rfl;refine I7 ?_;unfold Oper.wp;rw[Yh hE ho b9,X2];have a8:l.length=(β k).len:=by rw[<-q2];simp[B0]
 have ab:([x,.func 102].toArray.map a.eval)++(#[]:Array Value) = #[.slice ((β k).base.map λb=>⟨b,(β k).off*(β k).sz,none⟩) (β k).len (β k).cap,.func (.func 102) #[] #[]]:=U;rw[ab];clear ab U;generalize L:(β k).base=ob at q7;cases ob with
 |none =>
  simp only at q7;have ba:l=[]:=Zp (by omega);subst ba;rw[show(β k).len=0 by omega];refine(AnyF.slices_SortFunc_none Qp _ _ _ w).mono ?_;rintro e w' ⟨rfl,rfl⟩;refine⟨_,S,β,rfl,hi.sub λj c W=>?_,C4.refl S _,.tuple [] [] rfl (by simp),λ_ _=>rfl⟩;rcases B1.1 W with h|h
  .rw[h,show Re []=[] by simp[Re]];exact a7
  .exact(Ee.1 h).2
 |some b =>
  simp only at q7;obtain⟨ty,vs,hh,ay,az⟩:=q7;obtain⟨n,bg⟩:∃n,n=l.length:=⟨_,rfl⟩
  let nm:Nat->A2:=λi=>((l[i]?).getD default).name
  have ae:∀i,i<n->((β k).off+i)*7+7<=vs.length:=λi h=>by have Z:((β k).off+i+1)*7<=((β k).off+(β k).cap)*7:=Hp _ (by omega);omega
  let enc:Nat->List Value:=λi=>if i<n then(vs.drop (((β k).off+i)*7)).take 7 else[sv (nm i),.int .i64 0,.int .i64 0,.int .i64 0,.int .i64 0,.int .i64 0,.int .i64 0]
  have I:∀i,(enc i).length=7:=λi=>by
   simp only[enc];split
   .rename_i h;have:=ae i h;rw[D4,Ap1];omega
   .rfl
  have V:∀i j,i<n->j<7->(enc i)[j]?=vs[((β k).off+i)*7+j]?:=λi j h W=>by simp only[enc,A8 h];rw[An5 W,Wn]
  have rowAt:∀i,i<n->∃s,l[i]?=some s/\(B0 l)[i]?=some (Dd s):=λi h=>⟨l[i]'(by omega),Bi _,D1 (Bi _)⟩;have J:∀i j s v,l[i]?=some s->(enc i)[j]?=some v->∃d,(Dd s)[j]?=some d/\Bu S w d v:=λi j s v hs he=>by
   have ah:i<n:=by have:=(Az.1 hs).1;omega
   have W:j<7:=by have:=(Az.1 he).1;rw[I]at this;exact this
   rw[V i j ah W]at he;have aq:j<(Dd s).length:=by rw[show(Dd s).length=7 from rfl];exact W
   exact⟨_,Bi aq,az i j (Dd s) _ v (D1 hs) (Bi aq) he⟩
  have aa:∀i,∀v∈enc i,v.oneCell'=true:=λi v hv=>by
   by_cases h:i<n
   .obtain⟨s,hs,hr⟩:=rowAt i h;obtain⟨j,W⟩:=Qu hv;obtain⟨d,Z,h2⟩:=J i j s v hs W;exact h2.one (q6 _ (C6 hr) d (C6 Z))
   .simp only[enc,A6 h,B1,E5,Ea]at hv;rcases hv with rfl|rfl|rfl|rfl|rfl|rfl|rfl <;> rfl
  have O:∀i,∃a1 a2 a3 a4 a5 a6,enc i=[sv (nm i),a1,a2,a3,a4,a5,a6]:=λi=>by
   by_cases h:i<n
   .obtain⟨s,hs,hr⟩:=rowAt i h;have hl:=I i;have h0:=J i 0 s
    match he:enc i,hl with
    |[v0,a1,a2,a3,a4,a5,a6],_ =>
     obtain⟨d,Z,h2⟩:=h0 v0 hs (by rw[he];rfl);have:d=.str s.name:=by simpa [Dd]using Z.symm
     subst this;have:v0=sv (nm i):=by have bf:=(Am.d (β:=β) _ _ h2).U1.1;rw[bf];simp only[nm,hs,Dz];rfl
     exact⟨a1,a2,a3,a4,a5,a6,by rw[this]⟩
   .exact⟨.int .i64 0,.int .i64 0,.int .i64 0,.int .i64 0,.int .i64 0,.int .i64 0,by simp only[enc,A6 h]⟩
  have au:CmpLays prog 102 #[] enc 7 (λx y=>Bt (nm x) (nm y)) b ((β k).off*7) (Array.range n).size w:=λm os dk _ x y=>by obtain⟨a1,a2,a3,a4,a5,a6,Z⟩:=O x;obtain⟨b1,b2,b3,b4,b5,b6,h2⟩:=O y;have:=G9h (nm x) (nm y) a1 a2 a3 a4 a5 a6 b1 b2 b3 b4 b5 b6 (sortWorldK enc 7 w b ((β k).off*7) m dk os);rw[Z,h2];exact this
  have hH:HoldsK enc 7 w b ((β k).off*7) (Array.range n):=λj W=>by
   rw[size_flatK,An8]at W;have ai:j / 7<n:=by omega
   have be:(flatK enc 7 (Array.range n))[j]! =(enc (j / 7))[j % 7]!:=by
    rw[get_flatK _ _ _ _ (by rw[An8];exact W)]
    congr 2
    rw[As0 _ _ (by rw[An8];exact ai),Array.getElem_range]
   have ax:=ae (j / 7) ai;have Sg:((β k).off+j / 7)*7+j % 7=(β k).off*7+j:=by omega
   have ac:(β k).off*7+j<vs.length:=by omega
   have bc:(enc (j / 7))[j % 7]! =vs[(β k).off*7+j]:=by have:=V (j / 7) (j % 7) ai (Ar6 _ (by decide));rw[Sg,Bi ac]at this;rw[List.getElem!_eq_getElem?_getD,this];rfl
   refine⟨?_,?_⟩
   .simp only[World.cell?,hh,Sk,id,be,bc];simp[ac]
   .simp[World.frozen?,hh]
  have b8:b<w.heap.size:=(hi.Ba k _ a7 b L).2.1;have hS:=hi.Ba k _ a7 b L;rw[q1,<-a8,<-bg];have a9:=AnyQ.slices_SortFunc Qp 7 isAgg55 sizeOf55 enc I aa (λx y=>Bt (nm x) (nm y)) (F8o nm) 102 #[] b ((β k).off*7) (β k).cap (Array.range n) w
   (enters_of func102 (by kernel_rfl) rfl) au hH b8 (by rw[An8];unfold sm at b0;omega)
  rw[An8]at a9;refine a9.mono ?_;rintro e w' ⟨rfl,E,m,os,af,a',rfl⟩;obtain⟨p1,_,p3⟩:=af;rw[An8]at p1;have p4:E.toList.Perm (List.range n):=by rw[show E.extract 0 n=E by rw[<-p1];exact Array.extract_size,show(Array.range n).extract 0 n=Array.range n by have:=Array.extract_size (xs:=Array.range n);rwa [An8]at this,Array.toList_range]at p3;exact p3
  have p5:∀i (h:i<E.size),E[i]<n:=λi h=>Ar8.1 (p4.mem_iff.1 (Array.getElem_mem_toList h));have ap:E.toList.map (λi=>(l[i]?).getD default)=Re l:=by
   refine E4n hn ?_ ?_
   .have Z:=p4.map λi=>(l[i]?).getD default;have h2:(List.range n).map (λi=>(l[i]?).getD default)=l:=by
     refine Ld λi=>?_;rw[Df];by_cases h:i<n
     .rw[Am0 h,Ez,Bi (by omega),Dz]
     .rw[List.getElem?_eq_none (by simp;omega),List.getElem?_eq_none (by omega)];rfl
    rw[h2]at Z;exact Z
   .rw[List.pairwise_map,Am4];intro i j ah aw b7;have Z:=a' i j (Ap6 _) b7 (by rw[<-p1];simpa using aw);rw[As0 E i (by simpa using ah),As0 E j (by simpa using aw)]at Z;simp only[ltOf,Z1]at Z;have h2:=X4 (nm E[i]) (nm E[j]);have h3:¬Bt (nm E[j]) (nm E[i])<0:=Z;have h4:Bt (nm E[i]) (nm E[j])<=0:=by omega
    simpa [nm]using h4
  have aj:=Z3 l;have bi:E.size=(Re l).length:=by rw[<-ap];simp
  have av:De S (putRowK enc 7 (Sort.ahead w m) b ((β k).off*7) E) β (β k) (.rows 7 (B0 (Re l))):=by
   refine⟨q1,by simp only[B0,Bc,aj.length_eq];exact a8,q3,by simp only[B0,Bc,aj.length_eq];unfold sm lim at*;omega,?_,?_,?_⟩
   .intro row hr;obtain⟨s,_,rfl⟩:=Au.1 hr;rfl
   .intro row hr d hd;obtain⟨s,hs,rfl⟩:=Au.1 hr;exact q6 _ (Au.2 ⟨s,aj.mem_iff.1 hs,rfl⟩) d hd
   .rw[L];refine⟨ty,(putCells id ((β k).off*7) (flatK enc 7 E) ⟨vs⟩).toList,?_,by simpa [putCells]using ay,?_⟩
    .simp[putRowK,putRow,mapBlock,Sort.ahead,An0,hh,onCells]
    .intro r j row d v hr hd hv;have bk:r<(Re l).length:=by have:=(Az.1 hr).1;simpa [B0]using this
     have ak:r<E.size:=by omega
     have ad:row=Dd ((l[E[r]]?).getD default):=by rw[<-ap]at hr;simp only[B0,Df,Am9,Xb ak,Ez,B5]at hr;exact hr.symm
     obtain⟨s,hs,_⟩:=rowAt _ (p5 r ak);rw[hs,Dz]at ad;subst ad;have W:j<7:=by have:=(Az.1 hd).1;rwa [show(Dd s).length=7 from rfl]at this
     have am:(flatK enc 7 E)[r*7+j]! =(enc E[r])[j]!:=by rw[get_flatK _ _ _ _ (by omega),show(r*7+j) / 7=r by omega,show(r*7+j) % 7=j by omega,As0 E r ak]
     have bj:=ae r (by omega);have ax:((β k).off+r)*7+j<vs.length:=by omega
     have bh:(enc E[r])[j]?=some v:=by
      rw[Am9,putCells,Array.getElem?_mapIdx]at hv;have hc:(⟨vs⟩:Array Value)[((β k).off+r)*7+j]?=some vs[((β k).off+r)*7+j]:=by simp[ax]
      rw[hc,Ez,A8 ⟨by omega,by rw[size_flatK];omega⟩,show((β k).off+r)*7+j - (β k).off*7=r*7+j by omega,am]at hv;have ar:j<(enc E[r]).length:=by rw[I];exact W
      rw[Bi ar];simp only[id,B5]at hv;rw[<-hv,As0 (enc E[r]) j ar]
     obtain⟨d2,e1,e2⟩:=J _ j s v hs bh;rw[e1]at hd;simp only[B5]at hd;subst hd;exact e2.ext ⟨λ_ h=>h,λb' a0=>by have ao:b≠b':=λhe=>hS.1 (he ▸ a0);simp[putRowK,putRow,mapBlock,Sort.ahead,An0,ao]⟩
  obtain⟨g1,g2⟩:=hi.B3d (w':=putRowK enc 7 (Sort.ahead w m) b ((β k).off*7) E) (c:=.rows 7 (B0 (Re l))) a7 L (λb' ao=>by simp[putRowK,putRow,mapBlock,Sort.ahead,An0,Xn ao]) rfl rfl rfl (by simp[putRowK,putRow,mapBlock,Sort.ahead]) av
  obtain⟨g3,g4⟩:=g1.grow (S':=S) (w':=Sort.grow (putRowK enc 7 (Sort.ahead w m) b ((β k).off*7) E) os) (λ_ h=>h) (λ_ h=>.inl h)
   (λb' a0=>by have:=g1.Bw b' a0;simp only[Sort.grow,Array.size_append];omega) (λb' a0=>by simp only[Sort.grow];exact Aq2 a0) rfl rfl rfl (by simp[Sort.grow])
  exact⟨_,S,β,rfl,g3,g2.trans g4,.tuple [] [] rfl (by simp),λ_ _=>rfl⟩
open Go Go.Proofs Tryz
def E7m(s:A3)(vars:List A2)(args:List Ty):(s.canon.subst vars args).name=s.name:=rfl
def D6e(vars:List A2)(args:List Ty)(l:List A3):∀j,j<=l.length->((Hn vars args l j).map (·.name)).Nodup/\∀n,n∈(Hn vars args l j).map (·.name)->∃y,y∈l.take j/\y.name=n
 |0,_=>by simp[Hn]
 |j+1,h=>by
  obtain⟨L,J⟩:=D6e vars args l j (by omega);have ht:l.take (j+1)=l.take j++[l[j]]:=by rw[Au1,Bi (by omega)];rfl
  rw[C3m (by omega) ht,ht];split
  .rename_i U;simp only[Pf,Dp]at U;rw[G0,Ao4];refine⟨⟨L,by simp,?_⟩,?_⟩
   .rintro a V b O rfl;simp only[Ck,G3,B1,E5,Ea]at O;obtain⟨y,I,E⟩:=J a V;exact U y I (E.trans O)
   .intro n hm;rcases Bz.1 hm with hm|hm
    .obtain⟨y,I,E⟩:=J n hm;exact⟨y,Bz.2 (.inl I),E⟩
    .simp only[Ck,G3,B1,E5,Ea]at hm;exact⟨l[j],Bz.2 (.inr (by simp)),hm.symm⟩
  .rw[Fj];exact⟨L,λn hm=>by obtain⟨y,I,E⟩:=J n hm;exact⟨y,Bz.2 (.inl I),E⟩⟩
def B7b(p:Prog)(x:Ty):∀j,j<=p.decls.length->((Gk p x j).map (·.name)).Nodup/\∀n,n∈(Gk p x j).map (·.name)->∃i,i<j/\Kb p x n=(i:Nat)
 |0,_=>by simp[Gk]
 |j+1,h=>by
  obtain⟨L,I⟩:=B7b p x j (by omega);have ht:p.decls.take (j+1)=p.decls.take j++[p.decls[j]]:=by rw[Au1,Bi (by omega)];rfl
  rw[C2u (by omega) ht];split
  .rename_i J;simp only[Ii,Bb,Dp]at J;rw[G0,Ao4];refine⟨⟨L,by simp,?_⟩,?_⟩
   .rintro a V b U rfl;simp only[Ck,G3,B1,E5,Ea]at U;obtain⟨i,O,E⟩:=I a V;rw[U,E7m,J.2]at E;omega
   .intro n hm;rcases Bz.1 hm with hm|hm
    .obtain⟨i,O,E⟩:=I n hm;exact⟨i,by omega,E⟩
    .simp only[Ck,G3,B1,E5,Ea]at hm;exact⟨j,by omega,by rw[hm,E7m];exact J.2⟩
  .rw[Fj];exact⟨L,λn hm=>by obtain⟨i,O,E⟩:=I n hm;exact⟨i,by omega,E⟩⟩
def Cw(p:Prog)(env:List Ah)(x:Ty):List A3:=if Bh p ((Cs env x).getD x) 2=true then Gs p ((Cs env x).getD x)else if(Cs env x).isSome=true then[]else Gk p ((Cs env x).getD x) p.decls.length
def C7(p:Prog)(env:List Ah)(x:Ty):List A3:=Re (Cw p env x)
def B8o(p:Prog)(x:Ty):((Gs p x).map (·.name)).Nodup:=by
 unfold Gs;split
 .exact(D6e _ _ _ _ (Bs _)).1
 .simp
def B7c(p:Prog)(h:p.Sm)(x:Ty):(Gs p x).length<=sm:=by
 unfold Gs;split
 .rename_i E;obtain⟨d,hd,_⟩:=Mm (by decide) E;rw[hd,Dz];exact Cp (B5d _ _ _ _) (h.decls.2 d (P9 hd)).sigs.1
 .simp
def C6k{env:List Ah}{x y:Ty}(I:∀f,f∈env->f.Sm)(h:Cs env x=some y):y.Sm:=by
 unfold Cs at h;split at h
 .simp at h
 .rw[Jv]at h;obtain⟨f,E,rfl⟩:=h;exact(I f (C6 E)).bound
abbrev Ls:List Nat:=[0,1,2,5,6,7,8,9,10,17,22,30,33]
def C6q(p:Prog)(h:p.Sm)(env:List Ah)(a3:env.length<=sm)(he:∀f,f∈env->f.Sm)(x:Ty)(hx:x.Sm):Aa prog 45 [.A9 (Dh p) 0,.d (.slice (Ag env)),B7 x] (.d (.slice (B0 (C7 p env x)))):=by
 have W:=B9u env x a3 he;unfold C7 Cw;have a2:=h.decls.1;have a0:∀y,Cs env x=some y->y.Sm:=λy=>C6k he;generalize Cs env x=o at*;cases o with
 |some y =>
  have hy:=a0 y rfl;simp only[Yj]at W;simp only[Dz,Ar3,Af];have E:=C9c p h y hy;have I:=B8o p y;have J:=B7c p h y;have Z:Bh p y 2=false->Gs p y=[]:=λhf=>by unfold Gs;rw[A6 (by rw[hf];decide)]
  rw[show(if Bh p y 2=true then Gs p y else[])=Gs p y by cases hf:Bh p y 2 with|false=>rw[A6 (by decide),Z hf]|true=>rw[A8 rfl]];generalize Bh p y 2=bb at*;refine cB func45 ?_;refine sR Ls ?_;refine sC W Ls ?_;refine kR Ls λL u1=>?_;refine A0.tt rfl ?_
  (refine lV Ls λK z=>?_;apply z;clear z K;try simp only[A4,])
  refine u1 _ _ ?_;clear u1 L
  (refine A0.D7 Ls [22] (by decide +kernel) λK z=>?_;refine ev ?_;refine⟨_,_,_,_,_,rfl,E,?_⟩;(try refine ev ?_);apply z;clear z K)
  refine sK λL u1=>?_;have O:∀sl bx,Ae sl 9=.acc 22->A7 bx 22=some (.rows 7 (B0 (Gs p y)))->L sl bx:=λsl bx g1 g2=>by
   refine u1 _ _<|A0.ww (sl':=[(9,.acc 22)]) (bx':=[(22,.rows 7 (B0 (Gs p y)))]) (by simp[sle,Ay,g1]) (by simp[ble,g2]) ?_
   (refine A0.D7 Ls [800035] (by decide +kernel) λK z=>?_;refine ev ?_;refine⟨_,_,_,C4m 22 (Gs p y) rfl rfl I J,?_⟩;(try refine ev ?_);apply z;clear z K)
   refine sR Ls ?_;exact aR
  cases bb
  .refine sR Ls ?_;refine A0.ff rfl (A0.kk (O _ _ rfl rfl))
  .refine sR Ls ?_;refine A0.ff rfl (A0.kk (O _ _ rfl rfl))
 |none =>
  simp only[Xa,Sk,A6 (show ¬(false=true) by decide)];simp only[Yj]at W;have E:=C9c p h x hx;have a1:=G7a p h x hx;have I:=B8o p x;have J:=B7c p h x;have V:=(B7b p x p.decls.length (Bs _)).1;have U:=Cp (A8h p x p.decls.length) a2;generalize Bh p x 2=bb at*;refine cB func45 ?_;refine sR Ls ?_;refine sC W Ls ?_;refine kR Ls λL u1=>?_;refine A0.ff rfl (A0.kk (u1 _ _ ?_));clear u1 L
  (refine A0.D7 Ls [22] (by decide +kernel) λK z=>?_;refine ev ?_;refine⟨_,_,_,_,_,rfl,E,?_⟩;(try refine ev ?_);apply z;clear z K)
  refine sK λL u1=>?_;cases bb
  .refine sR Ls ?_;refine A0.tt rfl ?_
   (refine A0.A0n Ls [33] (by decide +kernel) λK z=>?_;refine ev ?_;refine⟨_,_,_,_,_,rfl,a1,?_⟩;(try refine ev ?_);apply z;clear z K;try simp only[A4,])
   refine u1 _ _ ?_;rw[A6 (by decide)]
   (refine A0.D7 Ls [800035] (by decide +kernel) λK z=>?_;refine ev ?_;refine⟨_,_,_,C4m 33 (Gk p x p.decls.length) rfl rfl V U,?_⟩;(try refine ev ?_);apply z;clear z K)
   refine sR Ls ?_;exact aR
  .refine sR Ls ?_;refine A0.ff rfl (A0.kk (u1 _ _ ?_));rw[A8 rfl]
   (refine A0.D7 Ls [800035] (by decide +kernel) λK z=>?_;refine ev ?_;refine⟨_,_,_,C4m 22 (Gs p x) rfl rfl I J,?_⟩;(try refine ev ?_);apply z;clear z K)
   refine sR Ls ?_;exact aR
def A5o(m:List A3)(i j:Nat):Prop:=∀(a b:Nat)(s t:A3),a<b->b<=i->b≠j->m[a]?=some s->m[b]?=some t->Bt s.name t.name<=0
def A5m(m:List A3)(j:Nat)(s t:A3):List A3:=(m.set j s).set (j - 1) t
def D4v{m:List A3}{j:Nat}{s t:A3}(O:0<j)(hs:m[j - 1]?=some s)(ht:m[j]?=some t)(a:Nat) :
  (A5m m j s t)[a]?=if a=j - 1 then some t else if a=j then some s else m[a]?:=by
 have L:=(Az.1 hs).1;have J:=(Az.1 ht).1;unfold A5m;rw[Ao5,Ao5];by_cases E:a=j - 1
 .subst E;simp;omega
 .by_cases I:a=j
  .subst I;simp[E,Xn E,J]
  .simp[E,I,Xn E,Xn I]
def E8m{m:List A3}{j:Nat}{s t:A3}(I:0<j)(hs:m[j - 1]?=some s)(ht:m[j]?=some t):(A5m m j s t).Perm m:=by
 have E:=(Az.1 hs);have O:=(Az.1 ht);obtain⟨L,rfl⟩:=E;obtain⟨U,rfl⟩:=O;have W:m=m.take (j - 1)++m[j - 1]::m[j]::m.drop (j+1):=by
  conv=>lhs;rw[<-Uz (j - 1) m]
  rw[Gb L]
  congr 2
  have:j - 1+1=j:=by omega
  rw[this,Gb U]
 have J:A5m m j m[j - 1] m[j]=m.take (j - 1)++m[j]::m[j - 1]::m.drop (j+1):=by
  refine Ld λa=>?_;rw[D4v I hs ht];have Z:(m.take (j - 1)).length=j - 1:=by rw[D4];omega
  by_cases V:a<j - 1
  .rw[A6 (by omega),A6 (by omega),L4 (by omega),An5 V]
  .rw[Kd (by omega),Z];obtain⟨c,rfl⟩:∃c,a=j - 1+c:=⟨a - (j - 1),by omega⟩;rw[show j - 1+c - (j - 1)=c by omega]
   match c with
   |0=>simp
   |1=>rw[A6 (by omega),A8 (by omega)];simp
   |c+2 =>
    rw[A6 (by omega),A6 (by omega)];simp only[Ai7,Wn]
    congr 1;omega
 rw[J]
 conv=>rhs;rw[W]
 exact List.Perm.append_left _ (List.Perm.swap ..)
def A5o.step{m:List A3}{i j:Nat}{s t:A3}(h:A5o m i j)(hj:0<j)(Z:j<=i)(hs:m[j - 1]?=some s)(ht:m[j]?=some t)(a0:Bt t.name s.name<0):A5o (A5m m j s t) i (j - 1):=by
 intro a b u v U J O E I;rw[D4v hj hs ht]at E I;rw[A6 O]at I;by_cases V:b=j
 .subst V;simp only[Af,B5]at I;subst I;by_cases L:a=b - 1
  .rw[A8 L]at E;simp only[B5]at E;subst E;omega
  .rw[A6 L,A6 (by omega)]at E;exact h a (b - 1) u s (by omega) (by omega) (by omega) E hs
 .rw[A6 V]at I;by_cases L:a=j - 1
  .rw[A8 L]at E;simp only[B5]at E;subst E;exact h j b t v (by omega) J (by omega) ht I
  .rw[A6 L]at E;by_cases W:a=j
   .rw[A8 W]at E;simp only[B5]at E;subst E;exact h (j - 1) b s v (by omega) J (by omega) hs I
   .rw[A6 W]at E;exact h a b u v U J V E I
def A2y(m:List A3)(i:Nat):Prop:=∀(a b:Nat)(s t:A3),a<b->b<i->m[a]?=some s->m[b]?=some t->Bt s.name t.name<=0
def A2y.start{m:List A3}{i:Nat}(h:A2y m i):A5o m i i:=λa b s t E I J hs ht=>h a b s t E (by omega) hs ht
def A5o.done{m:List A3}{i j:Nat}(h:A5o m i j)(hd:j=0\/∃s t,m[j - 1]?=some s/\m[j]?=some t/\Bt s.name t.name<=0):A2y m (i+1):=by
 intro a b s t I O hs ht;by_cases E:b=j
 .subst E;rcases hd with W|⟨u,v,J,V,L⟩
  .omega
  .rw[V]at ht;simp only[B5]at ht;subst ht;by_cases U:a=b - 1
   .subst U;rw[J]at hs;simp only[B5]at hs;subst hs;exact L
   .exact C1y _ _ _ (h a (b - 1) s u (by omega) (by omega) (by omega) hs J) L
 .exact h a b s t I (by omega) E hs ht
def A2y.sorted{m l:List A3}(O:(l.map (·.name)).Nodup)(L:m.Perm l)(h:A2y m m.length):m=Re l:=by refine E4n O L ?_;rw[Am4];intro i j J I E;exact h i j _ _ E I (Bi J) (Bi I)
def F1g(m:List A3)(j:Nat)(s:A3):B0 (m.set j s)=(B0 m).set j (Dd s):=by simp only[B0,List.map_set]
def A0.G3k{ro:Option Nat}{P:Program}{n:Nat}{Q:Exit->SL->Ab->Prop}{sl:SL}{bx:Ab}{c:Code}(t k I sz:Nat)(rs:List (List D))(O:I<=999999)
  (hx:(Ae sl t=.acc k/\A7 bx k=some (.rows sz rs))\/(Ae sl t=.d .nil/\rs=[]))(h:A0 ro P n c Q [(t,.acc I)] [(I,.rows sz rs)]):A0 ro P n c Q sl bx:=by
 rcases hx with⟨V,h2⟩|⟨V,rfl⟩
 .intro C S w β a hs;have U:=Gu h2;obtain⟨b1,Z⟩:=And.intro (hs.inv.box k _ U) (hs.inv.Ba k _ U);refine h C S w (Ed β I (β k)) a ⟨?_,hs.size,hs.defers,λu=>?_⟩
  .refine hs.inv.step (C4.refl S w) (λb L=>.inl L) hs.inv.Bw (λb _ _=>rfl) rfl rfl rfl (Bs _) ?_ ?_ (λj E=>Lu (by omega)) ?_
   .intro j c E;simp only[B1,Fp,E5,Ea]at E;obtain⟨rfl,rfl⟩:=E;rw[Gw];exact⟨De.ext (c:=.rows sz rs) b1 (C4.refl _ _) (λ_ _=>rfl) (by simp[Aq.has]),λb L=>⟨(Z b L).1,(Z b L).2.1,.inr ⟨k,_,U,L⟩⟩⟩
   .intro j c j' c' E J b _ _;simp only[B1,Fp,E5,Ea]at E J;exact⟨E.1.trans J.1.symm,E.2.trans J.2.symm⟩
   .intro j Y st E;simp at E
  .simp only[Ae];split
   .rename_i he;subst he;have W:=hs.slot t;rw[V]at W;generalize a.tmps.getD t undef=v at W;cases W;have:=Am.acc (S:=S) (w:=w) (β:=Ed β I (β k)) I;rw[Gw]at this;exact this
   .exact .undef _
 .refine A0.pp I sz t V ?_ O;exact A0.ww sS sB h
abbrev Jf:List Nat:=[0,1,2,3,5,6,7,8,9,10,11,16,24,27,29,32,36,56]
def A5z(p:Prog)(h:p.Sm)(env:List Ah)(aj:env.length<=sm)(he:∀f,f∈env->f.Sm)(x:Ty)(hx:x.Sm):Aa prog 41 [Ct p,.d (.slice (Ag env)),B7 x] (.d (.slice (B0 (C7 p env x)))):=by
 have ak:=A6w env x aj;have ae:=h.decls.1;unfold C7;have hU:Cw p env x=Cw p env x:=rfl;generalize I:Cw p env x=l at hU |-;clear hU;have aa:(l.map (·.name)).Nodup:=by
  rw[<-I];unfold Cw;split
  .exact B8o _ _
  .split
   .simp
   .exact(B7b _ _ _ (Bs _)).1
 have a0:l.length<=sm:=by
  rw[<-I];unfold Cw;split
  .exact B7c p h _
  .split
   .simp
   .exact Cp (A8h ..) ae
 have hy:((Cs env x).getD x).Sm:=by
  cases hb:Cs env x with
  |none=>exact hx
  |some y=>exact C6k he hb
 have ag:(Cs env x).isSome = !decide (Ep env x<0):=by
  unfold Cs;split
  .rename_i O;simp[O]
  .rename_i O;obtain⟨f,hf,_⟩:=A5v O;simp[hf,O]
 have a':¬Ep env x<0->∃f,env[(Ep env x).toNat]?=some f/\(Ep env x).toNat<env.length/\(Cs env x).getD x=f.bound:=λO=>by obtain⟨f,h1,h2,_⟩:=A5v O;exact⟨f,h1,h2,by unfold Cs;rw[A6 O,h1];rfl⟩
 have ai:Ep env x<0->(Cs env x).getD x=x:=λO=>by unfold Cs;rw[A8 O];rfl
 unfold Cw at I;rw[ag]at I;generalize(Cs env x).getD x=y at*;generalize Ep env x=k at*;have L:=A2u p y 2;have a7:=F6y p h y hy;have ad:=G2u p h y hy;refine cB func41 ?_;refine sR Jf ?_;refine sR Jf ?_;refine sC ak Jf<|sK λK1 u1=>?_;have a4:∀sl bx,Ae sl 3=.box 3 0->Ae sl 5=.box 5 0->Ae sl 7=.d .nil->Ae sl 8=A5 k->A7 bx 3=some (.cells ((Aj p).map .d))->A7 bx 5=some (.cells ((Bo y).map .d))->K1 sl bx:=λsl bx g1 g2 g3 g4 g5 g6=>by
  refine u1 _ _<|A0.ww (sl':=[(3,.box 3 0),(5,.box 5 0),(7,.d .nil),(8,A5 k)]) (bx':=[(3,.cells ((Aj p).map .d)),(5,.cells ((Bo y).map .d))]) (by simp[sle,Ay,g1,g2,g3,g4]) (by simp[ble,g5,g6]) ?_;clear u1 K1 g1 g2 g3 g4 g5 g6;refine sK λK2 u2=>?_;have Z:∀q sl bx,(Ae sl 7=.acc q/\A7 bx q=some (.rows 7 (B0 l)))\/(Ae sl 7=.d .nil/\B0 l=[])->K2 sl bx:=λq sl bx g=>by
   refine u2 _ _<|A0.G3k 7 q 27 7 (B0 l) (by decide) g ?_;clear u2 K2;refine kR Jf λK3 u3=>?_;refine A0.bb (A0.loop (X:=List A3 × Nat) (λz=>[(7,.acc 27),(9,A5 z.2)]) (λz=>[(27,.rows 7 (B0 z.1))])
    (λz=>z.1.Perm l/\z.2<=l.length/\A2y z.1 z.2) (λz=>l.length - z.2) (l,0) ⟨List.Perm.refl _,Ap6 _,by intro a b s t _ h;omega⟩ sS sB ?_)
   rintro⟨m,i⟩ ⟨J,a8,ho⟩;simp only at J a8 ho |-;have a6:=J.length_eq;refine sK λK4 u4=>?_;by_cases a5:(i:Int)<(m.length:Int)
   .refine Ak a5 Jf ?_;refine gI u4 ?_;clear u4 K4;refine sK λK5 u5=>A0.bb<|sR Jf ?_;refine A0.bb (A0.loop (X:=List A3 × Nat) (λz=>[(7,.acc 27),(9,A5 i),(10,A5 z.2)]) (λz=>[(27,.rows 7 (B0 z.1))])
     (λz=>z.1.Perm l/\z.2<=i/\A5o z.1 i z.2) (λz=>z.2) (m,i) ⟨J,Bs _,ho.start⟩ sS sB ?_)
    rintro⟨m,j⟩ ⟨J,a2,hI⟩;simp only at J a2 hI |-;have a6:=J.length_eq;have out:A2y m (i+1)->∀sl bx,Ae sl 7=.acc 27->Ae sl 9=A5 i->A7 bx 27=some (.rows 7 (B0 m))->K5 sl bx:=λhO sl bx g1 g2 g3=>by refine u5 _ _ ?_;refine A0.ww (sl':=[(7,.acc 27),(9,A5 i)]) (bx':=[(27,.rows 7 (B0 m))]) (by simp[sle,Ay,g1,g2]) (by simp[ble,g3]) ?_;refine lT Jf ?_;exact⟨(m,i+1),⟨J,by simp only;omega,hO⟩,by simp only;omega,sS,by simp[ble,A7]⟩
    refine sK λK6 u6=>?_;by_cases a9:j=0
    .have af:¬(0:Int)<(j:Int):=by omega
     (refine sG Jf [] 14 [] λK z=>?_;refine Ap af ?_;apply z;clear z K)
     refine A0.ss rfl ?_;simp only[A4,Ac,Af];exact out (hI.done (.inl a9)) _ _ rfl rfl rfl
    .have am:(0:Int)<(j:Int):=by omega
     obtain⟨t,ht⟩:∃t,m[j]?=some t:=⟨_,Bi (by omega)⟩;obtain⟨s,hs⟩:∃s,m[j - 1]?=some s:=⟨_,Bi (by omega)⟩;have a1:=D1 ht;have V:=D1 hs;have e1:(j:Int) - 1=((j - 1:Nat):Int):=by omega
     have ah:=B2w t.name s.name
     (refine sG Jf [] 14 [] λK z=>?_;simp -implicitDefEqProofs only[EV,Nat.reduceAdd,Nat.reduceEqDiff,Ka,B4c,Qb,am,e1,a1,V,Dd,];refine⟨by omega,by omega,?_⟩;refine⟨by first| (unfold B4;omega)| (simp only[B4,sm]at*;omega),?_⟩;refine⟨by omega,by omega,?_⟩;refine cc ah ?_;apply z;clear z K)
     refine A0.cond rfl (λhc=>?_) (λhc=>?_)
     .have a3:Bt t.name s.name<0:=by simpa using hc
      refine A0.kk (u6 _ _ ?_);clear u6 K6 out;refine sK λK7 u7=>A0.bb ?_
      (refine sQ Jf λK z=>?_;simp -implicitDefEqProofs only[EV,Nat.reduceAdd,Nat.reduceEqDiff,Nat.reduceBEq,Nat.reduceLeDiff,reduceCtorEq,B4c,Qb,a1,Dd,];refine⟨by omega,by omega,?_⟩;apply z;clear z K)
      have ac:((B0 m).set j (Dd s))[j - 1]?=some (Dd s):=by rw[As9 (by omega)];exact V
      (refine sQ Jf λK z=>?_;refine ev3 e1 a1 V ?_;refine⟨by unfold B4;unfold sm at a0;omega,by omega,by omega,by omega,by omega,_,Dd s,rfl,rfl,by simp,?_⟩;(try refine ev ?_);apply z;clear z K)
      (refine lQ Jf λK z=>?_;simp -implicitDefEqProofs only[EV,Nat.reduceAdd,Nat.reduceEqDiff,reduceCtorEq,B4c,Qb,e1,List.length_set];refine⟨by unfold B4;unfold sm at a0;omega,by omega,by omega,Dd s,Dd t,ac,rfl,by simp[Dd],?_⟩;(try refine ev ?_);apply z;clear z K;try simp only[A4,Ac])
      refine u7 _ _ ?_;clear u7 K7
      (refine lQ Jf λK z=>?_;refine Ap e1 ?_;refine⟨by unfold B4;unfold sm at a0;omega,?_⟩;(try refine Ap e1 ?_);apply z;clear z K;try simp only[A4,])
      exact⟨(A5m m j s t,j - 1),⟨(E8m (by omega) hs ht).trans J,by simp only;omega,hI.step (by omega) a2 hs ht a3⟩,by simp only;omega,sS,by simp[ble,A7,A5m,F1g,Dd]⟩
     .have ab:Bt s.name t.name<=0:=by
       have:=X4 t.name s.name;have:¬Bt t.name s.name<0:=by simpa using hc
       omega
      refine A0.xx ?_;simp only[A4,Ac,Af];exact out (hI.done (.inr ⟨s,t,hs,ht,ab⟩)) _ _ rfl rfl rfl
   .have:i=l.length:=by omega
    subst this;refine Ak a5 Jf ?_;refine A0.ss rfl ?_;simp only[A4,Ac,Af];refine u3 _ _ ?_;have ao:m=Re l:=(show A2y m m.length by rw[a6];exact ho).sorted aa J;subst ao;refine sR Jf ?_;exact aR
  by_cases E:Bh p y 2=true
  .rw[E]at L;rw[A8 E]at I;subst I;refine sC L Jf ?_;refine A0.tt rfl ?_
   (refine A0.A0n Jf [27] (by decide +kernel) λK z=>?_;refine ev ?_;refine⟨_,_,_,_,_,rfl,a7 E,?_⟩;(try refine ev ?_);apply z;clear z K;try simp only[A4,])
   exact Z 27 _ _ (.inl ⟨rfl,rfl⟩)
  .rw[A6 E]at I;rw[As6]at E;rw[E]at L;refine sC L Jf ?_;refine A0.ff rfl ?_;by_cases W:k<0
   .rw[A6 (by simp[W])]at I;subst I;refine Ak W Jf ?_;refine A0.tt rfl ?_
    (refine A0.A0n Jf [32] (by decide +kernel) λK z=>?_;refine ev ?_;refine⟨_,_,_,_,_,rfl,ad,?_⟩;(try refine ev ?_);apply z;clear z K;try simp only[A4,])
    exact Z 32 _ _ (.inl ⟨rfl,rfl⟩)
   .rw[A8 (by simp[W])]at I;subst I;refine Ak W Jf ?_;exact A0.ff rfl (A0.kk (Z 27 _ _ (.inr ⟨rfl,rfl⟩)))
 by_cases W:k<0
 .have U:¬k >= 0:=by omega
  have:=ai W;subst this;refine Ak U Jf ?_;exact A0.ff rfl (A0.kk (a4 _ _ rfl rfl rfl rfl rfl rfl))
 .have U:k >= 0:=by omega
  obtain⟨f,h1,h2,h3⟩:=a' W;subst h3;refine Ak U Jf ?_;refine A0.tt rfl ?_
  (refine lV Jf λK z=>?_;refine ci (F4 h1) ?_;apply z;clear z K;try simp only[A4,])
  exact a4 _ _ rfl rfl rfl rfl rfl rfl
def Fb(l:List A3)(nm:A2):Int:=Dr (λs=>decide (s.name=nm)) l
def F6e(nm:A2)(s:A3):Aa prog 298 [Cy s,.A9 [.str nm] 0] (Aw (decide (s.name=nm))):=by refine cB func298 ?_;refine sR [0,1,2,3] ?_;refine sR [0,1,2,3] ?_;exact aR
def Io:A3:=⟨[],[],[],.mk [] [] 0,0⟩
def C1s(l:List A3)(nm:A2):SV:=if Fb l nm<0 then .tuple [Cy Io,Aw false]else .tuple [Cy ((l[(Fb l nm).toNat]?).getD Io),Aw true]
abbrev q1R:List Nat:=[0,1,3,4,5,6,11]
def G7g(l:List A3)(L:l.length<=sm)(nm:A2):Aa prog 240 [.d (.slice (B0 l)),Bm nm] (C1s l nm):=by
 have I:=F9s 298 [.A9 [.str nm] 0] (λ_=>rfl) (λs=>decide (s.name=nm)) l L (λs _=>F6e nm s);have J:=N4 (λs:A3=>decide (s.name=nm)) l;unfold C1s Fb;generalize Dr (λs:A3=>decide (s.name=nm)) l=k at*;refine cB func240 ?_;refine sR q1R ?_;refine A0.zz 3 rfl rfl<|A0.ww (sl':=[(0,.d (.slice (B0 l))),(3,.A9 [.str nm] 0),(4,.box 4 0),(5,Aw false)]) (bx':=[(4,.cells Pu)])
  (by simp[L7,SV.sub,sle,Ay,Ae]) (by simp[Jo,Aq.sub,SV.L8,SV.sub,ble,A7,Cd]) ?_
 refine sC I q1R ?_;rcases J with⟨rfl,_⟩|⟨j,s,rfl,hs,_⟩
 .refine kR q1R λO u1=>?_;refine tI ?_;refine sR q1R ?_;exact aR
 .have E:¬(j:Int)<0:=by omega
  rw[A6 E];simp only[Je,hs,Dz];refine Ai E q1R λO u1=>?_;refine kI u1 ?_
  (refine sV q1R λK z=>?_;refine ci (D1 hs) ?_;apply z;clear z K)
  exact aR
def A8j(l:List A3)(w:A3):Bool:=if Fb l w.name<0 then true else !Nr ((l[(Fb l w.name).toNat]?).getD Io).canon w.canon
def Iu(l m:List A3):List A2:=(m.filter (A8j l)).map (·.name)
def E2z{l m:List A3}{j:Nat}{d:A3}(ht:m.take (j+1)=m.take j++[d]):Iu l (m.take (j+1))=Iu l (m.take j)++if A8j l d=true then[d.name]else[]:=by
 unfold Iu;rw[ht,Ap4,G0]
 congr 1
 simp only[Aq8,Ar5];split <;> rfl
def E3x(l m:List A3)(j:Nat):(Iu l (m.take j)).length<=j:=by unfold Iu;rw[Bc];exact Cp (An9 ..) (by rw[D4];omega)
def H5t(l m:List A2):Bq (l++m)=Bq l++Bq m:=by simp[Bq]
abbrev Mv:List Nat:=[0,1,4,5,7,8,9,10,11,12,13,30]
def F9b(l m:List A3)(hl:l.length<=sm)(hm:m.length<=sm)(hs:∀s,s∈l->s.Sm)(ht:∀s,s∈m->s.Sm):Aa prog 161 [.d (.slice (B0 l)),.d (.slice (B0 m))] (Cc (Iu l m)):=by
 refine cB func161 ?_;refine sR Mv ?_;refine sR Mv ?_;refine A0.pp 5 1 5 rfl<|kR Mv λK1 u1=>?_;refine A0.bb (A0.ii m (X:=Unit) (λj _=>[(0,.d (.slice (B0 l))),(5,.acc 5),(10,.d (.slice (B0 m))),(11,A5 m.length),(12,A5 j)]) (λj _=>[(5,.rows 1 (Bq (Iu l (m.take j))))])
  (λj _=>True) () trivial sS (by simp[ble,A7,Iu,Bq]) ?_ ?_)
 .intro _ _;rw[Ci];refine Ak B3 Mv ?_;refine A0.stop rfl ?_;simp only[A4,Ac,Af];refine u1 _ _<|sR Mv ?_;exact aR
 .intro j _ d hd J dp tk L _;have a0:=E3x l m j;have E:=E2z (l:=l) tk;have I:=G7g l hl d.name;have O:=ht d J;have W:∀e,e∈l->Aa prog 241 [Cy e,Cy d] (Aw (Nr e.canon d.canon)):=λe U=>G8m e d (hs e U) O;have hc:=N4 (λs:A3=>decide (s.name=d.name)) l;unfold C1s at I;unfold A8j at E;unfold Fb at*;generalize Dr (λs:A3=>decide (s.name=d.name)) l=k at*;refine Ak L Mv ?_;refine A0.Er rfl<|sK λV u2=>A0.bb ?_
  (refine sV Mv λK z=>?_;refine ci (D1 hd) ?_;apply z;clear z K)
  rcases hc with⟨rfl,_⟩|⟨q,e,rfl,he,_⟩
  .rw[A8 (show(-1:Int)<0 by decide)]at I E;rw[A8 rfl]at E;refine sC I Mv ?_;refine sR Mv ?_;refine A0.tt rfl ?_
   (refine lV Mv λK z=>?_;refine⟨by simp,by unfold lim sm at*;omega,?_⟩;(try refine ev ?_);apply z;clear z K;try simp only[A4,Ac])
   refine u2 _ _ ?_;clear u2 V;refine lT Mv ?_;exact⟨(),trivial,sS,by simp[ble,A7,E,Bq]⟩
  .have Z:¬(q:Int)<0:=by omega
   rw[A6 Z]at I E;simp only[Je,he,Dz]at I E;have ha:=W e (C6 he);generalize Nr e.canon d.canon=bb at*;cases bb
   .rw[A8 (by decide)]at E;refine sC I Mv ?_;refine sC ha Mv ?_;refine A0.tt rfl ?_
    (refine lV Mv λK z=>?_;refine⟨by simp,by unfold lim sm at*;omega,?_⟩;(try refine ev ?_);apply z;clear z K;try simp only[A4,Ac])
    refine u2 _ _ ?_;clear u2 V;refine lT Mv ?_;exact⟨(),trivial,sS,by simp[ble,A7,E,Bq]⟩
   .rw[A6 (by decide),Fj]at E;refine sC I Mv ?_;refine sC ha Mv ?_;refine A0.ff rfl (A0.kk (u2 _ _ ?_));clear u2 V;refine lT Mv ?_;exact⟨(),trivial,sS,by simp[ble,A7,E]⟩
def G8b(l m:List A3)(I:l.length<=sm)(J:m.length<=sm)(hs:∀s,s∈l->s.Sm)(ht:∀s,s∈m->s.Sm):Aa prog 87 [.d (.slice (B0 l)),.d (.slice (B0 m))] (Aw (decide (Iu l m=[]))):=by
 have h:=F9b l m I J hs ht;have e:decide (((Iu l m).length:Int)=0)=decide (Iu l m=[]):=by
  by_cases E:Iu l m=[]
  .simp[E]
  .have L:¬((Iu l m).length:Int)=0:=by have:=List.length_pos_iff.2 E;omega
   rw[C9 E,C9 L]
 rw[<-e];generalize Iu l m=z at*;refine cB func87 ?_;refine sR [0,1,4] ?_;refine sC h [0,1,4] ?_;exact aR
abbrev Qy:List Nat:=[0,1,4,5,6,7,11,34]
def G8n(l m:List A3)(hl:l.length<=sm)(hm:m.length<=sm)(hs:∀s,s∈l->s.Sm)(ht:∀s,s∈m->s.Sm):Aa prog 40 [.d (.slice (B0 l)),.d (.slice (B0 m))] (Cc (Iu l m)):=by
 refine cB func40 ?_;refine sR Qy ?_;refine sR Qy ?_;refine A0.pp 5 1 5 rfl<|kR Qy λK1 u1=>?_;refine A0.bb (A0.ii m (X:=Unit) (λj _=>[(0,.d (.slice (B0 l))),(1,.d (.slice (B0 m))),(5,.acc 5),(6,A5 j)]) (λj _=>[(5,.rows 1 (Bq (Iu l (m.take j))))])
  (λj _=>True) () trivial sS (by simp[ble,A7,Iu,Bq]) ?_ ?_)
 .intro _ _;rw[Ci];refine Ai B3 Qy λJ u2=>?_;refine A0.ss rfl ?_;simp only[A4,Ac,Af];refine u1 _ _<|sR Qy ?_;exact aR
 .intro j _ d hd L dp tk V _;have a1:=E3x l m j;have E:=E2z (l:=l) tk;have U:=B1g l d.name hl;have W:=ht d L;have a0:∀e,e∈l->Aa prog 92 [Cy e,Cy d] (Aw (Nr e.canon d.canon)):=λe Z=>F6z e d (hs e Z) W;have hc:=N4 (λs:A3=>decide (s.name=d.name)) l;unfold A8j at E;unfold Fb at*;generalize Dr (λs:A3=>decide (s.name=d.name)) l=k at*;refine Ai V Qy λJ u2=>?_;refine gI u2 ?_;clear u2 J;refine sK λJ u2=>A0.bb ?_
  (refine sV Qy λK z=>?_;refine ci (D1 hd) ?_;refine cc U ?_;apply z;clear z K)
  rcases hc with⟨rfl,_⟩|⟨q,e,rfl,O,_⟩
  .rw[A8 (show(-1:Int)<0 by decide)]at E;rw[A8 rfl]at E;refine dR Qy 11 ?_;refine A0.tt rfl ?_
   (refine lV Qy λK z=>?_;refine ci (D1 hd) ?_;refine⟨by simp,by unfold lim sm at*;omega,?_⟩;(try refine ev ?_);apply z;clear z K;try simp only[A4,Ac])
   refine u2 _ _ ?_;clear u2 J;refine lT Qy ?_;exact⟨(),trivial,sS,by simp[ble,A7,E,Bq]⟩
  .have I:¬(q:Int)<0:=by omega
   rw[A6 I]at E;simp only[Je,O,Dz]at E;have ha:=a0 e (C6 O);generalize Nr e.canon d.canon=bb at*;cases bb
   .rw[A8 (by decide)]at E
    (refine sG Qy [] 11 [] λK z=>?_;refine Ap I ?_;refine ci (D1 O) ?_;refine ci (D1 hd) ?_;refine cc ha ?_;apply z;clear z K)
    refine A0.tt rfl ?_
    (refine lV Qy λK z=>?_;refine ci (D1 hd) ?_;refine⟨by simp,by unfold lim sm at*;omega,?_⟩;(try refine ev ?_);apply z;clear z K;try simp only[A4,Ac])
    refine u2 _ _ ?_;clear u2 J;refine lT Qy ?_;exact⟨(),trivial,sS,by simp[ble,A7,E,Bq]⟩
   .rw[A6 (by decide),Fj]at E
    (refine sG Qy [] 11 [] λK z=>?_;refine Ap I ?_;refine ci (D1 O) ?_;refine ci (D1 hd) ?_;refine cc ha ?_;apply z;clear z K)
    refine A0.ff rfl (A0.kk (u2 _ _ ?_));clear u2 J;refine lT Qy ?_;exact⟨(),trivial,sS,by simp[ble,A7,E]⟩
def F4x{vars:List A2}{args:List Ty}(O:∀u,u∈args->u.Sm){l:List A3}(L:∀s,s∈l->s.Sm)(j:Nat):∀s,s∈Hn vars args l j->s.Sm:=λs hs=>by unfold Hn at hs;obtain⟨⟨x,i⟩,E,rfl⟩:=Au.1 hs;have I:=(Jz.1 E).1;have J:=Ji (W7 I);exact A3.Sm.subst O (L x J).canon
def G8s{p:Prog}(h:p.Sm){env:List Ah}(O:∀f,f∈env->f.Sm){x:Ty}(E:x.Sm):∀s,s∈Cw p env x->s.Sm:=by
 have J:((Cs env x).getD x).Sm:=by
  cases V:Cs env x with
  |none=>exact E
  |some y=>exact C6k O V
 unfold Cw;generalize(Cs env x).getD x=y at*;intro s hs;split at hs
 .rename_i I;unfold Gs at hs;rw[A8 I]at hs;obtain⟨d,hd,_⟩:=Mm (by decide) I;rw[hd,Dz]at hs;exact F4x J.arg (h.decls.2 d (P9 hd)).sigs.2 _ s hs
 .split at hs
  .simp at hs
  .unfold Gk at hs;obtain⟨⟨d,i⟩,E,rfl⟩:=Au.1 hs;have L:=(Jz.1 E).1;have U:d∈p.decls:=Ji (W7 L);exact A3.Sm.subst J.arg (h.decls.2 d U).sig.canon
def H1j{p:Prog}(h:p.Sm)(env:List Ah)(x:Ty):(Cw p env x).length<=sm:=by
 unfold Cw;split
 .exact B7c p h _
 .split
  .simp
  .exact Cp (A8h ..) h.decls.1
def A1g{p:Prog}(h:p.Sm){env:List Ah}(I:∀f,f∈env->f.Sm){x:Ty}(E:x.Sm):∀s,s∈C7 p env x->s.Sm:=λs hs=>G8s h I E s ((Z3 _).mem_iff.1 hs)
def Wi{p:Prog}(h:p.Sm)(env:List Ah)(x:Ty):(C7 p env x).length<=sm:=by unfold C7;rw[(Z3 _).length_eq];exact H1j h env x
def isIface(p:Prog)(env:List Ah)(x:Ty):Bool:=Bh p x 2 && !(Cs env x).isSome
abbrev Yn:List Nat:=[0,1,2,5,6,8,10,20]
def G0o(p:Prog)(h:p.Sm)(env:List Ah)(J:env.length<=sm)(O:∀f,f∈env->f.Sm)(x:Ty)(L:x.Sm):Aa prog 85 [.A9 (Dh p) 0,.d (.slice (Ag env)),B7 x] (Aw (isIface p env x)):=by
 have I:=B9u env x J O;have E:=C9c p h x L;unfold isIface;generalize Cs env x=o at*;generalize Bh p x 2=bb at*;refine cB func85 ?_;refine sR Yn ?_;cases o with
 |none =>
  simp only[Yj]at I;refine sC I Yn ?_
  (refine A0.D7 Yn [20] (by decide +kernel) λK z=>?_;refine ev ?_;refine⟨_,_,_,_,_,rfl,E,?_⟩;(try refine ev ?_);apply z;clear z K)
  cases bb
  .refine sR Yn ?_;exact aR
  .refine sR Yn ?_;exact aR
 |some y =>
  simp only[Yj]at I;refine sC I Yn ?_
  (refine A0.D7 Yn [20] (by decide +kernel) λK z=>?_;refine ev ?_;refine⟨_,_,_,_,_,rfl,E,?_⟩;(try refine ev ?_);apply z;clear z K)
  cases bb
  .refine sR Yn ?_;exact aR
  .refine sR Yn ?_;exact aR
def D4h(env:List Ah)(x:Ty):(Cs env x).isSome = !decide (Ep env x<0):=by
 unfold Cs;split
 .rename_i E;simp[E]
 .rename_i E;obtain⟨f,I,_⟩:=A5v E;simp[I,E]
def D7p(p:Prog)(env:List Ah)(I:env.length<=sm)(x:Ty):Aa prog 39 [Ct p,.d (.slice (Ag env)),B7 x] (Aw (isIface p env x)):=by
 have J:=A6w env x I;have L:=A2u p x 2;unfold isIface;rw[D4h];generalize Ep env x=k at*;generalize Bh p x 2=bb at*;refine cB func39 ?_;refine sR [0,1,2,3,5,6] ?_;by_cases E:k<0
 ·(refine sV [0,1,2,3,5,6] λK z=>?_;refine⟨_,.inl ⟨_,rfl,J,rfl⟩,?_⟩;(try refine Ap E ?_);refine cc L ?_;apply z;clear z K)
  simp only[E,Va,Au3,At8,Aq1];exact aR
 ·(refine sV [0,1,2,3,5,6] λK z=>?_;refine⟨_,.inl ⟨_,rfl,J,rfl⟩,?_⟩;(try refine Ap E ?_);apply z;clear z K)
  simp only[E,Ar1,Au3,At8,Rc];exact aR
def Cv(p:Prog)(env:List Ah)(t i:Ty):Bool:=if isIface p env i=true then decide (Iu (C7 p env t) (C7 p env i)=[])else Pn t i
abbrev q2T:List Nat:=[0,1,2,3,6,7,8,13]
def G1r(p:Prog)(h:p.Sm)(env:List Ah)(E:env.length<=sm)(I:∀f,f∈env->f.Sm)(t i:Ty)(ht:t.Sm)(J:i.Sm):Aa prog 32 [.A9 (Dh p) 0,.d (.slice (Ag env)),B7 t,B7 i] (Aw (Cv p env t i)):=by
 have L:=G0o p h env E I i J;have V:=B8n t i ht;have W:=C6q p h env E I t ht;have O:=C6q p h env E I i J;have U:=G8b (C7 p env t) (C7 p env i) (Wi h env t) (Wi h env i) (A1g h I ht) (A1g h I J);unfold Cv;generalize isIface p env i=bb at*;generalize C7 p env t=l at*;generalize C7 p env i=m at*;refine cB func32 ?_;refine sR q2T ?_;cases bb
 .rw[A6 (by decide)];refine kC L q2T λZ u1=>?_;refine tI ?_;refine sC V q2T ?_;exact aR
 .rw[A8 rfl];refine kC L q2T λZ u1=>?_;refine kI u1 ?_
  (refine sG q2T [] 7 [] λK z=>?_;refine ev ?_;refine cc W ?_;refine cc O ?_;refine cc U ?_;apply z;clear z K)
  exact aR
abbrev q3T:List Nat:=[0,1,2,3,4,6,7,8,12]
def A5w(p:Prog)(h:p.Sm)(env:List Ah)(E:env.length<=sm)(J:∀f,f∈env->f.Sm)(t i:Ty)(ht:t.Sm)(O:i.Sm):Aa prog 13 [Ct p,.d (.slice (Ag env)),B7 t,B7 i] (Aw (Cv p env t i)):=by
 have I:=D7p p env E i;have W:=H0g t i ht;have Z:=A5z p h env E J t ht;have U:=A5z p h env E J i O;have V:=G8n (C7 p env t) (C7 p env i) (Wi h env t) (Wi h env i) (A1g h J ht) (A1g h J O);unfold Cv;generalize isIface p env i=bb at*;generalize C7 p env t=l at*;generalize C7 p env i=m at*;have e:decide (((Iu l m).length:Int)=0)=decide (Iu l m=[]):=by
  by_cases L:Iu l m=[]
  .simp[L]
  .have I:¬((Iu l m).length:Int)=0:=by have:=List.length_pos_iff.2 L;omega
   rw[C9 L,C9 I]
 rw[<-e];generalize Iu l m=z at*;refine cB func13 ?_;refine sR q3T ?_;cases bb
 .rw[A6 (by decide)];refine kC I q3T λK1 u1=>?_;refine kI u1 ?_;refine sC W q3T ?_;exact aR
 .rw[A8 rfl];refine kC I q3T λK1 u1=>?_;refine tI ?_
  (refine sG q3T [] 7 [] λK z=>?_;refine ev ?_;refine cc Z ?_;refine cc U ?_;refine cc V ?_;apply z;clear z K)
  exact aR
def A4o(p:Prog)(env fs:List Ah)(args:List Ty)(z:Ah × Ty):Bool:=!Cv p env z.2 (z.1.bound.subst (Ad fs) args)
def H5(p:Prog)(env fs:List Ah)(args:List Ty):Int:=Dr (A4o p env fs args) (fs.zip args)
def F5h{α β:Type}{l:List α}{m:List β}{j:Nat}{a:α}{b:β}(I:l[j]?=some a)(E:m[j]?=some b):(l.zip m).take (j+1)=(l.zip m).take j++[(a,b)]/\(l.zip m)[j]?=some (a,b):=by
 have h:(l.zip m)[j]?=some (a,b):=by rw[Am2];exact⟨I,E⟩
 refine⟨?_,h⟩;rw[Au1,h];rfl
abbrev q4T:List Nat:=[0,1,2,3,4,8,9,13,32]
def E5s(p:Prog)(h:p.Sm)(env:List Ah)(a1:env.length<=sm)(he:∀f,f∈env->f.Sm)(fs:List Ah)(W:fs.length<=sm)(hf:∀f,f∈fs->f.Sm)(args:List Ty)(a3:args.length=fs.length)(ha:∀u,u∈args->u.Sm) :
  Aa prog 196 [Ct p,.d (.slice (Ag env)),.d (.slice (Ag fs)),Cm args] (A5 (H5 p env fs args)):=by
 have E:=R3 fs W;unfold H5;refine cB func196 ?_;refine sR q4T ?_;refine kR q4T λK1 u1=>?_;refine A0.bb (A0.ii fs (X:=Unit) (λj _=>[(1,.d (.slice (Ag env))),(2,.d (.slice (Ag fs))),(3,Cm args),(4,.box 4 0),(9,A5 j)]) (λ_ _=>[(4,.cells ((Aj p).map .d))])
  (λj _=>∀y,y∈(fs.zip args).take j->A4o p env fs args y=false) () (by simp) sS (by simp[ble,A7,Aj]) ?_ ?_)
 .intro _ J;rw[Aj1 (by rw[Ap9];omega)]at J;refine Ai B3 q4T λO u2=>?_;refine A0.ss rfl ?_;simp only[A4,Ac,Af];refine u1 _ _<|sR q4T ?_;rw[Tg J];exact aR
 .intro j _ d hd I dp tk a0 J;obtain⟨u,hu,_⟩:=A5x (l:=args) (j:=j) (by omega);have U:=C6 hu;obtain⟨a2,Z⟩:=F5h hd hu;have L:=Pm (Ad fs) args ha d.bound (hf d I).bound;have V:=A5w p h env a1 he u (d.bound.subst (Ad fs) args) (ha u U) (Ty.Sm.subst ha _ (hf d I).bound);have hq:A4o p env fs args (d,u) = !Cv p env u (d.bound.subst (Ad fs) args):=rfl;generalize Cv p env u (d.bound.subst (Ad fs) args)=bb at*;refine Ai a0 q4T λO u2=>?_;refine gI u2 ?_;clear u2 O;refine sK λO u2=>A0.bb ?_
  (refine sG q4T [] 15 [] λK z=>?_;refine ev ?_;refine ci (Et hu) ?_;refine ci (F4 hd) ?_;refine cc E ?_;refine cc L ?_;refine cc V ?_;apply z;clear z K)
  cases bb
  .refine A0.tt rfl<|sR q4T ?_;rw[Tt Z hq J];exact aR
  .refine A0.ff rfl (A0.kk (u2 _ _ ?_));clear u2 O;refine lT q4T ?_;refine⟨(),?_,sS,(by simp[ble,A7,Aj])⟩;rw[a2];intro y hy;rcases Bz.1 hy with hy|hy
   .exact J y hy
   .simp only[B1,E5,Ea]at hy;rw[hy];exact hq
def Jk(c:Int):Option Int->D
 |none=>.Hc
 |some n=>.iface 136 (.agg [.int .i64 c,.int .i64 n])
def D3t(c n:Int):Aa prog 29 [A5 c,A5 n] (.d (Jk c (some n))):=by
 refine cB func29 ?_;refine sR [0,1,4] ?_
 (refine sV [0,1,4] λK z=>?_;refine⟨[.int .i64 c,.int .i64 n],rfl,?_⟩;(try refine ev ?_);apply z;clear z K)
 exact aR
mutual
def Bk(p:Prog)(env:List Ah):Ty->Option Int
 |.mk n a pos=>if(Cs env (.mk n a pos)).isSome=true then none else if kindOf p n=0\/(Em p n).length≠a.length then some pos else
   match N7 p env a with
   |some q=>some q
   |none=>if 0<=H5 p env (Em p n) a then some ((a[(H5 p env (Em p n) a).toNat]?).getD default).pos else none
def N7(p:Prog)(env:List Ah):List Ty->Option Int
 |[]=>none
 |t::E=>match Bk p env t with
  |some q=>some q
  |none=>N7 p env E
end
def D4r(p:Prog)(env:List Ah)(x:Ty):Bk p env x=if(Cs env x).isSome=true then none else if kindOf p x.name=0\/(Em p x.name).length≠x.args.length then some x.pos else
   match N7 p env x.args with
   |some q=>some q
   |none=>if 0<=H5 p env (Em p x.name) x.args then some ((x.args[(H5 p env (Em p x.name) x.args).toNat]?).getD default).pos else none:=by
 cases x with|mk n a pos=>rw[Bk];rfl
def C8p{p:Prog}(h:p.Sm)(nm:A2):(Em p nm).length<=sm/\∀f,f∈Em p nm->f.Sm:=by
 unfold Em;cases E:F7 p nm with
 |none=>simp
 |some d=>exact(h.decls.2 d (P9 E)).A1
def E5o{p:Prog}{env fs:List Ah}{a:List Ty}(h:0<=H5 p env fs a)(J:a.length=fs.length):∃u,a[(H5 p env fs a).toNat]?=some u:=by
 unfold H5 at*;rcases N4 (A4o p env fs a) (fs.zip a)with⟨E,_⟩|⟨j,z,E,I,_⟩
 .omega
 .rw[E];have:=(Az.1 I).1;rw[Ap9]at this;exact⟨_,Bi (by omega)⟩
def Tw:Option Int->SV
 |some q=>.tuple [A5 q,Aw true]
 |none=>.tuple [A5 0,Aw false]
abbrev H7:List Nat:=[0,1,2,3,5,6,7,8,9,10,11,12,16,33,40,54,63]
def A8p(p:Prog)(h:p.Sm)(env:List Ah)(a3:env.length<=sm)(he:∀f,f∈env->f.Sm):∀x:Ty,x.Sm->Aa prog 129 [Ct p,.d (.slice (Ag env)),B7 x] (Tw (Bk p env x)):=by
 intro x
 induction x using Ty.induct with
 |h x ih =>
 intro hx;have hf:=A6w env x a3;have a1:=B9o p x.name;have Z:=B0d p x.name;obtain⟨a7,a5⟩:=C8p h x.name;have V:=E5s p h env a3 he (Em p x.name) a7 a5 x.args;have a2:=@E5o p env (Em p x.name) x.args;have a8:=hx.len;rw[D4r,D4h];generalize Ep env x=z at*;generalize Em p x.name=fs at*;generalize kindOf p x.name=k at*;by_cases hz:z<0
 .rw[A6 (by simp[hz])];have O:¬z >= 0:=by omega
  by_cases hk:k=0
  .rw[A8 (.inl hk)];refine cB func129 ?_;refine sR H7<|sK λI u1=>?_
   (refine sV H7 λK z=>?_;refine⟨_,.inl ⟨_,rfl,hf,rfl⟩,?_⟩;(try refine Ap O ?_);apply z;clear z K)
   refine kI u1 ?_;clear u1 I;refine sC a1 H7<|sK λI u1=>?_
   (refine sV H7 λK z=>?_;refine⟨_,.inl ⟨_,rfl,Z,rfl⟩,?_⟩;(try refine Ap hk ?_);apply z;clear z K)
   refine tI ?_;refine sR H7 ?_;exact aR
  .by_cases L:fs.length=x.args.length
   .have E:(fs.length:Int)=x.args.length:=by omega
    have V:=V L.symm hx.arg;have a2:=λhh=>a2 hh L.symm;rw[A6 (by rintro(h1|h1) <;> contradiction)];generalize H5 p env fs x.args=b at*;generalize a4:N7 p env x.args=oc;refine cB func129 ?_;refine sR H7<|sK λI u1=>?_
    (refine sV H7 λK z=>?_;refine⟨_,.inl ⟨_,rfl,hf,rfl⟩,?_⟩;(try refine Ap O ?_);apply z;clear z K)
    refine kI u1 ?_;clear u1 I;refine sC a1 H7<|sK λI u1=>?_
    (refine sV H7 λK z=>?_;refine⟨_,.inl ⟨_,rfl,Z,rfl⟩,?_⟩;(try refine Fm hk E ?_);apply z;clear z K)
    refine kI u1 ?_;clear u1 I;refine kR H7 λI u1=>?_;refine A0.bb (A0.ii x.args (X:=Unit) (λj _=>[(1,.d (.slice (Ag env))),(3,.box 3 0),(5,.box 5 0),(8,.d (.slice (Ag fs))),(9,A5 j)]) (λ_ _=>[(3,.cells ((Aj p).map .d)),(5,.cells ((Bo x).map .d))])
     (λj _=>N7 p env (x.args.drop j)=oc) () a4 sS (by simp[ble,A7,Bo,Aj]) ?_ ?_)
    .intro _ U;rw[Db,N7]at U;subst U;simp only;refine Ai B3 H7 λK2 u2=>?_;refine A0.ss rfl ?_;simp only[A4,Ac,Af];refine u1 _ _ ?_;clear u2 K2 u1 I;by_cases J:0<=b
     .obtain⟨u,hu⟩:=a2 J;have a0:b >= 0:=J;rw[A8 J,hu,Dz];refine sC V H7 ?_;refine Ai a0 H7 λI u1=>?_;refine tI ?_
      (refine sV H7 λK z=>?_;refine ci (Et hu) ?_;apply z;clear z K)
      exact aR
     .have a0:¬b >= 0:=J;rw[A6 J];refine sC V H7 ?_;refine Ai a0 H7 λI u1=>?_;refine kI u1 ?_;refine sR H7 ?_;exact aR
    .intro j _ d hd W dp tk a6 U;have hc:=ih d W (hx.arg d W);rw[dp,N7]at U;refine Ai a6 H7 λK2 u2=>?_;refine gI u2 ?_;clear u2 K2;refine sK λK2 u2=>A0.bb ?_;cases ho:Bk p env d with
     |none =>
      rw[ho]at hc U;simp only[Tw]at hc U
      (refine sG H7 [] 12 [] λK z=>?_;refine ev ?_;refine ci (Et hd) ?_;refine cc hc ?_;apply z;clear z K)
      refine sR H7 ?_;refine A0.ff rfl (A0.kk (u2 _ _ ?_));clear u2 K2;refine lT H7 ?_;exact⟨(),U,sS,(by simp[ble,A7,Bo,Aj])⟩
     |some q =>
      rw[ho]at hc U;simp only[Tw]at hc U
      (refine sG H7 [] 12 [] λK z=>?_;refine ev ?_;refine ci (Et hd) ?_;refine cc hc ?_;apply z;clear z K)
      refine sR H7 ?_;refine A0.tt rfl<|sR H7 ?_;subst U;exact aR
   .have E:¬(fs.length:Int)=x.args.length:=by omega
    rw[A8 (.inr L)];refine cB func129 ?_;refine sR H7<|sK λI u1=>?_
    (refine sV H7 λK z=>?_;refine⟨_,.inl ⟨_,rfl,hf,rfl⟩,?_⟩;(try refine Ap O ?_);apply z;clear z K)
    refine kI u1 ?_;clear u1 I;refine sC a1 H7<|sK λI u1=>?_
    (refine sV H7 λK z=>?_;refine⟨_,.inl ⟨_,rfl,Z,rfl⟩,?_⟩;(try refine Fm hk E ?_);apply z;clear z K)
    refine tI ?_;refine sR H7 ?_;exact aR
 .have O:z >= 0:=by omega
  rw[A8 (by simp[hz])];refine cB func129 ?_;refine sR H7<|sK λI u1=>?_
  (refine sV H7 λK z=>?_;refine⟨_,.inl ⟨_,rfl,hf,rfl⟩,?_⟩;(try refine Ap O ?_);apply z;clear z K)
  refine tI ?_;refine sR H7 ?_;exact aR
end Go.Abs
