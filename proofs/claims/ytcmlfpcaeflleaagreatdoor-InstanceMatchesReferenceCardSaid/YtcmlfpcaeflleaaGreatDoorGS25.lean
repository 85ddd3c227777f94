/- sorting by name: the comparison walked with the kit -/
import Derived.Test.YtcmlfpcaeflleaaGreatDoorGShelfM3
import Derived.Test.YtcmlfpcaeflleaaGreatDoorGS18
set_option linter.all false
set_option maxHeartbeats 1000000
set_option maxRecDepth 100000
namespace Go.Abs
open Go Go.Proofs Go.RowKit Go.Lib Go.Sort Tryz
abbrev sv(a:A3):Value:=.string ⟨a.toArray⟩
def D4b(a:A3)(W:World):Calls prog 170 #[sv a] W λe w'=>e=.returned (.bool false)/\w'=W:=by
 go_enter func170,ntmps170
 go_wp2
 go_ret
 exact⟨rfl,rfl⟩
def G9v(a b:A3)(W:World)(t:TypeId):(binOp .gtr t (sv a) (sv b)).run prog W=.ok (.bool (Op.bytesLess b a)) W:=by
 have:=C5y a b;have e:(!Op.bytesLess a b && !a ==b)=Op.bytesLess b a:=by rw[<-Bool.not_or,this,Bool.not_not]
 simp[binOp,Op.stringOp,e]
def E7w(a b:A3)(W:World):Calls prog 106 #[sv a,sv b] W λe w'=>e=.returned (.int .i64 (Bs a b))/\w'=W:=by
 obtain⟨M,O,L⟩:=C4n a b;have I:=λW=>D4b a W;have E:=λW=>D4b b W;generalize Bs a b=c at*
 go_enter func106,ntmps106
 go_wp2_with (first|rw[G9v]| (go_at_call 170;first| (refine(I _).mono ?_;rintro e w' ⟨rfl,J⟩;rw[J])| (refine(E _).mono ?_;rintro e w' ⟨rfl,J⟩;rw[J])))
 all_goals (go_ret;refine⟨?_,rfl⟩;rcases L with h|h|h <;> simp_all)
def F3j(a b:A3)(W:World):Calls prog 63 #[sv a,sv b] W λe w'=>e=.returned (.int .i64 (Bs a b))/\w'=W:=by
 have E:=E7w a b W;generalize Bs a b=c at*
 go_enter func63,ntmps63
 go_wp2_with (go_at_call 106;refine E.mono ?_;rintro e w' ⟨rfl,I⟩;rw[I])
 go_ret
 exact⟨rfl,rfl⟩
def E8y(a b:A3)(L V M a4 J a6 b1 b2 O U b5 I:Value)(W:World):Calls prog 157 #[.agg #[sv a,L,V,M,a4,J,a6],.agg #[sv b,b1,b2,O,U,b5,I]] W λe w'=>e=.returned (.int .i64 (Bs a b))/\∃q E,w'=grow (W.drewN q) E:=by
 have Z:=λW=>F3j a b W;generalize Bs a b=c at*
 go_enter func157,ntmps157
 go_wp2_with (go_at_call 63;refine(Z _).mono ?_;rintro e w' ⟨rfl,rfl⟩)
 go_ret
 exact⟨rfl,0,_,by rw[alloc_eq_grow,alloc_eq_grow,grow_grow];rfl⟩
open Go Go.Proofs Go.Sort Tryz
def Zd:∀a b:A3,Bs b a = - Bs a b
 |[],[]=>rfl
 |[],_::_=>rfl
 |_::_,[]=>rfl
 |x::xs,y::ys=>by
  have E:=Zd xs ys;simp only[Bs,Am9];rcases Au6 x.toNat y.toNat with h|h|h
  .have:¬y.toNat<x.toNat:=by omega
   simp[h,this]
  .simp[h,E]
  .have:¬x.toNat<y.toNat:=by omega
   simp[h,this]
def B2c:∀a b c:A3,Bs a b<0->Bs b c<0->Bs a c<0
 |[],[],_,h,_=>by simp[Bs]at h
 |[],_::_,[],_,h=>by simp[Bs]at h
 |[],_::_,_::_,_,_=>by simp[Bs]
 |_::_,[],_,h,_=>by simp[Bs]at h
 |_::_,_::_,[],_,h=>by simp[Bs]at h
 |x::xs,y::ys,z::O,I,E=>by
  have U:=B2c xs ys O;simp only[Bs,Am9]at*;by_cases V:x.toNat<y.toNat
  .by_cases L:y.toNat<z.toNat
   .rw[A9 (by omega)];decide
   .rw[A6 L]at E;by_cases J:z.toNat<y.toNat
    .rw[A9 J]at E;omega
    .rw[A9 (by omega)];decide
  .rw[A6 V]at I;by_cases M:y.toNat<x.toNat
   .rw[A9 M]at I;omega
   .rw[A6 M]at I;by_cases L:y.toNat<z.toNat
    .rw[A9 (by omega)];decide
    .rw[A6 L]at E;by_cases J:z.toNat<y.toNat
     .rw[A9 J]at E;omega
     .rw[A6 J]at E;rw[A6 (by omega),A6 (by omega)];exact U I E
def C6h(a b c:A3)(L:Bs a b<=0)(J:Bs b c<=0):Bs a c<=0:=by
 by_cases I:Bs a b=0
 .rw[Tm]at I;rw[I];exact J
 .by_cases E:Bs b c=0
  .rw[Tm]at E;rw[<-E];exact L
  .have:=B2c a b c (by omega) (by omega);omega
def F6q{α:Type}(E:α->A3):SWO (ltOf λx y:α=>Bs (E x) (E y)) where
 irrefl x:=by simp[ltOf,C3w]
 trans x y z h1 h2:=by simp only[ltOf,Da]at*;exact B2c _ _ _ h1 h2
 ntrans x y z h1 h2:=by simp only[ltOf,Rw]at*;have J:=Zd (E x) (E y);have I:=Zd (E y) (E z);have L:=Zd (E x) (E z);have:=C6h (E z) (E y) (E x) (by omega) (by omega);omega
def S7(l:List A5):List A5:=l.mergeSort λa b=>decide (Bs a.name b.name<=0)
def A8b(l:List A5):(S7 l).Perm l:=List.mergeSort_perm _ _
def F6y(l:List A5):(S7 l).Pairwise λa b=>Bs a.name b.name<=0:=by
 refine(List.pairwise_mergeSort (le:=λa b:A5=>decide (Bs a.name b.name<=0)) ?_ ?_ l).imp (by simp)
 .intro a b c I E;simp only[Da]at*;exact C6h _ _ _ I E
 .intro a b;have:=Zd a.name b.name;simp only[Yj,Da];omega
def D6y{l M:List A5}(W:(l.map (·.name)).Nodup)(hp:M.Perm l)(hs:M.Pairwise λa b=>Bs a.name b.name<=0):M=S7 l:=by
 refine List.Perm.eq_of_pairwise (le:=λa b:A5=>Bs a.name b.name<=0) ?_ hs (F6y l) (hp.trans (A8b l).symm);intro a b Z hb I U;have:=Zd a.name b.name;have he:a.name=b.name:=Tm.1 (by omega);have O:a∈l:=hp.mem_iff.1 Z;have J:b∈l:=(A8b l).mem_iff.1 hb;obtain⟨i,V⟩:=Hz O;obtain⟨j,E⟩:=Hz J;have I:(l.map (·.name))[i]?=some a.name:=by simp[V]
 have U:(l.map (·.name))[j]?=some a.name:=by simp[E,he]
 have L:i<(l.map (·.name)).length:=(B5.1 I).1;have:=(List.getElem?_inj L W).1 (I.trans U.symm);subst this;rw[V]at E;simpa using E
def C4m{sl:SL}{bx:Aa}{dst:Option Nat}{x:Operand}{Cq:List TypeId}(k:Nat)(l:List A5)(hx:Ao sl x=.acc k)(hb:A7 bx k=some (.rows 7 (C1 l)))(hn:(l.map (·.name)).Nodup)(au:l.length<=sm) :
  OpB prog sl bx dst (.call ⟨.value (.func 156),[x,.func 157].toArray,Cq.toArray⟩) (.tuple []) ((k,.rows 7 (C1 (S7 l)))::Ca k bx) []:=by
 intro o ho _ C S w β a hi ha;have hE:Enters prog 156:=(Enters.of func156 rfl (by decide));have ah:=ha x (mC ho);rw[hx]at ah;have a0:=F8 hb;obtain⟨q1,q2,q3,q4,q5,q6,q7⟩:=hi.box k _ a0;generalize hv:a.eval x=v at ah;cases ah;have U:(#[x,.func 157].map a.eval)++(#[]:Array Value) = #[.slice ((β k).base.map λb=>⟨b,(β k).off*(β k).sz,none⟩) (β k).len (β k).cap,.func (.func 157) #[] #[]]:=by apply J6;rw[Aq5,Ao5];show[a.eval x,Value.func (.func 157) #[] #[]]++[]=_;rw[hv];rfl
 have b7:a.eval (.func 156)=.func (.func 156) #[] #[]:=rfl;refine H6 ?_;unfold Oper.wp;rw[Sp hE ho b7,R6];have a7:l.length=(β k).len:=by rw[<-q2];simp[C1]
 have ad:([x,.func 157].toArray.map a.eval)++(#[]:Array Value) = #[.slice ((β k).base.map λb=>⟨b,(β k).off*(β k).sz,none⟩) (β k).len (β k).cap,.func (.func 157) #[] #[]]:=U;rw[ad];clear ad U;generalize L:(β k).base=ob at q7;cases ob with
 |none =>
  simp only at q7;have ba:l=[]:=Pa (by omega);subst ba;rw[show(β k).len=0 by omega];refine(AnyF.slices_SortFunc_none E6b _ _ _ w).mono ?_;rintro e w' ⟨rfl,rfl⟩;refine⟨_,S,β,rfl,hi.sub λj c Z=>?_,Bk.refl S _,.tuple [] [] rfl (by simp),λ_ _=>rfl⟩;rcases Aw.1 Z with h|h
  .rw[h,show S7 []=[] by simp[S7]];exact a0
  .exact(E3.1 h).2
 |some b =>
  simp only at q7;obtain⟨ty,vs,hh,aq,ax⟩:=q7;obtain⟨n,bc⟩:∃n,n=l.length:=⟨_,rfl⟩
  let M:Nat->A3:=λi=>((l[i]?).getD default).name
  have ak:∀i,i<n->((β k).off+i)*7+7<=vs.length:=λi h=>by have W:((β k).off+i+1)*7<=((β k).off+(β k).cap)*7:=I9 _ (by omega);omega
  let enc:Nat->List Value:=λi=>if i<n then(vs.drop (((β k).off+i)*7)).take 7 else[sv (M i),.int .i64 0,.int .i64 0,.int .i64 0,.int .i64 0,.int .i64 0,.int .i64 0]
  have I:∀i,(enc i).length=7:=λi=>by
   simp only[enc];split
   .rename_i h;have:=ak i h;rw[Dx,Aq6];omega
   .rfl
  have V:∀i j,i<n->j<7->(enc i)[j]?=vs[((β k).off+i)*7+j]?:=λi j h Z=>by simp only[enc,A9 h];rw[Am7 Z,Th]
  have rowAt:∀i,i<n->∃s,l[i]?=some s/\(C1 l)[i]?=some (Fw s):=λi h=>⟨l[i]'(by omega),B8 _,F6 (B8 _)⟩;have J:∀i j s v,l[i]?=some s->(enc i)[j]?=some v->∃d,(Fw s)[j]?=some d/\C0 S w d v:=λi j s v hs he=>by
   have ai:i<n:=by have:=(B5.1 hs).1;omega
   have Z:j<7:=by have:=(B5.1 he).1;rw[I]at this;exact this
   rw[V i j ai Z]at he;have ar:j<(Fw s).length:=by rw[show(Fw s).length=7 from rfl];exact Z
   exact⟨_,B8 ar,ax i j (Fw s) _ v (F6 hs) (B8 ar) he⟩
  have aa:∀i,∀v∈enc i,v.oneCell'=true:=λi v hv=>by
   by_cases h:i<n
   .obtain⟨s,hs,hr⟩:=rowAt i h;obtain⟨j,Z⟩:=Hz hv;obtain⟨d,W,h2⟩:=J i j s v hs Z;exact h2.one (q6 _ (Br hr) d (Br W))
   .simp only[enc,A6 h,Aw,Ej,Eh]at hv;rcases hv with rfl|rfl|rfl|rfl|rfl|rfl|rfl <;> rfl
  have O:∀i,∃a1 a2 a3 a4 a5 a6,enc i=[sv (M i),a1,a2,a3,a4,a5,a6]:=λi=>by
   by_cases h:i<n
   .obtain⟨s,hs,hr⟩:=rowAt i h;have hl:=I i;have h0:=J i 0 s
    match he:enc i,hl with
    |[v0,a1,a2,a3,a4,a5,a6],_ =>
     obtain⟨d,W,h2⟩:=h0 v0 hs (by rw[he];rfl);have:d=.str s.name:=by simpa [Fw]using W.symm
     subst this;have:v0=sv (M i):=by have bf:=(Ak.d (β:=β) _ _ h2).Vw.1;rw[bf];simp only[M,hs,E1];rfl
     exact⟨a1,a2,a3,a4,a5,a6,by rw[this]⟩
   .exact⟨.int .i64 0,.int .i64 0,.int .i64 0,.int .i64 0,.int .i64 0,.int .i64 0,by simp only[enc,A6 h]⟩
  have aw:CmpLays prog 157 #[] enc 7 (λx y=>Bs (M x) (M y)) b ((β k).off*7) (Array.range n).size w:=λm os dk _ x y=>by obtain⟨a1,a2,a3,a4,a5,a6,W⟩:=O x;obtain⟨b1,b2,b3,b4,b5,b6,h2⟩:=O y;have:=E8y (M x) (M y) a1 a2 a3 a4 a5 a6 b1 b2 b3 b4 b5 b6 (sortWorldK enc 7 w b ((β k).off*7) m dk os);rw[W,h2];exact this
  have hH:HoldsK enc 7 w b ((β k).off*7) (Array.range n):=λj Z=>by
   rw[size_flatK,Ld]at Z;have ao:j / 7<n:=by omega
   have be:(flatK enc 7 (Array.range n))[j]! =(enc (j / 7))[j % 7]!:=by
    rw[get_flatK _ _ _ _ (by rw[Ld];exact Z)]
    congr 2
    rw[Ik _ _ (by rw[Ld];exact ao),Array.getElem_range]
   have av:=ak (j / 7) ao;have Pj:((β k).off+j / 7)*7+j % 7=(β k).off*7+j:=by omega
   have ab:(β k).off*7+j<vs.length:=by omega
   have bg:(enc (j / 7))[j % 7]! =vs[(β k).off*7+j]:=by have:=V (j / 7) (j % 7) ao (Zk _ (by decide));rw[Pj,B8 ab]at this;rw[Aq1,this];rfl
   refine⟨?_,?_⟩
   .simp only[World.cell?,hh,Ky,id,be,bg];simp[ab]
   .simp[World.frozen?,hh]
  have b9:b<w.heap.size:=(hi.B7 k _ a0 b L).2.1;have hS:=hi.B7 k _ a0 b L;rw[q1,<-a7,<-bc];have a9:=AnyQ.slices_SortFunc E6b 7 isAgg61 sizeOf61 enc I aa (λx y=>Bs (M x) (M y)) (F6q M) 157 #[] b ((β k).off*7) (β k).cap (Array.range n) w
   (enters_of func157 (by kernel_rfl) rfl) aw hH b9 (by rw[Ld];unfold sm at au;omega)
  rw[Ld]at a9;refine a9.mono ?_;rintro e w' ⟨rfl,E,m,os,aj,a',rfl⟩;obtain⟨p1,_,p3⟩:=aj;rw[Ld]at p1;have p4:E.toList.Perm (List.range n):=by rw[show E.extract 0 n=E by rw[<-p1];exact Ap4,show(Array.range n).extract 0 n=Array.range n by have:=Ap4 (xs:=Array.range n);rwa [Ld]at this,Array.toList_range]at p3;exact p3
  have p5:∀i (h:i<E.size),E[i]<n:=λi h=>Aq9.1 (p4.mem_iff.1 (Array.getElem_mem_toList h));have b0:E.toList.map (λi=>(l[i]?).getD default)=S7 l:=by
   refine D6y hn ?_ ?_
   .have W:=p4.map λi=>(l[i]?).getD default;have h2:(List.range n).map (λi=>(l[i]?).getD default)=l:=by
     refine M3 λi=>?_;rw[Db];by_cases h:i<n
     .rw[Yo h,Eu,B8 (by omega),E1]
     .rw[Z9 (by simp;omega),Z9 (by omega)];rfl
    rw[h2]at W;exact W
   .rw[List.pairwise_map,Ao1];intro i j ai az b8;have W:=a' i j (As4 _) b8 (by rw[<-p1];simpa using az);rw[Ik E i (by simpa using ai),Ik E j (by simpa using az)]at W;simp only[ltOf,Rw]at W;have h2:=Zd (M E[i]) (M E[j]);have h3:¬Bs (M E[j]) (M E[i])<0:=W;have h4:Bs (M E[i]) (M E[j])<=0:=by omega
    simpa [M]using h4
  have af:=A8b l;have bj:E.size=(S7 l).length:=by rw[<-b0];simp
  have ap:Df S (putRowK enc 7 (Sort.ahead w m) b ((β k).off*7) E) β (β k) (.rows 7 (C1 (S7 l))):=by
   refine⟨q1,by simp only[C1,Bn,af.length_eq];exact a7,q3,by simp only[C1,Bn,af.length_eq];unfold sm lim at*;omega,?_,?_,?_⟩
   .intro row hr;obtain⟨s,_,rfl⟩:=B1.1 hr;rfl
   .intro row hr d hd;obtain⟨s,hs,rfl⟩:=B1.1 hr;exact q6 _ (B1.2 ⟨s,af.mem_iff.1 hs,rfl⟩) d hd
   .rw[L];refine⟨ty,(putCells id ((β k).off*7) (flatK enc 7 E) ⟨vs⟩).toList,?_,by simpa [putCells]using aq,?_⟩
    .simp[putRowK,putRow,mapBlock,Sort.ahead,Tq,hh,onCells]
    .intro r j row d v hr hd hv;have bk:r<(S7 l).length:=by have:=(B5.1 hr).1;simpa [C1]using this
     have ae:r<E.size:=by omega
     have ac:row=Fw ((l[E[r]]?).getD default):=by rw[<-b0]at hr;simp only[C1,Db,Vg,Nt ae,Eu,B4]at hr;exact hr.symm
     obtain⟨s,hs,_⟩:=rowAt _ (p5 r ae);rw[hs,E1]at ac;subst ac;have Z:j<7:=by have:=(B5.1 hd).1;rwa [show(Fw s).length=7 from rfl]at this
     have am:(flatK enc 7 E)[r*7+j]! =(enc E[r])[j]!:=by rw[get_flatK _ _ _ _ (by omega),show(r*7+j) / 7=r by omega,show(r*7+j) % 7=j by omega,Ik E r ae]
     have bi:=ak r (by omega);have av:((β k).off+r)*7+j<vs.length:=by omega
     have bh:(enc E[r])[j]?=some v:=by
      rw[Vg,putCells,Array.getElem?_mapIdx]at hv;have hc:(⟨vs⟩:Array Value)[((β k).off+r)*7+j]?=some vs[((β k).off+r)*7+j]:=by simp[av]
      rw[hc,Eu,A9 ⟨by omega,by rw[size_flatK];omega⟩,show((β k).off+r)*7+j - (β k).off*7=r*7+j by omega,am]at hv;have ay:j<(enc E[r]).length:=by rw[I];exact Z
      rw[B8 ay];simp only[id,B4]at hv;rw[<-hv,Ik (enc E[r]) j ay]
     obtain⟨d2,e1,e2⟩:=J _ j s v hs bh;rw[e1]at hd;simp only[B4]at hd;subst hd;exact e2.ext ⟨λ_ h=>h,λb' a8=>by have ag:b≠b':=λhe=>hS.1 (he ▸ a8);simp[putRowK,putRow,mapBlock,Sort.ahead,Tq,ag]⟩
  obtain⟨g1,g2⟩:=hi.A5b (w':=putRowK enc 7 (Sort.ahead w m) b ((β k).off*7) E) (c:=.rows 7 (C1 (S7 l))) a0 L (λb' ag=>by simp[putRowK,putRow,mapBlock,Sort.ahead,Tq,Um ag]) rfl rfl rfl (by simp[putRowK,putRow,mapBlock,Sort.ahead]) ap
  obtain⟨g3,g4⟩:=g1.grow (S':=S) (w':=Sort.grow (putRowK enc 7 (Sort.ahead w m) b ((β k).off*7) E) os) (λ_ h=>h) (λ_ h=>.inl h)
   (λb' a8=>by have:=g1.Bf b' a8;simp only[Sort.grow,Array.size_append];omega) (λb' a8=>by simp only[Sort.grow];exact Ak5 a8) rfl rfl rfl (by simp[Sort.grow])
  exact⟨_,S,β,rfl,g3,g2.trans g4,.tuple [] [] rfl (by simp),λ_ _=>rfl⟩
open Go Go.Proofs Tryz
def D6c(s:A5)(vars:List A3)(args:List Ty):(s.canon.subst vars args).name=s.name:=rfl
def D1j(vars:List A3)(args:List Ty)(l:List A5):∀j,j<=l.length->((Io vars args l j).map (·.name)).Nodup/\∀n,n∈(Io vars args l j).map (·.name)->∃y,y∈l.take j/\y.name=n
 |0,_=>by simp[Io]
 |j+1,h=>by
  obtain⟨M,J⟩:=D1j vars args l j (by omega);have ht:l.take (j+1)=l.take j++[l[j]]:=by rw[Ar5,B8 (by omega)];rfl
  rw[C3j (by omega) ht,ht];split
  .rename_i L;simp only[R9,Da]at L;rw[Gg,Ap9];refine⟨⟨M,by simp,?_⟩,?_⟩
   .rintro a U b O rfl;simp only[Ck,Hy,Aw,Ej,Eh]at O;obtain⟨y,E,I⟩:=J a U;exact L y E (I.trans O)
   .intro n hm;rcases D2.1 hm with hm|hm
    .obtain⟨y,E,I⟩:=J n hm;exact⟨y,D2.2 (.inl E),I⟩
    .simp only[Ck,Hy,Aw,Ej,Eh]at hm;exact⟨l[j],D2.2 (.inr (by simp)),hm.symm⟩
  .rw[I8];exact⟨M,λn hm=>by obtain⟨y,E,I⟩:=J n hm;exact⟨y,D2.2 (.inl E),I⟩⟩
def B9n(p:Prog)(x:Ty):∀j,j<=p.decls.length->((Gt p x j).map (·.name)).Nodup/\∀n,n∈(Gt p x j).map (·.name)->∃i,i<j/\Lw p x n=(i:Nat)
 |0,_=>by simp[Gt]
 |j+1,h=>by
  obtain⟨L,J⟩:=B9n p x j (by omega);have ht:p.decls.take (j+1)=p.decls.take j++[p.decls[j]]:=by rw[Ar5,B8 (by omega)];rfl
  rw[C6o (by omega) ht];split
  .rename_i I;simp only[Ke,Bc,Da]at I;rw[Gg,Ap9];refine⟨⟨L,by simp,?_⟩,?_⟩
   .rintro a U b M rfl;simp only[Ck,Hy,Aw,Ej,Eh]at M;obtain⟨i,O,E⟩:=J a U;rw[M,D6c,I.2]at E;omega
   .intro n hm;rcases D2.1 hm with hm|hm
    .obtain⟨i,O,E⟩:=J n hm;exact⟨i,by omega,E⟩
    .simp only[Ck,Hy,Aw,Ej,Eh]at hm;exact⟨j,by omega,by rw[hm,D6c];exact I.2⟩
  .rw[I8];exact⟨L,λn hm=>by obtain⟨i,O,E⟩:=J n hm;exact⟨i,by omega,E⟩⟩
def Dk(p:Prog)(env:List Am)(x:Ty):List A5:=if Ch p ((Cm env x).getD x) 2=true then H8 p ((Cm env x).getD x)else if(Cm env x).isSome=true then[]else Gt p ((Cm env x).getD x) p.decls.length
def D8(p:Prog)(env:List Am)(x:Ty):List A5:=S7 (Dk p env x)
def C1s(p:Prog)(x:Ty):((H8 p x).map (·.name)).Nodup:=by
 unfold H8;split
 .exact(D1j _ _ _ _ (Bi _)).1
 .simp
def C1d(p:Prog)(h:p.Sm)(x:Ty):(H8 p x).length<=sm:=by
 unfold H8;split
 .rename_i I;obtain⟨d,E,_⟩:=Qa (by decide) I;rw[E,E1];exact D3 (C3o _ _ _ _) (h.decls.2 d (Qc E)).sigs.1
 .simp
def C4s{env:List Am}{x y:Ty}(I:∀f,f∈env->f.Sm)(h:Cm env x=some y):y.Sm:=by
 unfold Cm at h;split at h
 .simp at h
 .rw[N9]at h;obtain⟨f,E,rfl⟩:=h;exact(I f (Br E)).bound
abbrev Mn:List Nat:=[0,1,2,5,6,7,8,9,10,17,22,30,33]
def B8j(p:Prog)(h:p.Sm)(env:List Am)(a0:env.length<=sm)(he:∀f,f∈env->f.Sm)(x:Ty)(hx:x.Sm):Ac prog 97 [.Ah (Ep p) 0,.d (.slice (Ar env)),B6 x] (.d (.slice (C1 (D8 p env x)))):=by
 have V:=B9k env x a0 he;unfold D8 Dk;have W:=h.decls.1;have a2:∀y,Cm env x=some y->y.Sm:=λy=>C4s he;generalize Cm env x=o at*;cases o with
 |some y =>
  have hy:=a2 y rfl;simp only[Zw]at V;simp only[E1,An2,Ae];have I:=C5b p h y hy;have E:=C1s p y;have J:=C1d p h y;have a1:Ch p y 2=false->H8 p y=[]:=λhf=>by unfold H8;rw[A6 (by rw[hf];decide)]
  rw[show(if Ch p y 2=true then H8 p y else[])=H8 p y by cases hf:Ch p y 2 with|false=>rw[A6 (by decide),a1 hf]|true=>rw[A9 rfl]];generalize Ch p y 2=bb at*;refine cB func97 ?_;refine sR Mn ?_;refine sC V Mn ?_;refine kR Mn λL u1=>?_;refine A0.tt rfl ?_
  (refine lV Mn λK z=>?_;apply z;clear z K;try simp only[A4,])
  refine u1 _ _ ?_;clear u1 L
  (refine A0.Ef Mn [22] (by decide +kernel) λK z=>?_;refine ev ?_;refine⟨_,_,_,_,_,rfl,I,?_⟩;(try refine ev ?_);apply z;clear z K)
  refine sK λL u1=>?_;have M:∀sl bx,Ag sl 9=.acc 22->A7 bx 22=some (.rows 7 (C1 (H8 p y)))->L sl bx:=λsl bx g1 g2=>by
   refine u1 _ _<|A0.ww (sl':=[(9,.acc 22)]) (bx':=[(22,.rows 7 (C1 (H8 p y)))]) (by simp[sle,Ax,g1]) (by simp[ble,g2]) ?_
   (refine A0.Ef Mn [800035] (by decide +kernel) λK z=>?_;refine ev ?_;refine⟨_,_,_,C4m 22 (H8 p y) rfl rfl E J,?_⟩;(try refine ev ?_);apply z;clear z K)
   refine sR Mn ?_;exact aR
  cases bb
  .refine sR Mn ?_;refine A0.ff rfl (A0.kk (M _ _ rfl rfl))
  .refine sR Mn ?_;refine A0.ff rfl (A0.kk (M _ _ rfl rfl))
 |none =>
  simp only[Nh,Ky,A6 (show ¬(false=true) by decide)];simp only[Zw]at V;have I:=C5b p h x hx;have Z:=F3k p h x hx;have E:=C1s p x;have J:=C1d p h x;have O:=(B9n p x p.decls.length (Bi _)).1;have U:=D3 (B5t p x p.decls.length) W;generalize Ch p x 2=bb at*;refine cB func97 ?_;refine sR Mn ?_;refine sC V Mn ?_;refine kR Mn λL u1=>?_;refine A0.ff rfl (A0.kk (u1 _ _ ?_));clear u1 L
  (refine A0.Ef Mn [22] (by decide +kernel) λK z=>?_;refine ev ?_;refine⟨_,_,_,_,_,rfl,I,?_⟩;(try refine ev ?_);apply z;clear z K)
  refine sK λL u1=>?_;cases bb
  .refine sR Mn ?_;refine A0.tt rfl ?_
   (refine A0.Qs Mn [33] (by decide +kernel) λK z=>?_;refine ev ?_;refine⟨_,_,_,_,_,rfl,Z,?_⟩;(try refine ev ?_);apply z;clear z K;try simp only[A4,])
   refine u1 _ _ ?_;rw[A6 (by decide)]
   (refine A0.Ef Mn [800035] (by decide +kernel) λK z=>?_;refine ev ?_;refine⟨_,_,_,C4m 33 (Gt p x p.decls.length) rfl rfl O U,?_⟩;(try refine ev ?_);apply z;clear z K)
   refine sR Mn ?_;exact aR
  .refine sR Mn ?_;refine A0.ff rfl (A0.kk (u1 _ _ ?_));rw[A9 rfl]
   (refine A0.Ef Mn [800035] (by decide +kernel) λK z=>?_;refine ev ?_;refine⟨_,_,_,C4m 22 (H8 p x) rfl rfl E J,?_⟩;(try refine ev ?_);apply z;clear z K)
   refine sR Mn ?_;exact aR
def A7o(m:List A5)(i j:Nat):Prop:=∀(a b:Nat)(s t:A5),a<b->b<=i->b≠j->m[a]?=some s->m[b]?=some t->Bs s.name t.name<=0
def A7q(m:List A5)(j:Nat)(s t:A5):List A5:=(m.set j s).set (j - 1) t
def E1c{m:List A5}{j:Nat}{s t:A5}(L:0<j)(hs:m[j - 1]?=some s)(ht:m[j]?=some t)(a:Nat) :
  (A7q m j s t)[a]?=if a=j - 1 then some t else if a=j then some s else m[a]?:=by
 have M:=(B5.1 hs).1;have J:=(B5.1 ht).1;unfold A7q;rw[Ao8,Ao8];by_cases E:a=j - 1
 .subst E;simp;omega
 .by_cases I:a=j
  .subst I;simp[E,Um E,J]
  .simp[E,I,Um E,Um I]
def G5m{m:List A5}{j:Nat}{s t:A5}(E:0<j)(hs:m[j - 1]?=some s)(ht:m[j]?=some t):(A7q m j s t).Perm m:=by
 have I:=(B5.1 hs);have J:=(B5.1 ht);obtain⟨V,rfl⟩:=I;obtain⟨L,rfl⟩:=J;have W:m=m.take (j - 1)++m[j - 1]::m[j]::m.drop (j+1):=by
  conv=>lhs;rw[<-Ak4 (j - 1) m]
  rw[Ge V]
  congr 2
  have:j - 1+1=j:=by omega
  rw[this,Ge L]
 have M:A7q m j m[j - 1] m[j]=m.take (j - 1)++m[j]::m[j - 1]::m.drop (j+1):=by
  refine M3 λa=>?_;rw[E1c E hs ht];have O:(m.take (j - 1)).length=j - 1:=by rw[Dx];omega
  by_cases U:a<j - 1
  .rw[A6 (by omega),A6 (by omega),Ls (by omega),Am7 U]
  .rw[M5 (by omega),O];obtain⟨c,rfl⟩:∃c,a=j - 1+c:=⟨a - (j - 1),by omega⟩;rw[show j - 1+c - (j - 1)=c by omega]
   match c with
   |0=>simp
   |1=>rw[A6 (by omega),A9 (by omega)];simp
   |c+2 =>
    rw[A6 (by omega),A6 (by omega)];simp only[Xo,Th]
    congr 1;omega
 rw[M]
 conv=>rhs;rw[W]
 exact List.Perm.append_left _ (List.Perm.swap ..)
def A7o.step{m:List A5}{i j:Nat}{s t:A5}(h:A7o m i j)(W:0<j)(Z:j<=i)(hs:m[j - 1]?=some s)(ht:m[j]?=some t)(a0:Bs t.name s.name<0):A7o (A7q m j s t) i (j - 1):=by
 intro a b u v O J M E I;rw[E1c W hs ht]at E I;rw[A6 M]at I;by_cases U:b=j
 .subst U;simp only[Ae,B4]at I;subst I;by_cases L:a=b - 1
  .rw[A9 L]at E;simp only[B4]at E;subst E;omega
  .rw[A6 L,A6 (by omega)]at E;exact h a (b - 1) u s (by omega) (by omega) (by omega) E hs
 .rw[A6 U]at I;by_cases L:a=j - 1
  .rw[A9 L]at E;simp only[B4]at E;subst E;exact h j b t v (by omega) J (by omega) ht I
  .rw[A6 L]at E;by_cases V:a=j
   .rw[A9 V]at E;simp only[B4]at E;subst E;exact h (j - 1) b s v (by omega) J (by omega) hs I
   .rw[A6 V]at E;exact h a b u v O J U E I
def A3m(m:List A5)(i:Nat):Prop:=∀(a b:Nat)(s t:A5),a<b->b<i->m[a]?=some s->m[b]?=some t->Bs s.name t.name<=0
def A3m.start{m:List A5}{i:Nat}(h:A3m m i):A7o m i i:=λa b s t E J I hs ht=>h a b s t E (by omega) hs ht
def A7o.done{m:List A5}{i j:Nat}(h:A7o m i j)(M:j=0\/∃s t,m[j - 1]?=some s/\m[j]?=some t/\Bs s.name t.name<=0):A3m m (i+1):=by
 intro a b s t I U hs ht;by_cases E:b=j
 .subst E;rcases M with W|⟨u,v,L,O,J⟩
  .omega
  .rw[O]at ht;simp only[B4]at ht;subst ht;by_cases V:a=b - 1
   .subst V;rw[L]at hs;simp only[B4]at hs;subst hs;exact J
   .exact C6h _ _ _ (h a (b - 1) s u (by omega) (by omega) (by omega) hs L) J
 .exact h a b s t I (by omega) E hs ht
def A3m.sorted{m l:List A5}(J:(l.map (·.name)).Nodup)(hp:m.Perm l)(h:A3m m m.length):m=S7 l:=by refine D6y J hp ?_;rw[Ao1];intro i j L I E;exact h i j _ _ E I (B8 L) (B8 I)
def F6w(m:List A5)(j:Nat)(s:A5):C1 (m.set j s)=(C1 m).set j (Fw s):=by simp only[C1,List.map_set]
def A0.E7t{ro:Option Nat}{P:Program}{n:Nat}{Q:Exit->SL->Aa->Prop}{sl:SL}{bx:Aa}{c:Code}(t k J sz:Nat)(rs:List (List D))(U:J<=999999)
  (hx:(Ag sl t=.acc k/\A7 bx k=some (.rows sz rs))\/(Ag sl t=.d .nil/\rs=[]))(h:A0 ro P n c Q [(t,.acc J)] [(J,.rows sz rs)]):A0 ro P n c Q sl bx:=by
 rcases hx with⟨M,Z⟩|⟨M,rfl⟩
 .intro C S w β a hs;have O:=F8 Z;obtain⟨b1,W⟩:=And.intro (hs.inv.box k _ O) (hs.inv.B7 k _ O);refine h C S w (Eg β J (β k)) a ⟨?_,hs.size,hs.defers,λu=>?_⟩
  .refine hs.inv.step (Bk.refl S w) (λb L=>.inl L) hs.inv.Bf (λb _ _=>rfl) rfl rfl rfl (Bi _) ?_ ?_ (λj E=>Lo (by omega)) ?_
   .intro j c E;simp only[Aw,Eo,Ej,Eh]at E;obtain⟨rfl,rfl⟩:=E;rw[H2];exact⟨Df.ext (c:=.rows sz rs) b1 (Bk.refl _ _) (λ_ _=>rfl) (by simp[Ap.has]),λb L=>⟨(W b L).1,(W b L).2.1,.inr ⟨k,_,O,L⟩⟩⟩
   .intro j c j' c' E I b _ _;simp only[Aw,Eo,Ej,Eh]at E I;exact⟨E.1.trans I.1.symm,E.2.trans I.2.symm⟩
   .intro j Y st E;simp at E
  .simp only[Ag];split
   .rename_i he;subst he;have V:=hs.slot t;rw[M]at V;generalize a.tmps.getD t undef=v at V;cases V;have:=Ak.acc (S:=S) (w:=w) (β:=Eg β J (β k)) J;rw[H2]at this;exact this
   .exact .undef _
 .refine A0.pp J sz t M ?_ U;exact A0.ww sS sB h
abbrev Kk:List Nat:=[0,1,2,3,5,6,7,8,9,10,11,16,24,27,29,32,36,56]
def B9a(p:Prog)(h:p.Sm)(env:List Am)(aa:env.length<=sm)(he:∀f,f∈env->f.Sm)(x:Ty)(hx:x.Sm):Ac prog 75 [D7 p,.d (.slice (Ar env)),B6 x] (.d (.slice (C1 (D8 p env x)))):=by
 have af:=A8y env x aa;have a6:=h.decls.1;unfold D8;have hU:Dk p env x=Dk p env x:=rfl;generalize I:Dk p env x=l at hU |-;clear hU;have ag:(l.map (·.name)).Nodup:=by
  rw[<-I];unfold Dk;split
  .exact C1s _ _
  .split
   .simp
   .exact(B9n _ _ _ (Bi _)).1
 have Z:l.length<=sm:=by
  rw[<-I];unfold Dk;split
  .exact C1d p h _
  .split
   .simp
   .exact D3 (B5t ..) a6
 have hy:((Cm env x).getD x).Sm:=by
  cases hb:Cm env x with
  |none=>exact hx
  |some y=>exact C4s he hb
 have ab:(Cm env x).isSome = !decide (Ez env x<0):=by
  unfold Cm;split
  .rename_i M;simp[M]
  .rename_i M;obtain⟨f,hf,_⟩:=A6b M;simp[hf,M]
 have ah:¬Ez env x<0->∃f,env[(Ez env x).toNat]?=some f/\(Ez env x).toNat<env.length/\(Cm env x).getD x=f.bound:=λM=>by obtain⟨f,h1,h2,_⟩:=A6b M;exact⟨f,h1,h2,by unfold Cm;rw[A6 M,h1];rfl⟩
 have ak:Ez env x<0->(Cm env x).getD x=x:=λM=>by unfold Cm;rw[A9 M];rfl
 unfold Dk at I;rw[ab]at I;generalize(Cm env x).getD x=y at*;generalize Ez env x=k at*;have L:=A5q p y 2;have ai:=H0c p h y hy;have a9:=G3b p h y hy;refine cB func75 ?_;refine sR Kk ?_;refine sR Kk ?_;refine sC af Kk<|sK λK1 u1=>?_;have a3:∀sl bx,Ag sl 3=.box 3 0->Ag sl 5=.box 5 0->Ag sl 7=.d .nil->Ag sl 8=A8 k->A7 bx 3=some (.cells ((An p).map .d))->A7 bx 5=some (.cells ((Be y).map .d))->K1 sl bx:=λsl bx g1 g2 g3 g4 g5 g6=>by
  refine u1 _ _<|A0.ww (sl':=[(3,.box 3 0),(5,.box 5 0),(7,.d .nil),(8,A8 k)]) (bx':=[(3,.cells ((An p).map .d)),(5,.cells ((Be y).map .d))]) (by simp[sle,Ax,g1,g2,g3,g4]) (by simp[ble,g5,g6]) ?_;clear u1 K1 g1 g2 g3 g4 g5 g6;refine sK λK2 u2=>?_;have V:∀q sl bx,(Ag sl 7=.acc q/\A7 bx q=some (.rows 7 (C1 l)))\/(Ag sl 7=.d .nil/\C1 l=[])->K2 sl bx:=λq sl bx g=>by
   refine u2 _ _<|A0.E7t 7 q 27 7 (C1 l) (by decide) g ?_;clear u2 K2;refine kR Kk λK3 u3=>?_;refine A0.bb (A0.loop (X:=List A5 × Nat) (λz=>[(7,.acc 27),(9,A8 z.2)]) (λz=>[(27,.rows 7 (C1 z.1))])
    (λz=>z.1.Perm l/\z.2<=l.length/\A3m z.1 z.2) (λz=>l.length - z.2) (l,0) ⟨List.Perm.refl _,As4 _,by intro a b s t _ h;omega⟩ sS sB ?_)
   rintro⟨m,i⟩ ⟨J,am,ho⟩;simp only at J am ho |-;have a5:=J.length_eq;refine sK λK4 u4=>?_;by_cases a4:(i:Int)<(m.length:Int)
   .refine Aq a4 Kk ?_;refine gI u4 ?_;clear u4 K4;refine sK λK5 u5=>A0.bb<|sR Kk ?_;refine A0.bb (A0.loop (X:=List A5 × Nat) (λz=>[(7,.acc 27),(9,A8 i),(10,A8 z.2)]) (λz=>[(27,.rows 7 (C1 z.1))])
     (λz=>z.1.Perm l/\z.2<=i/\A7o z.1 i z.2) (λz=>z.2) (m,i) ⟨J,Bi _,ho.start⟩ sS sB ?_)
    rintro⟨m,j⟩ ⟨J,a1,hI⟩;simp only at J a1 hI |-;have a5:=J.length_eq;have out:A3m m (i+1)->∀sl bx,Ag sl 7=.acc 27->Ag sl 9=A8 i->A7 bx 27=some (.rows 7 (C1 m))->K5 sl bx:=λhO sl bx g1 g2 g3=>by refine u5 _ _ ?_;refine A0.ww (sl':=[(7,.acc 27),(9,A8 i)]) (bx':=[(27,.rows 7 (C1 m))]) (by simp[sle,Ax,g1,g2]) (by simp[ble,g3]) ?_;refine lT Kk ?_;exact⟨(m,i+1),⟨J,by simp only;omega,hO⟩,by simp only;omega,sS,by simp[ble,A7]⟩
    refine sK λK6 u6=>?_;by_cases aj:j=0
    .have a':¬(0:Int)<(j:Int):=by omega
     (refine sG Kk [] 14 [] λK z=>?_;refine As a' ?_;apply z;clear z K)
     refine A0.ss rfl ?_;simp only[A4,Ab,Ae];exact out (hI.done (.inl aj)) _ _ rfl rfl rfl
    .have ac:(0:Int)<(j:Int):=by omega
     obtain⟨t,ht⟩:∃t,m[j]?=some t:=⟨_,B8 (by omega)⟩;obtain⟨s,hs⟩:∃s,m[j - 1]?=some s:=⟨_,B8 (by omega)⟩;have a0:=F6 ht;have O:=F6 hs;have e1:(j:Int) - 1=((j - 1:Nat):Int):=by omega
     have a7:=B4i t.name s.name
     (refine sG Kk [] 14 [] λK z=>?_;simp -implicitDefEqProofs only[EV,Nat.reduceAdd,Nat.reduceEqDiff,Mx,B7c,Td,ac,e1,a0,O,Fw,];refine⟨by omega,by omega,?_⟩;refine⟨by first| (unfold Az;omega)| (simp only[Az,sm]at*;omega),?_⟩;refine⟨by omega,by omega,?_⟩;refine cc a7 ?_;apply z;clear z K)
     refine A0.cond rfl (λhc=>?_) (λhc=>?_)
     .have a2:Bs t.name s.name<0:=by simpa using hc
      refine A0.kk (u6 _ _ ?_);clear u6 K6 out;refine sK λK7 u7=>A0.bb ?_
      (refine sQ Kk λK z=>?_;simp -implicitDefEqProofs only[EV,Nat.reduceAdd,Nat.reduceEqDiff,Nat.reduceBEq,Nat.reduceLeDiff,reduceCtorEq,B7c,Td,a0,Fw,];refine⟨by omega,by omega,?_⟩;apply z;clear z K)
      have a8:((C1 m).set j (Fw s))[j - 1]?=some (Fw s):=by rw[At4 (by omega)];exact O
      (refine sQ Kk λK z=>?_;refine ev3 e1 a0 O ?_;refine⟨by unfold Az;unfold sm at Z;omega,by omega,by omega,by omega,by omega,_,Fw s,rfl,rfl,by simp,?_⟩;(try refine ev ?_);apply z;clear z K)
      (refine lQ Kk λK z=>?_;simp -implicitDefEqProofs only[EV,Nat.reduceAdd,Nat.reduceEqDiff,reduceCtorEq,B7c,Td,e1,List.length_set];refine⟨by unfold Az;unfold sm at Z;omega,by omega,by omega,Fw s,Fw t,a8,rfl,by simp[Fw],?_⟩;(try refine ev ?_);apply z;clear z K;try simp only[A4,Ab])
      refine u7 _ _ ?_;clear u7 K7
      (refine lQ Kk λK z=>?_;refine As e1 ?_;refine⟨by unfold Az;unfold sm at Z;omega,?_⟩;(try refine As e1 ?_);apply z;clear z K;try simp only[A4,])
      exact⟨(A7q m j s t,j - 1),⟨(G5m (by omega) hs ht).trans J,by simp only;omega,hI.step (by omega) a1 hs ht a2⟩,by simp only;omega,sS,by simp[ble,A7,A7q,F6w,Fw]⟩
     .have ad:Bs s.name t.name<=0:=by
       have:=Zd t.name s.name;have:¬Bs t.name s.name<0:=by simpa using hc
       omega
      refine A0.xx ?_;simp only[A4,Ab,Ae];exact out (hI.done (.inr ⟨s,t,hs,ht,ad⟩)) _ _ rfl rfl rfl
   .have:i=l.length:=by omega
    subst this;refine Aq a4 Kk ?_;refine A0.ss rfl ?_;simp only[A4,Ab,Ae];refine u3 _ _ ?_;have ae:m=S7 l:=(show A3m m m.length by rw[a5];exact ho).sorted ag J;subst ae;refine sR Kk ?_;exact aR
  by_cases E:Ch p y 2=true
  .rw[E]at L;rw[A9 E]at I;subst I;refine sC L Kk ?_;refine A0.tt rfl ?_
   (refine A0.Qs Kk [27] (by decide +kernel) λK z=>?_;refine ev ?_;refine⟨_,_,_,_,_,rfl,ai E,?_⟩;(try refine ev ?_);apply z;clear z K;try simp only[A4,])
   exact V 27 _ _ (.inl ⟨rfl,rfl⟩)
  .rw[A6 E]at I;rw[Bool.not_eq_true]at E;rw[E]at L;refine sC L Kk ?_;refine A0.ff rfl ?_;by_cases W:k<0
   .rw[A6 (by simp[W])]at I;subst I;refine Aq W Kk ?_;refine A0.tt rfl ?_
    (refine A0.Qs Kk [32] (by decide +kernel) λK z=>?_;refine ev ?_;refine⟨_,_,_,_,_,rfl,a9,?_⟩;(try refine ev ?_);apply z;clear z K;try simp only[A4,])
    exact V 32 _ _ (.inl ⟨rfl,rfl⟩)
   .rw[A9 (by simp[W])]at I;subst I;refine Aq W Kk ?_;exact A0.ff rfl (A0.kk (V 27 _ _ (.inr ⟨rfl,rfl⟩)))
 by_cases W:k<0
 .have U:¬k >= 0:=by omega
  have:=ak W;subst this;refine Aq U Kk ?_;exact A0.ff rfl (A0.kk (a3 _ _ rfl rfl rfl rfl rfl rfl))
 .have U:k >= 0:=by omega
  obtain⟨f,h1,h2,h3⟩:=ah W;subst h3;refine Aq U Kk ?_;refine A0.tt rfl ?_
  (refine lV Kk λK z=>?_;refine ci (F5 h1) ?_;apply z;clear z K;try simp only[A4,])
  exact a3 _ _ rfl rfl rfl rfl rfl rfl
def Gj(l:List A5)(E:A3):Int:=Dq (λs=>decide (s.name=E)) l
def F9p(E:A3)(s:A5):Ac prog 256 [Ea s,.Ah [.str E] 0] (Ay (decide (s.name=E))):=by refine cB func256 ?_;refine sR [0,1,2,3] ?_;refine sR [0,1,2,3] ?_;exact aR
def Zf:A5:=⟨[],[],[],.mk [] [] 0,0⟩
def Yh(l:List A5)(E:A3):SV:=if Gj l E<0 then .tuple [Ea Zf,Ay false]else .tuple [Ea ((l[(Gj l E).toNat]?).getD Zf),Ay true]
abbrev B1a:List Nat:=[0,1,3,4,5,6,11]
def C8x(l:List A5)(M:l.length<=sm)(E:A3):Ac prog 212 [.d (.slice (C1 l)),D9 E] (Yh l E):=by
 have J:=F5b 256 [.Ah [.str E] 0] (λ_=>rfl) (λs=>decide (s.name=E)) l M (λs _=>F9p E s);have O:=M9 (λs:A5=>decide (s.name=E)) l;unfold Yh Gj;generalize Dq (λs:A5=>decide (s.name=E)) l=k at*;refine cB func212 ?_;refine sR B1a ?_;refine A0.zz 3 rfl rfl<|A0.ww (sl':=[(0,.d (.slice (C1 l))),(3,.Ah [.str E] 0),(4,.box 4 0),(5,Ay false)]) (bx':=[(4,.cells Qm)])
  (by simp[Mk,SV.sub,sle,Ax,Ag]) (by simp[Lk,Ap.sub,SV.La,SV.sub,ble,A7,Ca]) ?_
 refine sC J B1a ?_;rcases O with⟨rfl,_⟩|⟨j,s,rfl,hs,_⟩
 .refine kR B1a λL u1=>?_;refine tI ?_;refine sR B1a ?_;exact aR
 .have I:¬(j:Int)<0:=by omega
  rw[A6 I];simp only[Hs,hs,E1];refine Ai I B1a λL u1=>?_;refine kI u1 ?_
  (refine sV B1a λK z=>?_;refine ci (F6 hs) ?_;apply z;clear z K)
  exact aR
def B1t(l:List A5)(w:A5):Bool:=if Gj l w.name<0 then true else !Qo ((l[(Gj l w.name).toNat]?).getD Zf).canon w.canon
def Jb(l m:List A5):List A3:=(m.filter (B1t l)).map (·.name)
def E4o{l m:List A5}{j:Nat}{d:A5}(ht:m.take (j+1)=m.take j++[d]):Jb l (m.take (j+1))=Jb l (m.take j)++if B1t l d=true then[d.name]else[]:=by
 unfold Jb;rw[ht,Ap5,Gg]
 congr 1
 simp only[Aq8,As1];split <;> rfl
def D1g(l m:List A5)(j:Nat):(Jb l (m.take j)).length<=j:=by unfold Jb;rw[Bn];exact D3 (Am3 ..) (by rw[Dx];omega)
def H2c(l m:List A3):C5 (l++m)=C5 l++C5 m:=by simp[C5]
abbrev Nx:List Nat:=[0,1,4,5,7,8,9,10,11,12,13,30]
def F2e(l m:List A5)(hl:l.length<=sm)(hm:m.length<=sm)(hs:∀s,s∈l->s.Sm)(ht:∀s,s∈m->s.Sm):Ac prog 154 [.d (.slice (C1 l)),.d (.slice (C1 m))] (Cy (Jb l m)):=by
 refine cB func154 ?_;refine sR Nx ?_;refine sR Nx ?_;refine A0.pp 5 1 5 rfl<|kR Nx λK1 u1=>?_;refine A0.bb (A0.ii m (X:=Unit) (λj _=>[(0,.d (.slice (C1 l))),(5,.acc 5),(10,.d (.slice (C1 m))),(11,A8 m.length),(12,A8 j)]) (λj _=>[(5,.rows 1 (C5 (Jb l (m.take j))))])
  (λj _=>True) () trivial sS (by simp[ble,A7,Jb,C5]) ?_ ?_)
 .intro _ _;rw[Dm];refine Aq B3 Nx ?_;refine A0.stop rfl ?_;simp only[A4,Ab,Ae];refine u1 _ _<|sR Nx ?_;exact aR
 .intro j _ d hd J dp tk U _;have Z:=D1g l m j;have E:=E4o (l:=l) tk;have I:=C8x l hl d.name;have W:=ht d J;have V:∀e,e∈l->Ac prog 228 [Ea e,Ea d] (Ay (Qo e.canon d.canon)):=λe O=>F1g e d (hs e O) W;have hc:=M9 (λs:A5=>decide (s.name=d.name)) l;unfold Yh at I;unfold B1t at E;unfold Gj at*;generalize Dq (λs:A5=>decide (s.name=d.name)) l=k at*;refine Aq U Nx ?_;refine A0.Fk rfl<|sK λM u2=>A0.bb ?_
  (refine sV Nx λK z=>?_;refine ci (F6 hd) ?_;apply z;clear z K)
  rcases hc with⟨rfl,_⟩|⟨q,e,rfl,he,_⟩
  .rw[A9 (show(-1:Int)<0 by decide)]at I E;rw[A9 rfl]at E;refine sC I Nx ?_;refine sR Nx ?_;refine A0.tt rfl ?_
   (refine lV Nx λK z=>?_;refine⟨by simp,by unfold lim sm at*;omega,?_⟩;(try refine ev ?_);apply z;clear z K;try simp only[A4,Ab])
   refine u2 _ _ ?_;clear u2 M;refine lT Nx ?_;exact⟨(),trivial,sS,by simp[ble,A7,E,C5]⟩
  .have L:¬(q:Int)<0:=by omega
   rw[A6 L]at I E;simp only[Hs,he,E1]at I E;have ha:=V e (Br he);generalize Qo e.canon d.canon=bb at*;cases bb
   .rw[A9 (by decide)]at E;refine sC I Nx ?_;refine sC ha Nx ?_;refine A0.tt rfl ?_
    (refine lV Nx λK z=>?_;refine⟨by simp,by unfold lim sm at*;omega,?_⟩;(try refine ev ?_);apply z;clear z K;try simp only[A4,Ab])
    refine u2 _ _ ?_;clear u2 M;refine lT Nx ?_;exact⟨(),trivial,sS,by simp[ble,A7,E,C5]⟩
   .rw[A6 (by decide),I8]at E;refine sC I Nx ?_;refine sC ha Nx ?_;refine A0.ff rfl (A0.kk (u2 _ _ ?_));clear u2 M;refine lT Nx ?_;exact⟨(),trivial,sS,by simp[ble,A7,E]⟩
def F2d(l m:List A5)(I:l.length<=sm)(L:m.length<=sm)(hs:∀s,s∈l->s.Sm)(ht:∀s,s∈m->s.Sm):Ac prog 96 [.d (.slice (C1 l)),.d (.slice (C1 m))] (Ay (decide (Jb l m=[]))):=by
 have h:=F2e l m I L hs ht;have e:decide (((Jb l m).length:Int)=0)=decide (Jb l m=[]):=by
  by_cases E:Jb l m=[]
  .simp[E]
  .have J:¬((Jb l m).length:Int)=0:=by have:=List.length_pos_iff.2 E;omega
   rw[Ce E,Ce J]
 rw[<-e];generalize Jb l m=z at*;refine cB func96 ?_;refine sR [0,1,4] ?_;refine sC h [0,1,4] ?_;exact aR
abbrev Rx:List Nat:=[0,1,4,5,6,7,11,34]
def G2g(l m:List A5)(hl:l.length<=sm)(hm:m.length<=sm)(hs:∀s,s∈l->s.Sm)(ht:∀s,s∈m->s.Sm):Ac prog 102 [.d (.slice (C1 l)),.d (.slice (C1 m))] (Cy (Jb l m)):=by
 refine cB func102 ?_;refine sR Rx ?_;refine sR Rx ?_;refine A0.pp 5 1 5 rfl<|kR Rx λK1 u1=>?_;refine A0.bb (A0.ii m (X:=Unit) (λj _=>[(0,.d (.slice (C1 l))),(1,.d (.slice (C1 m))),(5,.acc 5),(6,A8 j)]) (λj _=>[(5,.rows 1 (C5 (Jb l (m.take j))))])
  (λj _=>True) () trivial sS (by simp[ble,A7,Jb,C5]) ?_ ?_)
 .intro _ _;rw[Dm];refine Ai B3 Rx λJ u2=>?_;refine A0.ss rfl ?_;simp only[A4,Ab,Ae];refine u1 _ _<|sR Rx ?_;exact aR
 .intro j _ d L M dp tk W _;have a1:=D1g l m j;have E:=E4o (l:=l) tk;have V:=C6p l d.name hl;have a0:=ht d M;have Z:∀e,e∈l->Ac prog 169 [Ea e,Ea d] (Ay (Qo e.canon d.canon)):=λe U=>F5e e d (hs e U) a0;have hc:=M9 (λs:A5=>decide (s.name=d.name)) l;unfold B1t at E;unfold Gj at*;generalize Dq (λs:A5=>decide (s.name=d.name)) l=k at*;refine Ai W Rx λJ u2=>?_;refine gI u2 ?_;clear u2 J;refine sK λJ u2=>A0.bb ?_
  (refine sV Rx λK z=>?_;refine ci (F6 L) ?_;refine cc V ?_;apply z;clear z K)
  rcases hc with⟨rfl,_⟩|⟨q,e,rfl,O,_⟩
  .rw[A9 (show(-1:Int)<0 by decide)]at E;rw[A9 rfl]at E;refine dR Rx 11 ?_;refine A0.tt rfl ?_
   (refine lV Rx λK z=>?_;refine ci (F6 L) ?_;refine⟨by simp,by unfold lim sm at*;omega,?_⟩;(try refine ev ?_);apply z;clear z K;try simp only[A4,Ab])
   refine u2 _ _ ?_;clear u2 J;refine lT Rx ?_;exact⟨(),trivial,sS,by simp[ble,A7,E,C5]⟩
  .have I:¬(q:Int)<0:=by omega
   rw[A6 I]at E;simp only[Hs,O,E1]at E;have ha:=Z e (Br O);generalize Qo e.canon d.canon=bb at*;cases bb
   .rw[A9 (by decide)]at E
    (refine sG Rx [] 11 [] λK z=>?_;refine As I ?_;refine ci (F6 O) ?_;refine ci (F6 L) ?_;refine cc ha ?_;apply z;clear z K)
    refine A0.tt rfl ?_
    (refine lV Rx λK z=>?_;refine ci (F6 L) ?_;refine⟨by simp,by unfold lim sm at*;omega,?_⟩;(try refine ev ?_);apply z;clear z K;try simp only[A4,Ab])
    refine u2 _ _ ?_;clear u2 J;refine lT Rx ?_;exact⟨(),trivial,sS,by simp[ble,A7,E,C5]⟩
   .rw[A6 (by decide),I8]at E
    (refine sG Rx [] 11 [] λK z=>?_;refine As I ?_;refine ci (F6 O) ?_;refine ci (F6 L) ?_;refine cc ha ?_;apply z;clear z K)
    refine A0.ff rfl (A0.kk (u2 _ _ ?_));clear u2 J;refine lT Rx ?_;exact⟨(),trivial,sS,by simp[ble,A7,E]⟩
def G3d{vars:List A3}{args:List Ty}(E:∀u,u∈args->u.Sm){l:List A5}(L:∀s,s∈l->s.Sm)(j:Nat):∀s,s∈Io vars args l j->s.Sm:=λs hs=>by unfold Io at hs;obtain⟨⟨x,i⟩,M,rfl⟩:=B1.1 hs;have I:=(Kc.1 M).1;have J:=Hh (Uv I);exact A5.Sm.subst E (L x J).canon
def E6t{p:Prog}(h:p.Sm){env:List Am}(V:∀f,f∈env->f.Sm){x:Ty}(E:x.Sm):∀s,s∈Dk p env x->s.Sm:=by
 have J:((Cm env x).getD x).Sm:=by
  cases O:Cm env x with
  |none=>exact E
  |some y=>exact C4s V O
 unfold Dk;generalize(Cm env x).getD x=y at*;intro s hs;split at hs
 .rename_i L;unfold H8 at hs;rw[A9 L]at hs;obtain⟨d,I,_⟩:=Qa (by decide) L;rw[I,E1]at hs;exact G3d J.arg (h.decls.2 d (Qc I)).sigs.2 _ s hs
 .split at hs
  .simp at hs
  .unfold Gt at hs;obtain⟨⟨d,i⟩,E,rfl⟩:=B1.1 hs;have M:=(Kc.1 E).1;have U:d∈p.decls:=Hh (Uv M);exact A5.Sm.subst J.arg (h.decls.2 d U).sig.canon
def G8t{p:Prog}(h:p.Sm)(env:List Am)(x:Ty):(Dk p env x).length<=sm:=by
 unfold Dk;split
 .exact C1d p h _
 .split
  .simp
  .exact D3 (B5t ..) h.decls.1
def Ya{p:Prog}(h:p.Sm){env:List Am}(E:∀f,f∈env->f.Sm){x:Ty}(I:x.Sm):∀s,s∈D8 p env x->s.Sm:=λs hs=>E6t h E I s ((A8b _).mem_iff.1 hs)
def A4h{p:Prog}(h:p.Sm)(env:List Am)(x:Ty):(D8 p env x).length<=sm:=by unfold D8;rw[(A8b _).length_eq];exact G8t h env x
def isIface(p:Prog)(env:List Am)(x:Ty):Bool:=Ch p x 2 && !(Cm env x).isSome
abbrev A1s:List Nat:=[0,1,2,5,6,8,10,20]
def G7g(p:Prog)(h:p.Sm)(env:List Am)(J:env.length<=sm)(L:∀f,f∈env->f.Sm)(x:Ty)(M:x.Sm):Ac prog 95 [.Ah (Ep p) 0,.d (.slice (Ar env)),B6 x] (Ay (isIface p env x)):=by
 have I:=B9k env x J L;have E:=C5b p h x M;unfold isIface;generalize Cm env x=o at*;generalize Ch p x 2=bb at*;refine cB func95 ?_;refine sR A1s ?_;cases o with
 |none =>
  simp only[Zw]at I;refine sC I A1s ?_
  (refine A0.Ef A1s [20] (by decide +kernel) λK z=>?_;refine ev ?_;refine⟨_,_,_,_,_,rfl,E,?_⟩;(try refine ev ?_);apply z;clear z K)
  cases bb
  .refine sR A1s ?_;exact aR
  .refine sR A1s ?_;exact aR
 |some y =>
  simp only[Zw]at I;refine sC I A1s ?_
  (refine A0.Ef A1s [20] (by decide +kernel) λK z=>?_;refine ev ?_;refine⟨_,_,_,_,_,rfl,E,?_⟩;(try refine ev ?_);apply z;clear z K)
  cases bb
  .refine sR A1s ?_;exact aR
  .refine sR A1s ?_;exact aR
def E4n(env:List Am)(x:Ty):(Cm env x).isSome = !decide (Ez env x<0):=by
 unfold Cm;split
 .rename_i E;simp[E]
 .rename_i E;obtain⟨f,I,_⟩:=A6b E;simp[I,E]
def E2n(p:Prog)(env:List Am)(I:env.length<=sm)(x:Ty):Ac prog 101 [D7 p,.d (.slice (Ar env)),B6 x] (Ay (isIface p env x)):=by
 have J:=A8y env x I;have L:=A5q p x 2;unfold isIface;rw[E4n];generalize Ez env x=k at*;generalize Ch p x 2=bb at*;refine cB func101 ?_;refine sR [0,1,2,3,5,6] ?_;by_cases E:k<0
 ·(refine sV [0,1,2,3,5,6] λK z=>?_;refine⟨_,.inl ⟨_,rfl,J,rfl⟩,?_⟩;(try refine As E ?_);refine cc L ?_;apply z;clear z K)
  simp only[E,X0,Au7,Au2,Au8];exact aR
 ·(refine sV [0,1,2,3,5,6] λK z=>?_;refine⟨_,.inl ⟨_,rfl,J,rfl⟩,?_⟩;(try refine As E ?_);apply z;clear z K)
  simp only[E,Ar8,Au7,Au2,Wx];exact aR
def Dd(p:Prog)(env:List Am)(t i:Ty):Bool:=if isIface p env i=true then decide (Jb (D8 p env t) (D8 p env i)=[])else Jr t i
abbrev B2p:List Nat:=[0,1,2,3,6,7,8,13]
def B5g(p:Prog)(h:p.Sm)(env:List Am)(E:env.length<=sm)(I:∀f,f∈env->f.Sm)(t i:Ty)(ht:t.Sm)(J:i.Sm):Ac prog 42 [.Ah (Ep p) 0,.d (.slice (Ar env)),B6 t,B6 i] (Ay (Dd p env t i)):=by
 have L:=G7g p h env E I i J;have U:=B3r t i ht;have O:=B8j p h env E I t ht;have M:=B8j p h env E I i J;have W:=F2d (D8 p env t) (D8 p env i) (A4h h env t) (A4h h env i) (Ya h I ht) (Ya h I J);unfold Dd;generalize isIface p env i=bb at*;generalize D8 p env t=l at*;generalize D8 p env i=m at*;refine cB func42 ?_;refine sR B2p ?_;cases bb
 .rw[A6 (by decide)];refine kC L B2p λV u1=>?_;refine tI ?_;refine sC U B2p ?_;exact aR
 .rw[A9 rfl];refine kC L B2p λV u1=>?_;refine kI u1 ?_
  (refine sG B2p [] 7 [] λK z=>?_;refine ev ?_;refine cc O ?_;refine cc M ?_;refine cc W ?_;apply z;clear z K)
  exact aR
abbrev B2x:List Nat:=[0,1,2,3,4,6,7,8,12]
def A8r(p:Prog)(h:p.Sm)(env:List Am)(E:env.length<=sm)(J:∀f,f∈env->f.Sm)(t i:Ty)(ht:t.Sm)(M:i.Sm):Ac prog 48 [D7 p,.d (.slice (Ar env)),B6 t,B6 i] (Ay (Dd p env t i)):=by
 have I:=E2n p env E i;have V:=C2v t i ht;have U:=B9a p h env E J t ht;have O:=B9a p h env E J i M;have Z:=G2g (D8 p env t) (D8 p env i) (A4h h env t) (A4h h env i) (Ya h J ht) (Ya h J M);unfold Dd;generalize isIface p env i=bb at*;generalize D8 p env t=l at*;generalize D8 p env i=m at*;have e:decide (((Jb l m).length:Int)=0)=decide (Jb l m=[]):=by
  by_cases L:Jb l m=[]
  .simp[L]
  .have I:¬((Jb l m).length:Int)=0:=by have:=List.length_pos_iff.2 L;omega
   rw[Ce L,Ce I]
 rw[<-e];generalize Jb l m=z at*;refine cB func48 ?_;refine sR B2x ?_;cases bb
 .rw[A6 (by decide)];refine kC I B2x λW u1=>?_;refine kI u1 ?_;refine sC V B2x ?_;exact aR
 .rw[A9 rfl];refine kC I B2x λW u1=>?_;refine tI ?_
  (refine sG B2x [] 7 [] λK z=>?_;refine ev ?_;refine cc U ?_;refine cc O ?_;refine cc Z ?_;apply z;clear z K)
  exact aR
def A0f(p:Prog)(env fs:List Am)(args:List Ty)(z:Am × Ty):Bool:=!Dd p env z.2 (z.1.bound.subst (Af fs) args)
def G4(p:Prog)(env fs:List Am)(args:List Ty):Int:=Dq (A0f p env fs args) (fs.zip args)
def E6p{α β:Type}{l:List α}{m:List β}{j:Nat}{a:α}{b:β}(E:l[j]?=some a)(I:m[j]?=some b):(l.zip m).take (j+1)=(l.zip m).take j++[(a,b)]/\(l.zip m)[j]?=some (a,b):=by
 have h:(l.zip m)[j]?=some (a,b):=by rw[Am5];exact⟨E,I⟩
 refine⟨?_,h⟩;rw[Ar5,h];rfl
abbrev Zn:List Nat:=[0,1,2,3,8,9,10,15,16,17,18,19,36]
def E4s(p:Prog)(h:p.Sm)(env:List Am)(W:env.length<=sm)(he:∀f,f∈env->f.Sm)(fs:List Am)(U:fs.length<=sm)(hf:∀f,f∈fs->f.Sm)(args:List Ty)(a3:args.length=fs.length)(ha:∀u,u∈args->u.Sm) :
  Ac prog 248 [.Ah (Ep p) 0,.d (.slice (Ar env)),.d (.slice (Ar fs)),Cd args] (A8 (G4 p env fs args)):=by
 have E:=A4d fs U;have L:(fs.length:Int)=(args.length:Int):=by omega
 unfold G4;refine cB func248 ?_;refine sR Zn ?_;refine Ai L Zn λK1 u1=>?_;refine kI u1 ?_;clear u1 K1;refine kR Zn λK1 u1=>?_;refine A0.bb (A0.ii fs (X:=Unit) (λj _=>[(0,.Ah (Ep p) 0),(1,.d (.slice (Ar env))),(2,.d (.slice (Ar fs))),(3,Cd args),(16,.d (.slice (Ar fs))),(17,A8 fs.length),(18,A8 j)]) (λ_ _=>[])
  (λj _=>∀y,y∈(fs.zip args).take j->A0f p env fs args y=false) () (by simp) (by simp[sle,Ax,Ag,Ep,An]) sB ?_ ?_)
 .intro _ J;rw[Z8 (by rw[Ao3];omega)]at J;refine Aq B3 Zn ?_;refine A0.stop rfl ?_;simp only[A4,Ab,Ae];refine u1 _ _<|sR Zn ?_;rw[Tn J];exact aR
 .intro j _ d hd I dp tk a2 J;obtain⟨u,Z,_⟩:=A3r (l:=args) (j:=j) (by omega);have V:=Br Z;obtain⟨O,a1⟩:=E6p hd Z;have M:=A1v (Af fs) args ha d.bound (hf d I).bound;have a0:=B5g p h env W he u (d.bound.subst (Af fs) args) (ha u V) (Ty.Sm.subst ha _ (hf d I).bound);have hq:A0f p env fs args (d,u) = !Dd p env u (d.bound.subst (Af fs) args):=rfl;generalize Dd p env u (d.bound.subst (Af fs) args)=bb at*;refine Aq a2 Zn ?_;refine A0.Fk rfl<|sK λK2 u2=>A0.bb ?_
  (refine sV Zn λK z=>?_;refine ci (F5 hd) ?_;apply z;clear z K)
  (refine sG Zn [] 12 [] λK z=>?_;refine ev ?_;refine ci (Dv Z) ?_;refine cc E ?_;refine cc M ?_;refine cc a0 ?_;apply z;clear z K)
  cases bb
  .refine A0.tt rfl<|sR Zn ?_;rw[Tt a1 hq J];exact aR
  .refine A0.ff rfl (A0.kk (u2 _ _ ?_));clear u2 K2;refine lT Zn ?_;refine⟨(),?_,(by simp[sle,Ax,Ag,Ep,An]),sB⟩;rw[O];intro y hy;rcases D2.1 hy with hy|hy
   .exact J y hy
   .simp only[Aw,Ej,Eh]at hy;rw[hy];exact hq
abbrev A4p:List Nat:=[0,1,2,3,4,8,9,13,32]
def D9p(p:Prog)(h:p.Sm)(env:List Am)(W:env.length<=sm)(he:∀f,f∈env->f.Sm)(fs:List Am)(U:fs.length<=sm)(hf:∀f,f∈fs->f.Sm)(args:List Ty)(a3:args.length=fs.length)(ha:∀u,u∈args->u.Sm) :
  Ac prog 185 [D7 p,.d (.slice (Ar env)),.d (.slice (Ar fs)),Cd args] (A8 (G4 p env fs args)):=by
 have E:=Vq fs U;unfold G4;refine cB func185 ?_;refine sR A4p ?_;refine kR A4p λK1 u1=>?_;refine A0.bb (A0.ii fs (X:=Unit) (λj _=>[(1,.d (.slice (Ar env))),(2,.d (.slice (Ar fs))),(3,Cd args),(4,.box 4 0),(9,A8 j)]) (λ_ _=>[(4,.cells ((An p).map .d))])
  (λj _=>∀y,y∈(fs.zip args).take j->A0f p env fs args y=false) () (by simp) sS (by simp[ble,A7,An]) ?_ ?_)
 .intro _ J;rw[Z8 (by rw[Ao3];omega)]at J;refine Ai B3 A4p λM u2=>?_;refine A0.ss rfl ?_;simp only[A4,Ab,Ae];refine u1 _ _<|sR A4p ?_;rw[Tn J];exact aR
 .intro j _ d hd I dp tk a2 J;obtain⟨u,Z,_⟩:=A3r (l:=args) (j:=j) (by omega);have V:=Br Z;obtain⟨O,a1⟩:=E6p hd Z;have L:=Vy (Af fs) args ha d.bound (hf d I).bound;have a0:=A8r p h env W he u (d.bound.subst (Af fs) args) (ha u V) (Ty.Sm.subst ha _ (hf d I).bound);have hq:A0f p env fs args (d,u) = !Dd p env u (d.bound.subst (Af fs) args):=rfl;generalize Dd p env u (d.bound.subst (Af fs) args)=bb at*;refine Ai a2 A4p λM u2=>?_;refine gI u2 ?_;clear u2 M;refine sK λM u2=>A0.bb ?_
  (refine sG A4p [] 15 [] λK z=>?_;refine ev ?_;refine ci (Dv Z) ?_;refine ci (F5 hd) ?_;refine cc E ?_;refine cc L ?_;refine cc a0 ?_;apply z;clear z K)
  cases bb
  .refine A0.tt rfl<|sR A4p ?_;rw[Tt a1 hq J];exact aR
  .refine A0.ff rfl (A0.kk (u2 _ _ ?_));clear u2 M;refine lT A4p ?_;refine⟨(),?_,sS,(by simp[ble,A7,An])⟩;rw[O];intro y hy;rcases D2.1 hy with hy|hy
   .exact J y hy
   .simp only[Aw,Ej,Eh]at hy;rw[hy];exact hq
def Ei(c:Int):Option Int->D
 |none=>.Jw
 |some n=>.iface 330 (.agg [.int .i64 c,.int .i64 n])
def C4f(c n:Int):Ac prog 249 [A8 c,A8 n] (.d (Ei c (some n))):=by
 refine cB func249 ?_;refine sR [0,1,4] ?_
 (refine sV [0,1,4] λK z=>?_;refine⟨[.int .i64 c,.int .i64 n],rfl,?_⟩;(try refine ev ?_);apply z;clear z K)
 exact aR
mutual
def Bt(p:Prog)(env:List Am):Ty->Option Int
 |.mk n a pos=>if(Cm env (.mk n a pos)).isSome=true then none else if kindOf p n=0\/(Ey p n).length≠a.length then some pos else
   match Je p env a with
   |some q=>some q
   |none=>if 0<=G4 p env (Ey p n) a then some ((a[(G4 p env (Ey p n) a).toNat]?).getD default).pos else none
def Je(p:Prog)(env:List Am):List Ty->Option Int
 |[]=>none
 |t::ts=>match Bt p env t with
  |some q=>some q
  |none=>Je p env ts
end
def D0z(p:Prog)(env:List Am)(x:Ty):Bt p env x=if(Cm env x).isSome=true then none else if kindOf p x.name=0\/(Ey p x.name).length≠x.args.length then some x.pos else
   match Je p env x.args with
   |some q=>some q
   |none=>if 0<=G4 p env (Ey p x.name) x.args then some ((x.args[(G4 p env (Ey p x.name) x.args).toNat]?).getD default).pos else none:=by
 cases x with|mk n a pos=>rw[Bt];rfl
def C5u(x:Ty):Ac prog 282 [B6 x] (.d (Ei 4 (some x.pos))):=by refine cB func282 ?_;refine sR [0,1,2] ?_;refine sC (C4f 4 x.pos) [0,1,2] ?_;exact aR
abbrev Va:List Nat:=[0,1,2,6,8,9,10,11,12,13,21]
def E2p(p:Prog)(env:List Am)(l:List Ty)(hl:l.length<=sm)(V:∀t,t∈l->Ac prog 251 [.Ah (Ep p) 0,.d (.slice (Ar env)),B6 t] (.d (Ei 4 (Bt p env t)))) :
  Ac prog 247 [.Ah (Ep p) 0,.d (.slice (Ar env)),Cd l] (.d (Ei 4 (Je p env l))):=by
 refine cB func247 ?_;refine sR Va ?_;refine kR Va λZ u1=>?_;refine A0.bb (A0.ii l (X:=Unit) (λj _=>[(0,.Ah (Ep p) 0),(1,.d (.slice (Ar env))),(10,Cd l),(11,A8 l.length),(12,A8 j)]) (λ_ _=>[])
  (λj _=>Je p env (l.drop j)=Je p env l) () (by simp) (by simp[sle,Ax,Ag,Ep,An]) sB ?_ ?_)
 .intro _ E;rw[De,Je]at E;refine Aq B3 Va ?_;refine A0.stop rfl ?_;simp only[A4,Ab,Ae];refine u1 _ _<|sR Va ?_;rw[<-E,Ei];exact aR
 .intro j _ d U J W tk L E;have I:=V d J;rw[W,Je]at E;refine Aq L Va ?_;refine A0.Fk rfl<|sK λO u2=>A0.bb ?_
  (refine sV Va λK z=>?_;refine ci (Dv U) ?_;apply z;clear z K)
  cases M:Bt p env d with
  |none =>rw[M]at I E;simp only[Ei]at I E;refine sC I Va ?_;refine sR Va ?_;refine A0.ff rfl (A0.kk (u2 _ _ ?_));clear u2 O;refine lT Va ?_;exact⟨(),E,(by simp[sle,Ax,Ag,Ep,An]),sB⟩
  |some q =>rw[M]at I E;simp only[Ei]at I E;refine sC I Va ?_;refine sR Va ?_;refine A0.tt rfl<|sR Va ?_;rw[<-E,Ei];exact aR
def B2m{p:Prog}(h:p.Sm)(E:A3):(Ey p E).length<=sm/\∀f,f∈Ey p E->f.Sm:=by
 unfold Ey;cases I:G2 p E with
 |none=>simp
 |some d=>exact(h.decls.2 d (Qc I)).A1
def B9e{p:Prog}{env fs:List Am}{a:List Ty}(h:0<=G4 p env fs a)(J:a.length=fs.length):∃u,a[(G4 p env fs a).toNat]?=some u:=by
 unfold G4 at*;rcases M9 (A0f p env fs a) (fs.zip a)with⟨E,_⟩|⟨j,z,E,I,_⟩
 .omega
 .rw[E];have:=(B5.1 I).1;rw[Ao3]at this;exact⟨_,B8 (by omega)⟩
abbrev Ip:List Nat:=[0,1,2,5,6,8,9,10,11,12,19,36,46,55]
def C8y(p:Prog)(h:p.Sm)(env:List Am)(a0:env.length<=sm)(he:∀f,f∈env->f.Sm):∀x:Ty,x.Sm->Ac prog 251 [.Ah (Ep p) 0,.d (.slice (Ar env)),B6 x] (.d (Ei 4 (Bt p env x))):=by
 intro x
 induction x using Ty.induct with
 |h x ih =>
 intro hx;have Z:=B9k env x a0 he;have a1:=D4i p h x.name;have M:=E9k p h x.name;have J:=E2p p env x.args hx.len (λt ht=>ih t ht (hx.arg t ht));obtain⟨a2,a3⟩:=B2m h x.name;rw[D0z];refine cB func251 ?_;refine sR Ip ?_;cases ho:Cm env x with
 |some y =>rw[ho]at Z;simp only[Zw]at Z;simp only[An2,Ae,Ei];refine kC Z Ip λI u1=>?_;refine sR Ip ?_;refine tI ?_;refine sR Ip ?_;exact aR
 |none =>
  rw[ho]at Z;simp only[Zw]at Z;simp only[Ky,A6 (show ¬(false=true) by decide)];refine kC Z Ip λI u1=>?_;refine sR Ip ?_;refine kI u1 ?_;clear u1 I;refine sR Ip ?_;refine sC a1 Ip ?_;have U:=E4s p h env a0 he (Ey p x.name) a2 a3 x.args;have W:=@B9e p env (Ey p x.name) x.args;generalize Ey p x.name=fs at*;generalize kindOf p x.name=k at*;by_cases hk:k=0
  .rw[A9 (.inl hk),Ei];refine sK λI u1=>?_
   (refine sV Ip λK z=>?_;refine⟨_,.inl ⟨_,rfl,M,rfl⟩,?_⟩;(try refine As hk ?_);apply z;clear z K)
   refine tI ?_;refine sC (C5u x) Ip ?_;exact aR
  .by_cases L:fs.length=x.args.length
   .have E:(fs.length:Int)=x.args.length:=by omega
    have U:=U L.symm hx.arg;have W:=λhh=>W hh L.symm;rw[A6 (by rintro(h1|h1) <;> contradiction)];generalize G4 p env fs x.args=b at*;generalize Je p env x.args=oc at*;cases oc with
    |some q =>
     simp only[Ei]at J |-;refine sK λI u1=>?_
     (refine sV Ip λK z=>?_;refine⟨_,.inl ⟨_,rfl,M,rfl⟩,?_⟩;(try refine Gv hk E ?_);apply z;clear z K)
     refine kI u1 ?_;clear u1 I;refine kC J Ip λI u1=>?_;refine sR Ip ?_;refine tI ?_;refine sR Ip ?_;exact aR
    |none =>
     simp only[Ei]at J;simp only;by_cases O:0<=b
     .obtain⟨u,hu⟩:=W O;have V:b >= 0:=O;rw[A9 O,hu,E1];refine sK λI u1=>?_
      (refine sV Ip λK z=>?_;refine⟨_,.inl ⟨_,rfl,M,rfl⟩,?_⟩;(try refine Gv hk E ?_);apply z;clear z K)
      refine kI u1 ?_;clear u1 I;refine kC J Ip λI u1=>?_;refine sR Ip ?_;refine kI u1 ?_;clear u1 I;refine kC U Ip λI u1=>?_;refine Aq V Ip ?_;refine tI ?_
      (refine sV Ip λK z=>?_;refine ci (Dv hu) ?_;refine cc (C5u u) ?_;apply z;clear z K)
      exact aR
     .have V:¬b >= 0:=O;rw[A6 O,Ei];refine sK λI u1=>?_
      (refine sV Ip λK z=>?_;refine⟨_,.inl ⟨_,rfl,M,rfl⟩,?_⟩;(try refine Gv hk E ?_);apply z;clear z K)
      refine kI u1 ?_;clear u1 I;refine kC J Ip λI u1=>?_;refine sR Ip ?_;refine kI u1 ?_;clear u1 I;refine kC U Ip λI u1=>?_;refine Aq V Ip ?_;refine kI u1 ?_;refine sR Ip ?_;exact aR
   .have E:¬(fs.length:Int)=x.args.length:=by omega
    rw[A9 (.inr L),Ei];refine sK λI u1=>?_
    (refine sV Ip λK z=>?_;refine⟨_,.inl ⟨_,rfl,M,rfl⟩,?_⟩;(try refine Gv hk E ?_);apply z;clear z K)
    refine tI ?_;refine sC (C5u x) Ip ?_;exact aR
def U8:Option Int->SV
 |some q=>.tuple [A8 q,Ay true]
 |none=>.tuple [A8 0,Ay false]
abbrev Hd:List Nat:=[0,1,2,3,5,6,7,8,9,10,11,12,16,33,40,54,63]
def A8h(p:Prog)(h:p.Sm)(env:List Am)(a2:env.length<=sm)(he:∀f,f∈env->f.Sm):∀x:Ty,x.Sm->Ac prog 123 [D7 p,.d (.slice (Ar env)),B6 x] (U8 (Bt p env x)):=by
 intro x
 induction x using Ty.induct with
 |h x ih =>
 intro hx;have hf:=A8y env x a2;have W:=B8y p x.name;have a0:=B0m p x.name;obtain⟨a3,a5⟩:=B2m h x.name;have U:=D9p p h env a2 he (Ey p x.name) a3 a5 x.args;have a1:=@B9e p env (Ey p x.name) x.args;have a7:=hx.len;rw[D0z,E4n];generalize Ez env x=z at*;generalize Ey p x.name=fs at*;generalize kindOf p x.name=k at*;by_cases hz:z<0
 .rw[A6 (by simp[hz])];have L:¬z >= 0:=by omega
  by_cases hk:k=0
  .rw[A9 (.inl hk)];refine cB func123 ?_;refine sR Hd<|sK λI u1=>?_
   (refine sV Hd λK z=>?_;refine⟨_,.inl ⟨_,rfl,hf,rfl⟩,?_⟩;(try refine As L ?_);apply z;clear z K)
   refine kI u1 ?_;clear u1 I;refine sC W Hd<|sK λI u1=>?_
   (refine sV Hd λK z=>?_;refine⟨_,.inl ⟨_,rfl,a0,rfl⟩,?_⟩;(try refine As hk ?_);apply z;clear z K)
   refine tI ?_;refine sR Hd ?_;exact aR
  .by_cases J:fs.length=x.args.length
   .have E:(fs.length:Int)=x.args.length:=by omega
    have U:=U J.symm hx.arg;have a1:=λhh=>a1 hh J.symm;rw[A6 (by rintro(h1|h1) <;> contradiction)];generalize G4 p env fs x.args=b at*;generalize a4:Je p env x.args=oc;refine cB func123 ?_;refine sR Hd<|sK λI u1=>?_
    (refine sV Hd λK z=>?_;refine⟨_,.inl ⟨_,rfl,hf,rfl⟩,?_⟩;(try refine As L ?_);apply z;clear z K)
    refine kI u1 ?_;clear u1 I;refine sC W Hd<|sK λI u1=>?_
    (refine sV Hd λK z=>?_;refine⟨_,.inl ⟨_,rfl,a0,rfl⟩,?_⟩;(try refine Gv hk E ?_);apply z;clear z K)
    refine kI u1 ?_;clear u1 I;refine kR Hd λI u1=>?_;refine A0.bb (A0.ii x.args (X:=Unit) (λj _=>[(1,.d (.slice (Ar env))),(3,.box 3 0),(5,.box 5 0),(8,.d (.slice (Ar fs))),(9,A8 j)]) (λ_ _=>[(3,.cells ((An p).map .d)),(5,.cells ((Be x).map .d))])
     (λj _=>Je p env (x.args.drop j)=oc) () a4 sS (by simp[ble,A7,Be,An]) ?_ ?_)
    .intro _ O;rw[De,Je]at O;subst O;simp only;refine Ai B3 Hd λK2 u2=>?_;refine A0.ss rfl ?_;simp only[A4,Ab,Ae];refine u1 _ _ ?_;clear u2 K2 u1 I;by_cases M:0<=b
     .obtain⟨u,hu⟩:=a1 M;have Z:b >= 0:=M;rw[A9 M,hu,E1];refine sC U Hd ?_;refine Ai Z Hd λI u1=>?_;refine tI ?_
      (refine sV Hd λK z=>?_;refine ci (Dv hu) ?_;apply z;clear z K)
      exact aR
     .have Z:¬b >= 0:=M;rw[A6 M];refine sC U Hd ?_;refine Ai Z Hd λI u1=>?_;refine kI u1 ?_;refine sR Hd ?_;exact aR
    .intro j _ d hd V dp tk a6 O;have hc:=ih d V (hx.arg d V);rw[dp,Je]at O;refine Ai a6 Hd λK2 u2=>?_;refine gI u2 ?_;clear u2 K2;refine sK λK2 u2=>A0.bb ?_;cases ho:Bt p env d with
     |none =>
      rw[ho]at hc O;simp only[U8]at hc O
      (refine sG Hd [] 12 [] λK z=>?_;refine ev ?_;refine ci (Dv hd) ?_;refine cc hc ?_;apply z;clear z K)
      refine sR Hd ?_;refine A0.ff rfl (A0.kk (u2 _ _ ?_));clear u2 K2;refine lT Hd ?_;exact⟨(),O,sS,(by simp[ble,A7,Be,An])⟩
     |some q =>
      rw[ho]at hc O;simp only[U8]at hc O
      (refine sG Hd [] 12 [] λK z=>?_;refine ev ?_;refine ci (Dv hd) ?_;refine cc hc ?_;apply z;clear z K)
      refine sR Hd ?_;refine A0.tt rfl<|sR Hd ?_;subst O;exact aR
   .have E:¬(fs.length:Int)=x.args.length:=by omega
    rw[A9 (.inr J)];refine cB func123 ?_;refine sR Hd<|sK λI u1=>?_
    (refine sV Hd λK z=>?_;refine⟨_,.inl ⟨_,rfl,hf,rfl⟩,?_⟩;(try refine As L ?_);apply z;clear z K)
    refine kI u1 ?_;clear u1 I;refine sC W Hd<|sK λI u1=>?_
    (refine sV Hd λK z=>?_;refine⟨_,.inl ⟨_,rfl,a0,rfl⟩,?_⟩;(try refine Gv hk E ?_);apply z;clear z K)
    refine tI ?_;refine sR Hd ?_;exact aR
 .have L:z >= 0:=by omega
  rw[A9 (by simp[hz])];refine cB func123 ?_;refine sR Hd<|sK λI u1=>?_
  (refine sV Hd λK z=>?_;refine⟨_,.inl ⟨_,rfl,hf,rfl⟩,?_⟩;(try refine As L ?_);apply z;clear z K)
  refine tI ?_;refine sR Hd ?_;exact aR
end Go.Abs
