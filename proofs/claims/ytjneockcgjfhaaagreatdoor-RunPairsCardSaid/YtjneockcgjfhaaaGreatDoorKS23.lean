/- sorting by name: the comparison walked with the kit -/
import Derived.Shelf.Lay
import Derived.Test.YtjneockcgjfhaaaGreatDoorKShelfS
import Derived.Test.YtjneockcgjfhaaaGreatDoorKS18
set_option linter.all false
set_option maxHeartbeats 1000000
set_option maxRecDepth 100000
namespace Go.Abs
open Go Go.Proofs Go.RowKit Go.Lib Go.Sort Tryz
abbrev sv(a:A2):Value:=.string ⟨a.toArray⟩
def D6y(a:A2)(W:World):Calls prog 220 #[sv a] W λe w'=>e=.returned (.bool false)/\w'=W:=by
 go_enter func220,ntmps220
 go_wp2
 go_ret
 exact⟨rfl,rfl⟩
def F5r(a b:A2)(W:World)(t:TypeId):(binOp .gtr t (sv a) (sv b)).run prog W=.ok (.bool (Op.bytesLess b a)) W:=by
 have:=C2u a b;have e:(!Op.bytesLess a b && !a ==b)=Op.bytesLess b a:=by rw[<-Bool.not_or,this,Bool.not_not]
 simp[binOp,Op.stringOp,e]
def F3w(a b:A2)(W:World):Calls prog 191 #[sv a,sv b] W λe w'=>e=.returned (.int .i64 (Bw a b))/\w'=W:=by
 obtain⟨O,U,L⟩:=C5k a b;have I:=λW=>D6y a W;have J:=λW=>D6y b W;generalize Bw a b=c at*
 go_enter func191,ntmps191
 go_wp2_with (first|rw[F5r]| (go_at_call 220;first| (refine(I _).mono ?_;rintro e w' ⟨rfl,E⟩;rw[E])| (refine(J _).mono ?_;rintro e w' ⟨rfl,E⟩;rw[E])))
 all_goals (go_ret;refine⟨?_,rfl⟩;rcases L with h|h|h <;> simp_all)
def F5b(a b:A2)(W:World):Calls prog 160 #[sv a,sv b] W λe w'=>e=.returned (.int .i64 (Bw a b))/\w'=W:=by
 have E:=F3w a b W;generalize Bw a b=c at*
 go_enter func160,ntmps160
 go_wp2_with (go_at_call 191;refine E.mono ?_;rintro e w' ⟨rfl,I⟩;rw[I])
 go_ret
 exact⟨rfl,rfl⟩
def G9i(a b:A2)(a1 J a3 L I Z O b2 b3 b4 b5 V:Value)(W:World):Calls prog 234 #[.agg #[sv a,a1,J,a3,L,I,Z],.agg #[sv b,O,b2,b3,b4,b5,V]] W λe w'=>e=.returned (.int .i64 (Bw a b))/\∃q E,w'=grow (W.drewN q) E:=by
 have U:=λW=>F5b a b W;generalize Bw a b=c at*
 go_enter func234,ntmps234
 go_wp2_with (go_at_call 160;refine(U _).mono ?_;rintro e w' ⟨rfl,rfl⟩)
 go_ret
 exact⟨rfl,0,_,by rw[alloc_eq_grow,alloc_eq_grow,grow_grow];rfl⟩
open Go Go.Proofs Go.Sort Tryz
def Yf:∀a b:A2,Bw b a = - Bw a b
 |[],[]=>rfl
 |[],_::_=>rfl
 |_::_,[]=>rfl
 |x::xs,y::I=>by
  have E:=Yf xs I;simp only[Bw,Ak0];rcases As2 x.toNat y.toNat with h|h|h
  .have:¬y.toNat<x.toNat:=by omega
   simp[h,this]
  simp[h,E]
  .have:¬x.toNat<y.toNat:=by omega
   simp[h,this]
def B1i:∀a b c:A2,Bw a b<0->Bw b c<0->Bw a c<0
 |[],[],_,h,_=>by simp[Bw]at h
 |[],_::_,[],_,h=>by simp[Bw]at h
 |[],_::_,_::_,_,_=>by simp[Bw]
 |_::_,[],_,h,_=>by simp[Bw]at h
 |_::_,_::_,[],_,h=>by simp[Bw]at h
 |x::xs,y::W,z::U,I,E=>by have V:=B1i xs W U;simp only[Bw,Ak0]at*;by_cases Z:x.toNat<y.toNat;by_cases L:y.toNat<z.toNat;rw[A6 (by omega)];decide;rw[A3 L]at E;by_cases J:z.toNat<y.toNat;rw[A6 J]at E;omega;rw[A6 (by omega)];decide;rw[A3 Z]at I;by_cases O:y.toNat<x.toNat;rw[A6 O]at I;omega;rw[A3 O]at I;by_cases L:y.toNat<z.toNat;rw[A6 (by omega)];decide;rw[A3 L]at E;by_cases J:z.toNat<y.toNat;rw[A6 J]at E;omega;rw[A3 J]at E;rw[A3 (by omega),A3 (by omega)];exact V I E
def C1k(a b c:A2)(J:Bw a b<=0)(L:Bw b c<=0):Bw a c<=0:=by by_cases E:Bw a b=0;rw[Tx]at E;rw[E];exact L;by_cases I:Bw b c=0;rw[Tx]at I;rw[<-I];exact J;have:=B1i a b c (by omega) (by omega);omega
def E8p{α:Type}(nm:α->A2):SWO (ltOf λx y:α=>Bw (nm x) (nm y)) where
 irrefl x:=by simp[ltOf,C2t]
 trans x y z h1 h2:=by simp only[ltOf,E4]at*;exact B1i _ _ _ h1 h2
 ntrans x y z h1 h2:=by simp only[ltOf,Ai7]at*;have I:=Yf (nm x) (nm y);have E:=Yf (nm y) (nm z);have J:=Yf (nm x) (nm z);have:=C1k (nm z) (nm y) (nm x) (by omega) (by omega);omega
def Sr(l:List A4):List A4:=l.mergeSort λa b=>decide (Bw a.name b.name<=0)
def Zf(l:List A4):(Sr l).Perm l:=List.mergeSort_perm _ _
def G5u(l:List A4):(Sr l).Pairwise λa b=>Bw a.name b.name<=0:=by refine(List.pairwise_mergeSort (le:=λa b:A4=>decide (Bw a.name b.name<=0)) ?_ ?_ l).imp (by simp);intro a b c E I;simp only[E4]at*;exact C1k _ _ _ E I;intro a b;have:=Yf a.name b.name;simp only[Xu,E4];omega
def D5p{l U:List A4}(hn:(l.map (·.name)).Nodup)(V:U.Perm l)(hs:U.Pairwise λa b=>Bw a.name b.name<=0):U=Sr l:=by
 refine List.Perm.eq_of_pairwise (le:=λa b:A4=>Bw a.name b.name<=0) ?_ hs (G5u l) (V.trans (Zf l).symm);intro a b ha hb E Z;have:=Yf a.name b.name;have he:a.name=b.name:=Tx.1 (by omega);have I:a∈l:=V.mem_iff.1 ha;have O:b∈l:=(Zf l).mem_iff.1 hb;obtain⟨i,W⟩:=Pu I;obtain⟨j,L⟩:=Pu O;have E:(l.map (·.name))[i]?=some a.name:=by simp[W]
 have Z:(l.map (·.name))[j]?=some a.name:=by simp[L,he]
 have J:i<(l.map (·.name)).length:=(Aw.1 E).1;have:=(List.getElem?_inj J hn).1 (E.trans Z.symm);subst this;rw[W]at L;simpa using L
def C6w{sl:SL}{bx:Aa}{dst:Option Nat}{x:Operand}{E2:List TypeId}(k:Nat)(l:List A4)(hx:Ao sl x=.acc k)(hb:A8 bx k=some (.rows 7 (B9 l)))(hn:(l.map (·.name)).Nodup)(ar:l.length<=sm) :OpB prog sl bx dst (.call ⟨.value (.func 233),[x,.func 234].toArray,E2.toArray⟩) (.tuple []) ((k,.rows 7 (B9 (Sr l)))::C5 k bx) []:=by
 intro o ho _ C S w β a hi ha;have hE:Enters prog 233:=(Enters.of func233 rfl (by decide));have aj:=ha x (mC ho);rw[hx]at aj;have a0:=Hs hb;obtain⟨q1,q2,q3,q4,q5,q6,q7⟩:=hi.box k _ a0;generalize hv:a.eval x=v at aj;cases aj;have U:(#[x,.func 234].map a.eval)++(#[]:Array Value) = #[.slice ((β k).base.map λb=>⟨b,(β k).off*(β k).sz,none⟩) (β k).len (β k).cap,.func (.func 234) #[] #[]]:=by apply Lk;rw[Array.toList_append,As9];show[a.eval x,Value.func (.func 234) #[] #[]]++[]=_;rw[hv];rfl
 have b8:a.eval (.func 233)=.func (.func 233) #[] #[]:=rfl;refine Jk ?_;unfold Oper.wp;rw[A1n hE ho b8,Am8];have a9:l.length=(β k).len:=by rw[<-q2];simp[B9]
 have ab:([x,.func 234].toArray.map a.eval)++(#[]:Array Value) = #[.slice ((β k).base.map λb=>⟨b,(β k).off*(β k).sz,none⟩) (β k).len (β k).cap,.func (.func 234) #[] #[]]:=U;rw[ab];clear ab U;generalize J:(β k).base=ob at q7;cases ob with
 |none =>simp only at q7;have b9:l=[]:=Yj (by omega);subst b9;rw[show(β k).len=0 by omega];refine(AnyF.slices_SortFunc_none E6j _ _ _ w).mono ?_;rintro e w' ⟨rfl,rfl⟩;refine⟨_,S,β,rfl,hi.sub λj c W=>?_,C9.refl S _,.tuple [] [] rfl (by simp),λ_ _=>rfl⟩;rcases B5.1 W with h|h;rw[h,show Sr []=[] by simp[Sr]];exact a0;exact(Ed.1 h).2
 |some b =>
  simp only at q7;obtain⟨ty,vs,hh,aq,az⟩:=q7;obtain⟨n,bg⟩:∃n,n=l.length:=⟨_,rfl⟩
  let nm:Nat->A2:=λi=>((l[i]?).getD default).name
  have ag:∀i,i<n->((β k).off+i)*7+7<=vs.length:=λi h=>by have Z:((β k).off+i+1)*7<=((β k).off+(β k).cap)*7:=Iv _ (by omega);omega
  let enc:Nat->List Value:=λi=>if i<n then(vs.drop (((β k).off+i)*7)).take 7 else[sv (nm i),.int .i64 0,.int .i64 0,.int .i64 0,.int .i64 0,.int .i64 0,.int .i64 0]
  have I:∀i,(enc i).length=7:=λi=>by simp only[enc];split;rename_i h;have:=ag i h;rw[D0,An9];omega;rfl
  have V:∀i j,i<n->j<7->(enc i)[j]?=vs[((β k).off+i)*7+j]?:=λi j h W=>by simp only[enc,A6 h];rw[Ao8 W,Vw]
  have rowAt:∀i,i<n->∃s,l[i]?=some s/\(B9 l)[i]?=some (Dm s):=λi h=>⟨l[i]'(by omega),Br _,De (Br _)⟩;have L:∀i j s v,l[i]?=some s->(enc i)[j]?=some v->∃d,(Dm s)[j]?=some d/\C0 S w d v:=λi j s v hs he=>by
   have ai:i<n:=by have:=(Aw.1 hs).1;omega
   have W:j<7:=by have:=(Aw.1 he).1;rw[I]at this;exact this
   rw[V i j ai W]at he;have aw:j<(Dm s).length:=by rw[show(Dm s).length=7 from rfl];exact W
   exact⟨_,Br aw,az i j (Dm s) _ v (De hs) (Br aw) he⟩
  have aa:∀i,∀v∈enc i,v.oneCell'=true:=λi v hv=>by by_cases h:i<n;obtain⟨s,hs,hr⟩:=rowAt i h;obtain⟨j,W⟩:=Pu hv;obtain⟨d,Z,h2⟩:=L i j s v hs W;exact h2.one (q6 _ (Bm hr) d (Bm Z));simp only[enc,A3 h,B5,Fb,Fg]at hv;rcases hv with rfl|rfl|rfl|rfl|rfl|rfl|rfl <;> rfl
  have O:∀i,∃a1 a2 a3 a4 a5 a6,enc i=[sv (nm i),a1,a2,a3,a4,a5,a6]:=λi=>by
   by_cases h:i<n
   .obtain⟨s,hs,hr⟩:=rowAt i h;have hl:=I i;have h0:=L i 0 s
    match he:enc i,hl with
    |[v0,a1,a2,a3,a4,a5,a6],_ =>
     obtain⟨d,Z,h2⟩:=h0 v0 hs (by rw[he];rfl);have:d=.str s.name:=by simpa [Dm]using Z.symm
     subst this;have:v0=sv (nm i):=by have bc:=(An.d (β:=β) _ _ h2).Vb.1;rw[bc];simp only[nm,hs,Dh];rfl
     exact⟨a1,a2,a3,a4,a5,a6,by rw[this]⟩
   exact⟨.int .i64 0,.int .i64 0,.int .i64 0,.int .i64 0,.int .i64 0,.int .i64 0,by simp only[enc,A3 h]⟩
  have b0:CmpLays prog 234 #[] enc 7 (λx y=>Bw (nm x) (nm y)) b ((β k).off*7) (Array.range n).size w:=λm os dk _ x y=>by obtain⟨a1,a2,a3,a4,a5,a6,Z⟩:=O x;obtain⟨b1,b2,b3,b4,b5,b6,h2⟩:=O y;have:=G9i (nm x) (nm y) a1 a2 a3 a4 a5 a6 b1 b2 b3 b4 b5 b6 (sortWorldK enc 7 w b ((β k).off*7) m dk os);rw[Z,h2];exact this
  have hH:HoldsK enc 7 w b ((β k).off*7) (Array.range n):=λj W=>by
   rw[size_flatK,Ao1]at W;have am:j / 7<n:=by omega
   have bh:(flatK enc 7 (Array.range n))[j]! =(enc (j / 7))[j % 7]!:=by
    rw[get_flatK _ _ _ _ (by rw[Ao1];exact W)]
    congr 2
    rw[As5 _ _ (by rw[Ao1];exact am),Array.getElem_range]
   have av:=ag (j / 7) am;have U5:((β k).off+j / 7)*7+j % 7=(β k).off*7+j:=by omega
   have ac:(β k).off*7+j<vs.length:=by omega
   have b7:(enc (j / 7))[j % 7]! =vs[(β k).off*7+j]:=by have:=V (j / 7) (j % 7) am (As0 _ (by decide));rw[U5,Br ac]at this;rw[List.getElem!_eq_getElem?_getD,this];rfl
   refine⟨?_,?_⟩;simp only[World.cell?,hh,Nb,id,bh,b7];simp[ac];simp[World.frozen?,hh]
  have ba:b<w.heap.size:=(hi.Bh k _ a0 b J).2.1;have hS:=hi.Bh k _ a0 b J;rw[q1,<-a9,<-bg];have a7:=AnyQ.slices_SortFunc E6j 7 isAgg51 sizeOf51 enc I aa (λx y=>Bw (nm x) (nm y)) (E8p nm) 234 #[] b ((β k).off*7) (β k).cap (Array.range n) w
   (enters_of func234 (by kernel_rfl) rfl) b0 hH ba (by rw[Ao1];unfold sm at ar;omega)
  rw[Ao1]at a7;refine a7.mono ?_;rintro e w' ⟨rfl,E,m,os,ah,a8,rfl⟩;obtain⟨p1,_,p3⟩:=ah;rw[Ao1]at p1;have p4:E.toList.Perm (List.range n):=by rw[show E.extract 0 n=E by rw[<-p1];exact Array.extract_size,show(Array.range n).extract 0 n=Array.range n by have:=Array.extract_size (xs:=Array.range n);rwa [Ao1]at this,Array.toList_range]at p3;exact p3
  have p5:∀i (h:i<E.size),E[i]<n:=λi h=>As3.1 (p4.mem_iff.1 (Array.getElem_mem_toList h));have ax:E.toList.map (λi=>(l[i]?).getD default)=Sr l:=by
   refine D5p hn ?_ ?_
   .have Z:=p4.map λi=>(l[i]?).getD default;have h2:(List.range n).map (λi=>(l[i]?).getD default)=l:=by refine Mm λi=>?_;rw[Db];by_cases h:i<n;rw[Am0 h,Ef,Br (by omega),Dh];rw[List.getElem?_eq_none (by simp;omega),List.getElem?_eq_none (by omega)];rfl
    rw[h2]at Z;exact Z
   .rw[List.pairwise_map,Ar0];intro i j ai ap bf;have Z:=a8 i j (Tf _) bf (by rw[<-p1];simpa using ap);rw[As5 E i (by simpa using ai),As5 E j (by simpa using ap)]at Z;simp only[ltOf,Ai7]at Z;have h2:=Yf (nm E[i]) (nm E[j]);have h3:¬Bw (nm E[j]) (nm E[i])<0:=Z;have h4:Bw (nm E[i]) (nm E[j])<=0:=by omega
    simpa [nm]using h4
  have ae:=Zf l;have bi:E.size=(Sr l).length:=by rw[<-ax];simp
  have ay:Dj S (putRowK enc 7 (Sort.ahead w m) b ((β k).off*7) E) β (β k) (.rows 7 (B9 (Sr l))):=by
   refine⟨q1,by simp only[B9,Bc,ae.length_eq];exact a9,q3,by simp only[B9,Bc,ae.length_eq];unfold sm lim at*;omega,?_,?_,?_⟩;intro row hr;obtain⟨s,_,rfl⟩:=Au.1 hr;rfl;intro row hr d hd;obtain⟨s,hs,rfl⟩:=Au.1 hr;exact q6 _ (Au.2 ⟨s,ae.mem_iff.1 hs,rfl⟩) d hd
   .rw[J];refine⟨ty,(putCells id ((β k).off*7) (flatK enc 7 E) ⟨vs⟩).toList,?_,by simpa [putCells]using aq,?_⟩;simp[putRowK,putRow,mapBlock,Sort.ahead,Ao3,hh,onCells]
    .intro r j row d v hr hd hv;have bk:r<(Sr l).length:=by have:=(Aw.1 hr).1;simpa [B9]using this
     have ak:r<E.size:=by omega
     have ad:row=Dm ((l[E[r]]?).getD default):=by rw[<-ax]at hr;simp only[B9,Db,Aj8,Yr ak,Ef,B0]at hr;exact hr.symm
     obtain⟨s,hs,_⟩:=rowAt _ (p5 r ak);rw[hs,Dh]at ad;subst ad;have W:j<7:=by have:=(Aw.1 hd).1;rwa [show(Dm s).length=7 from rfl]at this
     have af:(flatK enc 7 E)[r*7+j]! =(enc E[r])[j]!:=by rw[get_flatK _ _ _ _ (by omega),show(r*7+j) / 7=r by omega,show(r*7+j) % 7=j by omega,As5 E r ak]
     have bj:=ag r (by omega);have av:((β k).off+r)*7+j<vs.length:=by omega
     have be:(enc E[r])[j]?=some v:=by
      rw[Aj8,putCells,Array.getElem?_mapIdx]at hv;have hc:(⟨vs⟩:Array Value)[((β k).off+r)*7+j]?=some vs[((β k).off+r)*7+j]:=by simp[av]
      rw[hc,Ef,A6 ⟨by omega,by rw[size_flatK];omega⟩,show((β k).off+r)*7+j - (β k).off*7=r*7+j by omega,af]at hv;have au:j<(enc E[r]).length:=by rw[I];exact W
      rw[Br au];simp only[id,B0]at hv;rw[<-hv,As5 (enc E[r]) j au]
     obtain⟨d2,e1,e2⟩:=L _ j s v hs be;rw[e1]at hd;simp only[B0]at hd;subst hd;exact e2.ext ⟨λ_ h=>h,λb' a'=>by have ao:b≠b':=λhe=>hS.1 (he ▸ a');simp[putRowK,putRow,mapBlock,Sort.ahead,Ao3,ao]⟩
  obtain⟨g1,g2⟩:=hi.B4w (w':=putRowK enc 7 (Sort.ahead w m) b ((β k).off*7) E) (c:=.rows 7 (B9 (Sr l))) a0 J (λb' ao=>by simp[putRowK,putRow,mapBlock,Sort.ahead,Ao3,Yo ao]) rfl rfl rfl (by simp[putRowK,putRow,mapBlock,Sort.ahead]) ay
  obtain⟨g3,g4⟩:=g1.grow (S':=S) (w':=Sort.grow (putRowK enc 7 (Sort.ahead w m) b ((β k).off*7) E) os) (λ_ h=>h) (λ_ h=>.inl h) (λb' a'=>by have:=g1.C3 b' a';simp only[Sort.grow,Array.size_append];omega) (λb' a'=>by simp only[Sort.grow];exact Aq8 a') rfl rfl rfl (by simp[Sort.grow])
  exact⟨_,S,β,rfl,g3,g2.trans g4,.tuple [] [] rfl (by simp),λ_ _=>rfl⟩
open Go Go.Proofs Tryz
def D9s(s:A4)(vars:List A2)(args:List Ty):(s.canon.subst vars args).name=s.name:=rfl
def D6c(vars:List A2)(args:List Ty)(l:List A4):∀j,j<=l.length->((Ic vars args l j).map (·.name)).Nodup/\∀n,n∈(Ic vars args l j).map (·.name)->∃y,y∈l.take j/\y.name=n
 |0,_=>by simp[Ic]
 |j+1,h=>by
  obtain⟨L,J⟩:=D6c vars args l j (by omega);have ht:l.take (j+1)=l.take j++[l[j]]:=by rw[Au5,Br (by omega)];rfl
  rw[C5e (by omega) ht,ht];split;rename_i U;simp only[Q8,E4]at U;rw[Hc,As1];refine⟨⟨L,by simp,?_⟩,?_⟩;rintro a V b O rfl;simp only[Cp,It,B5,Fb,Fg]at O;obtain⟨y,E,I⟩:=J a V;exact U y E (I.trans O);intro n hm;rcases C6.1 hm with hm|hm;obtain⟨y,E,I⟩:=J n hm;exact⟨y,C6.2 (.inl E),I⟩;simp only[Cp,It,B5,Fb,Fg]at hm;exact⟨l[j],C6.2 (.inr (by simp)),hm.symm⟩;rw[Gy];exact⟨L,λn hm=>by obtain⟨y,E,I⟩:=J n hm;exact⟨y,C6.2 (.inl E),I⟩⟩
def B8b(p:Prog)(x:Ty):∀j,j<=p.decls.length->((Gw p x j).map (·.name)).Nodup/\∀n,n∈(Gw p x j).map (·.name)->∃i,i<j/\J2 p x n=(i:Nat)
 |0,_=>by simp[Gw]
 |j+1,h=>by
  obtain⟨L,J⟩:=B8b p x j (by omega);have ht:p.decls.take (j+1)=p.decls.take j++[p.decls[j]]:=by rw[Au5,Br (by omega)];rfl
  rw[C5a (by omega) ht];split;rename_i I;simp only[J6,Bi,E4]at I;rw[Hc,As1];refine⟨⟨L,by simp,?_⟩,?_⟩;rintro a V b O rfl;simp only[Cp,It,B5,Fb,Fg]at O;obtain⟨i,U,E⟩:=J a V;rw[O,D9s,I.2]at E;omega;intro n hm;rcases C6.1 hm with hm|hm;obtain⟨i,U,E⟩:=J n hm;exact⟨i,by omega,E⟩;simp only[Cp,It,B5,Fb,Fg]at hm;exact⟨j,by omega,by rw[hm,D9s];exact I.2⟩;rw[Gy];exact⟨L,λn hm=>by obtain⟨i,U,E⟩:=J n hm;exact⟨i,by omega,E⟩⟩
def Cv(p:Prog)(env:List Ak)(x:Ty):List A4:=if Bb p ((Ct env x).getD x) 2=true then H2 p ((Ct env x).getD x)else if(Ct env x).isSome=true then[]else Gw p ((Ct env x).getD x) p.decls.length
def Cd(p:Prog)(env:List Ak)(x:Ty):List A4:=Sr (Cv p env x)
def B5g(p:Prog)(x:Ty):((H2 p x).map (·.name)).Nodup:=by unfold H2;split;exact(D6c _ _ _ _ (Bq _)).1;simp
def B9v(p:Prog)(h:p.Sm)(x:Ty):(H2 p x).length<=sm:=by unfold H2;split;rename_i E;obtain⟨d,hd,_⟩:=N4 (by decide) E;rw[hd,Dh];exact Dd (B5a _ _ _ _) (h.decls.2 d (Qb hd)).sigs.1;simp
def C3e{env:List Ak}{x y:Ty}(E:∀f,f∈env->f.Sm)(h:Ct env x=some y):y.Sm:=by unfold Ct at h;split at h;simp at h;rw[P1]at h;obtain⟨f,I,rfl⟩:=h;exact(E f (Bm I)).bound
abbrev Mj:List Nat:=[0,1,2,5,6,7,8,9,10,17,22,30,33]
def D5a(p:Prog)(h:p.Sm)(env:List Ak)(a3:env.length<=sm)(he:∀f,f∈env->f.Sm)(x:Ty)(hx:x.Sm):Ab prog 212 [.Aj (G1 p) 0,.d (.slice (Ax env)),Be x] (.d (.slice (B9 (Cd p env x)))):=by
 have W:=D5z env x a3 he;unfold Cd Cv;have a1:=h.decls.1;have a0:∀y,Ct env x=some y->y.Sm:=λy=>C3e he;generalize Ct env x=o at*;cases o with
 |some y =>
  have hy:=a0 y rfl;simp only[B4k]at W;simp only[Dh,Ak5,Ac];have I:=C4t p h y hy;have E:=B5g p y;have J:=B9v p h y;have a2:Bb p y 2=false->H2 p y=[]:=λhf=>by unfold H2;rw[A3 (by rw[hf];decide)]
  rw[show(if Bb p y 2=true then H2 p y else[])=H2 p y by cases hf:Bb p y 2 with|false=>rw[A3 (by decide),a2 hf]|true=>rw[A6 rfl]];generalize Bb p y 2=bb at*;refine cB func212 ?_;refine sR Mj ?_;refine sC W Mj ?_;refine kR Mj λL u1=>?_;refine A0.tt rfl ?_;(refine lV Mj λK z=>?_;apply z;clear z K;try simp only[A5,]);refine u1 _ _ ?_;clear u1 L;refine A0.F9 Mj [22] (by decide +kernel) λK z=>?_;refine ev ?_;refine⟨_,_,_,_,_,rfl,I,?_⟩;(try refine ev ?_);apply z;clear z K
  refine sK λL u1=>?_;have V:∀sl bx,Af sl 9=.acc 22->A8 bx 22=some (.rows 7 (B9 (H2 p y)))->L sl bx:=λsl bx g1 g2=>by
   refine u1 _ _<|A0.ww (sl':=[(9,.acc 22)]) (bx':=[(22,.rows 7 (B9 (H2 p y)))]) (by simp[sle,Av,g1]) (by simp[ble,g2]) ?_
   refine A0.F9 Mj [800035] (by decide +kernel) λK z=>?_;refine ev ?_;refine⟨_,_,_,C6w 22 (H2 p y) rfl rfl E J,?_⟩;(try refine ev ?_);apply z;clear z K;refine sR Mj ?_;exact aR
  cases bb;refine sR Mj ?_;refine A0.ff rfl (A0.kk (V _ _ rfl rfl));refine sR Mj ?_;refine A0.ff rfl (A0.kk (V _ _ rfl rfl))
 |none =>simp only[Rv,Nb,A3 (show ¬(false=true) by decide)];simp only[B4k]at W;have I:=C4t p h x hx;have Z:=F5s p h x hx;have E:=B5g p x;have J:=B9v p h x;have O:=(B8b p x p.decls.length (Bq _)).1;have U:=Dd (A7h p x p.decls.length) a1;generalize Bb p x 2=bb at*;refine cB func212 ?_;refine sR Mj ?_;refine sC W Mj ?_;refine kR Mj λL u1=>?_;refine A0.ff rfl (A0.kk (u1 _ _ ?_));clear u1 L;refine A0.F9 Mj [22] (by decide +kernel) λK z=>?_;refine ev ?_;refine⟨_,_,_,_,_,rfl,I,?_⟩;(try refine ev ?_);apply z;clear z K;refine sK λL u1=>?_;cases bb;refine sR Mj ?_;refine A0.tt rfl ?_;(refine A0.A3a Mj [33] (by decide +kernel) λK z=>?_;refine ev ?_;refine⟨_,_,_,_,_,rfl,Z,?_⟩;(try refine ev ?_);apply z;clear z K;try simp only[A5,]);refine u1 _ _ ?_;rw[A3 (by decide)];refine A0.F9 Mj [800035] (by decide +kernel) λK z=>?_;refine ev ?_;refine⟨_,_,_,C6w 33 (Gw p x p.decls.length) rfl rfl O U,?_⟩;(try refine ev ?_);apply z;clear z K;refine sR Mj ?_;exact aR;refine sR Mj ?_;refine A0.ff rfl (A0.kk (u1 _ _ ?_));rw[A6 rfl];refine A0.F9 Mj [800035] (by decide +kernel) λK z=>?_;refine ev ?_;refine⟨_,_,_,C6w 22 (H2 p x) rfl rfl E J,?_⟩;(try refine ev ?_);apply z;clear z K;refine sR Mj ?_;exact aR
def A5j(m:List A4)(i j:Nat):Prop:=∀(a b:Nat)(s t:A4),a<b->b<=i->b≠j->m[a]?=some s->m[b]?=some t->Bw s.name t.name<=0
def A6f(m:List A4)(j:Nat)(s t:A4):List A4:=(m.set j s).set (j - 1) t
def E5w{m:List A4}{j:Nat}{s t:A4}(O:0<j)(hs:m[j - 1]?=some s)(ht:m[j]?=some t)(a:Nat) :(A6f m j s t)[a]?=if a=j - 1 then some t else if a=j then some s else m[a]?:=by have L:=(Aw.1 hs).1;have J:=(Aw.1 ht).1;unfold A6f;rw[Ao9,Ao9];by_cases E:a=j - 1;subst E;simp;omega;by_cases I:a=j;subst I;simp[E,Yo E,J];simp[E,I,Yo E,Yo I]
def G4r{m:List A4}{j:Nat}{s t:A4}(O:0<j)(hs:m[j - 1]?=some s)(ht:m[j]?=some t):(A6f m j s t).Perm m:=by
 have E:=(Aw.1 hs);have W:=(Aw.1 ht);obtain⟨Z,rfl⟩:=E;obtain⟨I,rfl⟩:=W;have V:m=m.take (j - 1)++m[j - 1]::m[j]::m.drop (j+1):=by
  conv=>lhs;rw[<-X5 (j - 1) m]
  rw[Gv Z]
  congr 2
  have:j - 1+1=j:=by omega
  rw[this,Gv I]
 have U:A6f m j m[j - 1] m[j]=m.take (j - 1)++m[j]::m[j - 1]::m.drop (j+1):=by
  refine Mm λa=>?_;rw[E5w O hs ht];have L:(m.take (j - 1)).length=j - 1:=by rw[D0];omega
  by_cases J:a<j - 1;rw[A3 (by omega),A3 (by omega),N0 (by omega),Ao8 J]
  .rw[Ma (by omega),L];obtain⟨c,rfl⟩:∃c,a=j - 1+c:=⟨a - (j - 1),by omega⟩;rw[show j - 1+c - (j - 1)=c by omega]
   match c with
   |0=>simp
   |1=>rw[A3 (by omega),A6 (by omega)];simp
   |c+2 =>
    rw[A3 (by omega),A3 (by omega)];simp only[Q3,Vw]
    congr 1;omega
 rw[U]
 conv=>rhs;rw[V]
 exact List.Perm.append_left _ (List.Perm.swap ..)
def A5j.step{m:List A4}{i j:Nat}{s t:A4}(h:A5j m i j)(hj:0<j)(a0:j<=i)(hs:m[j - 1]?=some s)(ht:m[j]?=some t)(Z:Bw t.name s.name<0):A5j (A6f m j s t) i (j - 1):=by intro a b u v U J V E I;rw[E5w hj hs ht]at E I;rw[A3 V]at I;by_cases O:b=j;subst O;simp only[Ac,B0]at I;subst I;by_cases L:a=b - 1;rw[A6 L]at E;simp only[B0]at E;subst E;omega;rw[A3 L,A3 (by omega)]at E;exact h a (b - 1) u s (by omega) (by omega) (by omega) E hs;rw[A3 O]at I;by_cases L:a=j - 1;rw[A6 L]at E;simp only[B0]at E;subst E;exact h j b t v (by omega) J (by omega) ht I;rw[A3 L]at E;by_cases W:a=j;rw[A6 W]at E;simp only[B0]at E;subst E;exact h (j - 1) b s v (by omega) J (by omega) hs I;rw[A3 W]at E;exact h a b u v U J O E I
def A2y(m:List A4)(i:Nat):Prop:=∀(a b:Nat)(s t:A4),a<b->b<i->m[a]?=some s->m[b]?=some t->Bw s.name t.name<=0
def A2y.start{m:List A4}{i:Nat}(h:A2y m i):A5j m i i:=λa b s t E I J hs ht=>h a b s t E (by omega) hs ht
def A5j.done{m:List A4}{i j:Nat}(h:A5j m i j)(hd:j=0\/∃s t,m[j - 1]?=some s/\m[j]?=some t/\Bw s.name t.name<=0):A2y m (i+1):=by intro a b s t I U hs ht;by_cases E:b=j;subst E;rcases hd with W|⟨u,v,L,O,J⟩;omega;rw[O]at ht;simp only[B0]at ht;subst ht;by_cases V:a=b - 1;subst V;rw[L]at hs;simp only[B0]at hs;subst hs;exact J;exact C1k _ _ _ (h a (b - 1) s u (by omega) (by omega) (by omega) hs L) J;exact h a b s t I (by omega) E hs ht
def A2y.sorted{m l:List A4}(O:(l.map (·.name)).Nodup)(J:m.Perm l)(h:A2y m m.length):m=Sr l:=by refine D5p O J ?_;rw[Ar0];intro i j L I E;exact h i j _ _ E I (Br L) (Br I)
def F0t(m:List A4)(j:Nat)(s:A4):B9 (m.set j s)=(B9 m).set j (Dm s):=by simp only[B9,List.map_set]
def A0.G7d{ro:Option Nat}{P:Program}{n:Nat}{Q:Exit->SL->Aa->Prop}{sl:SL}{bx:Aa}{c:Code}(t k J sz:Nat)(rs:List (List D))(W:J<=999999)
  (hx:(Af sl t=.acc k/\A8 bx k=some (.rows sz rs))\/(Af sl t=.d .nil/\rs=[]))(h:A0 ro P n c Q [(t,.acc J)] [(J,.rows sz rs)]):A0 ro P n c Q sl bx:=by rcases hx with⟨U,h2⟩|⟨U,rfl⟩;intro C S w β a hs;have V:=Hs h2;obtain⟨b1,Z⟩:=And.intro (hs.inv.box k _ V) (hs.inv.Bh k _ V);refine h C S w (Ej β J (β k)) a ⟨?_,hs.size,hs.defers,λu=>?_⟩;refine hs.inv.step (C9.refl S w) (λb L=>.inl L) hs.inv.C3 (λb _ _=>rfl) rfl rfl rfl (Bq _) ?_ ?_ (λj E=>M3 (by omega)) ?_;intro j c E;simp only[B5,Ew,Fb,Fg]at E;obtain⟨rfl,rfl⟩:=E;rw[Hp];exact⟨Dj.ext (c:=.rows sz rs) b1 (C9.refl _ _) (λ_ _=>rfl) (by simp[Aq.has]),λb L=>⟨(Z b L).1,(Z b L).2.1,.inr ⟨k,_,V,L⟩⟩⟩;intro j c j' c' E I b _ _;simp only[B5,Ew,Fb,Fg]at E I;exact⟨E.1.trans I.1.symm,E.2.trans I.2.symm⟩;intro j Y st E;simp at E;simp only[Af];split;rename_i he;subst he;have O:=hs.slot t;rw[U]at O;generalize a.tmps.getD t undef=v at O;cases O;have:=An.acc (S:=S) (w:=w) (β:=Ej β J (β k)) J;rw[Hp]at this;exact this;exact .undef _;refine A0.pp J sz t U ?_ W;exact A0.ww sS sB h
abbrev Jw:List Nat:=[0,1,2,3,5,6,7,8,9,10,11,16,24,27,29,32,36,56]
def A6n(p:Prog)(h:p.Sm)(env:List Ak)(ai:env.length<=sm)(he:∀f,f∈env->f.Sm)(x:Ty)(hx:x.Sm):Ab prog 45 [Cq p,.d (.slice (Ax env)),Be x] (.d (.slice (B9 (Cd p env x)))):=by
 have a8:=B0h env x ai;have ae:=h.decls.1;unfold Cd;have hU:Cv p env x=Cv p env x:=rfl;generalize I:Cv p env x=l at hU |-;clear hU;have a7:(l.map (·.name)).Nodup:=by rw[<-I];unfold Cv;split;exact B5g _ _;split;simp;exact(B8b _ _ _ (Bq _)).1
 have a1:l.length<=sm:=by rw[<-I];unfold Cv;split;exact B9v p h _;split;simp;exact Dd (A7h ..) ae
 have hy:((Ct env x).getD x).Sm:=by
  cases hb:Ct env x with
  |none=>exact hx
  |some y=>exact C3e he hb
 have a':(Ct env x).isSome = !decide (Fi env x<0):=by unfold Ct;split;rename_i O;simp[O];rename_i O;obtain⟨f,hf,_⟩:=A7k O;simp[hf,O]
 have ak:¬Fi env x<0->∃f,env[(Fi env x).toNat]?=some f/\(Fi env x).toNat<env.length/\(Ct env x).getD x=f.bound:=λO=>by obtain⟨f,h1,h2,_⟩:=A7k O;exact⟨f,h1,h2,by unfold Ct;rw[A3 O,h1];rfl⟩
 have ac:Fi env x<0->(Ct env x).getD x=x:=λO=>by unfold Ct;rw[A6 O];rfl
 unfold Cv at I;rw[a']at I;generalize(Ct env x).getD x=y at*;generalize Fi env x=k at*;have L:=A0m p y 2;have aj:=G5h p h y hy;have ab:=E9p p h y hy;refine cB func45 ?_;refine sR Jw ?_;refine sR Jw ?_;refine sC a8 Jw<|sK λK1 u1=>?_;have a3:∀sl bx,Af sl 3=.box 3 0->Af sl 5=.box 5 0->Af sl 7=.d .nil->Af sl 8=A7 k->A8 bx 3=some (.cells ((Ai p).map .d))->A8 bx 5=some (.cells ((Bs y).map .d))->K1 sl bx:=λsl bx g1 g2 g3 g4 g5 g6=>by
  refine u1 _ _<|A0.ww (sl':=[(3,.box 3 0),(5,.box 5 0),(7,.d .nil),(8,A7 k)]) (bx':=[(3,.cells ((Ai p).map .d)),(5,.cells ((Bs y).map .d))]) (by simp[sle,Av,g1,g2,g3,g4]) (by simp[ble,g5,g6]) ?_;clear u1 K1 g1 g2 g3 g4 g5 g6;refine sK λK2 u2=>?_;have a0:∀q sl bx,(Af sl 7=.acc q/\A8 bx q=some (.rows 7 (B9 l)))\/(Af sl 7=.d .nil/\B9 l=[])->K2 sl bx:=λq sl bx g=>by
   refine u2 _ _<|A0.G7d 7 q 27 7 (B9 l) (by decide) g ?_;clear u2 K2;refine kR Jw λK3 u3=>?_;refine A0.bb (A0.loop (X:=List A4 × Nat) (λz=>[(7,.acc 27),(9,A7 z.2)]) (λz=>[(27,.rows 7 (B9 z.1))]) (λz=>z.1.Perm l/\z.2<=l.length/\A2y z.1 z.2) (λz=>l.length - z.2) (l,0) ⟨List.Perm.refl _,Tf _,by intro a b s t _ h;omega⟩ sS sB ?_)
   rintro⟨m,i⟩ ⟨J,af,ho⟩;simp only at J af ho |-;have a2:=J.length_eq;refine sK λK4 u4=>?_;by_cases a5:(i:Int)<(m.length:Int)
   .refine Ap a5 Jw ?_;refine gI u4 ?_;clear u4 K4;refine sK λK5 u5=>A0.bb<|sR Jw ?_;refine A0.bb (A0.loop (X:=List A4 × Nat) (λz=>[(7,.acc 27),(9,A7 i),(10,A7 z.2)]) (λz=>[(27,.rows 7 (B9 z.1))]) (λz=>z.1.Perm l/\z.2<=i/\A5j z.1 i z.2) (λz=>z.2) (m,i) ⟨J,Bq _,ho.start⟩ sS sB ?_)
    rintro⟨m,j⟩ ⟨J,a6,hI⟩;simp only at J a6 hI |-;have a2:=J.length_eq;have out:A2y m (i+1)->∀sl bx,Af sl 7=.acc 27->Af sl 9=A7 i->A8 bx 27=some (.rows 7 (B9 m))->K5 sl bx:=λhO sl bx g1 g2 g3=>by refine u5 _ _ ?_;refine A0.ww (sl':=[(7,.acc 27),(9,A7 i)]) (bx':=[(27,.rows 7 (B9 m))]) (by simp[sle,Av,g1,g2]) (by simp[ble,g3]) ?_;refine lT Jw ?_;exact⟨(m,i+1),⟨J,by simp only;omega,hO⟩,by simp only;omega,sS,by simp[ble,A8]⟩
    refine sK λK6 u6=>?_;by_cases am:j=0
    .have ag:¬(0:Int)<(j:Int):=by omega
     refine sG Jw [] 14 [] λK z=>?_;refine Ah ag ?_;apply z;clear z K;refine A0.ss rfl ?_;simp only[A5,A9,Ac];exact out (hI.done (.inl am)) _ _ rfl rfl rfl
    .have ah:(0:Int)<(j:Int):=by omega
     obtain⟨t,ht⟩:∃t,m[j]?=some t:=⟨_,Br (by omega)⟩;obtain⟨s,hs⟩:∃s,m[j - 1]?=some s:=⟨_,Br (by omega)⟩;have W:=De ht;have U:=De hs;have e1:(j:Int) - 1=((j - 1:Nat):Int):=by omega
     have a9:=B4z t.name s.name;refine sG Jw [] 14 [] λK z=>?_;simp -implicitDefEqProofs only[EV,Nat.reduceAdd,Nat.reduceEqDiff,E1,B7i,Sz,ah,e1,W,U,Dm,];refine⟨by omega,by omega,?_⟩;refine⟨by first| (unfold B7;omega)| (simp only[B7,sm]at*;omega),?_⟩;refine⟨by omega,by omega,?_⟩;refine cc a9 ?_;apply z;clear z K;refine A0.cond rfl (λhc=>?_) (λhc=>?_)
     .have a4:Bw t.name s.name<0:=by simpa using hc
      refine A0.kk (u6 _ _ ?_);clear u6 K6 out;refine sK λK7 u7=>A0.bb ?_;refine sQ Jw λK z=>?_;simp -implicitDefEqProofs only[EV,Nat.reduceAdd,Nat.reduceEqDiff,Nat.reduceBEq,Nat.reduceLeDiff,reduceCtorEq,B7i,Sz,W,Dm,];refine⟨by omega,by omega,?_⟩;apply z;clear z K;have ad:((B9 m).set j (Dm s))[j - 1]?=some (Dm s):=by rw[At4 (by omega)];exact U
      refine sQ Jw λK z=>?_;refine ev3 e1 W U ?_;refine⟨by unfold B7;unfold sm at a1;omega,by omega,by omega,by omega,by omega,_,Dm s,rfl,rfl,by simp,?_⟩;(try refine ev ?_);apply z;clear z K;(refine lQ Jw λK z=>?_;simp -implicitDefEqProofs only[EV,Nat.reduceAdd,Nat.reduceEqDiff,reduceCtorEq,B7i,Sz,e1,List.length_set];refine⟨by unfold B7;unfold sm at a1;omega,by omega,by omega,Dm s,Dm t,ad,rfl,by simp[Dm],?_⟩;(try refine ev ?_);apply z;clear z K;try simp only[A5,A9]);refine u7 _ _ ?_;clear u7 K7;(refine lQ Jw λK z=>?_;refine Ah e1 ?_;refine⟨by unfold B7;unfold sm at a1;omega,?_⟩;(try refine Ah e1 ?_);apply z;clear z K;try simp only[A5,]);exact⟨(A6f m j s t,j - 1),⟨(G4r (by omega) hs ht).trans J,by simp only;omega,hI.step (by omega) a6 hs ht a4⟩,by simp only;omega,sS,by simp[ble,A8,A6f,F0t,Dm]⟩
     .have ao:Bw s.name t.name<=0:=by
       have:=Yf t.name s.name;have:¬Bw t.name s.name<0:=by simpa using hc
       omega
      refine A0.xx ?_;simp only[A5,A9,Ac];exact out (hI.done (.inr ⟨s,t,hs,ht,ao⟩)) _ _ rfl rfl rfl
   .have:i=l.length:=by omega
    subst this;refine Ap a5 Jw ?_;refine A0.ss rfl ?_;simp only[A5,A9,Ac];refine u3 _ _ ?_;have aa:m=Sr l:=(show A2y m m.length by rw[a2];exact ho).sorted a7 J;subst aa;refine sR Jw ?_;exact aR
  by_cases E:Bb p y 2=true;rw[E]at L;rw[A6 E]at I;subst I;refine sC L Jw ?_;refine A0.tt rfl ?_;(refine A0.A3a Jw [27] (by decide +kernel) λK z=>?_;refine ev ?_;refine⟨_,_,_,_,_,rfl,aj E,?_⟩;(try refine ev ?_);apply z;clear z K;try simp only[A5,]);exact a0 27 _ _ (.inl ⟨rfl,rfl⟩);rw[A3 E]at I;rw[At0]at E;rw[E]at L;refine sC L Jw ?_;refine A0.ff rfl ?_;by_cases Z:k<0;rw[A3 (by simp[Z])]at I;subst I;refine Ap Z Jw ?_;refine A0.tt rfl ?_;(refine A0.A3a Jw [32] (by decide +kernel) λK z=>?_;refine ev ?_;refine⟨_,_,_,_,_,rfl,ab,?_⟩;(try refine ev ?_);apply z;clear z K;try simp only[A5,]);exact a0 32 _ _ (.inl ⟨rfl,rfl⟩);rw[A6 (by simp[Z])]at I;subst I;refine Ap Z Jw ?_;exact A0.ff rfl (A0.kk (a0 27 _ _ (.inr ⟨rfl,rfl⟩)))
 by_cases Z:k<0
 .have V:¬k >= 0:=by omega
  have:=ac Z;subst this;refine Ap V Jw ?_;exact A0.ff rfl (A0.kk (a3 _ _ rfl rfl rfl rfl rfl rfl))
 .have V:k >= 0:=by omega
  obtain⟨f,h1,h2,h3⟩:=ak Z;subst h3;refine Ap V Jw ?_;refine A0.tt rfl ?_;(refine lV Jw λK z=>?_;refine ci (Fc h1) ?_;apply z;clear z K;try simp only[A5,]);exact a3 _ _ rfl rfl rfl rfl rfl rfl
def F5(l:List A4)(nm:A2):Int:=Cw (λs=>decide (s.name=nm)) l
def H0h(nm:A2)(s:A4):Ab prog 270 [E0 s,.Aj [.str nm] 0] (B1 (decide (s.name=nm))):=by refine cB func270 ?_;refine sR [0,1,2,3] ?_;refine sR [0,1,2,3] ?_;exact aR
def Jc:A4:=⟨[],[],[],.mk [] [] 0,0⟩
def C7s(l:List A4)(nm:A2):SV:=if F5 l nm<0 then .tuple [E0 Jc,B1 false]else .tuple [E0 ((l[(F5 l nm).toNat]?).getD Jc),B1 true]
abbrev q1T:List Nat:=[0,1,3,4,5,6,11]
def F9i(l:List A4)(J:l.length<=sm)(nm:A2):Ab prog 255 [.d (.slice (B9 l)),B4 nm] (C7s l nm):=by
 have L:=G7n 270 [.Aj [.str nm] 0] (λ_=>rfl) (λs=>decide (s.name=nm)) l J (λs _=>H0h nm s);have I:=Lo (λs:A4=>decide (s.name=nm)) l;unfold C7s F5;generalize Cw (λs:A4=>decide (s.name=nm)) l=k at*;refine cB func255 ?_;refine sR q1T ?_;refine A0.zz 3 rfl rfl<|A0.ww (sl':=[(0,.d (.slice (B9 l))),(3,.Aj [.str nm] 0),(4,.box 4 0),(5,B1 false)]) (bx':=[(4,.cells Qt)])
  (by simp[M6,SV.sub,sle,Av,Af]) (by simp[Ld,Aq.sub,SV.Kj,SV.sub,ble,A8,C5]) ?_
 refine sC L q1T ?_;rcases I with⟨rfl,_⟩|⟨j,s,rfl,hs,_⟩;refine kR q1T λO u1=>?_;refine tI ?_;refine sR q1T ?_;exact aR
 .have E:¬(j:Int)<0:=by omega
  rw[A3 E];simp only[Hx,hs,Dh];refine Ae E q1T λO u1=>?_;refine kI u1 ?_;refine sV q1T λK z=>?_;refine ci (De hs) ?_;apply z;clear z K;exact aR
def A8k(l:List A4)(w:A4):Bool:=if F5 l w.name<0 then true else !Pv ((l[(F5 l w.name).toNat]?).getD Jc).canon w.canon
def J4(l m:List A4):List A2:=(m.filter (A8k l)).map (·.name)
def E4m{l m:List A4}{j:Nat}{d:A4}(ht:m.take (j+1)=m.take j++[d]):J4 l (m.take (j+1))=J4 l (m.take j)++if A8k l d=true then[d.name]else[]:=by
 unfold J4;rw[ht,Aq0,Hc]
 congr 1
 simp only[Ar2,Ar7];split <;> rfl
def E6t(l m:List A4)(j:Nat):(J4 l (m.take j)).length<=j:=by unfold J4;rw[Bc];exact Dd (Ao4 ..) (by rw[D0];omega)
def H1m(l m:List A2):Ba (l++m)=Ba l++Ba m:=by simp[Ba]
abbrev Nw:List Nat:=[0,1,4,5,7,8,9,10,11,12,13,30]
def F0h(l m:List A4)(hl:l.length<=sm)(hm:m.length<=sm)(hs:∀s,s∈l->s.Sm)(ht:∀s,s∈m->s.Sm):Ab prog 231 [.d (.slice (B9 l)),.d (.slice (B9 m))] (Ce (J4 l m)):=by
 refine cB func231 ?_;refine sR Nw ?_;refine sR Nw ?_;refine A0.pp 5 1 5 rfl<|kR Nw λK1 u1=>?_;refine A0.bb (A0.ii m (X:=Unit) (λj _=>[(0,.d (.slice (B9 l))),(5,.acc 5),(10,.d (.slice (B9 m))),(11,A7 m.length),(12,A7 j)]) (λj _=>[(5,.rows 1 (Ba (J4 l (m.take j))))]) (λj _=>True) () trivial sS (by simp[ble,A8,J4,Ba]) ?_ ?_)
 intro _ _;rw[Cx];refine Ap B6 Nw ?_;refine A0.stop rfl ?_;simp only[A5,A9,Ac];refine u1 _ _<|sR Nw ?_;exact aR
 .intro j _ d hd J dp tk L _;have a0:=E6t l m j;have E:=E4m (l:=l) tk;have I:=F9i l hl d.name;have O:=ht d J;have U:∀e,e∈l->Ab prog 256 [E0 e,E0 d] (B1 (Pv e.canon d.canon)):=λe W=>F8r e d (hs e W) O;have hc:=Lo (λs:A4=>decide (s.name=d.name)) l;unfold C7s at I;unfold A8k at E;unfold F5 at*;generalize Cw (λs:A4=>decide (s.name=d.name)) l=k at*;refine Ap L Nw ?_;refine A0.Ha rfl<|sK λZ u2=>A0.bb ?_
  refine sV Nw λK z=>?_;refine ci (De hd) ?_;apply z;clear z K;rcases hc with⟨rfl,_⟩|⟨q,e,rfl,he,_⟩;rw[A6 (show(-1:Int)<0 by decide)]at I E;rw[A6 rfl]at E;refine sC I Nw ?_;refine sR Nw ?_;refine A0.tt rfl ?_;(refine lV Nw λK z=>?_;refine⟨by simp,by unfold lim sm at*;omega,?_⟩;(try refine ev ?_);apply z;clear z K;try simp only[A5,A9]);refine u2 _ _ ?_;clear u2 Z;refine lT Nw ?_;exact⟨(),trivial,sS,by simp[ble,A8,E,Ba]⟩
  .have V:¬(q:Int)<0:=by omega
   rw[A3 V]at I E;simp only[Hx,he,Dh]at I E;have ha:=U e (Bm he);generalize Pv e.canon d.canon=bb at*;cases bb;rw[A6 (by decide)]at E;refine sC I Nw ?_;refine sC ha Nw ?_;refine A0.tt rfl ?_;(refine lV Nw λK z=>?_;refine⟨by simp,by unfold lim sm at*;omega,?_⟩;(try refine ev ?_);apply z;clear z K;try simp only[A5,A9]);refine u2 _ _ ?_;clear u2 Z;refine lT Nw ?_;exact⟨(),trivial,sS,by simp[ble,A8,E,Ba]⟩;rw[A3 (by decide),Gy]at E;refine sC I Nw ?_;refine sC ha Nw ?_;refine A0.ff rfl (A0.kk (u2 _ _ ?_));clear u2 Z;refine lT Nw ?_;exact⟨(),trivial,sS,by simp[ble,A8,E]⟩
def E8z(l m:List A4)(J:l.length<=sm)(L:m.length<=sm)(hs:∀s,s∈l->s.Sm)(ht:∀s,s∈m->s.Sm):Ab prog 211 [.d (.slice (B9 l)),.d (.slice (B9 m))] (B1 (decide (J4 l m=[]))):=by
 have h:=F0h l m J L hs ht;have e:decide (((J4 l m).length:Int)=0)=decide (J4 l m=[]):=by
  by_cases E:J4 l m=[];simp[E]
  .have I:¬((J4 l m).length:Int)=0:=by have:=List.length_pos_iff.2 E;omega
   rw[Cu E,Cu I]
 rw[<-e];generalize J4 l m=z at*;refine cB func211 ?_;refine sR [0,1,4] ?_;refine sC h [0,1,4] ?_;exact aR
abbrev Ri:List Nat:=[0,1,4,5,6,7,11,34]
def F0y(l m:List A4)(hl:l.length<=sm)(hm:m.length<=sm)(hs:∀s,s∈l->s.Sm)(ht:∀s,s∈m->s.Sm):Ab prog 111 [.d (.slice (B9 l)),.d (.slice (B9 m))] (Ce (J4 l m)):=by
 refine cB func111 ?_;refine sR Ri ?_;refine sR Ri ?_;refine A0.pp 5 1 5 rfl<|kR Ri λK1 u1=>?_;refine A0.bb (A0.ii m (X:=Unit) (λj _=>[(0,.d (.slice (B9 l))),(1,.d (.slice (B9 m))),(5,.acc 5),(6,A7 j)]) (λj _=>[(5,.rows 1 (Ba (J4 l (m.take j))))]) (λj _=>True) () trivial sS (by simp[ble,A8,J4,Ba]) ?_ ?_)
 intro _ _;rw[Cx];refine Ae B6 Ri λJ u2=>?_;refine A0.ss rfl ?_;simp only[A5,A9,Ac];refine u1 _ _<|sR Ri ?_;exact aR
 .intro j _ d hd L dp tk V _;have a1:=E6t l m j;have E:=E4m (l:=l) tk;have U:=B4i l d.name hl;have W:=ht d L;have Z:∀e,e∈l->Ab prog 156 [E0 e,E0 d] (B1 (Pv e.canon d.canon)):=λe a0=>G9z e d (hs e a0) W;have hc:=Lo (λs:A4=>decide (s.name=d.name)) l;unfold A8k at E;unfold F5 at*;generalize Cw (λs:A4=>decide (s.name=d.name)) l=k at*;refine Ae V Ri λJ u2=>?_;refine gI u2 ?_;clear u2 J;refine sK λJ u2=>A0.bb ?_;refine sV Ri λK z=>?_;refine ci (De hd) ?_;refine cc U ?_;apply z;clear z K;rcases hc with⟨rfl,_⟩|⟨q,e,rfl,O,_⟩;rw[A6 (show(-1:Int)<0 by decide)]at E;rw[A6 rfl]at E;refine dR Ri 11 ?_;refine A0.tt rfl ?_;(refine lV Ri λK z=>?_;refine ci (De hd) ?_;refine⟨by simp,by unfold lim sm at*;omega,?_⟩;(try refine ev ?_);apply z;clear z K;try simp only[A5,A9]);refine u2 _ _ ?_;clear u2 J;refine lT Ri ?_;exact⟨(),trivial,sS,by simp[ble,A8,E,Ba]⟩
  .have I:¬(q:Int)<0:=by omega
   rw[A3 I]at E;simp only[Hx,O,Dh]at E;have ha:=Z e (Bm O);generalize Pv e.canon d.canon=bb at*;cases bb;rw[A6 (by decide)]at E;refine sG Ri [] 11 [] λK z=>?_;refine Ah I ?_;refine ci (De O) ?_;refine ci (De hd) ?_;refine cc ha ?_;apply z;clear z K;refine A0.tt rfl ?_;(refine lV Ri λK z=>?_;refine ci (De hd) ?_;refine⟨by simp,by unfold lim sm at*;omega,?_⟩;(try refine ev ?_);apply z;clear z K;try simp only[A5,A9]);refine u2 _ _ ?_;clear u2 J;refine lT Ri ?_;exact⟨(),trivial,sS,by simp[ble,A8,E,Ba]⟩;rw[A3 (by decide),Gy]at E;refine sG Ri [] 11 [] λK z=>?_;refine Ah I ?_;refine ci (De O) ?_;refine ci (De hd) ?_;refine cc ha ?_;apply z;clear z K;refine A0.ff rfl (A0.kk (u2 _ _ ?_));clear u2 J;refine lT Ri ?_;exact⟨(),trivial,sS,by simp[ble,A8,E]⟩
end Go.Abs
