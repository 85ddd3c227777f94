/- slices.SortFunc on a slice of the call's own: sorted by name -/
import Derived.Test.YtaneedhchnaniaaGreatDoorKS19
import Derived.Test.YtaneedhchnaniaaGreatDoorKS18
namespace Go.Abs
set_option linter.all false
open Go Go.Proofs Go.Sort Tryz
set_option maxRecDepth 100000
set_option maxHeartbeats 1000000
theorem Y0:∀a b:A3,Bp b a = - Bp a b
 |[],[]=>rfl
 |[],_::_=>rfl
 |_::_,[]=>rfl
 |x::xs,y::ys=>by
  have E:=Y0 xs ys;simp only [Bp,Ye];rcases Aw1 x.toNat y.toNat with h| h| h
  ·have:¬y.toNat < x.toNat:=by omega
   simp [h,this]
  ·simp [h,E]
  ·have:¬x.toNat < y.toNat:=by omega
   simp [h,this]
theorem B0p:∀a b c:A3,Bp a b < 0→Bp b c < 0→Bp a c < 0
 |[],[],_,h,_=>by simp [Bp] at h
 |[],_::_,[],_,h=>by simp [Bp] at h
 |[],_::_,_::_,_,_=>by simp [Bp]
 |_::_,[],_,h,_=>by simp [Bp] at h
 |_::_,_::_,[],_,h=>by simp [Bp] at h
 |x::xs,y::ys,z::V,J,E=>by
  have R:=B0p xs ys V;simp only [Bp,Ye] at *;by_cases U:x.toNat < y.toNat
  ·by_cases L:y.toNat < z.toNat
   ·rw [A8 (by omega)];decide
   ·rw [A6 L] at E;by_cases I:z.toNat < y.toNat
    ·rw [A8 I] at E;omega
    ·rw [A8 (by omega)];decide
  ·rw [A6 U] at J;by_cases O:y.toNat < x.toNat
   ·rw [A8 O] at J;omega
   ·rw [A6 O] at J;by_cases L:y.toNat < z.toNat
    ·rw [A8 (by omega)];decide
    ·rw [A6 L] at E;by_cases I:z.toNat < y.toNat
     ·rw [A8 I] at E;omega
     ·rw [A6 I] at E;rw [A6 (by omega),A6 (by omega)];exact R J E
theorem C0e (a b c:A3)(L:Bp a b≤0)(J:Bp b c≤0):Bp a c≤0:=by
 by_cases E:Bp a b=0
 ·rw [Ui] at E;rw [E];exact J
 ·by_cases I:Bp b c=0
  ·rw [Ui] at I;rw [←I];exact L
  ·have:=B0p a b c (by omega) (by omega);omega
theorem E6f {α:Type} (E:α→A3):SWO (ltOf fun x y:α=>Bp (E x) (E y)) where
 irrefl x:=by simp [ltOf,C2h]
 trans x y z h1 h2:=by simp only [ltOf,D8] at *;exact B0p _ _ _ h1 h2
 ntrans x y z h1 h2:=by simp only [ltOf,Vh] at *;have L:=Y0 (E x) (E y);have J:=Y0 (E y) (E z);have I:=Y0 (E x) (E z);have:=C0e (E z) (E y) (E x) (by omega) (by omega);omega
def Pz (l:List A5):List A5:=l.mergeSort fun a b=>decide (Bp a.name b.name≤0)
theorem Yv (l:List A5):(Pz l).Perm l:=List.mergeSort_perm _ _
theorem G0f (l:List A5):(Pz l).Pairwise fun a b=>Bp a.name b.name≤0:=by
 refine (List.pairwise_mergeSort (le:=fun a b:A5=>decide (Bp a.name b.name≤0)) ?_ ?_ l).imp (by simp)
 ·intro a b c I E;simp only [D8] at *;exact C0e _ _ _ I E
 ·intro a b;have:=Y0 a.name b.name;simp only [Ta,D8];omega
theorem D0w {l L:List A5} (hn:(l.map (·.name)).Nodup)(W:L.Perm l)(hs:L.Pairwise fun a b=>Bp a.name b.name≤0):L=Pz l:=by
 refine List.Perm.eq_of_pairwise (le:=fun a b:A5=>Bp a.name b.name≤0) ?_ hs (G0f l) (W.trans (Yv l).symm);intro a b Z hb R U;have:=Y0 a.name b.name;have he:a.name=b.name:=Ui.1 (by omega);have E:a∈l:=W.mem_iff.1 Z;have J:b∈l:=(Yv l).mem_iff.1 hb;obtain⟨i,V⟩:=Ls E;obtain⟨j,I⟩:=Ls J;have R:(l.map (·.name))[i]? = some a.name:=by simp [V]
 have U:(l.map (·.name))[j]? = some a.name:=by simp [I,he]
 have O:i < (l.map (·.name)).length:=(Ay.1 R).1;have:=(List.getElem?_inj O hn).1 (R.trans U.symm);subst this;rw [V] at I;simpa using I
theorem B9x {sl:SL} {bx:Ab} {dst:Option Nat} {x:Operand} {Co:List TypeId} (k:Nat)(l:List A5)(hx:Ao sl x=.acc k)(hb:A7 bx k=some (.rows 7 (B9 l)))(hn:(l.map (·.name)).Nodup)(az:l.length≤sm) :
  OpB prog sl bx dst (.call ⟨.value (.func 197),[x,.func 198].toArray,Co.toArray⟩) (.tuple []) ((k,.rows 7 (B9 (Pz l)))::C3 k bx) []:=by
 intro o ho _ C S w β a hi ha;have hE:Enters prog 197:=(Enters.of func197 rfl (by decide));have ah:=ha x (mC ho);rw [hx] at ah;have a':=G0 hb;obtain⟨q1,q2,q3,q4,q5,q6,q7⟩:=hi.box k _ a';generalize hv:a.eval x=v at ah;cases ah;have U:(#[x,.func 198].map a.eval)++(#[]:Array Value) = #[.slice ((β k).base.map fun b=>⟨b,(β k).off*(β k).sz,none⟩) (β k).len (β k).cap,.func (.func 198) #[] #[]]:=by apply I6;rw [Aq1,Ao9];show [a.eval x,Value.func (.func 198) #[] #[]]++[]=_;rw [hv];rfl
 have bg:a.eval (.func 197)=.func (.func 197) #[] #[]:=rfl;refine He ?_;unfold Oper.wp;rw [Rn hE ho bg,R0];have a7:l.length=(β k).len:=by rw [←q2];simp [B9]
 have ac:([x,.func 198].toArray.map a.eval)++(#[]:Array Value) = #[.slice ((β k).base.map fun b=>⟨b,(β k).off*(β k).sz,none⟩) (β k).len (β k).cap,.func (.func 198) #[] #[]]:=U;rw [ac];clear ac U;generalize L:(β k).base=ob at q7;cases ob with
 |none =>
  simp only at q7;have b7:l=[]:=Rk (by omega);subst b7;rw [show (β k).len=0 by omega];refine (AnyF.slices_SortFunc_none D9t _ _ _ w).mono ?_;rintro e w' ⟨rfl,rfl⟩;refine⟨_,S,β,rfl,hi.sub fun j c Z=>?_,Bo.refl S _,.tuple [] [] rfl (by simp),fun _ _=>rfl⟩;rcases As.1 Z with h| h
  ·rw [h,show Pz []=[] by simp [Pz]];exact a'
  ·exact (Dq.1 h).2
 |some b =>
  simp only at q7;obtain⟨ty,vs,hh,ap,au⟩:=q7;obtain⟨n,bf⟩:∃n,n=l.length:=⟨_,rfl⟩
  let O:Nat→A3:=fun i=>((l[i]?).getD default).name
  have ak:∀i,i < n→((β k).off+i)*7+7≤vs.length:=fun i h=>by have W:((β k).off+i+1)*7≤((β k).off+(β k).cap)*7:=H4 _ (by omega);omega
  let enc:Nat→List Value:=fun i=>if i < n then (vs.drop (((β k).off+i)*7)).take 7 else [sv (O i),.int .i64 0,.int .i64 0,.int .i64 0,.int .i64 0,.int .i64 0,.int .i64 0]
  have I:∀i,(enc i).length=7:=fun i=>by
   simp only [enc];split
   ·rename_i h;have:=ak i h;rw [Cw,Ao8];omega
   ·rfl
  have V:∀i j,i < n→j < 7→(enc i)[j]? = vs[((β k).off+i)*7+j]?:=fun i j h Z=>by simp only [enc,A8 h];rw [An7 Z,Ri]
  have rowAt:∀i,i < n→∃s,l[i]? = some s∧(B9 l)[i]? = some (Eu s):=fun i h=>⟨l[i]'(by omega),Ba _,E1 (Ba _)⟩;have J:∀i j s v,l[i]? = some s→(enc i)[j]? = some v→∃d,(Eu s)[j]? = some d∧Br S w d v:=fun i j s v hs he=>by
   have am:i < n:=by have:=(Ay.1 hs).1;omega
   have Z:j < 7:=by have:=(Ay.1 he).1;rw [I] at this;exact this
   rw [V i j am Z] at he;have av:j < (Eu s).length:=by rw [show (Eu s).length=7 from rfl];exact Z
   exact⟨_,Ba av,au i j (Eu s) _ v (E1 hs) (Ba av) he⟩
  have aa:∀i,∀v∈enc i,v.oneCell'=true:=fun i v hv=>by
   by_cases h:i < n
   ·obtain⟨s,hs,hr⟩:=rowAt i h;obtain⟨j,Z⟩:=Ls hv;obtain⟨d,W,h2⟩:=J i j s v hs Z;exact h2.one (q6 _ (Bx hr) d (Bx W))
   ·simp only [enc,A6 h,As,Dt,Du] at hv;rcases hv with rfl| rfl| rfl| rfl| rfl| rfl| rfl <;> rfl
  have R:∀i,∃a1 a2 a3 a4 a5 a6,enc i=[sv (O i),a1,a2,a3,a4,a5,a6]:=fun i=>by
   by_cases h:i < n
   ·obtain⟨s,hs,hr⟩:=rowAt i h;have hl:=I i;have h0:=J i 0 s
    match he:enc i,hl with
    |[v0,a1,a2,a3,a4,a5,a6],_ =>
     obtain⟨d,W,h2⟩:=h0 v0 hs (by rw [he];rfl);have:d=.str s.name:=by simpa [Eu] using W.symm
     subst this;have:v0=sv (O i):=by have b0:=(Am.d (β:=β) _ _ h2).Tx.1;rw [b0];simp only [O,hs,Dc];rfl
     exact⟨a1,a2,a3,a4,a5,a6,by rw [this]⟩
   ·exact⟨.int .i64 0,.int .i64 0,.int .i64 0,.int .i64 0,.int .i64 0,.int .i64 0,by simp only [enc,A6 h]⟩
  have ay:CmpLays prog 198 #[] enc 7 (fun x y=>Bp (O x) (O y)) b ((β k).off*7) (Array.range n).size w:=fun m os dk _ x y=>by obtain⟨a1,a2,a3,a4,a5,a6,W⟩:=R x;obtain⟨b1,b2,b3,b4,b5,b6,h2⟩:=R y;have:=E5u (O x) (O y) a1 a2 a3 a4 a5 a6 b1 b2 b3 b4 b5 b6 (sortWorldK enc 7 w b ((β k).off*7) m dk os);rw [W,h2];exact this
  have hH:HoldsK enc 7 w b ((β k).off*7) (Array.range n):=fun j Z=>by
   rw [size_flatK,Qa] at Z;have aj:j / 7 < n:=by omega
   have b9:(flatK enc 7 (Array.range n))[j]! = (enc (j / 7))[j % 7]!:=by
    rw [get_flatK _ _ _ _ (by rw [Qa];exact Z)]
    congr 2
    rw [Jp _ _ (by rw [Qa];exact aj),Array.getElem_range]
   have aw:=ak (j / 7) aj;have Qg:((β k).off+j / 7)*7+j % 7=(β k).off*7+j:=by omega
   have ad:(β k).off*7+j < vs.length:=by omega
   have be:(enc (j / 7))[j % 7]! = vs[(β k).off*7+j]:=by have:=V (j / 7) (j % 7) aj (Xp _ (by decide));rw [Qg,Ba ad] at this;rw [At7,this];rfl
   refine⟨?_,?_⟩
   ·simp only [World.cell?,hh,L7,id,b9,be];simp [ad]
   ·simp [World.frozen?,hh]
  have ba:b < w.heap.size:=(hi.B8 k _ a' b L).2.1;have hS:=hi.B8 k _ a' b L;rw [q1,←a7,←bf];have a8:=AnyQ.slices_SortFunc D9t 7 isAgg59 sizeOf59 enc I aa (fun x y=>Bp (O x) (O y)) (E6f O) 198 #[] b ((β k).off*7) (β k).cap (Array.range n) w
   (enters_of func198 (by kernel_rfl) rfl) ay hH ba (by rw [Qa];unfold sm at az;omega)
  rw [Qa] at a8;refine a8.mono ?_;rintro e w' ⟨rfl,E,m,os,af,a0,rfl⟩;obtain⟨p1,_,p3⟩:=af;rw [Qa] at p1;have p4:E.toList.Perm (List.range n):=by rw [show E.extract 0 n=E by rw [←p1];exact As8,show (Array.range n).extract 0 n=Array.range n by have:=As8 (xs:=Array.range n);rwa [Qa] at this,Array.toList_range] at p3;exact p3
  have p5:∀i (h:i < E.size),E[i] < n:=fun i h=>Xs.1 (p4.mem_iff.1 (Array.getElem_mem_toList h));have ax:E.toList.map (fun i=>(l[i]?).getD default)=Pz l:=by
   refine D0w hn ?_ ?_
   ·have W:=p4.map fun i=>(l[i]?).getD default;have h2:(List.range n).map (fun i=>(l[i]?).getD default)=l:=by
     refine Lu fun i=>?_;rw [D3];by_cases h:i < n
     ·rw [Ww h,E8,Ba (by omega),Dc]
     ·rw [Xn (by simp;omega),Xn (by omega)];rfl
    rw [h2] at W;exact W
   ·rw [List.pairwise_map,Ap5];intro i j am ar bc;have W:=a0 i j (Uf _) bc (by rw [←p1];simpa using ar);rw [Jp E i (by simpa using am),Jp E j (by simpa using ar)] at W;simp only [ltOf,Vh] at W;have h2:=Y0 (O E[i]) (O E[j]);have h3:¬Bp (O E[j]) (O E[i]) < 0:=W;have h4:Bp (O E[i]) (O E[j])≤0:=by omega
    simpa [O] using h4
  have ai:=Yv l;have bi:E.size=(Pz l).length:=by rw [←ax];simp
  have aq:Dh S (putRowK enc 7 (Sort.ahead w m) b ((β k).off*7) E) β (β k) (.rows 7 (B9 (Pz l))):=by
   refine⟨q1,by simp only [B9,B6,ai.length_eq];exact a7,q3,by simp only [B9,B6,ai.length_eq];unfold sm lim at *;omega,?_,?_,?_⟩
   ·intro row hr;obtain⟨s,_,rfl⟩:=Ax.1 hr;rfl
   ·intro row hr d hd;obtain⟨s,hs,rfl⟩:=Ax.1 hr;exact q6 _ (Ax.2 ⟨s,ai.mem_iff.1 hs,rfl⟩) d hd
   ·rw [L];refine⟨ty,(putCells id ((β k).off*7) (flatK enc 7 E) ⟨vs⟩).toList,?_,by simpa [putCells] using ap,?_⟩
    ·simp [putRowK,putRow,mapBlock,Sort.ahead,Xx,hh,onCells]
    ·intro r j row d v hr hd hv;have bj:r < (Pz l).length:=by have:=(Ay.1 hr).1;simpa [B9] using this
     have ag:r < E.size:=by omega
     have ab:row=Eu ((l[E[r]]?).getD default):=by rw [←ax] at hr;simp only [B9,D3,Wd,Rj ag,E8,Av] at hr;exact hr.symm
     obtain⟨s,hs,_⟩:=rowAt _ (p5 r ag);rw [hs,Dc] at ab;subst ab;have Z:j < 7:=by have:=(Ay.1 hd).1;rwa [show (Eu s).length=7 from rfl] at this
     have ae:(flatK enc 7 E)[r*7+j]! = (enc E[r])[j]!:=by rw [get_flatK _ _ _ _ (by omega),show (r*7+j) / 7=r by omega,show (r*7+j) % 7=j by omega,Jp E r ag]
     have bh:=ak r (by omega);have aw:((β k).off+r)*7+j < vs.length:=by omega
     have b8:(enc E[r])[j]? = some v:=by
      rw [Wd,putCells,Array.getElem?_mapIdx] at hv;have hc:(⟨vs⟩:Array Value)[((β k).off+r)*7+j]? = some vs[((β k).off+r)*7+j]:=by simp [aw]
      rw [hc,E8,A8 ⟨by omega,by rw [size_flatK];omega⟩,show ((β k).off+r)*7+j - (β k).off*7=r*7+j by omega,ae] at hv;have a9S:j < (enc E[r]).length:=by rw [I];exact Z
      rw [Ba a9S];simp only [id,Av] at hv;rw [←hv,Jp (enc E[r]) j a9S]
     obtain⟨d2,e1,e2⟩:=J _ j s v hs b8;rw [e1] at hd;simp only [Av] at hd;subst hd;exact e2.ext ⟨fun _ h=>h,fun b' a9=>by have ao:b≠b':=fun he=>hS.1 (he ▸ a9);simp [putRowK,putRow,mapBlock,Sort.ahead,Xx,ao]⟩
  obtain⟨g1,g2⟩:=hi.A6a (w':=putRowK enc 7 (Sort.ahead w m) b ((β k).off*7) E) (c:=.rows 7 (B9 (Pz l))) a' L (fun b' ao=>by simp [putRowK,putRow,mapBlock,Sort.ahead,Xx,Pp ao]) rfl rfl rfl (by simp [putRowK,putRow,mapBlock,Sort.ahead]) aq
  obtain⟨g3,g4⟩:=g1.grow (S':=S) (w':=Sort.grow (putRowK enc 7 (Sort.ahead w m) b ((β k).off*7) E) os) (fun _ h=>h) (fun _ h=>.inl h)
   (fun b' a9=>by have:=g1.Bi b' a9;simp only [Sort.grow,Array.size_append];omega) (fun b' a9=>by simp only [Sort.grow];exact Am4 a9) rfl rfl rfl (by simp [Sort.grow])
  exact⟨_,S,β,rfl,g3,g2.trans g4,.tuple [] [] rfl (by simp),fun _ _=>rfl⟩
open Go Go.Proofs Tryz
theorem E1i (s:A5)(vars:List A3)(args:List Ty):(s.canon.subst vars args).name=s.name:=rfl
theorem C5z (vars:List A3)(args:List Ty)(l:List A5):∀j,j≤l.length→((I7 vars args l j).map (·.name)).Nodup∧∀n,n∈(I7 vars args l j).map (·.name)→∃y,y∈l.take j∧y.name=n
 | 0,_=>by simp [I7]
 |j+1,h=>by
  obtain⟨R,J⟩:=C5z vars args l j (by omega);have ht:l.take (j+1)=l.take j++[l[j]]:=by rw [At3,Ba (by omega)];rfl
  rw [C2i (by omega) ht,ht];split
  ·rename_i L;simp only [Q2,D8] at L;rw [Fz,At2];refine⟨⟨R,by simp,?_⟩,?_⟩
   ·rintro a U b O rfl;simp only [Cz,Hr,As,Dt,Du] at O;obtain⟨y,E,I⟩:=J a U;exact L y E (I.trans O)
   ·intro n hm;rcases Bw.1 hm with hm| hm
    ·obtain⟨y,E,I⟩:=J n hm;exact⟨y,Bw.2 (.inl E),I⟩
    ·simp only [Cz,Hr,As,Dt,Du] at hm;exact⟨l[j],Bw.2 (.inr (by simp)),hm.symm⟩
  ·rw [Ge];exact⟨R,fun n hm=>by obtain⟨y,E,I⟩:=J n hm;exact⟨y,Bw.2 (.inl E),I⟩⟩
theorem B5f (p:Prog)(x:Ty):∀j,j≤p.decls.length→((Gk p x j).map (·.name)).Nodup∧∀n,n∈(Gk p x j).map (·.name)→∃i,i < j∧Kk p x n=(i:Nat)
 | 0,_=>by simp [Gk]
 |j+1,h=>by
  obtain⟨R,I⟩:=B5f p x j (by omega);have ht:p.decls.take (j+1)=p.decls.take j++[p.decls[j]]:=by rw [At3,Ba (by omega)];rfl
  rw [C5f (by omega) ht];split
  ·rename_i J;simp only [Io,B1,D8] at J;rw [Fz,At2];refine⟨⟨R,by simp,?_⟩,?_⟩
   ·rintro a U b O rfl;simp only [Cz,Hr,As,Dt,Du] at O;obtain⟨i,L,E⟩:=I a U;rw [O,E1i,J.2] at E;omega
   ·intro n hm;rcases Bw.1 hm with hm| hm
    ·obtain⟨i,L,E⟩:=I n hm;exact⟨i,by omega,E⟩
    ·simp only [Cz,Hr,As,Dt,Du] at hm;exact⟨j,by omega,by rw [hm,E1i];exact J.2⟩
  ·rw [Ge];exact⟨R,fun n hm=>by obtain⟨i,L,E⟩:=I n hm;exact⟨i,by omega,E⟩⟩
def De (p:Prog)(env:List Ak)(x:Ty):List A5:=if Bz p ((Ck env x).getD x) 2=true then Gg p ((Ck env x).getD x) else if (Ck env x).isSome=true then [] else Gk p ((Ck env x).getD x) p.decls.length
def Cb (p:Prog)(env:List Ak)(x:Ty):List A5:=Pz (De p env x)
theorem B6u (p:Prog)(x:Ty):((Gg p x).map (·.name)).Nodup:=by
 unfold Gg;split
 ·exact (C5z _ _ _ _ (Cq _)).1
 ·simp
theorem B5n (p:Prog)(h:p.Sm)(x:Ty):(Gg p x).length≤sm:=by
 unfold Gg;split
 ·rename_i E;obtain⟨d,hd,_⟩:=Lo (by decide) E;rw [hd,Dc];exact Dk (B4w _ _ _ _) (h.decls.2 d (Nh hd)).sigs.1
 ·simp
theorem C1i {env:List Ak} {x y:Ty} (E:∀f,f∈env→f.Sm)(h:Ck env x=some y):y.Sm:=by
 unfold Ck at h;split at h
 ·simp at h
 ·rw [Ij] at h;obtain⟨f,I,rfl⟩:=h;exact (E f (Bx I)).bound
abbrev Lk:List Nat:=[0,1,2,5,6,7,8,9,10,17,22,30,33]
theorem A8u (p:Prog)(h:p.Sm)(env:List Ak)(a3:env.length≤sm)(he:∀f,f∈env→f.Sm)(x:Ty)(hx:x.Sm):Ac prog 127 [.Ag (Fu p) 0,.d (.slice (Az env)),Be x] (.d (.slice (B9 (Cb p env x)))):=by
 have V:=D6a env x a3 he;unfold Cb De;have a0:=h.decls.1;have a1:∀y,Ck env x=some y→y.Sm:=fun y=>C1i he;generalize Ck env x=o at *;cases o with
 |some y =>
  have hy:=a1 y rfl;simp only [B2u] at V;simp only [Dc,Am2,Af];have J:=B3d p h y hy;have E:=B6u p y;have I:=B5n p h y;have Z:Bz p y 2=false→Gg p y=[]:=fun W=>by unfold Gg;rw [A6 (by rw [W];decide)]
  rw [show (if Bz p y 2=true then Gg p y else [])=Gg p y by cases W:Bz p y 2 with| false=>rw [A6 (by decide),Z W]| true=>rw [A8 rfl]];generalize Bz p y 2=bb at *;refine cB func127 ?_;refine sR Lk ?_;refine sC V Lk ?_;refine kR Lk fun L u1=>?_;refine A0.tt rfl ?_
  (refine lV Lk fun K z=>?_;apply z;clear z K;try simp only [A4,])
  refine u1 _ _ ?_;clear u1 L
  (refine A0.F6 Lk [22] (by decide +kernel) fun K z=>?_;refine ev ?_;refine⟨_,_,_,_,_,rfl,J,?_⟩;(try refine ev ?_);apply z;clear z K)
  refine sK fun L u1=>?_;have R:∀sl bx,Ae sl 9=.acc 22→A7 bx 22=some (.rows 7 (B9 (Gg p y)))→L sl bx:=fun sl bx g1 g2=>by
   refine u1 _ _ ?_;refine A0.ww (sl':=[(9,.acc 22)]) (bx':=[(22,.rows 7 (B9 (Gg p y)))]) (by simp [sle,Aw,g1]) (by simp [ble,g2]) ?_
   (refine A0.F6 Lk [800035] (by decide +kernel) fun K z=>?_;refine ev ?_;refine⟨_,_,_,B9x 22 (Gg p y) rfl rfl E I,?_⟩;(try refine ev ?_);apply z;clear z K)
   refine sR Lk ?_;exact aR
  cases bb
  ·refine sR Lk ?_;refine A0.ff rfl (A0.kk (R _ _ rfl rfl))
  ·refine sR Lk ?_;refine A0.ff rfl (A0.kk (R _ _ rfl rfl))
 |none =>
  simp only [Mj,L7,A6 (show ¬(false=true) by decide)];simp only [B2u] at V;have J:=B3d p h x hx;have a2:=F3a p h x hx;have E:=B6u p x;have I:=B5n p h x;have U:=(B5f p x p.decls.length (Cq _)).1;have O:=Dk (A6f p x p.decls.length) a0;generalize Bz p x 2=bb at *;refine cB func127 ?_;refine sR Lk ?_;refine sC V Lk ?_;refine kR Lk fun L u1=>?_;refine A0.ff rfl (A0.kk (u1 _ _ ?_));clear u1 L
  (refine A0.F6 Lk [22] (by decide +kernel) fun K z=>?_;refine ev ?_;refine⟨_,_,_,_,_,rfl,J,?_⟩;(try refine ev ?_);apply z;clear z K)
  refine sK fun L u1=>?_;cases bb
  ·refine sR Lk ?_;refine A0.tt rfl ?_
   (refine A0.A0q Lk [33] (by decide +kernel) fun K z=>?_;refine ev ?_;refine⟨_,_,_,_,_,rfl,a2,?_⟩;(try refine ev ?_);apply z;clear z K;try simp only [A4,])
   refine u1 _ _ ?_;rw [A6 (by decide)]
   (refine A0.F6 Lk [800035] (by decide +kernel) fun K z=>?_;refine ev ?_;refine⟨_,_,_,B9x 33 (Gk p x p.decls.length) rfl rfl U O,?_⟩;(try refine ev ?_);apply z;clear z K)
   refine sR Lk ?_;exact aR
  ·refine sR Lk ?_;refine A0.ff rfl (A0.kk (u1 _ _ ?_));rw [A8 rfl]
   (refine A0.F6 Lk [800035] (by decide +kernel) fun K z=>?_;refine ev ?_;refine⟨_,_,_,B9x 22 (Gg p x) rfl rfl E I,?_⟩;(try refine ev ?_);apply z;clear z K)
   refine sR Lk ?_;exact aR
def A4j (m:List A5)(i j:Nat):Prop:=∀(a b:Nat)(s t:A5),a < b→b≤i→b≠j→m[a]? = some s→m[b]? = some t→Bp s.name t.name≤0
def A5g (m:List A5)(j:Nat)(s t:A5):List A5:=(m.set j s).set (j - 1) t
theorem E2p {m:List A5} {j:Nat} {s t:A5} (L:0 < j)(hs:m[j - 1]? = some s)(ht:m[j]? = some t)(a:Nat) :
  (A5g m j s t)[a]? = if a=j - 1 then some t else if a=j then some s else m[a]?:=by
 have O:=(Ay.1 hs).1;have J:=(Ay.1 ht).1;unfold A5g;rw [Am6,Am6];by_cases E:a=j - 1
 ·subst E;simp;omega
 ·by_cases I:a=j
  ·subst I;simp [E,Pp E,J]
  ·simp [E,I,Pp E,Pp I]
theorem E7g {m:List A5} {j:Nat} {s t:A5} (U:0 < j)(hs:m[j - 1]? = some s)(ht:m[j]? = some t):(A5g m j s t).Perm m:=by
 have W:=(Ay.1 hs);have I:=(Ay.1 ht);obtain⟨V,rfl⟩:=W;obtain⟨R,rfl⟩:=I;have L:m=m.take (j - 1)++m[j - 1]::m[j]::m.drop (j+1):=by
  conv=>lhs;rw [←Sw (j - 1) m]
  rw [Fy V]
  congr 2
  have:j - 1+1=j:=by omega
  rw [this,Fy R]
 have O:A5g m j m[j - 1] m[j]=m.take (j - 1)++m[j]::m[j - 1]::m.drop (j+1):=by
  refine Lu fun a=>?_;rw [E2p U hs ht];have E:(m.take (j - 1)).length=j - 1:=by rw [Cw];omega
  by_cases J:a < j - 1
  ·rw [A6 (by omega),A6 (by omega),J6 (by omega),An7 J]
  ·rw [Jh (by omega),E];obtain⟨c,rfl⟩:∃c,a=j - 1+c:=⟨a - (j - 1),by omega⟩;rw [show j - 1+c - (j - 1)=c by omega]
   match c with
   | 0=>simp
   | 1=>rw [A6 (by omega),A8 (by omega)];simp
   |c+2 =>
    rw [A6 (by omega),A6 (by omega)];simp only [Ny,Ri]
    congr 1;omega
 rw [O]
 conv=>rhs;rw [L]
 exact List.Perm.append_left _ (List.Perm.swap ..)
theorem A4j.step {m:List A5} {i j:Nat} {s t:A5} (h:A4j m i j)(W:0 < j)(Z:j≤i)(hs:m[j - 1]? = some s)(ht:m[j]? = some t)(a0:Bp t.name s.name < 0):A4j (A5g m j s t) i (j - 1):=by
 intro a b u v U J R E I;rw [E2p W hs ht] at E I;rw [A6 R] at I;by_cases O:b=j
 ·subst O;simp only [Af,Av] at I;subst I;by_cases L:a=b - 1
  ·rw [A8 L] at E;simp only [Av] at E;subst E;omega
  ·rw [A6 L,A6 (by omega)] at E;exact h a (b - 1) u s (by omega) (by omega) (by omega) E hs
 ·rw [A6 O] at I;by_cases L:a=j - 1
  ·rw [A8 L] at E;simp only [Av] at E;subst E;exact h j b t v (by omega) J (by omega) ht I
  ·rw [A6 L] at E;by_cases V:a=j
   ·rw [A8 V] at E;simp only [Av] at E;subst E;exact h (j - 1) b s v (by omega) J (by omega) hs I
   ·rw [A6 V] at E;exact h a b u v U J O E I
def A1q (m:List A5)(i:Nat):Prop:=∀(a b:Nat)(s t:A5),a < b→b < i→m[a]? = some s→m[b]? = some t→Bp s.name t.name≤0
theorem A1q.start {m:List A5} {i:Nat} (h:A1q m i):A4j m i i:=fun a b s t E I J hs ht=>h a b s t E (by omega) hs ht
theorem A4j.done {m:List A5} {i j:Nat} (h:A4j m i j)(hd:j=0∨∃s t,m[j - 1]? = some s∧m[j]? = some t∧Bp s.name t.name≤0):A1q m (i+1):=by
 intro a b s t I R hs ht;by_cases E:b=j
 ·subst E;rcases hd with V| ⟨u,v,J,U,L⟩
  ·omega
  ·rw [U] at ht;simp only [Av] at ht;subst ht;by_cases O:a=b - 1
   ·subst O;rw [J] at hs;simp only [Av] at hs;subst hs;exact L
   ·exact C0e _ _ _ (h a (b - 1) s u (by omega) (by omega) (by omega) hs J) L
 ·exact h a b s t I (by omega) E hs ht
theorem A1q.sorted {m l:List A5} (L:(l.map (·.name)).Nodup)(O:m.Perm l)(h:A1q m m.length):m=Pz l:=by refine D0w L O ?_;rw [Ap5];intro i j J I E;exact h i j _ _ E I (Ba J) (Ba I)
theorem F3q (m:List A5)(j:Nat)(s:A5):B9 (m.set j s)=(B9 m).set j (Eu s):=by simp only [B9,List.map_set]
theorem A0.G1g {ro:Option Nat} {P:Program} {n:Nat} {Q:Exit→SL→Ab→Prop} {sl:SL} {bx:Ab} {c:Code} (t k J sz:Nat)(rs:List (List D))(U:J≤999999)
  (hx:(Ae sl t=.acc k∧A7 bx k=some (.rows sz rs))∨(Ae sl t=.d .nil∧rs=[])) (h:A0 ro P n c Q [(t,.acc J)] [(J,.rows sz rs)]):A0 ro P n c Q sl bx:=by
 rcases hx with ⟨V,Z⟩| ⟨V,rfl⟩
 ·intro C S w β a hs;have R:=G0 Z;obtain⟨b1,W⟩:=And.intro (hs.inv.box k _ R) (hs.inv.B8 k _ R);refine h C S w (E3 β J (β k)) a ⟨?_,hs.size,hs.defers,fun u=>?_⟩
  ·refine hs.inv.step (Bo.refl S w) (fun b L=>.inl L) hs.inv.Bi (fun b _ _=>rfl) rfl rfl rfl (Cq _) ?_ ?_ (fun j E=>Jk (by omega)) ?_
   ·intro j c E;simp only [As,Df,Dt,Du] at E;obtain⟨rfl,rfl⟩:=E;rw [G8];exact⟨Dh.ext (c:=.rows sz rs) b1 (Bo.refl _ _) (fun _ _=>rfl) (by simp [Ar.has]),fun b L=>⟨(W b L).1,(W b L).2.1,.inr ⟨k,_,R,L⟩⟩⟩
   ·intro j c j' c' E I b _ _;simp only [As,Df,Dt,Du] at E I;exact⟨E.1.trans I.1.symm,E.2.trans I.2.symm⟩
   ·intro j Y st E;simp at E
  ·simp only [Ae];split
   ·rename_i he;subst he;have O:=hs.slot t;rw [V] at O;generalize a.tmps.getD t undef=v at O;cases O;have:=Am.acc (S:=S) (w:=w) (β:=E3 β J (β k)) J;rw [G8] at this;exact this
   ·exact .undef _
 ·refine A0.pp J sz t V ?_ U;exact A0.ww sS sB h
abbrev J0:List Nat:=[0,1,2,3,5,6,7,8,9,10,11,16,24,27,29,32,36,56]
theorem B6r (p:Prog)(h:p.Sm)(env:List Ak)(ag:env.length≤sm)(he:∀f,f∈env→f.Sm)(x:Ty)(hx:x.Sm):Ac prog 164 [Cv p,.d (.slice (Az env)),Be x] (.d (.slice (B9 (Cb p env x)))):=by
 have ab:=A6h env x ag;have ac:=h.decls.1;unfold Cb;have hU:De p env x=De p env x:=rfl;generalize I:De p env x=l at hU ⊢;clear hU;have a8:(l.map (·.name)).Nodup:=by
  rw [←I];unfold De;split
  ·exact B6u _ _
  ·split
   ·simp
   ·exact (B5f _ _ _ (Cq _)).1
 have V:l.length≤sm:=by
  rw [←I];unfold De;split
  ·exact B5n p h _
  ·split
   ·simp
   ·exact Dk (A6f ..) ac
 have hy:((Ck env x).getD x).Sm:=by
  cases hb:Ck env x with
  |none=>exact hx
  |some y=>exact C1i he hb
 have a':(Ck env x).isSome = !decide (Ev env x < 0):=by
  unfold Ck;split
  ·rename_i L;simp [L]
  ·rename_i L;obtain⟨f,hf,_⟩:=A7d L;simp [hf,L]
 have am:¬Ev env x < 0→∃f,env[(Ev env x).toNat]? = some f∧(Ev env x).toNat < env.length∧(Ck env x).getD x=f.bound:=fun L=>by obtain⟨f,h1,h2,_⟩:=A7d L;exact⟨f,h1,h2,by unfold Ck;rw [A6 L,h1];rfl⟩
 have a7:Ev env x < 0→(Ck env x).getD x=x:=fun L=>by unfold Ck;rw [A8 L];rfl
 unfold De at I;rw [a'] at I;generalize (Ck env x).getD x=y at *;generalize Ev env x=k at *;have O:=A5s p y 2;have ak:=E8o p h y hy;have ad:=F5w p h y hy;refine cB func164 ?_;refine sR J0 ?_;refine sR J0 ?_;refine sC ab J0 ?_;refine sK fun K1 u1=>?_;have a3:∀sl bx,Ae sl 3=.box 3 0→Ae sl 5=.box 5 0→Ae sl 7=.d .nil→Ae sl 8=A9 k→A7 bx 3=some (.cells ((Aj p).map .d))→A7 bx 5=some (.cells ((Bh y).map .d))→K1 sl bx:=fun sl bx g1 g2 g3 g4 g5 g6=>by
  refine u1 _ _ ?_;refine A0.ww (sl':=[(3,.box 3 0),(5,.box 5 0),(7,.d .nil),(8,A9 k)]) (bx':=[(3,.cells ((Aj p).map .d)),(5,.cells ((Bh y).map .d))]) (by simp [sle,Aw,g1,g2,g3,g4]) (by simp [ble,g5,g6]) ?_;clear u1 K1 g1 g2 g3 g4 g5 g6;refine sK fun K2 u2=>?_;have W:∀q sl bx,(Ae sl 7=.acc q∧A7 bx q=some (.rows 7 (B9 l)))∨(Ae sl 7=.d .nil∧B9 l=[])→K2 sl bx:=fun q sl bx g=>by
   refine u2 _ _ ?_;refine A0.G1g 7 q 27 7 (B9 l) (by decide) g ?_;clear u2 K2;refine kR J0 fun K3 u3=>?_;refine A0.bb (A0.loop (X:=List A5 × Nat) (fun z=>[(7,.acc 27),(9,A9 z.2)]) (fun z=>[(27,.rows 7 (B9 z.1))])
    (fun z=>z.1.Perm l∧z.2≤l.length∧A1q z.1 z.2) (fun z=>l.length - z.2) (l,0) ⟨List.Perm.refl _,Uf _,by intro a b s t _ h;omega⟩ sS sB ?_)
   rintro⟨m,i⟩ ⟨J,a9,ho⟩;simp only at J a9 ho ⊢;have a1:=J.length_eq;refine sK fun K4 u4=>?_;by_cases a4:(i:Int) < (m.length:Int)
   ·refine Ah a4 J0 ?_;refine gI u4 ?_;clear u4 K4;refine sK fun K5 u5=>?_;refine A0.bb ?_;refine sR J0 ?_;refine A0.bb (A0.loop (X:=List A5 × Nat) (fun z=>[(7,.acc 27),(9,A9 i),(10,A9 z.2)]) (fun z=>[(27,.rows 7 (B9 z.1))])
     (fun z=>z.1.Perm l∧z.2≤i∧A4j z.1 i z.2) (fun z=>z.2) (m,i) ⟨J,Cq _,ho.start⟩ sS sB ?_)
    rintro⟨m,j⟩ ⟨J,a5,hI⟩;simp only at J a5 hI ⊢;have a1:=J.length_eq;have out:A1q m (i+1)→∀sl bx,Ae sl 7=.acc 27→Ae sl 9=A9 i→A7 bx 27=some (.rows 7 (B9 m))→K5 sl bx:=fun hO sl bx g1 g2 g3=>by refine u5 _ _ ?_;refine A0.ww (sl':=[(7,.acc 27),(9,A9 i)]) (bx':=[(27,.rows 7 (B9 m))]) (by simp [sle,Aw,g1,g2]) (by simp [ble,g3]) ?_;refine lT J0 ?_;exact⟨(m,i+1),⟨J,by simp only;omega,hO⟩,by simp only;omega,sS,by simp [ble,A7]⟩
    refine sK fun K6 u6=>?_;by_cases aj:j=0
    ·have aa:¬(0:Int) < (j:Int):=by omega
     (refine sG J0 [] 14 [] fun K z=>?_;refine An aa ?_;apply z;clear z K)
     refine A0.ss rfl ?_;simp only [A4,Aa,Af];exact out (hI.done (.inl aj)) _ _ rfl rfl rfl
    ·have ai:(0:Int) < (j:Int):=by omega
     obtain⟨t,ht⟩:∃t,m[j]? = some t:=⟨_,Ba (by omega)⟩;obtain⟨s,hs⟩:∃s,m[j - 1]? = some s:=⟨_,Ba (by omega)⟩;have a0:=E1 ht;have R:=E1 hs;have e1:(j:Int) - 1=((j - 1:Nat):Int):=by omega
     have a6:=A9n t.name s.name
     (refine sG J0 [] 14 [] fun K z=>?_;simp -implicitDefEqProofs only [EV,Nat.reduceAdd,Nat.reduceEqDiff,M3,B2q,S4,ai,e1,a0,R,Eu,];refine⟨by omega,by omega,?_⟩;refine⟨by first| (unfold B7;omega)| (simp only [B7,sm] at *;omega),?_⟩;refine⟨by omega,by omega,?_⟩;refine cc a6 ?_;apply z;clear z K)
     refine A0.cond rfl (fun hc=>?_) (fun hc=>?_)
     ·have a2:Bp t.name s.name < 0:=by simpa using hc
      refine A0.kk (u6 _ _ ?_);clear u6 K6 out;refine sK fun K7 u7=>?_;refine A0.bb ?_
      (refine sQ J0 fun K z=>?_;simp -implicitDefEqProofs only [EV,Nat.reduceAdd,Nat.reduceEqDiff,Nat.reduceBEq,Nat.reduceLeDiff,reduceCtorEq,B2q,S4,a0,Eu,];refine⟨by omega,by omega,?_⟩;apply z;clear z K)
      have ah:((B9 m).set j (Eu s))[j - 1]? = some (Eu s):=by rw [Ar5 (by omega)];exact R
      (refine sQ J0 fun K z=>?_;refine ev3 e1 a0 R ?_;refine⟨by unfold B7;unfold sm at V;omega,by omega,by omega,by omega,by omega,_,Eu s,rfl,rfl,by simp,?_⟩;(try refine ev ?_);apply z;clear z K)
      (refine lQ J0 fun K z=>?_;simp -implicitDefEqProofs only [EV,Nat.reduceAdd,Nat.reduceEqDiff,reduceCtorEq,B2q,S4,e1,List.length_set];refine⟨by unfold B7;unfold sm at V;omega,by omega,by omega,Eu s,Eu t,ah,rfl,by simp [Eu],?_⟩;(try refine ev ?_);apply z;clear z K;try simp only [A4,Aa])
      refine u7 _ _ ?_;clear u7 K7
      (refine lQ J0 fun K z=>?_;refine An e1 ?_;refine⟨by unfold B7;unfold sm at V;omega,?_⟩;(try refine An e1 ?_);apply z;clear z K;try simp only [A4,])
      exact⟨(A5g m j s t,j - 1),⟨(E7g (by omega) hs ht).trans J,by simp only;omega,hI.step (by omega) a5 hs ht a2⟩,by simp only;omega,sS,by simp [ble,A7,A5g,F3q,Eu]⟩
     ·have ae:Bp s.name t.name≤0:=by
       have:=Y0 t.name s.name;have:¬Bp t.name s.name < 0:=by simpa using hc
       omega
      refine A0.xx ?_;simp only [A4,Aa,Af];exact out (hI.done (.inr ⟨s,t,hs,ht,ae⟩)) _ _ rfl rfl rfl
   ·have:i=l.length:=by omega
    subst this;refine Ah a4 J0 ?_;refine A0.ss rfl ?_;simp only [A4,Aa,Af];refine u3 _ _ ?_;have af:m=Pz l:=(show A1q m m.length by rw [a1];exact ho).sorted a8 J;subst af;refine sR J0 ?_;exact aR
  by_cases E:Bz p y 2=true
  ·rw [E] at O;rw [A8 E] at I;subst I;refine sC O J0 ?_;refine A0.tt rfl ?_
   (refine A0.A0q J0 [27] (by decide +kernel) fun K z=>?_;refine ev ?_;refine⟨_,_,_,_,_,rfl,ak E,?_⟩;(try refine ev ?_);apply z;clear z K;try simp only [A4,])
   exact W 27 _ _ (.inl ⟨rfl,rfl⟩)
  ·rw [A6 E] at I;rw [Au1] at E;rw [E] at O;refine sC O J0 ?_;refine A0.ff rfl ?_;by_cases Z:k < 0
   ·rw [A6 (by simp [Z])] at I;subst I;refine Ah Z J0 ?_;refine A0.tt rfl ?_
    (refine A0.A0q J0 [32] (by decide +kernel) fun K z=>?_;refine ev ?_;refine⟨_,_,_,_,_,rfl,ad,?_⟩;(try refine ev ?_);apply z;clear z K;try simp only [A4,])
    exact W 32 _ _ (.inl ⟨rfl,rfl⟩)
   ·rw [A8 (by simp [Z])] at I;subst I;refine Ah Z J0 ?_;exact A0.ff rfl (A0.kk (W 27 _ _ (.inr ⟨rfl,rfl⟩)))
 by_cases Z:k < 0
 ·have U:¬k ≥ 0:=by omega
  have:=a7 Z;subst this;refine Ah U J0 ?_;exact A0.ff rfl (A0.kk (a3 _ _ rfl rfl rfl rfl rfl rfl))
 ·have U:k ≥ 0:=by omega
  obtain⟨f,h1,h2,h3⟩:=am Z;subst h3;refine Ah U J0 ?_;refine A0.tt rfl ?_
  (refine lV J0 fun K z=>?_;refine ci (Ep h1) ?_;apply z;clear z K;try simp only [A4,])
  exact a3 _ _ rfl rfl rfl rfl rfl rfl
def F8 (l:List A5)(E:A3):Int:=Dy (fun s=>decide (s.name=E)) l
theorem G2q (E:A3)(s:A5):Ac prog 278 [Cx s,.Ag [.str E] 0] (B0 (decide (s.name=E))):=by refine cB func278 ?_;refine sR [0,1,2,3] ?_;refine sR [0,1,2,3] ?_;exact aR
def Kd:A5:=⟨[],[],[],.mk [] [] 0,0⟩
def A4c (l:List A5)(E:A3):SV:=if F8 l E < 0 then .tuple [Cx Kd,B0 false] else .tuple [Cx ((l[(F8 l E).toNat]?).getD Kd),B0 true]
abbrev q1U:List Nat:=[0,1,3,4,5,6,11]
theorem E0v (l:List A5)(J:l.length≤sm)(E:A3):Ac prog 214 [.d (.slice (B9 l)),C8 E] (A4c l E):=by
 have L:=G5t 278 [.Ag [.str E] 0] (fun _=>rfl) (fun s=>decide (s.name=E)) l J (fun s _=>G2q E s);have O:=N1 (fun s:A5=>decide (s.name=E)) l;unfold A4c F8;generalize Dy (fun s:A5=>decide (s.name=E)) l=k at *;refine cB func214 ?_;refine sR q1U ?_;refine A0.zz 3 rfl rfl ?_;refine A0.ww (sl':=[(0,.d (.slice (B9 l))),(3,.Ag [.str E] 0),(4,.box 4 0),(5,B0 false)]) (bx':=[(4,.cells Pn)])
  (by simp [Ky,SV.sub,sle,Aw,Ae]) (by simp [Jg,Ar.sub,SV.Kq,SV.sub,ble,A7,C3]) ?_
 refine sC L q1U ?_;rcases O with ⟨rfl,_⟩| ⟨j,s,rfl,hs,_⟩
 ·refine kR q1U fun R u1=>?_;refine tI ?_;refine sR q1U ?_;exact aR
 ·have I:¬(j:Int) < 0:=by omega
  rw [A6 I];simp only [Gr,hs,Dc];refine Ai I q1U fun R u1=>?_;refine kI u1 ?_
  (refine sV q1U fun K z=>?_;refine ci (E1 hs) ?_;apply z;clear z K)
  exact aR
def A6q (l:List A5)(w:A5):Bool:=if F8 l w.name < 0 then true else !Nz ((l[(F8 l w.name).toNat]?).getD Kd).canon w.canon
def Ic (l m:List A5):List A3:=(m.filter (A6q l)).map (·.name)
theorem D7x {l m:List A5} {j:Nat} {d:A5} (ht:m.take (j+1)=m.take j++[d]):Ic l (m.take (j+1))=Ic l (m.take j)++if A6q l d=true then [d.name] else []:=by
 unfold Ic;rw [ht,Ap4,Fz]
 congr 1
 simp only [Au3,Av5];split <;> rfl
theorem D8g (l m:List A5)(j:Nat):(Ic l (m.take j)).length≤j:=by unfold Ic;rw [B6];exact Dk (Ak8 ..) (by rw [Cw];omega)
theorem G6d (l m:List A3):C6 (l++m)=C6 l++C6 m:=by simp [C6]
abbrev Mm:List Nat:=[0,1,4,5,7,8,9,10,11,12,13,30]
theorem E7c (l m:List A5)(hl:l.length≤sm)(hm:m.length≤sm)(hs:∀s,s∈l→s.Sm)(ht:∀s,s∈m→s.Sm):Ac prog 195 [.d (.slice (B9 l)),.d (.slice (B9 m))] (Ct (Ic l m)):=by
 refine cB func195 ?_;refine sR Mm ?_;refine sR Mm ?_;refine A0.pp 5 1 5 rfl ?_;refine kR Mm fun K1 u1=>?_;refine A0.bb (A0.ii m (X:=Unit) (fun j _=>[(0,.d (.slice (B9 l))),(5,.acc 5),(10,.d (.slice (B9 m))),(11,A9 m.length),(12,A9 j)]) (fun j _=>[(5,.rows 1 (C6 (Ic l (m.take j))))])
  (fun j _=>True) () trivial sS (by simp [ble,A7,Ic,C6]) ?_ ?_)
 ·intro _ _;rw [Cs];refine Ah B4 Mm ?_;refine A0.stop rfl ?_;simp only [A4,Aa,Af];refine u1 _ _ ?_;refine sR Mm ?_;exact aR
 ·intro j _ d hd J dp tk U _;have a0:=D8g l m j;have E:=D7x (l:=l) tk;have I:=E0v l hl d.name;have R:=ht d J;have L:∀e,e∈l→Ac prog 266 [Cx e,Cx d] (B0 (Nz e.canon d.canon)):=fun e O=>E4u e d (hs e O) R;have hc:=N1 (fun s:A5=>decide (s.name=d.name)) l;unfold A4c at I;unfold A6q at E;unfold F8 at *;generalize Dy (fun s:A5=>decide (s.name=d.name)) l=k at *;refine Ah U Mm ?_;refine A0.E5 rfl ?_;refine sK fun W u2=>?_;refine A0.bb ?_
  (refine sV Mm fun K z=>?_;refine ci (E1 hd) ?_;apply z;clear z K)
  rcases hc with ⟨rfl,_⟩| ⟨q,e,rfl,he,_⟩
  ·rw [A8 (show (-1:Int) < 0 by decide)] at I E;rw [A8 rfl] at E;refine sC I Mm ?_;refine sR Mm ?_;refine A0.tt rfl ?_
   (refine lV Mm fun K z=>?_;refine⟨by simp,by unfold lim sm at *;omega,?_⟩;(try refine ev ?_);apply z;clear z K;try simp only [A4,Aa])
   refine u2 _ _ ?_;clear u2 W;refine lT Mm ?_;exact⟨(),trivial,sS,by simp [ble,A7,E,C6]⟩
  ·have V:¬(q:Int) < 0:=by omega
   rw [A6 V] at I E;simp only [Gr,he,Dc] at I E;have Z:=L e (Bx he);generalize Nz e.canon d.canon=bb at *;cases bb
   ·rw [A8 (by decide)] at E;refine sC I Mm ?_;refine sC Z Mm ?_;refine A0.tt rfl ?_
    (refine lV Mm fun K z=>?_;refine⟨by simp,by unfold lim sm at *;omega,?_⟩;(try refine ev ?_);apply z;clear z K;try simp only [A4,Aa])
    refine u2 _ _ ?_;clear u2 W;refine lT Mm ?_;exact⟨(),trivial,sS,by simp [ble,A7,E,C6]⟩
   ·rw [A6 (by decide),Ge] at E;refine sC I Mm ?_;refine sC Z Mm ?_;refine A0.ff rfl (A0.kk (u2 _ _ ?_));clear u2 W;refine lT Mm ?_;exact⟨(),trivial,sS,by simp [ble,A7,E]⟩
theorem F6o (l m:List A5)(I:l.length≤sm)(J:m.length≤sm)(hs:∀s,s∈l→s.Sm)(ht:∀s,s∈m→s.Sm):Ac prog 126 [.d (.slice (B9 l)),.d (.slice (B9 m))] (B0 (decide (Ic l m=[]))):=by
 have h:=E7c l m I J hs ht;have e:decide (((Ic l m).length:Int)=0)=decide (Ic l m=[]):=by
  by_cases E:Ic l m=[]
  ·simp [E]
  ·have L:¬((Ic l m).length:Int)=0:=by have:=List.length_pos_iff.2 E;omega
   rw [Ci E,Ci L]
 rw [←e];generalize Ic l m=z at *;refine cB func126 ?_;refine sR [0,1,4] ?_;refine sC h [0,1,4] ?_;exact aR
abbrev Qq:List Nat:=[0,1,4,5,6,7,11,34]
theorem F4a (l m:List A5)(hl:l.length≤sm)(hm:m.length≤sm)(hs:∀s,s∈l→s.Sm)(ht:∀s,s∈m→s.Sm):Ac prog 228 [.d (.slice (B9 l)),.d (.slice (B9 m))] (Ct (Ic l m)):=by
 refine cB func228 ?_;refine sR Qq ?_;refine sR Qq ?_;refine A0.pp 5 1 5 rfl ?_;refine kR Qq fun K1 u1=>?_;refine A0.bb (A0.ii m (X:=Unit) (fun j _=>[(0,.d (.slice (B9 l))),(1,.d (.slice (B9 m))),(5,.acc 5),(6,A9 j)]) (fun j _=>[(5,.rows 1 (C6 (Ic l (m.take j))))])
  (fun j _=>True) () trivial sS (by simp [ble,A7,Ic,C6]) ?_ ?_)
 ·intro _ _;rw [Cs];refine Ai B4 Qq fun J u2=>?_;refine A0.ss rfl ?_;simp only [A4,Aa,Af];refine u1 _ _ ?_;refine sR Qq ?_;exact aR
 ·intro j _ d hd L dp tk Z _;have a0:=D8g l m j;have E:=D7x (l:=l) tk;have U:=C4u l d.name hl;have W:=ht d L;have R:∀e,e∈l→Ac prog 283 [Cx e,Cx d] (B0 (Nz e.canon d.canon)):=fun e V=>G1p e d (hs e V) W;have hc:=N1 (fun s:A5=>decide (s.name=d.name)) l;unfold A6q at E;unfold F8 at *;generalize Dy (fun s:A5=>decide (s.name=d.name)) l=k at *;refine Ai Z Qq fun J u2=>?_;refine gI u2 ?_;clear u2 J;refine sK fun J u2=>?_;refine A0.bb ?_
  (refine sV Qq fun K z=>?_;refine ci (E1 hd) ?_;refine cc U ?_;apply z;clear z K)
  rcases hc with ⟨rfl,_⟩| ⟨q,e,rfl,O,_⟩
  ·rw [A8 (show (-1:Int) < 0 by decide)] at E;rw [A8 rfl] at E;refine dR Qq 11 ?_;refine A0.tt rfl ?_
   (refine lV Qq fun K z=>?_;refine ci (E1 hd) ?_;refine⟨by simp,by unfold lim sm at *;omega,?_⟩;(try refine ev ?_);apply z;clear z K;try simp only [A4,Aa])
   refine u2 _ _ ?_;clear u2 J;refine lT Qq ?_;exact⟨(),trivial,sS,by simp [ble,A7,E,C6]⟩
  ·have I:¬(q:Int) < 0:=by omega
   rw [A6 I] at E;simp only [Gr,O,Dc] at E;have ha:=R e (Bx O);generalize Nz e.canon d.canon=bb at *;cases bb
   ·rw [A8 (by decide)] at E
    (refine sG Qq [] 11 [] fun K z=>?_;refine An I ?_;refine ci (E1 O) ?_;refine ci (E1 hd) ?_;refine cc ha ?_;apply z;clear z K)
    refine A0.tt rfl ?_
    (refine lV Qq fun K z=>?_;refine ci (E1 hd) ?_;refine⟨by simp,by unfold lim sm at *;omega,?_⟩;(try refine ev ?_);apply z;clear z K;try simp only [A4,Aa])
    refine u2 _ _ ?_;clear u2 J;refine lT Qq ?_;exact⟨(),trivial,sS,by simp [ble,A7,E,C6]⟩
   ·rw [A6 (by decide),Ge] at E
    (refine sG Qq [] 11 [] fun K z=>?_;refine An I ?_;refine ci (E1 O) ?_;refine ci (E1 hd) ?_;refine cc ha ?_;apply z;clear z K)
    refine A0.ff rfl (A0.kk (u2 _ _ ?_));clear u2 J;refine lT Qq ?_;exact⟨(),trivial,sS,by simp [ble,A7,E]⟩
theorem E6a {vars:List A3} {args:List Ty} (J:∀u,u∈args→u.Sm) {l:List A5} (E:∀s,s∈l→s.Sm)(j:Nat):∀s,s∈I7 vars args l j→s.Sm:=fun s hs=>by unfold I7 at hs;obtain⟨⟨x,i⟩,L,rfl⟩:=Ax.1 hs;have O:=(L8.1 L).1;have I:=Iq (V5 O);exact A5.Sm.subst J (E x I).canon
theorem E4o {p:Prog} (h:p.Sm) {env:List Ak} (R:∀f,f∈env→f.Sm) {x:Ty} (E:x.Sm):∀s,s∈De p env x→s.Sm:=by
 have I:((Ck env x).getD x).Sm:=by
  cases O:Ck env x with
  |none=>exact E
  |some y=>exact C1i R O
 unfold De;generalize (Ck env x).getD x=y at *;intro s hs;split at hs
 ·rename_i J;unfold Gg at hs;rw [A8 J] at hs;obtain⟨d,hd,_⟩:=Lo (by decide) J;rw [hd,Dc] at hs;exact E6a I.arg (h.decls.2 d (Nh hd)).sigs.2 _ s hs
 ·split at hs
  ·simp at hs
  ·unfold Gk at hs;obtain⟨⟨d,i⟩,E,rfl⟩:=Ax.1 hs;have U:=(L8.1 E).1;have L:d∈p.decls:=Iq (V5 U);exact A5.Sm.subst I.arg (h.decls.2 d L).sig.canon
theorem G2b {p:Prog} (h:p.Sm)(env:List Ak)(x:Ty):(De p env x).length≤sm:=by
 unfold De;split
 ·exact B5n p h _
 ·split
  ·simp
  ·exact Dk (A6f ..) h.decls.1
theorem A0o {p:Prog} (h:p.Sm) {env:List Ak} (E:∀f,f∈env→f.Sm) {x:Ty} (I:x.Sm):∀s,s∈Cb p env x→s.Sm:=fun s hs=>E4o h E I s ((Yv _).mem_iff.1 hs)
theorem W3 {p:Prog} (h:p.Sm)(env:List Ak)(x:Ty):(Cb p env x).length≤sm:=by unfold Cb;rw [(Yv _).length_eq];exact G2b h env x
def isIface (p:Prog)(env:List Ak)(x:Ty):Bool:=Bz p x 2 && !(Ck env x).isSome
abbrev Z9:List Nat:=[0,1,2,5,6,8,10,20]
theorem G0a (p:Prog)(h:p.Sm)(env:List Ak)(J:env.length≤sm)(O:∀f,f∈env→f.Sm)(x:Ty)(L:x.Sm):Ac prog 125 [.Ag (Fu p) 0,.d (.slice (Az env)),Be x] (B0 (isIface p env x)):=by
 have I:=D6a env x J O;have E:=B3d p h x L;unfold isIface;generalize Ck env x=o at *;generalize Bz p x 2=bb at *;refine cB func125 ?_;refine sR Z9 ?_;cases o with
 |none =>
  simp only [B2u] at I;refine sC I Z9 ?_
  (refine A0.F6 Z9 [20] (by decide +kernel) fun K z=>?_;refine ev ?_;refine⟨_,_,_,_,_,rfl,E,?_⟩;(try refine ev ?_);apply z;clear z K)
  cases bb
  ·refine sR Z9 ?_;exact aR
  ·refine sR Z9 ?_;exact aR
 |some y =>
  simp only [B2u] at I;refine sC I Z9 ?_
  (refine A0.F6 Z9 [20] (by decide +kernel) fun K z=>?_;refine ev ?_;refine⟨_,_,_,_,_,rfl,E,?_⟩;(try refine ev ?_);apply z;clear z K)
  cases bb
  ·refine sR Z9 ?_;exact aR
  ·refine sR Z9 ?_;exact aR
theorem E1w (env:List Ak)(x:Ty):(Ck env x).isSome = !decide (Ev env x < 0):=by
 unfold Ck;split
 ·rename_i E;simp [E]
 ·rename_i E;obtain⟨f,I,_⟩:=A7d E;simp [I,E]
theorem D8v (p:Prog)(env:List Ak)(I:env.length≤sm)(x:Ty):Ac prog 227 [Cv p,.d (.slice (Az env)),Be x] (B0 (isIface p env x)):=by
 have J:=A6h env x I;have L:=A5s p x 2;unfold isIface;rw [E1w];generalize Ev env x=k at *;generalize Bz p x 2=bb at *;refine cB func227 ?_;refine sR [0,1,2,3,5,6] ?_;by_cases E:k < 0
 ·(refine sV [0,1,2,3,5,6] fun K z=>?_;refine⟨_,.inl ⟨_,rfl,J,rfl⟩,?_⟩;(try refine An E ?_);refine cc L ?_;apply z;clear z K)
  simp only [E,Tq,As7,Ar7,Av0];exact aR
 ·(refine sV [0,1,2,3,5,6] fun K z=>?_;refine⟨_,.inl ⟨_,rfl,J,rfl⟩,?_⟩;(try refine An E ?_);apply z;clear z K)
  simp only [E,Aq6,As7,Ar7,Vi];exact aR
def Dj (p:Prog)(env:List Ak)(t i:Ty):Bool:=if isIface p env i=true then decide (Ic (Cb p env t) (Cb p env i)=[]) else Pj t i
abbrev q2W:List Nat:=[0,1,2,3,6,7,8,13]
theorem F1y (p:Prog)(h:p.Sm)(env:List Ak)(E:env.length≤sm)(I:∀f,f∈env→f.Sm)(t i:Ty)(ht:t.Sm)(J:i.Sm):Ac prog 63 [.Ag (Fu p) 0,.d (.slice (Az env)),Be t,Be i] (B0 (Dj p env t i)):=by
 have L:=G0a p h env E I i J;have R:=B5q t i ht;have U:=A8u p h env E I t ht;have V:=A8u p h env E I i J;have O:=F6o (Cb p env t) (Cb p env i) (W3 h env t) (W3 h env i) (A0o h I ht) (A0o h I J);unfold Dj;generalize isIface p env i=bb at *;generalize Cb p env t=l at *;generalize Cb p env i=m at *;refine cB func63 ?_;refine sR q2W ?_;cases bb
 ·rw [A6 (by decide)];refine kC L q2W fun W u1=>?_;refine tI ?_;refine sC R q2W ?_;exact aR
 ·rw [A8 rfl];refine kC L q2W fun W u1=>?_;refine kI u1 ?_
  (refine sG q2W [] 7 [] fun K z=>?_;refine ev ?_;refine cc U ?_;refine cc V ?_;refine cc O ?_;apply z;clear z K)
  exact aR
abbrev q3W:List Nat:=[0,1,2,3,4,6,7,8,12]
theorem A9k (p:Prog)(h:p.Sm)(env:List Ak)(E:env.length≤sm)(I:∀f,f∈env→f.Sm)(t i:Ty)(ht:t.Sm)(O:i.Sm):Ac prog 158 [Cv p,.d (.slice (Az env)),Be t,Be i] (B0 (Dj p env t i)):=by
 have J:=D8v p env E i;have U:=G4f t i ht;have V:=B6r p h env E I t ht;have W:=B6r p h env E I i O;have R:=F4a (Cb p env t) (Cb p env i) (W3 h env t) (W3 h env i) (A0o h I ht) (A0o h I O);unfold Dj;generalize isIface p env i=bb at *;generalize Cb p env t=l at *;generalize Cb p env i=m at *;have e:decide (((Ic l m).length:Int)=0)=decide (Ic l m=[]):=by
  by_cases L:Ic l m=[]
  ·simp [L]
  ·have J:¬((Ic l m).length:Int)=0:=by have:=List.length_pos_iff.2 L;omega
   rw [Ci L,Ci J]
 rw [←e];generalize Ic l m=z at *;refine cB func158 ?_;refine sR q3W ?_;cases bb
 ·rw [A6 (by decide)];refine kC J q3W fun Z u1=>?_;refine kI u1 ?_;refine sC U q3W ?_;exact aR
 ·rw [A8 rfl];refine kC J q3W fun Z u1=>?_;refine tI ?_
  (refine sG q3W [] 7 [] fun K z=>?_;refine ev ?_;refine cc V ?_;refine cc W ?_;refine cc R ?_;apply z;clear z K)
  exact aR
def A5i (p:Prog)(env fs:List Ak)(args:List Ty)(z:Ak × Ty):Bool:=!Dj p env z.2 (z.1.bound.subst (Ad fs) args)
def Gt (p:Prog)(env fs:List Ak)(args:List Ty):Int:=Dy (A5i p env fs args) (fs.zip args)
theorem F7w {α β:Type} {l:List α} {m:List β} {j:Nat} {a:α} {b:β} (E:l[j]? = some a)(I:m[j]? = some b):(l.zip m).take (j+1)=(l.zip m).take j++[(a,b)]∧(l.zip m)[j]? = some (a,b):=by
 have h:(l.zip m)[j]? = some (a,b):=by rw [Ak6];exact⟨E,I⟩
 refine⟨?_,h⟩;rw [At3,h];rfl
abbrev q4W:List Nat:=[0,1,2,3,4,8,9,13,32]
theorem C6j (p:Prog)(h:p.Sm)(env:List Ak)(a1:env.length≤sm)(he:∀f,f∈env→f.Sm)(fs:List Ak)(R:fs.length≤sm)(hf:∀f,f∈fs→f.Sm)(args:List Ty)(a4:args.length=fs.length)(V:∀u,u∈args→u.Sm) :
  Ac prog 226 [Cv p,.d (.slice (Az env)),.d (.slice (Az fs)),Cg args] (A9 (Gt p env fs args)):=by
 have E:=To fs R;unfold Gt;refine cB func226 ?_;refine sR q4W ?_;refine kR q4W fun K1 u1=>?_;refine A0.bb (A0.ii fs (X:=Unit) (fun j _=>[(1,.d (.slice (Az env))),(2,.d (.slice (Az fs))),(3,Cg args),(4,.box 4 0),(9,A9 j)]) (fun _ _=>[(4,.cells ((Aj p).map .d))])
  (fun j _=>∀y,y∈(fs.zip args).take j→A5i p env fs args y=false) () (by simp) sS (by simp [ble,A7,Aj]) ?_ ?_)
 ·intro _ J;rw [Aj9 (by rw [Aq9];omega)] at J;refine Ai B4 q4W fun O u2=>?_;refine A0.ss rfl ?_;simp only [A4,Aa,Af];refine u1 _ _ ?_;refine sR q4W ?_;rw [Th J];exact aR
 ·intro j _ d hd I dp tk a2 J;obtain⟨u,U,_⟩:=A3a (l:=args) (j:=j) (by omega);have a0:=Bx U;obtain⟨W,a3⟩:=F7w hd U;have L:=Ur (Ad fs) args V d.bound (hf d I).bound;have Z:=A9k p h env a1 he u (d.bound.subst (Ad fs) args) (V u a0) (Ty.Sm.subst V _ (hf d I).bound);have hq:A5i p env fs args (d,u) = !Dj p env u (d.bound.subst (Ad fs) args):=rfl;generalize Dj p env u (d.bound.subst (Ad fs) args)=bb at *;refine Ai a2 q4W fun O u2=>?_;refine gI u2 ?_;clear u2 O;refine sK fun O u2=>?_;refine A0.bb ?_
  (refine sG q4W [] 15 [] fun K z=>?_;refine ev ?_;refine ci (F5 U) ?_;refine ci (Ep hd) ?_;refine cc E ?_;refine cc L ?_;refine cc Z ?_;apply z;clear z K)
  cases bb
  ·refine A0.tt rfl ?_;refine sR q4W ?_;rw [Uj a3 hq J];exact aR
  ·refine A0.ff rfl (A0.kk (u2 _ _ ?_));clear u2 O;refine lT q4W ?_;refine⟨(),?_,sS,(by simp [ble,A7,Aj])⟩;rw [W];intro y hy;rcases Bw.1 hy with hy| hy
   ·exact J y hy
   ·simp only [As,Dt,Du] at hy;rw [hy];exact hq
mutual
def C0 (p:Prog)(env:List Ak):Ty→Option Int
 |.mk n a pos=>if (Ck env (.mk n a pos)).isSome=true then none else if kindOf p n=0∨(Fj p n).length≠a.length then some pos else
   match Lz p env a with
   |some q=>some q
   |none=>if 0≤Gt p env (Fj p n) a then some ((a[(Gt p env (Fj p n) a).toNat]?).getD default).pos else none
def Lz (p:Prog)(env:List Ak):List Ty→Option Int
 |[]=>none
 |t::E=>match C0 p env t with
  |some q=>some q
  |none=>Lz p env E
end
theorem D5z (p:Prog)(env:List Ak)(x:Ty):C0 p env x=if (Ck env x).isSome=true then none else if kindOf p x.name=0∨(Fj p x.name).length≠x.args.length then some x.pos else
   match Lz p env x.args with
   |some q=>some q
   |none=>if 0≤Gt p env (Fj p x.name) x.args then some ((x.args[(Gt p env (Fj p x.name) x.args).toNat]?).getD default).pos else none:=by
 cases x with| mk n a pos=>rw [C0];rfl
theorem B9d {p:Prog} (h:p.Sm)(E:A3):(Fj p E).length≤sm∧∀f,f∈Fj p E→f.Sm:=by
 unfold Fj;cases I:Gb p E with
 |none=>simp
 |some d=>exact (h.decls.2 d (Nh I)).A1
theorem D1f {p:Prog} {env fs:List Ak} {a:List Ty} (h:0≤Gt p env fs a)(J:a.length=fs.length):∃u,a[(Gt p env fs a).toNat]? = some u:=by
 unfold Gt at *;rcases N1 (A5i p env fs a) (fs.zip a) with ⟨E,_⟩| ⟨j,z,E,I,_⟩
 ·omega
 ·rw [E];have:=(Ay.1 I).1;rw [Aq9] at this;exact⟨_,Ba (by omega)⟩
def Sx:Option Int→SV
 |some q=>.tuple [A9 q,B0 true]
 |none=>.tuple [A9 0,B0 false]
abbrev H3:List Nat:=[0,1,2,3,5,6,7,8,9,10,11,12,16,33,40,54,63]
theorem A8g (p:Prog)(h:p.Sm)(env:List Ak)(a2:env.length≤sm)(he:∀f,f∈env→f.Sm):∀x:Ty,x.Sm→Ac prog 150 [Cv p,.d (.slice (Az env)),Be x] (Sx (C0 p env x)):=by
 intro x
 induction x using Ty.induct with
 |h x ih =>
 intro hx;have hf:=A6h env x a2;have W:=B6s p x.name;have a1:=A4y p x.name;obtain⟨a5,a4⟩:=B9d h x.name;have U:=C6j p h env a2 he (Fj p x.name) a5 a4 x.args;have a0:=@D1f p env (Fj p x.name) x.args;have a7:=hx.len;rw [D5z,E1w];generalize Ev env x=z at *;generalize Fj p x.name=fs at *;generalize kindOf p x.name=k at *;by_cases hz:z < 0
 ·rw [A6 (by simp [hz])];have L:¬z ≥ 0:=by omega
  by_cases hk:k=0
  ·rw [A8 (.inl hk)];refine cB func150 ?_;refine sR H3 ?_;refine sK fun I u1=>?_
   (refine sV H3 fun K z=>?_;refine⟨_,.inl ⟨_,rfl,hf,rfl⟩,?_⟩;(try refine An L ?_);apply z;clear z K)
   refine kI u1 ?_;clear u1 I;refine sC W H3 ?_;refine sK fun I u1=>?_
   (refine sV H3 fun K z=>?_;refine⟨_,.inl ⟨_,rfl,a1,rfl⟩,?_⟩;(try refine An hk ?_);apply z;clear z K)
   refine tI ?_;refine sR H3 ?_;exact aR
  ·by_cases J:fs.length=x.args.length
   ·have E:(fs.length:Int)=x.args.length:=by omega
    have U:=U J.symm hx.arg;have a0:=fun hh=>a0 hh J.symm;rw [A6 (by rintro (h1| h1) <;> contradiction)];generalize Gt p env fs x.args=b at *;generalize a3:Lz p env x.args=oc;refine cB func150 ?_;refine sR H3 ?_;refine sK fun I u1=>?_
    (refine sV H3 fun K z=>?_;refine⟨_,.inl ⟨_,rfl,hf,rfl⟩,?_⟩;(try refine An L ?_);apply z;clear z K)
    refine kI u1 ?_;clear u1 I;refine sC W H3 ?_;refine sK fun I u1=>?_
    (refine sV H3 fun K z=>?_;refine⟨_,.inl ⟨_,rfl,a1,rfl⟩,?_⟩;(try refine Gj hk E ?_);apply z;clear z K)
    refine kI u1 ?_;clear u1 I;refine kR H3 fun I u1=>?_;refine A0.bb (A0.ii x.args (X:=Unit) (fun j _=>[(1,.d (.slice (Az env))),(3,.box 3 0),(5,.box 5 0),(8,.d (.slice (Az fs))),(9,A9 j)]) (fun _ _=>[(3,.cells ((Aj p).map .d)),(5,.cells ((Bh x).map .d))])
     (fun j _=>Lz p env (x.args.drop j)=oc) () a3 sS (by simp [ble,A7,Bh,Aj]) ?_ ?_)
    ·intro _ R;rw [D6,Lz] at R;subst R;simp only;refine Ai B4 H3 fun K2 u2=>?_;refine A0.ss rfl ?_;simp only [A4,Aa,Af];refine u1 _ _ ?_;clear u2 K2 u1 I;by_cases O:0≤b
     ·obtain⟨u,hu⟩:=a0 O;have Z:b ≥ 0:=O;rw [A8 O,hu,Dc];refine sC U H3 ?_;refine Ai Z H3 fun I u1=>?_;refine tI ?_
      (refine sV H3 fun K z=>?_;refine ci (F5 hu) ?_;apply z;clear z K)
      exact aR
     ·have Z:¬b ≥ 0:=O;rw [A6 O];refine sC U H3 ?_;refine Ai Z H3 fun I u1=>?_;refine kI u1 ?_;refine sR H3 ?_;exact aR
    ·intro j _ d hd V dp tk a6 R;have hc:=ih d V (hx.arg d V);rw [dp,Lz] at R;refine Ai a6 H3 fun K2 u2=>?_;refine gI u2 ?_;clear u2 K2;refine sK fun K2 u2=>?_;refine A0.bb ?_;cases ho:C0 p env d with
     |none =>
      rw [ho] at hc R;simp only [Sx] at hc R
      (refine sG H3 [] 12 [] fun K z=>?_;refine ev ?_;refine ci (F5 hd) ?_;refine cc hc ?_;apply z;clear z K)
      refine sR H3 ?_;refine A0.ff rfl (A0.kk (u2 _ _ ?_));clear u2 K2;refine lT H3 ?_;exact⟨(),R,sS,(by simp [ble,A7,Bh,Aj])⟩
     |some q =>
      rw [ho] at hc R;simp only [Sx] at hc R
      (refine sG H3 [] 12 [] fun K z=>?_;refine ev ?_;refine ci (F5 hd) ?_;refine cc hc ?_;apply z;clear z K)
      refine sR H3 ?_;refine A0.tt rfl ?_;refine sR H3 ?_;subst R;exact aR
   ·have E:¬(fs.length:Int)=x.args.length:=by omega
    rw [A8 (.inr J)];refine cB func150 ?_;refine sR H3 ?_;refine sK fun I u1=>?_
    (refine sV H3 fun K z=>?_;refine⟨_,.inl ⟨_,rfl,hf,rfl⟩,?_⟩;(try refine An L ?_);apply z;clear z K)
    refine kI u1 ?_;clear u1 I;refine sC W H3 ?_;refine sK fun I u1=>?_
    (refine sV H3 fun K z=>?_;refine⟨_,.inl ⟨_,rfl,a1,rfl⟩,?_⟩;(try refine Gj hk E ?_);apply z;clear z K)
    refine tI ?_;refine sR H3 ?_;exact aR
 ·have L:z ≥ 0:=by omega
  rw [A8 (by simp [hz])];refine cB func150 ?_;refine sR H3 ?_;refine sK fun I u1=>?_
  (refine sV H3 fun K z=>?_;refine⟨_,.inl ⟨_,rfl,hf,rfl⟩,?_⟩;(try refine An L ?_);apply z;clear z K)
  refine tI ?_;refine sR H3 ?_;exact aR
end Go.Abs
