/- the order of types and calls -/
import Derived.Test.YtaneedhchnaniaaGreatDoorKU01
import Derived.Test.YtaneedhchnaniaaGreatDoorKDr2
namespace Go.Abs
set_option linter.all false
open Go Go.Proofs Go.Sort Tryz
set_option maxRecDepth 100000
set_option maxHeartbeats 2000000
def T3 (a b c:Int):Prop:=(a < 0→b≤0→c < 0)∧(a≤0→b < 0→c < 0)∧(a=0→b=0→c=0)
theorem T3.lex {I E J L R O:Int} (h:T3 I E J)(k:T3 L R O):T3 (if I≠0 then I else L) (if E≠0 then E else R) (if J≠0 then J else O):=by obtain⟨h1,Z,h3⟩:=h;obtain⟨k1,k2,k3⟩:=k;by_cases U:I=0 <;> by_cases W:E=0 <;> by_cases V:J=0 <;> simp only [U,W,V,ne_eq,not_true,not_false_iff,Af,Et] <;> refine⟨fun _ _=>?_,fun _ _=>?_,fun _ _=>?_⟩ <;> omega
theorem D1q (a b c:A3):T3 (Bp a b) (Bp b c) (Bp a c):=by
 refine⟨fun I E=>?_,fun I E=>?_,fun I E=>?_⟩
 ·by_cases h:Bp b c=0
  ·rw [Ui] at h;rw [←h];exact I
  ·exact B0p a b c I (by omega)
 ·by_cases h:Bp a b=0
  ·rw [Ui] at h;rw [h];exact E
  ·exact B0p a b c (by omega) E
 ·rw [Ui] at I E ⊢;rw [I,E]
theorem D9b:∀l m n:List Ty,(∀t,t∈l→∀u v,T3 (Dz t u) (Dz u v) (Dz t v))→T3 (Dp l m) (Dp m n) (Dp l n)
 |[],[],[],_=>by simp [Dp,T3]
 |[],[],_::_,_=>by simp [Dp,T3]
 |[],_::_,[],_=>by simp [Dp,T3]
 |[],_::_,_::_,_=>by simp [Dp,T3]
 |_::_,[],[],_=>by simp [Dp,T3]
 |_::_,[],_::_,_=>by simp [Dp,T3]
 |_::_,_::_,[],_=>by simp only [Dp];exact⟨fun _ h=>by omega,fun _ h=>by omega,fun _ h=>by omega⟩
 |x::xs,y::ys,z::E,h=>by rw [Dp,Dp,Dp];exact (h x (by simp) y z).lex (D9b xs ys E fun t ht=>h t (by simp [ht]))
theorem B9j (t:Ty):∀u v,T3 (Dz t u) (Dz u v) (Dz t v):=by
 induction t using Ty.induct with
 |h t E =>
 intro u v;rw [Z3,Z3,Z3];exact (D1q _ _ _).lex (D9b _ _ _ E)
theorem D3c:∀l m:List Ty,(∀t,t∈l→∀u,Dz u t = - Dz t u)→Dp m l = - Dp l m
 |[],[],_=>by simp [Dp]
 |[],_::_,_=>by simp [Dp]
 |_::_,[],_=>by simp [Dp]
 |x::xs,y::ys,h=>by rw [Dp,Dp,h x (by simp) y,D3c xs ys fun t ht=>h t (by simp [ht])];by_cases e:Dz x y=0 <;> simp [e]
theorem C4d (t:Ty):∀u,Dz u t = - Dz t u:=by
 induction t using Ty.induct with
 |h t E =>
 intro u;rw [Z3,Z3,Y0 t.name u.name,D3c _ _ E];by_cases e:Bp t.name u.name=0 <;> simp [e]
theorem A2z (a b:Au):Bj a b=if Dz a.on b.on≠0 then Dz a.on b.on else if Bp a.name b.name≠0 then Bp a.name b.name else Dz (.mk [] a.targs 0) (.mk [] b.targs 0):=by unfold Bj;by_cases e:Dz a.on b.on=0 <;> by_cases k:Bp a.name b.name=0 <;> simp [e,k]
theorem A5v (a b c:Au):T3 (Bj a b) (Bj b c) (Bj a c):=by rw [A2z,A2z,A2z];exact (B9j _ _ _).lex ((D1q _ _ _).lex (B9j _ _ _))
theorem Ut (a b:Au):Bj b a = - Bj a b:=by rw [A2z,A2z,C4d a.on b.on,Y0 a.name b.name,C4d (.mk [] a.targs 0) (.mk [] b.targs 0)];by_cases e:Dz a.on b.on=0 <;> by_cases k:Bp a.name b.name=0 <;> simp [e,k]
theorem A8k (a:Au):Bj a a=0:=by have:=Ut a a;omega
theorem F8y {a b c:Au} (I:Bj a b≤0)(E:Bj b c≤0):Bj a c≤0:=by
 obtain⟨k1,k2,k3⟩:=A5v a b c;by_cases e:Bj a b=0
 ·by_cases k:Bj b c=0
  ·have:=k3 e k;omega
  ·have:=k2 I (by omega);omega
 ·have:=k1 (by omega) E;omega
theorem F6g {α:Type} (c:α→Au):SWO (ltOf fun x y:α=>Bj (c x) (c y)) where
 irrefl x:=by simp [ltOf,A8k]
 trans x y z h1 h2:=by simp only [ltOf,D8] at *;exact (A5v (c x) (c y) (c z)).1 h1 (by omega)
 ntrans x y z h1 h2:=by simp only [ltOf,Vh] at *;have J:=Ut (c x) (c y);have I:=Ut (c y) (c z);have E:=Ut (c x) (c z);have:=F8y (a:=c z) (b:=c y) (c:=c x) (by omega) (by omega);omega
open Go Go.Proofs Tryz
def orL:List Int→Int
 |[]=>0
 |a::l=>if a≠0 then a else orL l
def inR (l:List Int):List (List D):=l.map fun a=>[D.int .i64 a]
abbrev Vj:List Nat:=[0,2,3,5,6,7,8,9,14]
theorem E7p (l:List Int)(hl:l.length≤sm):Ac prog 24 [.d (.slice (inR l))] (A9 (orL l)):=by
 have I:∀{j:Nat} {d:Int},l[j]? = some d→(inR l)[j]? = some [D.int .i64 d]:=by intro j d h;simp [inR,h]
 have J:(inR l).length=l.length:=by simp [inR]
 generalize V:orL l=R;refine cB func24 ?_;refine sR Vj ?_;refine sR Vj ?_;refine Ai J Vj fun K1 u1=>?_;refine A0.bb (A0.ii l (X:=Unit) (fun j _=>[(3,A9 0),(6,.d (.slice (inR l))),(7,A9 l.length),(8,A9 j)]) (fun _ _=>[])
  (fun j _=>orL (l.drop j)=R) () (by simpa using V) sS sB ?_ ?_)
 ·intro _ E;rw [D6,orL] at E;subst E;refine Ah B4 Vj ?_;refine A0.stop rfl ?_;simp only [A4,Aa,Af];refine u1 _ _ ?_;refine sR Vj ?_;exact aR
 ·intro j _ d hd U W tk O E;rw [W,orL] at E;refine Ah O Vj ?_;refine A0.E5 rfl ?_;refine sK fun Z u2=>?_;refine A0.bb ?_
  (refine sV Vj fun K z=>?_;refine ci (I hd) ?_;apply z;clear z K)
  by_cases L:d=0
  ·subst L;rw [A6 (by simp)] at E;refine sR Vj ?_;refine A0.ff rfl (A0.kk (u2 _ _ ?_));clear u2 Z;refine lT Vj ?_;exact⟨(),E,sS,sB⟩
  ·rw [A8 L] at E;subst E;refine Ah L Vj ?_;refine A0.tt rfl ?_;refine sR Vj ?_;exact aR
theorem D3s (a:Au)(E:a.Sm)(b:Au):Ac prog 8 [N6 a,N6 b] (A9 (Bj a b)):=by
 have L:=C2r a.on E.on b.on;have J:=D1b a.name b.name;have O:=C7f 25 a.targs b.targs E.targs.1 fun t ht u=>C2r t (E.targs.2 t ht) u;have I:=E7p [Dz a.on b.on,Bp a.name b.name,Dp a.targs b.targs] (by simp [sm]);have e:orL [Dz a.on b.on,Bp a.name b.name,Dp a.targs b.targs]=Bj a b:=by
  have U:Dz (.mk [] a.targs 0) (.mk [] b.targs 0)=Dp a.targs b.targs:=by rw [Z3];have:Bp (Ty.mk [] a.targs 0).name (Ty.mk [] b.targs 0).name=0:=Ui.2 rfl;rw [A6 (by simp [this])];rfl
  rw [A2z,U];simp only [orL];by_cases V:Dp a.targs b.targs=0 <;> simp [V]
 rw [e] at I;simp only [inR,Cz,Hr] at I;generalize Bj a b=R at *;generalize Dz a.on b.on=x at *;generalize Bp a.name b.name=y at *;generalize Dp a.targs b.targs=z at *;refine cB func8 ?_;refine sR [0,1,2,3,4] ?_
 (refine sG [0,1,2,3,4] [] 14 [] fun K z=>?_;refine ev ?_;refine cc L ?_;refine cc J ?_;refine cc O ?_;refine cc I ?_;apply z;clear z K)
 exact aR
theorem G3y (a:Au)(I:a.Sm)(b:Au):Ac prog 68 [N6 a,N6 b] (B0 (decide (Bj a b=0))):=by
 have E:=D3s a I b;generalize Bj a b=R at *;by_cases h:R=0
 ·subst h;simp only [Tq];refine cB func68 ?_;refine sR [0,1,2,3,4] ?_;refine sC E [0,1,2,3,4] ?_;exact aR
 ·rw [Ci h];refine cB func68 ?_;refine sR [0,1,2,3,4] ?_
  (refine sV [0,1,2,3,4] fun K z=>?_;refine⟨_,.inl ⟨_,rfl,E,rfl⟩,?_⟩;(try simp -implicitDefEqProofs only [EV,Nat.reduceEqDiff,reduceCtorEq,h]);apply z;clear z K)
  exact aR
open Go Go.Proofs Go.Sort Tryz
instance:Inhabited Au:=⟨⟨.mk [] [] 0,[],[]⟩⟩
theorem F3z:(default:Au).Sm:=⟨.mk _ _ _ (by simp) (by simp) (by simp),by simp [default],by simp [default],by simp [default]⟩
def Cm (l:List Au)(i:Nat):Au:=(l[i]?).getD default
structure E6z (C:Ctx)(S:Nat→Prop)(w:World) (β:Names)(bx:Ab)(k:Nat)(l:List Au)(b:Nat)(enc:Nat→List Value):Prop where
 len:∀i,(enc i).length=5
 one:∀i,∀v∈enc i,v.oneCell'=true
 zero:enc l.length=[.string ⟨#[]⟩,.slice none 0 0,.int .i64 0,.string ⟨#[]⟩,.slice none 0 0]
 lt:b < w.heap.size
 holds:HoldsK enc 5 w b ((β k).off*5) (Array.range l.length)
 row:∀(m:Nat) (os:Array Obj) (dk:Array Nat) (i:Nat),Am (all (sortWorldK enc 5 w b ((β k).off*5) m dk os)) (sortWorldK enc 5 w b ((β k).off*5) m dk os) β (N6 (Cm l i)) (.agg (enc i).toArray)
 D9:∀(m:Nat) (os:Array Obj) (dk:Array Nat) b' cs,A3d C.G.sy C.G.ra b' cs→∃ty fr,(sortWorldK enc 5 w b ((β k).off*5) m dk os).heap[b']? = some (.cells cs ty fr)
 inv:∀(m:Nat) (os:Array Obj) (dk:Array Nat),dk.size=l.length→Inv C S (sortWorldK enc 5 w b ((β k).off*5) m dk os) β ((k,.rows 5 (Dn (dk.toList.map (Cm l))))::C3 k bx)∧Bo S w S (sortWorldK enc 5 w b ((β k).off*5) m dk os)
theorem D0p {C:Ctx} {S:Nat→Prop} {w:World} {β:Names} {bx:Ab} {k:Nat} {l:List Au} {b:Nat} (hi:Inv C S w β bx)(a3:(k,Ar.rows 5 (Dn l))∈bx)(O:(β k).base=some b):∃enc,E6z C S w β bx k l b enc:=by
 obtain⟨q1,q2,q3,q4,q5,q6,q7⟩:=hi.box k _ a3;rw [O] at q7;simp only at q7;have af:l.length=(β k).len:=by rw [←q2];simp [Dn]
 obtain⟨ty,vs,hh,a',a7⟩:=q7;obtain⟨n,ak⟩:∃n,n=l.length:=⟨_,rfl⟩;have hS:=hi.B8 k _ a3 b O;have a4:∀i,i < n→((β k).off+i)*5+5≤vs.length:=fun i h=>by have h1:((β k).off+i+1)*5≤((β k).off+(β k).cap)*5:=H4 _ (by omega);omega
 let enc:Nat→List Value:=fun i=>if i < n then (vs.drop (((β k).off+i)*5)).take 5 else [.string ⟨#[]⟩,.slice none 0 0,.int .i64 0,.string ⟨#[]⟩,.slice none 0 0]
 have E:∀i,(enc i).length=5:=fun i=>by
  simp only [enc];split
  ·rename_i h;have:=a4 i h;rw [Cw,Ao8];omega
  ·rfl
 have U:∀i j,i < n→j < 5→(enc i)[j]? = vs[((β k).off+i)*5+j]?:=fun i j h Z=>by simp only [enc,A8 h];rw [An7 Z,Ri]
 have R:∀i j d v,(H5 (Cm l i))[j]? = some d→(enc i)[j]? = some v→Br S w d v:=fun i j d v hd J=>by
  have Z:j < 5:=by have:=(Ay.1 J).1;rw [E] at this;exact this
  by_cases h:i < n
  ·have hs:l[i]? = some (l[i]'(by omega)):=Ba _;have hc:Cm l i=l[i]'(by omega):=by simp only [Cm,hs,Dc]
   rw [hc] at hd;rw [U i j h Z] at J;exact a7 i j _ d v (Qd hs) hd J
  ·have hc:Cm l i=default:=by simp only [Cm,Xn (show l.length≤i by omega),Mj]
   rw [hc] at hd;simp only [enc,A6 h] at J
   match j,hd,J with
   | 0,hd,J=>cases hd;cases J;exact .str [] (by simp)
   | 1,hd,J=>cases hd;cases J;exact .Ja _ _ (by simp)
   | 2,hd,J=>cases hd;cases J;exact .int _ _
   | 3,hd,J=>cases hd;cases J;exact .str [] (by simp)
   | 4,hd,J=>cases hd;cases J;exact .Ja _ _ (by simp)
   |j+5,hd,J=>simp at J
 have V:∀(c:Au) (d:D),d∈H5 c→d.one=true:=fun c d hd=>by simp only [H5,As,Dt,Du] at hd;rcases hd with rfl| rfl| rfl| rfl| rfl <;> rfl
 have a0:∀i,∀v∈enc i,v.oneCell'=true:=fun i v hv=>by
  obtain⟨j,Z⟩:=Ls hv;have hl:j < (H5 (Cm l i)).length:=by have:=(Ay.1 Z).1;rw [E] at this;exact this
  exact (R i j _ v (Ba hl) Z).one (V _ _ (F7 _))
 have aa:∀m os dk L,L < w.heap.size→L≠b→(sortWorldK enc 5 w b ((β k).off*5) m dk os).heap[L]? = w.heap[L]?:=fun m os dk L hl W=>by simp only [sortWorldK,Sort.grow];rw [Am4 (by simp [putRowK,putRow,mapBlock,Sort.ahead];exact hl)];simp [putRowK,putRow,mapBlock,Sort.ahead,Xx,Pp W]
 have ag:∀m os dk,w.heap.size≤(sortWorldK enc 5 w b ((β k).off*5) m dk os).heap.size:=fun m os dk=>size_sortWorldK_c enc 5 w b _ m dk os;have hW:∀m os dk,Bo S w (all (sortWorldK enc 5 w b ((β k).off*5) m dk os)) (sortWorldK enc 5 w b ((β k).off*5) m dk os):=fun m os dk =>⟨fun L I=>Wj (hi.Bi L I) (ag m os dk),fun L I=>aa m os dk L (hi.Bi L I) fun J=>hS.1 (J ▸ I)⟩
 refine⟨enc,E,a0,?_,hS.2.1,?_,fun m os dk i=>?_,fun m os dk L cs hf=>?_,fun m os dk am=>?_⟩
 ·simp only [enc,A6 (show ¬l.length < n by omega)]
 ·intro j Z;rw [size_flatK,Qa] at Z;have a9:j / 5 < n:=by omega
  have ad:(flatK enc 5 (Array.range l.length))[j]! = (enc (j / 5))[j % 5]!:=by
   rw [get_flatK _ _ _ _ (by rw [Qa];exact Z)]
   congr 2
   rw [Jp _ _ (by rw [Qa];omega),Array.getElem_range]
  have ab:=a4 (j / 5) a9;have Qg:((β k).off+j / 5)*5+j % 5=(β k).off*5+j:=by omega
  have a1:(β k).off*5+j < vs.length:=by omega
  have ae:(enc (j / 5))[j % 5]! = vs[(β k).off*5+j]:=by have:=U (j / 5) (j % 5) a9 (Xp _ (by decide));rw [Qg,Ba a1] at this;rw [At7,this];rfl
  refine⟨?_,?_⟩
  ·simp only [World.cell?,hh,L7,id,ad,ae];simp [a1]
  ·simp [World.frozen?,hh]
 ·show Am _ _ _ (.agg ((H5 (Cm l i)).map SV.d)) _;refine Am.A9t ⟨by rw [E];rfl,fun j c v hc hv=>?_⟩ rfl;rw [D3,Ij] at hc;obtain⟨d,hd,rfl⟩:=hc;exact .d _ _ ((R i j d v hd hv).ext (hW m os dk))
 ·obtain⟨h1,ah,fr,h2⟩:=hi.D9 L cs hf;exact⟨ah,fr,((hW m os dk).same L h1).trans h2⟩
 ·have ac:Dh S (putRowK enc 5 (Sort.ahead w m) b ((β k).off*5) dk) β (β k) (.rows 5 (Dn (dk.toList.map (Cm l)))):=by
   refine⟨q1,by simp only [Dn,B6,V3];omega,q3,by simp only [Dn,B6,V3];simp only [Dn,B6] at q4;omega,?_,?_,?_⟩
   ·intro row hr;obtain⟨s,_,rfl⟩:=Ax.1 hr;rfl
   ·intro row hr d hd;obtain⟨s,hs,rfl⟩:=Ax.1 hr;exact V s d hd
   ·rw [O];refine⟨ty,(putCells id ((β k).off*5) (flatK enc 5 dk) ⟨vs⟩).toList,?_,by simpa [putCells] using a',?_⟩
    ·simp [putRowK,putRow,mapBlock,Sort.ahead,Xx,hh,onCells]
    ·intro r j row d v hr hd hv;have a6:r < dk.size:=by have:=(Ay.1 hr).1;simpa [Dn] using this
     have a5:row=H5 (Cm l dk[r]):=by simp only [Dn,D3,Wd,Rj a6,E8,Av] at hr;exact hr.symm
     subst a5;have Z:j < 5:=by have:=(Ay.1 hd).1;exact this
     have a2:(flatK enc 5 dk)[r*5+j]! = (enc dk[r])[j]!:=by rw [get_flatK _ _ _ _ (by omega),show (r*5+j) / 5=r by omega,show (r*5+j) % 5=j by omega,Jp dk r a6]
     have aj:=a4 r (by omega);have ab:((β k).off+r)*5+j < vs.length:=by omega
     have ai:(enc dk[r])[j]? = some v:=by
      rw [Wd,putCells,Array.getElem?_mapIdx] at hv;have hc:(⟨vs⟩:Array Value)[((β k).off+r)*5+j]? = some vs[((β k).off+r)*5+j]:=by simp [ab]
      rw [hc,E8,A8 ⟨by omega,by rw [size_flatK];omega⟩,show ((β k).off+r)*5+j - (β k).off*5=r*5+j by omega,a2] at hv;have a8:j < (enc dk[r]).length:=by rw [E];exact Z
      rw [Ba a8];simp only [id,Av] at hv;rw [←hv,Jp (enc dk[r]) j a8]
     exact (R _ j d v hd ai).ext ⟨fun _ h=>h,fun L I=>by have W:b≠L:=fun J=>hS.1 (J ▸ I);simp [putRowK,putRow,mapBlock,Sort.ahead,Xx,W]⟩
  obtain⟨g1,g2⟩:=hi.A6a (w':=putRowK enc 5 (Sort.ahead w m) b ((β k).off*5) dk) (c:=.rows 5 (Dn (dk.toList.map (Cm l)))) a3 O (fun L W=>by simp [putRowK,putRow,mapBlock,Sort.ahead,Xx,Pp W]) rfl rfl rfl (by simp [putRowK,putRow,mapBlock,Sort.ahead]) ac
  obtain⟨g3,g4⟩:=g1.grow (S':=S) (w':=Sort.grow (putRowK enc 5 (Sort.ahead w m) b ((β k).off*5) dk) os) (fun _ h=>h) (fun _ h=>.inl h)
   (fun L I=>by have:=g1.Bi L I;simp only [Sort.grow,Array.size_append];omega) (fun L I=>by simp only [Sort.grow];exact Am4 I) rfl rfl rfl (by simp [Sort.grow])
  exact⟨g3,g2.trans g4⟩
theorem E2g {l:List Au} (E:∀c,c∈l→c.Sm)(i:Nat):(Cm l i).Sm:=by
 unfold Cm;cases hs:l[i]? with
 |none=>exact F3z
 |some s=>exact E s (Bx hs)
theorem E8j (l:List Au):(List.range l.length).map (Cm l)=l:=by
 refine Lu fun i=>?_;rw [D3];by_cases h:i < l.length
 ·rw [Ww h,E8,Ba h];simp only [Cm,Ba h,Dc]
 ·rw [Xn (by simp;omega),Xn (by omega)];rfl
theorem G0c {sl:SL} {bx:Ab} {x y:Operand} {Co:List TypeId} {o:Oper} (k:Nat)(l:List Au)(ho:o.op=.call ⟨.value (.func 66),[x,y].toArray,Co.toArray⟩)(hx:Ao sl x=.acc k)(hy:Ao sl y=.Bf 8 [])(hb:A7 bx k=some (.rows 5 (Dn l)))(a5:l.length≤sm)(a9:∀c,c∈l→c.Sm) :
  OpP prog o (Ao sl) bx fun r bx'=>r=.tuple []∧∃l':List Au,l'.Perm l∧l'.Pairwise (fun a b=>Bj a b≤0)∧bx'=(k,.rows 5 (Dn l'))::C3 k bx:=by
 intro C S w β a hi ha;have hE:Enters prog 66:=(Enters.of func66 rfl (by decide));have a1:=ha x (mC ho);rw [hx] at a1;have a0:=G0 hb;obtain⟨q1,q2,q3,q4,q5,q6,q7⟩:=hi.box k _ a0;generalize L:a.eval x=v at a1;cases a1;have a6:a.eval y=.func (.func 8) #[] #[]:=by
  have a2:=ha y (mC ho);rw [hy] at a2;generalize a.eval y=u at a2;cases a2 with
  |Bf _ _ vs V _=>rw [Ao0.1 V]
 have ab:a.eval (.func 66)=.func (.func 66) #[] #[]:=rfl;refine He ?_;unfold Oper.wp;rw [Rn hE ho ab,R0];have U:l.length=(β k).len:=by rw [←q2];simp [Dn]
 have O:([x,y].toArray.map a.eval)++(#[]:Array Value) = #[.slice ((β k).base.map fun b=>⟨b,(β k).off*(β k).sz,none⟩) (β k).len (β k).cap,.func (.func 8) #[] #[]]:=by apply I6;rw [Aq1,Ao9];show [a.eval x,a.eval y]++[]=_;rw [L,a6];rfl
 rw [O];clear O;generalize W:(β k).base=ob at q7;cases ob with
 |none =>
  simp only at q7;have aa:l=[]:=Rk (by omega);subst aa;rw [show (β k).len=0 by omega];refine (AnyF.slices_SortFunc_none C3i _ _ _ w).mono ?_;rintro e w' ⟨rfl,rfl⟩;refine⟨_,_,_,S,β,⟨rfl,[],.refl _,.nil,rfl⟩,rfl,hi.sub fun j c hj=>?_,Bo.refl S _,.tuple [] [] rfl (by simp),fun _ _=>rfl⟩;rcases As.1 hj with h| h
  ·rw [h];exact a0
  ·exact (Dq.1 h).2
 |some b =>
  obtain⟨enc,R⟩:=D0p hi a0 W;have a4:CmpLays prog 8 #[] enc 5 (fun x y=>Bj (Cm l x) (Cm l y)) b ((β k).off*5) (Array.range l.length).size w:=fun m os dk _ x y =>
   Ac.grown (β:=β) (sy:=C.G.sy) (ra:=C.G.ra) (D3s (Cm l x) (E2g a9 x) (Cm l y)) (vs:=[.agg (enc x).toArray,.agg (enc y).toArray]) ⟨rfl,fun j c v hc L=>by
    match j,hc,L with
    | 0,hc,L=>cases hc;cases L;exact R.row m os dk x
    | 1,hc,L=>cases hc;cases L;exact R.row m os dk y
    |j+2,hc,L=>simp at L⟩ (R.D9 m os dk)
  rw [q1,←U];have J:=AnyQ.slices_SortFunc C3i 5 isAgg31 sizeOf31 enc R.len R.one (fun x y=>Bj (Cm l x) (Cm l y)) (F6g (Cm l)) 8 #[] b ((β k).off*5) (β k).cap (Array.range l.length) w
   (enters_of func8 (by kernel_rfl) rfl) a4 R.holds R.lt (by rw [Qa];unfold sm at a5;omega)
  rw [Qa] at J;refine J.mono ?_;rintro e w' ⟨rfl,E,m,os,Z,I,rfl⟩;obtain⟨p1,_,p3⟩:=Z;rw [Qa] at p1;have p4:E.toList.Perm (List.range l.length):=by rw [show E.extract 0 l.length=E by rw [←p1];exact As8,show (Array.range l.length).extract 0 l.length=Array.range l.length by have:=As8 (xs:=Array.range l.length);rwa [Qa] at this,Array.toList_range] at p3;exact p3
  have ac:(E.toList.map (Cm l)).Perm l:=by have V:=p4.map (Cm l);rw [E8j] at V;exact V
  have a7:(E.toList.map (Cm l)).Pairwise fun a b=>Bj a b≤0:=by
   rw [List.pairwise_map,Ap5];intro i j a' a3 a8;have V:=I i j (Uf _) a8 (by rw [←p1];simpa using a3);rw [Jp E i (by simpa using a'),Jp E j (by simpa using a3)] at V;simp only [ltOf,Vh] at V;have h2:=Ut (Cm l E[i]) (Cm l E[j]);have h4:Bj (Cm l E[i]) (Cm l E[j])≤0:=by omega
   simpa using h4
  obtain⟨g1,g2⟩:=R.inv m os E p1;exact⟨_,_,_,S,β,⟨rfl,_,ac,a7,rfl⟩,rfl,g1,g2,.tuple [] [] rfl (by simp),fun _ _=>rfl⟩
end Go.Abs
