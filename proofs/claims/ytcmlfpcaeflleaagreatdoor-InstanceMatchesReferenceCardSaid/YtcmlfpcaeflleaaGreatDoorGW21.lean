/- the order of types and calls -/
import Derived.Test.YtcmlfpcaeflleaaGreatDoorGO01
import Derived.Test.YtcmlfpcaeflleaaGreatDoorGDr2
set_option linter.all false
set_option maxHeartbeats 2000000
set_option maxRecDepth 100000
namespace Go.Abs
open Go Go.Proofs Go.Sort Tryz
def T3(a b c:Int):Prop:=(a<0->b<=0->c<0)/\(a<=0->b<0->c<0)/\(a=0->b=0->c=0)
def T3.lex{J I E O M L:Int}(h:T3 J I E)(k:T3 O M L):T3 (if J≠0 then J else O) (if I≠0 then I else M) (if E≠0 then E else L):=by obtain⟨Z,h2,h3⟩:=h;obtain⟨k1,k2,k3⟩:=k;by_cases W:J=0 <;> by_cases V:I=0 <;> by_cases U:E=0 <;> simp only[W,V,U,ne_eq,not_true,not_false_iff,Ae,Fy] <;> refine⟨λ_ _=>?_,λ_ _=>?_,λ_ _=>?_⟩ <;> omega
def E4q(a b c:A3):T3 (Bs a b) (Bs b c) (Bs a c):=by
 refine⟨λI E=>?_,λI E=>?_,λI E=>?_⟩
 .by_cases h:Bs b c=0
  .rw[Tm]at h;rw[<-h];exact I
  .exact B2c a b c I (by omega)
 .by_cases h:Bs a b=0
  .rw[Tm]at h;rw[h];exact E
  .exact B2c a b c (by omega) E
 .rw[Tm]at I E |-;rw[I,E]
def D4r:∀l m n:List Ty,(∀t,t∈l->∀u v,T3 (Cs t u) (Cs u v) (Cs t v))->T3 (E0 l m) (E0 m n) (E0 l n)
 |[],[],[],_=>by simp[E0,T3]
 |[],[],_::_,_=>by simp[E0,T3]
 |[],_::_,[],_=>by simp[E0,T3]
 |[],_::_,_::_,_=>by simp[E0,T3]
 |_::_,[],[],_=>by simp[E0,T3]
 |_::_,[],_::_,_=>by simp[E0,T3]
 |_::_,_::_,[],_=>by simp only[E0];exact⟨λ_ h=>by omega,λ_ h=>by omega,λ_ h=>by omega⟩
 |x::xs,y::ys,z::E,h=>by rw[E0,E0,E0];exact(h x (by simp) y z).lex (D4r xs ys E λt ht=>h t (by simp[ht]))
def A3e(t:Ty):∀u v,T3 (Cs t u) (Cs u v) (Cs t v):=by
 induction t using Ty.induct with
 |h t E =>
 intro u v;rw[A1n,A1n,A1n];exact(E4q _ _ _).lex (D4r _ _ _ E)
def D2y:∀l m:List Ty,(∀t,t∈l->∀u,Cs u t = - Cs t u)->E0 m l = - E0 l m
 |[],[],_=>by simp[E0]
 |[],_::_,_=>by simp[E0]
 |_::_,[],_=>by simp[E0]
 |x::xs,y::ys,h=>by rw[E0,E0,h x (by simp) y,D2y xs ys λt ht=>h t (by simp[ht])];by_cases e:Cs x y=0 <;> simp[e]
def Ww(t:Ty):∀u,Cs u t = - Cs t u:=by
 induction t using Ty.induct with
 |h t E =>
 intro u;rw[A1n,A1n,Zd t.name u.name,D2y _ _ E];by_cases e:Bs t.name u.name=0 <;> simp[e]
def A5z(a b:Ad):Ba a b=if Cs a.on b.on≠0 then Cs a.on b.on else if Bs a.name b.name≠0 then Bs a.name b.name else Cs (.mk [] a.targs 0) (.mk [] b.targs 0):=by unfold Ba;by_cases e:Cs a.on b.on=0 <;> by_cases k:Bs a.name b.name=0 <;> simp[e,k]
def A1z(a b c:Ad):T3 (Ba a b) (Ba b c) (Ba a c):=by rw[A5z,A5z,A5z];exact(A3e _ _ _).lex ((E4q _ _ _).lex (A3e _ _ _))
def Ru(a b:Ad):Ba b a = - Ba a b:=by rw[A5z,A5z,Ww a.on b.on,Zd a.name b.name,Ww (.mk [] a.targs 0) (.mk [] b.targs 0)];by_cases e:Cs a.on b.on=0 <;> by_cases k:Bs a.name b.name=0 <;> simp[e,k]
def A0k(a:Ad):Ba a a=0:=by have:=Ru a a;omega
def G0s{a b c:Ad}(I:Ba a b<=0)(E:Ba b c<=0):Ba a c<=0:=by
 obtain⟨k1,k2,k3⟩:=A1z a b c;by_cases e:Ba a b=0
 .by_cases k:Ba b c=0
  .have:=k3 e k;omega
  .have:=k2 I (by omega);omega
 .have:=k1 (by omega) E;omega
def G7w{α:Type}(c:α->Ad):SWO (ltOf λx y:α=>Ba (c x) (c y)) where
 irrefl x:=by simp[ltOf,A0k]
 trans x y z h1 h2:=by simp only[ltOf,Da]at*;exact(A1z (c x) (c y) (c z)).1 h1 (by omega)
 ntrans x y z h1 h2:=by simp only[ltOf,Rw]at*;have J:=Ru (c x) (c y);have E:=Ru (c y) (c z);have I:=Ru (c x) (c z);have:=G0s (a:=c z) (b:=c y) (c:=c x) (by omega) (by omega);omega
open Go Go.Proofs Tryz
def orL:List Int->Int
 |[]=>0
 |a::l=>if a≠0 then a else orL l
def inR(l:List Int):List (List D):=l.map λa=>[D.int .i64 a]
abbrev Xp:List Nat:=[0,2,3,5,6,7,8,9,14]
def F5q(l:List Int)(hl:l.length<=sm):Ac prog 62 [.d (.slice (inR l))] (A8 (orL l)):=by
 have I:∀{j:Nat} {d:Int},l[j]?=some d->(inR l)[j]?=some [D.int .i64 d]:=by intro j d h;simp[inR,h]
 have J:(inR l).length=l.length:=by simp[inR]
 generalize W:orL l=R;refine cB func62 ?_;refine sR Xp ?_;refine sR Xp ?_;refine Ai J Xp λK1 u1=>?_;refine A0.bb (A0.ii l (X:=Unit) (λj _=>[(3,A8 0),(6,.d (.slice (inR l))),(7,A8 l.length),(8,A8 j)]) (λ_ _=>[])
  (λj _=>orL (l.drop j)=R) () (by simpa using W) sS sB ?_ ?_)
 .intro _ E;rw[De,orL]at E;subst E;refine Aq B3 Xp ?_;refine A0.stop rfl ?_;simp only[A4,Ab,Ae];refine u1 _ _<|sR Xp ?_;exact aR
 .intro j _ d V O Z tk M E;rw[Z,orL]at E;refine Aq M Xp ?_;refine A0.Fk rfl<|sK λU u2=>A0.bb ?_
  (refine sV Xp λK z=>?_;refine ci (I V) ?_;apply z;clear z K)
  by_cases L:d=0
  .subst L;rw[A6 (by simp)]at E;refine sR Xp ?_;refine A0.ff rfl (A0.kk (u2 _ _ ?_));clear u2 U;refine lT Xp ?_;exact⟨(),E,sS,sB⟩
  .rw[A9 L]at E;subst E;refine Aq L Xp ?_;refine A0.tt rfl<|sR Xp ?_;exact aR
def C3p(a:Ad)(E:a.Sm)(b:Ad):Ac prog 23 [Nj a,Nj b] (A8 (Ba a b)):=by
 have J:=C1z a.on E.on b.on;have M:=D1s a.name b.name;have L:=D1r 37 a.targs b.targs E.targs.1 λt ht u=>C1z t (E.targs.2 t ht) u;have I:=F5q [Cs a.on b.on,Bs a.name b.name,E0 a.targs b.targs] (by simp[sm]);have e:orL [Cs a.on b.on,Bs a.name b.name,E0 a.targs b.targs]=Ba a b:=by
  have O:Cs (.mk [] a.targs 0) (.mk [] b.targs 0)=E0 a.targs b.targs:=by rw[A1n];have:Bs (Ty.mk [] a.targs 0).name (Ty.mk [] b.targs 0).name=0:=Tm.2 rfl;rw[A6 (by simp[this])];rfl
  rw[A5z,O];simp only[orL];by_cases U:E0 a.targs b.targs=0 <;> simp[U]
 rw[e]at I;simp only[inR,Ck,Hy]at I;generalize Ba a b=R at*;generalize Cs a.on b.on=x at*;generalize Bs a.name b.name=y at*;generalize E0 a.targs b.targs=z at*;refine cB func23 ?_;refine sR [0,1,2,3,4] ?_
 (refine sG [0,1,2,3,4] [] 14 [] λK z=>?_;refine ev ?_;refine cc J ?_;refine cc M ?_;refine cc L ?_;refine cc I ?_;apply z;clear z K)
 exact aR
def E8h(a:Ad)(I:a.Sm)(b:Ad):Ac prog 47 [Nj a,Nj b] (Ay (decide (Ba a b=0))):=by
 have E:=C3p a I b;generalize Ba a b=R at*;by_cases h:R=0
 .subst h;simp only[X0];refine cB func47 ?_;refine sR [0,1,2,3,4] ?_;refine sC E [0,1,2,3,4] ?_;exact aR
 .rw[Ce h];refine cB func47 ?_;refine sR [0,1,2,3,4] ?_
  (refine sV [0,1,2,3,4] λK z=>?_;refine⟨_,.inl ⟨_,rfl,E,rfl⟩,?_⟩;(try simp -implicitDefEqProofs only[EV,Nat.reduceEqDiff,reduceCtorEq,h]);apply z;clear z K)
  exact aR
open Go Go.Proofs Go.Sort Tryz
instance:Inhabited Ad:=⟨⟨.mk [] [] 0,[],[]⟩⟩
def G3n:(default:Ad).Sm:=⟨.mk _ _ _ (by simp) (by simp) (by simp),by simp[default],by simp[default],by simp[default]⟩
def Cx(l:List Ad)(i:Nat):Ad:=(l[i]?).getD default
structure F7m(C:Ctx)(S:Nat->Prop)(w:World)(β:Names)(bx:Aa)(k:Nat)(l:List Ad)(b:Nat)(enc:Nat->List Value):Prop where
 len:∀i,(enc i).length=5
 one:∀i,∀v∈enc i,v.oneCell'=true
 zero:enc l.length=[.string ⟨#[]⟩,.slice none 0 0,.int .i64 0,.string ⟨#[]⟩,.slice none 0 0]
 lt:b<w.heap.size
 holds:HoldsK enc 5 w b ((β k).off*5) (Array.range l.length)
 row:∀(m:Nat) (os:Array Obj) (dk:Array Nat) (i:Nat),Ak (all (sortWorldK enc 5 w b ((β k).off*5) m dk os)) (sortWorldK enc 5 w b ((β k).off*5) m dk os) β (Nj (Cx l i)) (.agg (enc i).toArray)
 Dh:∀(m:Nat) (os:Array Obj) (dk:Array Nat) b' cs,A4w C.G.sy C.G.ra b' cs->∃ty fr,(sortWorldK enc 5 w b ((β k).off*5) m dk os).heap[b']?=some (.cells cs ty fr)
 inv:∀(m:Nat) (os:Array Obj) (dk:Array Nat),dk.size=l.length->Inv C S (sortWorldK enc 5 w b ((β k).off*5) m dk os) β ((k,.rows 5 (C7 (dk.toList.map (Cx l))))::Ca k bx)/\Bk S w S (sortWorldK enc 5 w b ((β k).off*5) m dk os)
def E7d{C:Ctx}{S:Nat->Prop}{w:World}{β:Names}{bx:Aa}{k:Nat}{l:List Ad}{b:Nat}(hi:Inv C S w β bx)(a4:(k,Ap.rows 5 (C7 l))∈bx)(U:(β k).base=some b):∃enc,F7m C S w β bx k l b enc:=by
 obtain⟨q1,q2,q3,q4,q5,q6,q7⟩:=hi.box k _ a4;rw[U]at q7;simp only at q7;have af:l.length=(β k).len:=by rw[<-q2];simp[C7]
 obtain⟨ty,vs,hh,ab,a8⟩:=q7;obtain⟨n,am⟩:∃n,n=l.length:=⟨_,rfl⟩;have hS:=hi.B7 k _ a4 b U;have a3:∀i,i<n->((β k).off+i)*5+5<=vs.length:=λi h=>by have h1:((β k).off+i+1)*5<=((β k).off+(β k).cap)*5:=I9 _ (by omega);omega
 let enc:Nat->List Value:=λi=>if i<n then(vs.drop (((β k).off+i)*5)).take 5 else[.string ⟨#[]⟩,.slice none 0 0,.int .i64 0,.string ⟨#[]⟩,.slice none 0 0]
 have E:∀i,(enc i).length=5:=λi=>by
  simp only[enc];split
  .rename_i h;have:=a3 i h;rw[Dx,Aq6];omega
  .rfl
 have V:∀i j,i<n->j<5->(enc i)[j]?=vs[((β k).off+i)*5+j]?:=λi j h Z=>by simp only[enc,A9 h];rw[Am7 Z,Th]
 have O:∀i j d v,(Du (Cx l i))[j]?=some d->(enc i)[j]?=some v->C0 S w d v:=λi j d v I L=>by
  have Z:j<5:=by have:=(B5.1 L).1;rw[E]at this;exact this
  by_cases h:i<n
  .have hs:l[i]?=some (l[i]'(by omega)):=B8 _;have hc:Cx l i=l[i]'(by omega):=by simp only[Cx,hs,E1]
   rw[hc]at I;rw[V i j h Z]at L;exact a8 i j _ d v (I0 hs) I L
  .have hc:Cx l i=default:=by simp only[Cx,Z9 (show l.length<=i by omega),Nh]
   rw[hc]at I;simp only[enc,A6 h]at L
   match j,I,L with
   |0,I,L=>cases I;cases L;exact .str [] (by simp)
   |1,I,L=>cases I;cases L;exact .Jz _ _ (by simp)
   |2,I,L=>cases I;cases L;exact .int _ _
   |3,I,L=>cases I;cases L;exact .str [] (by simp)
   |4,I,L=>cases I;cases L;exact .Jz _ _ (by simp)
   |j+5,I,L=>simp at L
 have W:∀(c:Ad) (d:D),d∈Du c->d.one=true:=λc d I=>by simp only[Du,Aw,Ej,Eh]at I;rcases I with rfl|rfl|rfl|rfl|rfl <;> rfl
 have a1:∀i,∀v∈enc i,v.oneCell'=true:=λi v hv=>by
  obtain⟨j,Z⟩:=Hz hv;have hl:j<(Du (Cx l i)).length:=by have:=(B5.1 Z).1;rw[E]at this;exact this
  exact(O i j _ v (B8 hl) Z).one (W _ _ (Fa _))
 have aa:∀m os dk M,M<w.heap.size->M≠b->(sortWorldK enc 5 w b ((β k).off*5) m dk os).heap[M]?=w.heap[M]?:=λm os dk M hl a0=>by simp only[sortWorldK,Sort.grow];rw[Ak5 (by simp[putRowK,putRow,mapBlock,Sort.ahead];exact hl)];simp[putRowK,putRow,mapBlock,Sort.ahead,Tq,Um a0]
 have ag:∀m os dk,w.heap.size<=(sortWorldK enc 5 w b ((β k).off*5) m dk os).heap.size:=λm os dk=>size_sortWorldK_c enc 5 w b _ m dk os;have hW:∀m os dk,Bk S w (all (sortWorldK enc 5 w b ((β k).off*5) m dk os)) (sortWorldK enc 5 w b ((β k).off*5) m dk os):=λm os dk =>⟨λM J=>Vr (hi.Bf M J) (ag m os dk),λM J=>aa m os dk M (hi.Bf M J) λL=>hS.1 (L ▸ J)⟩
 refine⟨enc,E,a1,?_,hS.2.1,?_,λm os dk i=>?_,λm os dk M cs hf=>?_,λm os dk ao=>?_⟩
 .simp only[enc,A6 (show ¬l.length<n by omega)]
 .intro j Z;rw[size_flatK,Ld]at Z;have a7:j / 5<n:=by omega
  have ae:(flatK enc 5 (Array.range l.length))[j]! =(enc (j / 5))[j % 5]!:=by
   rw[get_flatK _ _ _ _ (by rw[Ld];exact Z)]
   congr 2
   rw[Ik _ _ (by rw[Ld];omega),Array.getElem_range]
  have ad:=a3 (j / 5) a7;have Pj:((β k).off+j / 5)*5+j % 5=(β k).off*5+j:=by omega
  have a2:(β k).off*5+j<vs.length:=by omega
  have ai:(enc (j / 5))[j % 5]! =vs[(β k).off*5+j]:=by have:=V (j / 5) (j % 5) a7 (Zk _ (by decide));rw[Pj,B8 a2]at this;rw[Aq1,this];rfl
  refine⟨?_,?_⟩
  .simp only[World.cell?,hh,Ky,id,ae,ai];simp[a2]
  .simp[World.frozen?,hh]
 .show Ak _ _ _ (.agg ((Du (Cx l i)).map SV.d)) _;refine Ak.A4f ⟨by rw[E];rfl,λj c v hc hv=>?_⟩ rfl;rw[Db,N9]at hc;obtain⟨d,I,rfl⟩:=hc;exact .d _ _ ((O i j d v I hv).ext (hW m os dk))
 .obtain⟨h1,ah,fr,h2⟩:=hi.Dh M cs hf;exact⟨ah,fr,((hW m os dk).same M h1).trans h2⟩
 .have a6:Df S (putRowK enc 5 (Sort.ahead w m) b ((β k).off*5) dk) β (β k) (.rows 5 (C7 (dk.toList.map (Cx l)))):=by
   refine⟨q1,by simp only[C7,Bn,Us];omega,q3,by simp only[C7,Bn,Us];simp only[C7,Bn]at q4;omega,?_,?_,?_⟩
   .intro row hr;obtain⟨s,_,rfl⟩:=B1.1 hr;rfl
   .intro row hr d I;obtain⟨s,hs,rfl⟩:=B1.1 hr;exact W s d I
   .rw[U];refine⟨ty,(putCells id ((β k).off*5) (flatK enc 5 dk) ⟨vs⟩).toList,?_,by simpa [putCells]using ab,?_⟩
    .simp[putRowK,putRow,mapBlock,Sort.ahead,Tq,hh,onCells]
    .intro r j row d v hr I hv;have ac:r<dk.size:=by have:=(B5.1 hr).1;simpa [C7]using this
     have a9:row=Du (Cx l dk[r]):=by simp only[C7,Db,Vg,Nt ac,Eu,B4]at hr;exact hr.symm
     subst a9;have Z:j<5:=by have:=(B5.1 I).1;exact this
     have a5:(flatK enc 5 dk)[r*5+j]! =(enc dk[r])[j]!:=by rw[get_flatK _ _ _ _ (by omega),show(r*5+j) / 5=r by omega,show(r*5+j) % 5=j by omega,Ik dk r ac]
     have ak:=a3 r (by omega);have ad:((β k).off+r)*5+j<vs.length:=by omega
     have aj:(enc dk[r])[j]?=some v:=by
      rw[Vg,putCells,Array.getElem?_mapIdx]at hv;have hc:(⟨vs⟩:Array Value)[((β k).off+r)*5+j]?=some vs[((β k).off+r)*5+j]:=by simp[ad]
      rw[hc,Eu,A9 ⟨by omega,by rw[size_flatK];omega⟩,show((β k).off+r)*5+j - (β k).off*5=r*5+j by omega,a5]at hv;have a':j<(enc dk[r]).length:=by rw[E];exact Z
      rw[B8 a'];simp only[id,B4]at hv;rw[<-hv,Ik (enc dk[r]) j a']
     exact(O _ j d v I aj).ext ⟨λ_ h=>h,λM J=>by have a0:b≠M:=λL=>hS.1 (L ▸ J);simp[putRowK,putRow,mapBlock,Sort.ahead,Tq,a0]⟩
  obtain⟨g1,g2⟩:=hi.A5b (w':=putRowK enc 5 (Sort.ahead w m) b ((β k).off*5) dk) (c:=.rows 5 (C7 (dk.toList.map (Cx l)))) a4 U (λM a0=>by simp[putRowK,putRow,mapBlock,Sort.ahead,Tq,Um a0]) rfl rfl rfl (by simp[putRowK,putRow,mapBlock,Sort.ahead]) a6
  obtain⟨g3,g4⟩:=g1.grow (S':=S) (w':=Sort.grow (putRowK enc 5 (Sort.ahead w m) b ((β k).off*5) dk) os) (λ_ h=>h) (λ_ h=>.inl h)
   (λM J=>by have:=g1.Bf M J;simp only[Sort.grow,Array.size_append];omega) (λM J=>by simp only[Sort.grow];exact Ak5 J) rfl rfl rfl (by simp[Sort.grow])
  exact⟨g3,g2.trans g4⟩
def D6r{l:List Ad}(E:∀c,c∈l->c.Sm)(i:Nat):(Cx l i).Sm:=by
 unfold Cx;cases hs:l[i]? with
 |none=>exact G3n
 |some s=>exact E s (Br hs)
def G0r(l:List Ad):(List.range l.length).map (Cx l)=l:=by
 refine M3 λi=>?_;rw[Db];by_cases h:i<l.length
 .rw[Yo h,Eu,B8 h];simp only[Cx,B8 h,E1]
 .rw[Z9 (by simp;omega),Z9 (by omega)];rfl
def D8r{sl:SL}{bx:Aa}{x y:Operand}{Cq:List TypeId}{o:Oper}(k:Nat)(l:List Ad)(ho:o.op=.call ⟨.value (.func 45),[x,y].toArray,Cq.toArray⟩)(hx:Ao sl x=.acc k)(hy:Ao sl y=.B0 23 [])(hb:A7 bx k=some (.rows 5 (C7 l)))(a3:l.length<=sm)(a8:∀c,c∈l->c.Sm) :
  OpP prog o (Ao sl) bx λr bx'=>r=.tuple []/\∃l':List Ad,l'.Perm l/\l'.Pairwise (λa b=>Ba a b<=0)/\bx'=(k,.rows 5 (C7 l'))::Ca k bx:=by
 intro C S w β a hi ha;have hE:Enters prog 45:=(Enters.of func45 rfl (by decide));have a0:=ha x (mC ho);rw[hx]at a0;have O:=F8 hb;obtain⟨q1,q2,q3,q4,q5,q6,q7⟩:=hi.box k _ O;generalize L:a.eval x=v at a0;cases a0;have a5:a.eval y=.func (.func 23) #[] #[]:=by
  have W:=ha y (mC ho);rw[hy]at W;generalize a.eval y=u at W;cases W with
  |B0 _ _ vs V _=>rw[Aq4.1 V]
 have a':a.eval (.func 45)=.func (.func 45) #[] #[]:=rfl;refine H6 ?_;unfold Oper.wp;rw[Sp hE ho a',R6];have U:l.length=(β k).len:=by rw[<-q2];simp[C7]
 have M:([x,y].toArray.map a.eval)++(#[]:Array Value) = #[.slice ((β k).base.map λb=>⟨b,(β k).off*(β k).sz,none⟩) (β k).len (β k).cap,.func (.func 23) #[] #[]]:=by apply J6;rw[Aq5,Ao5];show[a.eval x,a.eval y]++[]=_;rw[L,a5];rfl
 rw[M];clear M;generalize a1:(β k).base=ob at q7;cases ob with
 |none =>
  simp only at q7;have a7:l=[]:=Pa (by omega);subst a7;rw[show(β k).len=0 by omega];refine(AnyF.slices_SortFunc_none D7q _ _ _ w).mono ?_;rintro e w' ⟨rfl,rfl⟩;refine⟨_,_,_,S,β,⟨rfl,[],.refl _,.nil,rfl⟩,rfl,hi.sub λj c hj=>?_,Bk.refl S _,.tuple [] [] rfl (by simp),λ_ _=>rfl⟩;rcases Aw.1 hj with h|h
  .rw[h];exact O
  .exact(E3.1 h).2
 |some b =>
  obtain⟨enc,R⟩:=E7d hi O a1;have a2:CmpLays prog 23 #[] enc 5 (λx y=>Ba (Cx l x) (Cx l y)) b ((β k).off*5) (Array.range l.length).size w:=λm os dk _ x y =>
   Ac.grown (β:=β) (sy:=C.G.sy) (ra:=C.G.ra) (C3p (Cx l x) (D6r a8 x) (Cx l y)) (vs:=[.agg (enc x).toArray,.agg (enc y).toArray]) ⟨rfl,λj c v hc L=>by
    match j,hc,L with
    |0,hc,L=>cases hc;cases L;exact R.row m os dk x
    |1,hc,L=>cases hc;cases L;exact R.row m os dk y
    |j+2,hc,L=>simp at L⟩ (R.Dh m os dk)
  rw[q1,<-U];have J:=AnyQ.slices_SortFunc D7q 5 isAgg53 sizeOf53 enc R.len R.one (λx y=>Ba (Cx l x) (Cx l y)) (G7w (Cx l)) 23 #[] b ((β k).off*5) (β k).cap (Array.range l.length) w
   (enters_of func23 (by kernel_rfl) rfl) a2 R.holds R.lt (by rw[Ld];unfold sm at a3;omega)
  rw[Ld]at J;refine J.mono ?_;rintro e w' ⟨rfl,E,m,os,Z,I,rfl⟩;obtain⟨p1,_,p3⟩:=Z;rw[Ld]at p1;have p4:E.toList.Perm (List.range l.length):=by rw[show E.extract 0 l.length=E by rw[<-p1];exact Ap4,show(Array.range l.length).extract 0 l.length=Array.range l.length by have:=Ap4 (xs:=Array.range l.length);rwa [Ld]at this,Array.toList_range]at p3;exact p3
  have aa:(E.toList.map (Cx l)).Perm l:=by have V:=p4.map (Cx l);rw[G0r]at V;exact V
  have a9:(E.toList.map (Cx l)).Pairwise λa b=>Ba a b<=0:=by
   rw[List.pairwise_map,Ao1];intro i j a6 a4 ab;have V:=I i j (As4 _) ab (by rw[<-p1];simpa using a4);rw[Ik E i (by simpa using a6),Ik E j (by simpa using a4)]at V;simp only[ltOf,Rw]at V;have h2:=Ru (Cx l E[i]) (Cx l E[j]);have h4:Ba (Cx l E[i]) (Cx l E[j])<=0:=by omega
   simpa using h4
  obtain⟨g1,g2⟩:=R.inv m os E p1;exact⟨_,_,_,S,β,⟨rfl,_,aa,a9,rfl⟩,rfl,g1,g2,.tuple [] [] rfl (by simp),λ_ _=>rfl⟩
end Go.Abs
