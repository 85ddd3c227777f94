/- slices.SortFunc on types: some order by types.Compare -/
import Derived.Test.YtcmlfpcaeflleaaGreatDoorGO04
import Derived.Test.YtcmlfpcaeflleaaGreatDoorGP25
set_option linter.all false
set_option maxHeartbeats 4000000
set_option maxRecDepth 100000
namespace Go.Abs
open Go Go.Proofs Go.Sort Tryz
abbrev tyN:Ty:=.mk [] [] 0
def F6f:tyN.Sm:=.mk _ _ _ (by simp) (by simp) (by simp)
def Hx(l:List Ty)(i:Nat):Ty:=(l[i]?).getD tyN
structure F4x(C:Ctx)(S:Nat->Prop)(w:World)(β:Names)(bx:Aa)(k:Nat)(l:List Ty)(b:Nat)(enc:Nat->List Value):Prop where
 len:∀i,(enc i).length=3
 one:∀i,∀v∈enc i,v.oneCell'=true
 zero:enc l.length=[.string ⟨#[]⟩,.slice none 0 0,.int .i64 0]
 lt:b<w.heap.size
 holds:HoldsK enc 3 w b ((β k).off*3) (Array.range l.length)
 row:∀(m:Nat) (os:Array Obj) (dk:Array Nat) (i:Nat),Ak (all (sortWorldK enc 3 w b ((β k).off*3) m dk os)) (sortWorldK enc 3 w b ((β k).off*3) m dk os) β (B6 (Hx l i)) (.agg (enc i).toArray)
 Dh:∀(m:Nat) (os:Array Obj) (dk:Array Nat) b' cs,A4w C.G.sy C.G.ra b' cs->∃ty fr,(sortWorldK enc 3 w b ((β k).off*3) m dk os).heap[b']?=some (.cells cs ty fr)
 inv:∀(m:Nat) (os:Array Obj) (dk:Array Nat),dk.size=l.length->Inv C S (sortWorldK enc 3 w b ((β k).off*3) m dk os) β ((k,.rows 3 (Au (dk.toList.map (Hx l))))::Ca k bx)/\Bk S w S (sortWorldK enc 3 w b ((β k).off*3) m dk os)
def H1m{C:Ctx}{S:Nat->Prop}{w:World}{β:Names}{bx:Aa}{k:Nat}{l:List Ty}{b:Nat}(hi:Inv C S w β bx)(a4:(k,Ap.rows 3 (Au l))∈bx)(O:(β k).base=some b):∃enc,F4x C S w β bx k l b enc:=by
 obtain⟨q1,q2,q3,q4,q5,q6,q7⟩:=hi.box k _ a4;rw[O]at q7;simp only at q7;have af:l.length=(β k).len:=by rw[<-q2];simp[Cz]
 obtain⟨ty,vs,hh,ab,a8⟩:=q7;obtain⟨n,am⟩:∃n,n=l.length:=⟨_,rfl⟩;have hS:=hi.B7 k _ a4 b O;have a3:∀i,i<n->((β k).off+i)*3+3<=vs.length:=λi h=>by have h1:((β k).off+i+1)*3<=((β k).off+(β k).cap)*3:=I9 _ (by omega);omega
 let enc:Nat->List Value:=λi=>if i<n then(vs.drop (((β k).off+i)*3)).take 3 else[.string ⟨#[]⟩,.slice none 0 0,.int .i64 0]
 have E:∀i,(enc i).length=3:=λi=>by
  simp only[enc];split
  .rename_i h;have:=a3 i h;rw[Dx,Aq6];omega
  .rfl
 have V:∀i j,i<n->j<3->(enc i)[j]?=vs[((β k).off+i)*3+j]?:=λi j h Z=>by simp only[enc,A9 h];rw[Am7 Z,Th]
 have M:∀i j d v,(Be (Hx l i))[j]?=some d->(enc i)[j]?=some v->C0 S w d v:=λi j d v I U=>by
  have Z:j<3:=by have:=(B5.1 U).1;rw[E]at this;exact this
  by_cases h:i<n
  .have hs:l[i]?=some (l[i]'(by omega)):=B8 _;have hc:Hx l i=l[i]'(by omega):=by simp only[Hx,hs,E1]
   rw[hc]at I;rw[V i j h Z]at U;exact a8 i j _ d v (Dv hs) I U
  .have hc:Hx l i=tyN:=by simp only[Hx,Z9 (show l.length<=i by omega),Nh]
   rw[hc]at I;simp only[enc,A6 h]at U
   match j,I,U with
   |0,I,U=>cases I;cases U;exact .str [] (by simp)
   |1,I,U=>cases I;cases U;exact .Jz _ _ (by simp)
   |2,I,U=>cases I;cases U;exact .int _ _
   |j+3,I,U=>simp at U
 have W:∀(c:Ty) (d:D),d∈Be c->d.one=true:=λc d I=>by simp only[Be,Aw,Ej,Eh]at I;rcases I with rfl|rfl|rfl <;> rfl
 have a1:∀i,∀v∈enc i,v.oneCell'=true:=λi v hv=>by
  obtain⟨j,Z⟩:=Hz hv;have hl:j<(Be (Hx l i)).length:=by have:=(B5.1 Z).1;rw[E]at this;exact this
  exact(M i j _ v (B8 hl) Z).one (W _ _ (Fa _))
 have aa:∀m os dk L,L<w.heap.size->L≠b->(sortWorldK enc 3 w b ((β k).off*3) m dk os).heap[L]?=w.heap[L]?:=λm os dk L hl a0=>by simp only[sortWorldK,Sort.grow];rw[Ak5 (by simp[putRowK,putRow,mapBlock,Sort.ahead];exact hl)];simp[putRowK,putRow,mapBlock,Sort.ahead,Tq,Um a0]
 have ag:∀m os dk,w.heap.size<=(sortWorldK enc 3 w b ((β k).off*3) m dk os).heap.size:=λm os dk=>size_sortWorldK_c enc 3 w b _ m dk os;have hW:∀m os dk,Bk S w (all (sortWorldK enc 3 w b ((β k).off*3) m dk os)) (sortWorldK enc 3 w b ((β k).off*3) m dk os):=λm os dk =>⟨λL J=>Vr (hi.Bf L J) (ag m os dk),λL J=>aa m os dk L (hi.Bf L J) λU=>hS.1 (U ▸ J)⟩
 refine⟨enc,E,a1,?_,hS.2.1,?_,λm os dk i=>?_,λm os dk L cs hf=>?_,λm os dk ao=>?_⟩
 .simp only[enc,A6 (show ¬l.length<n by omega)]
 .intro j Z;rw[size_flatK,Ld]at Z;have a7:j / 3<n:=by omega
  have ae:(flatK enc 3 (Array.range l.length))[j]! =(enc (j / 3))[j % 3]!:=by
   rw[get_flatK _ _ _ _ (by rw[Ld];exact Z)]
   congr 2
   rw[Ik _ _ (by rw[Ld];omega),Array.getElem_range]
  have ad:=a3 (j / 3) a7;have Pj:((β k).off+j / 3)*3+j % 3=(β k).off*3+j:=by omega
  have a2:(β k).off*3+j<vs.length:=by omega
  have ai:(enc (j / 3))[j % 3]! =vs[(β k).off*3+j]:=by have:=V (j / 3) (j % 3) a7 (Zk _ (by decide));rw[Pj,B8 a2]at this;rw[Aq1,this];rfl
  refine⟨?_,?_⟩
  .simp only[World.cell?,hh,Ky,id,ae,ai];simp[a2]
  .simp[World.frozen?,hh]
 .show Ak _ _ _ (.agg ((Be (Hx l i)).map SV.d)) _;refine Ak.A4f ⟨by rw[E];rfl,λj c v hc hv=>?_⟩ rfl;rw[Db,N9]at hc;obtain⟨d,I,rfl⟩:=hc;exact .d _ _ ((M i j d v I hv).ext (hW m os dk))
 .obtain⟨h1,ah,fr,h2⟩:=hi.Dh L cs hf;exact⟨ah,fr,((hW m os dk).same L h1).trans h2⟩
 .have a6:Df S (putRowK enc 3 (Sort.ahead w m) b ((β k).off*3) dk) β (β k) (.rows 3 (Au (dk.toList.map (Hx l)))):=by
   refine⟨q1,by simp only[Cz,Bn,Us];omega,q3,by simp only[Cz,Bn,Us];simp only[Cz,Bn]at q4;omega,?_,?_,?_⟩
   .intro row hr;rw[Cz]at hr;obtain⟨s,_,rfl⟩:=B1.1 hr;rfl
   .intro row hr d I;rw[Cz]at hr;obtain⟨s,hs,rfl⟩:=B1.1 hr;exact W s d I
   .rw[O];refine⟨ty,(putCells id ((β k).off*3) (flatK enc 3 dk) ⟨vs⟩).toList,?_,by simpa [putCells]using ab,?_⟩
    .simp[putRowK,putRow,mapBlock,Sort.ahead,Tq,hh,onCells]
    .intro r j row d v hr I hv;have ac:r<dk.size:=by have:=(B5.1 hr).1;simpa [Cz]using this
     have a9:row=Be (Hx l dk[r]):=by simp only[Cz,Db,Vg,Nt ac,Eu,B4]at hr;exact hr.symm
     subst a9;have Z:j<3:=by have:=(B5.1 I).1;exact this
     have a5:(flatK enc 3 dk)[r*3+j]! =(enc dk[r])[j]!:=by rw[get_flatK _ _ _ _ (by omega),show(r*3+j) / 3=r by omega,show(r*3+j) % 3=j by omega,Ik dk r ac]
     have ak:=a3 r (by omega);have ad:((β k).off+r)*3+j<vs.length:=by omega
     have aj:(enc dk[r])[j]?=some v:=by
      rw[Vg,putCells,Array.getElem?_mapIdx]at hv;have hc:(⟨vs⟩:Array Value)[((β k).off+r)*3+j]?=some vs[((β k).off+r)*3+j]:=by simp[ad]
      rw[hc,Eu,A9 ⟨by omega,by rw[size_flatK];omega⟩,show((β k).off+r)*3+j - (β k).off*3=r*3+j by omega,a5]at hv;have a':j<(enc dk[r]).length:=by rw[E];exact Z
      rw[B8 a'];simp only[id,B4]at hv;rw[<-hv,Ik (enc dk[r]) j a']
     exact(M _ j d v I aj).ext ⟨λ_ h=>h,λL J=>by have a0:b≠L:=λU=>hS.1 (U ▸ J);simp[putRowK,putRow,mapBlock,Sort.ahead,Tq,a0]⟩
  obtain⟨g1,g2⟩:=hi.A5b (w':=putRowK enc 3 (Sort.ahead w m) b ((β k).off*3) dk) (c:=.rows 3 (Au (dk.toList.map (Hx l)))) a4 O (λL a0=>by simp[putRowK,putRow,mapBlock,Sort.ahead,Tq,Um a0]) rfl rfl rfl (by simp[putRowK,putRow,mapBlock,Sort.ahead]) a6
  obtain⟨g3,g4⟩:=g1.grow (S':=S) (w':=Sort.grow (putRowK enc 3 (Sort.ahead w m) b ((β k).off*3) dk) os) (λ_ h=>h) (λ_ h=>.inl h)
   (λL J=>by have:=g1.Bf L J;simp only[Sort.grow,Array.size_append];omega) (λL J=>by simp only[Sort.grow];exact Ak5 J) rfl rfl rfl (by simp[Sort.grow])
  exact⟨g3,g2.trans g4⟩
def E9y{α:Type}(c:α->Ty):SWO (ltOf λx y:α=>Cs (c x) (c y)) where
 irrefl x:=by have:=Ww (c x) (c x);simp only[ltOf,Rw];omega
 trans x y z h1 h2:=by simp only[ltOf,Da]at*;exact(A3e (c x) (c y) (c z)).1 h1 (by omega)
 ntrans x y z h1 h2:=by
  simp only[ltOf,Rw]at*;have J:=Ww (c x) (c y);have E:=Ww (c y) (c z);have I:=Ww (c x) (c z);obtain⟨k1,k2,k3⟩:=A3e (c z) (c y) (c x);by_cases e:Cs (c z) (c y)=0
  .by_cases k:Cs (c y) (c x)=0
   .have:=k3 e k;omega
   .have:=k2 (by omega) (by omega);omega
  .have:=k1 (by omega) (by omega);omega
def E9g{l:List Ty}(E:∀c,c∈l->c.Sm)(i:Nat):(Hx l i).Sm:=by
 unfold Hx;cases hs:l[i]? with
 |none=>exact F6f
 |some s=>exact E s (Br hs)
def E8n(l:List Ty):(List.range l.length).map (Hx l)=l:=by
 refine M3 λi=>?_;rw[Db];by_cases h:i<l.length
 .rw[Yo h,Eu,B8 h];simp only[Hx,B8 h,E1]
 .rw[Z9 (by simp;omega),Z9 (by omega)];rfl
def F4a{sl:SL}{bx:Aa}{x y:Operand}{Cq:List TypeId}{o:Oper}(k:Nat)(l:List Ty)(ho:o.op=.call ⟨.value (.func 91),[x,y].toArray,Cq.toArray⟩)(hx:Ao sl x=.acc k)(hy:Ao sl y=.B0 37 [])(hb:A7 bx k=some (.rows 3 (Au l)))(a3:l.length<=sm)(a8:∀c,c∈l->c.Sm) :
  OpP prog o (Ao sl) bx λr bx'=>r=.tuple []/\∃l':List Ty,l'.Perm l/\l'.Pairwise (λa b=>Cs a b<=0)/\bx'=(k,.rows 3 (Au l'))::Ca k bx:=by
 intro C S w β a hi ha;have hE:Enters prog 91:=(Enters.of func91 rfl (by decide));have a0:=ha x (mC ho);rw[hx]at a0;have O:=F8 hb;obtain⟨q1,q2,q3,q4,q5,q6,q7⟩:=hi.box k _ O;generalize L:a.eval x=v at a0;cases a0;have a5:a.eval y=.func (.func 37) #[] #[]:=by
  have W:=ha y (mC ho);rw[hy]at W;generalize a.eval y=u at W;cases W with
  |B0 _ _ vs V _=>rw[Aq4.1 V]
 have a':a.eval (.func 91)=.func (.func 91) #[] #[]:=rfl;refine H6 ?_;unfold Oper.wp;rw[Sp hE ho a',R6];have U:l.length=(β k).len:=by rw[<-q2];simp[Cz]
 have M:([x,y].toArray.map a.eval)++(#[]:Array Value) = #[.slice ((β k).base.map λb=>⟨b,(β k).off*(β k).sz,none⟩) (β k).len (β k).cap,.func (.func 37) #[] #[]]:=by apply J6;rw[Aq5,Ao5];show[a.eval x,a.eval y]++[]=_;rw[L,a5];rfl
 rw[M];clear M;generalize a1:(β k).base=ob at q7;cases ob with
 |none =>
  simp only at q7;have a7:l=[]:=Pa (by omega);subst a7;rw[show(β k).len=0 by omega];refine(AnyF.slices_SortFunc_none E4z _ _ _ w).mono ?_;rintro e w' ⟨rfl,rfl⟩;refine⟨_,_,_,S,β,⟨rfl,[],.refl _,.nil,rfl⟩,rfl,hi.sub λj c hj=>?_,Bk.refl S _,.tuple [] [] rfl (by simp),λ_ _=>rfl⟩;rcases Aw.1 hj with h|h
  .rw[h];exact O
  .exact(E3.1 h).2
 |some b =>
  obtain⟨enc,R⟩:=H1m hi O a1;have a2:CmpLays prog 37 #[] enc 3 (λx y=>Cs (Hx l x) (Hx l y)) b ((β k).off*3) (Array.range l.length).size w:=λm os dk _ x y =>
   Ac.grown (β:=β) (sy:=C.G.sy) (ra:=C.G.ra) (C1z (Hx l x) (E9g a8 x) (Hx l y)) (vs:=[.agg (enc x).toArray,.agg (enc y).toArray]) ⟨rfl,λj c v hc L=>by
    match j,hc,L with
    |0,hc,L=>cases hc;cases L;exact R.row m os dk x
    |1,hc,L=>cases hc;cases L;exact R.row m os dk y
    |j+2,hc,L=>simp at L⟩ (R.Dh m os dk)
  rw[q1,<-U];have J:=AnyQ.slices_SortFunc E4z 3 isAgg25 sizeOf25 enc R.len R.one (λx y=>Cs (Hx l x) (Hx l y)) (E9y (Hx l)) 37 #[] b ((β k).off*3) (β k).cap (Array.range l.length) w
   (enters_of func37 (by kernel_rfl) rfl) a2 R.holds R.lt (by rw[Ld];unfold sm at a3;omega)
  rw[Ld]at J;refine J.mono ?_;rintro e w' ⟨rfl,E,m,os,Z,I,rfl⟩;obtain⟨p1,_,p3⟩:=Z;rw[Ld]at p1;have p4:E.toList.Perm (List.range l.length):=by rw[show E.extract 0 l.length=E by rw[<-p1];exact Ap4,show(Array.range l.length).extract 0 l.length=Array.range l.length by have:=Ap4 (xs:=Array.range l.length);rwa [Ld]at this,Array.toList_range]at p3;exact p3
  have aa:(E.toList.map (Hx l)).Perm l:=by have V:=p4.map (Hx l);rw[E8n]at V;exact V
  have a9:(E.toList.map (Hx l)).Pairwise λa b=>Cs a b<=0:=by
   rw[List.pairwise_map,Ao1];intro i j a6 a4 ab;have V:=I i j (As4 _) ab (by rw[<-p1];simpa using a4);rw[Ik E i (by simpa using a6),Ik E j (by simpa using a4)]at V;simp only[ltOf,Rw]at V;have h2:=Ww (Hx l E[i]) (Hx l E[j]);have h4:Cs (Hx l E[i]) (Hx l E[j])<=0:=by omega
   simpa using h4
  obtain⟨g1,g2⟩:=R.inv m os E p1;exact⟨_,_,_,S,β,⟨rfl,_,aa,a9,rfl⟩,rfl,g1,g2,.tuple [] [] rfl (by simp),λ_ _=>rfl⟩
open Go Go.Proofs Tryz
def F8e(kvs:List (D × D)):Bj prog 36 [.d (.map kvs)] [] (.B0 92 [.Ah [.map kvs] 0]) []:=by refine bB func36 ?_;refine sR [0,1,2] ?_;refine A0.zz 1 rfl rfl<|sR [0,1,2] ?_;exact A0.ret ⟨_,by rw[results36];rfl,.inr rfl,by simp[ble]⟩
def H0x(kvs:List (D × D)):Bj prog 39 [.d (.map kvs)] [] (.B0 94 [.Ah [.map kvs] 0]) []:=by refine bB func39 ?_;refine sR [0,1,2] ?_;refine A0.zz 1 rfl rfl<|sR [0,1,2] ?_;exact A0.ret ⟨_,by rw[results39];rfl,.inr rfl,by simp[ble]⟩
abbrev A2a:List Nat:=[0,1,4,5,7,8,9,16]
def E9h(f:FuncId)(caps:List SV)(J:∀x:Ty,G8 [] (B6 x::caps)=some (B6 x::caps))(p:Ty->Bool)(l:List Ty)(Z:l.length<=sm)(hs:∀t,t∈l->Ac prog f (B6 t::caps) (.d (.bool (p t)))) :
  Ac prog 105 [.d (.slice (Au l)),.B0 f caps] (A8 (Dq p l)):=by
 refine cB func105 ?_;refine sR A2a ?_;refine kR A2a λW u1=>?_;refine A0.bb (A0.ii l (X:=Unit) (λj _=>[(0,.d (.slice (Au l))),(1,.B0 f caps),(7,A8 l.length),(8,A8 j)]) (λ_ _=>[])
  (λj _=>∀y,y∈l.take j->p y=false) () (by simp) sS sB ?_ ?_)
 .intro _ E;rw[Dm]at E;refine Aq B3 A2a ?_;refine A0.stop rfl ?_;simp only[A4,Ab,Ae];refine u1 _ _<|sR A2a ?_;rw[Tn E];exact aR
 .intro j _ d O I dp V M E;refine Aq M A2a ?_;refine A0.Fk rfl<|sK λU u2=>A0.bb<|sR A2a ?_
  (refine sV A2a λK z=>?_;refine ci (Dv O) ?_;refine⟨_,.inl ⟨_,J d,hs d I,rfl⟩,?_⟩;(try refine ev ?_);apply z;clear z K)
  refine A0.cond rfl (λL=>?_) (λL=>?_)
  .refine sR A2a ?_;rw[Tt O L E];exact aR
  .refine A0.kk (u2 _ _ ?_);clear u2 U;refine lT A2a ?_;refine⟨(),?_,sS,sB⟩;rw[V];intro y hy;rcases D2.1 hy with hy|hy
   .exact E y hy
   .simp only[Aw,Ej,Eh]at hy;rw[hy];exact L
theorem D5j{α:Type}(p:α->Bool)(l:List α):decide (Dq p l >= 0)=l.any p:=by
 unfold Dq;have h:=List.findIdx?_isSome (xs:=l) (p:=p);rw[<-h];cases l.findIdx? p with
 |none=>rfl
 |some i=>simp
def F5n(f:FuncId)(caps:List SV)(I:G8 [] caps=some caps)(E:∀x:Ty,G8 [] (B6 x::caps)=some (B6 x::caps))(p:Ty->Bool)(l:List Ty)(L:l.length<=sm)(hs:∀t,t∈l->Ac prog f (B6 t::caps) (.d (.bool (p t)))) :
  Ac prog 54 [.d (.slice (Au l)),.B0 f caps] (Ay (l.any p)):=by
 have J:=E9h f caps E p l L hs;rw[<-D5j];generalize Dq p l=i at*;refine cB func54 ?_;refine sR [0,1,4] ?_
 (refine sV [0,1,4] λK z=>?_;refine⟨_,.inl ⟨[.d (.slice (Au l)),.B0 f caps],by simp only[I],J,rfl⟩,?_⟩;(try refine ev ?_);apply z;clear z K)
 exact aR
def F7x(t x:Ty)(ht:t.Sm):Ac prog 55 [B6 t,.Ah (Be x) 0] (Ay (Jr t x)):=by have hs:=B3r t x ht;refine cB func55 ?_;refine sR [0,1,2,3] ?_;refine sC hs [0,1,2,3] ?_;exact aR
def B7y(l:List Ty)(cs:List Ad)(x:Ty)(E:l.length<=sm)(hs:∀t,t∈l->t.Sm):Ac prog 20 [Ur l cs,B6 x] (Ay (l.any λt=>Jr t x)):=by have I:=F5n 55 [.Ah (Be x) 0] rfl (λ_=>rfl) (λt=>Jr t x) l E λt ht=>F7x t x (hs t ht);refine cB func20 ?_;refine sR [0,1,2,3,4] ?_;refine A0.zz 3 rfl rfl (wk [(2,.box 2 0),(3,.Ah (Be x) 0),(4,.d (.bool false))] [(2,.cells [.d (.slice (Au l)),.d (.slice (C7 cs))])] ?_);refine sC I [0,1,2,3,4] ?_;exact aR
def t21:Ty:=.mk [84] [] 0
def u21:Ty:=.mk [85] [] 0
def l21:Ex:=.mk 3 [] t21 [] [] 0
def X9:Prog:=⟨[{ (default:Decl)with kind:=1,name:=[84] }],l21⟩
def c21:Ad:=⟨t21,[109],[]⟩
def C7h:X9.count<=600:=by decide +kernel
def C9u:t21.Sm:=.mk _ _ _ (by decide) (by simp) (by simp)
def D6g:c21.Sm:=⟨C9u,by decide,by simp[c21]⟩
def E9n:(default:Decl).body.Sm:=.mk _ _ _ _ _ _ (by simp) (.mk _ _ _ (by simp) (by simp) (by simp)) (by simp) (by simp) (by simp) (by simp)
def G3c:X9.Sm:=by refine⟨⟨by simp[X9,sm],λd E=>?_⟩,.mk _ _ _ _ _ _ (by simp) C9u (by simp) (by simp) (by simp) (by simp)⟩;simp only[X9,Ps]at E;subst E;exact⟨by decide,⟨by simp[default],by simp[default]⟩,⟨by simp[default],by simp[default]⟩,⟨by simp[default],by simp[default]⟩,by simp[default],⟨by simp[default],by simp[default]⟩,⟨by simp[default],⟨by simp[default],by simp[default]⟩,⟨by simp[default],by simp[default]⟩,.mk _ _ _ (by simp) (by simp) (by simp)⟩,E9n⟩
def G0w:H4 X9 [c21] t21=[c21]:=by
 have:Dd X9 [] t21 t21=true:=by decide +kernel
 unfold H4;rw[Aq8,show c21.on=t21 from rfl,A9 this];rfl
def G5.H0d{P:Program}{f:FuncId}{args:List SV}{E:SV}(h:G5 P f args λr=>r=E):Ac P f args E :=
 ⟨h.1,λC β vs O U=>(h.2 C β vs O U).mono λ_ _ ⟨r,v,S',β',I,J,M,L⟩=>⟨v,S',β',J,M,I ▸ L⟩⟩
end Go.Abs
