/- the shelf's strings.Join, Count, CutPrefix; name.Index of what is no local name -/
import Derived.Shelf.Strings.OnBuilder
import Derived.Shelf.Strings.Count
import Derived.Shelf.Small.Wraps
import Derived.Shelf.Strconv.ErrVarAll
import Derived.Test.YtjneockcgjfhaaaGreatDoorKV05
set_option linter.all false
set_option maxHeartbeats 1000000
set_option maxRecDepth 100000
namespace Go.Abs
open Go Go.Proofs Go.RowKit Go.Lib Go.Sort Tryz
def C6v  : Builder.Extra prog D8k where
 sizeBuilder:=by kernel_rfl
 liesBuilder:=by kernel_rfl
 t5:=underlying5
 a5:=run_isAgg_plain underlying5 rfl
 z5:=sizeOf5
 v5:=zeroValue5
 infoByte:=by kernel_rfl
 cellsByte:=by kernel_rfl
 sizeByte:=by kernel_rfl
 neB5:=by decide
def Inv.below{C:Ctx}{S:Nat->Prop}{w w':World}{β:Names}{bx:Aa}(h:Inv C S w β bx)(b:Below w.heap.size w w'):Inv C S w' β bx :=(h.grow (λ_ h=>h) (λ_ h=>.inl h) (λk E=>X9 (h.C3 k E) b.size) (λk E=>b.block k E) b.os b.tape b.output b.size).1
def A7p(l:List A2)(E:A2)(hl:l.length<=sm)(hj:(Lib.join l E).length<=lim):Ab prog 29 [.d (.slice (Ba l)),B4 E] (B4 (Lib.join l E)):=by
 refine⟨(Enters.of func29 rfl (by decide)),λC β vs hi hv=>?_⟩;obtain⟨v0,e0,r0⟩:=hv.get (j:=0) rfl;obtain⟨v1,e1,r1⟩:=hv.get (j:=1) rfl;have W:=hv.1
 match vs,W with
 |[a,b],_ =>
  simp only[Md,B0]at e0;simp only[Q3,Md,B0]at e1;subst e0;subst e1;have h1:=r1.Gq;cases h1 with
  |str _ hs =>
  have h0:=r0.Gq;have L:∀{a:Value},(Calls prog 29 #[a,.string (mkStr E)] C.w0 λe w'=>e=.returned (.string (mkStr (Lib.join l E)))/\Below C.w0.heap.size C.w0 w') ->Calls prog 29 ⟨[a,.string (mkStr E)]⟩ C.w0 (λe w'=>∃v S' β',e=.returned v/\Inv C S' w' β' []/\An S' w' β' (B4 (Lib.join l E)) v):=λZ=>by
   refine Z.mono ?_;rintro e w' ⟨rfl,hb⟩;exact⟨_,C.S0,β,rfl,hi.below hb,.d _ _ (.str _ hj)⟩
  generalize hR:Ba l=R at h0;cases h0 with
  |Lw a cap _ =>
   have:l=[]:=by cases l <;> simp[Ba]at hR |-
   subst this;refine L ((Any.strings_Join_none C4r C6v a cap (mkStr E) C.w0).mono ?_);rintro e w' ⟨rfl,rfl⟩;exact⟨rfl,Below.refl _ _⟩
  |slice rows b off cap sz hS a3 a1 h3 h4 h5 h6 =>
   subst hR;have I:(Ba l).length=l.length:=by simp[Ba]
   by_cases V:l=[];subst V;refine L ((Any.strings_Join_none C4r C6v (some ⟨b,off,none⟩) cap (mkStr E) C.w0).mono ?_);rintro e w' ⟨rfl,rfl⟩;exact⟨rfl,Below.refl _ _⟩
   .have a2:sz=1:=by
     cases l with
     |nil=>exact absurd rfl V
     |cons x r=>have:=h3 [.str x] (by simp[Ba]);simpa using this.symm
    subst a2;have hd:(l.map mkStr).map (·.data.toList)=l:=by
     rw[Dw]
     conv=>rhs;rw[<-List.map_id l]
     refine Hb λs _=>?_;simp[mkStr]
    have J:(l.map mkStr).length=l.length:=by simp
    have Z:=Any.strings_Join C4r C6v b off cap (l.map mkStr) (mkStr E) C.w0 (λj x hx=>by rw[Db,P1]at hx;obtain⟨s,U,rfl⟩:=hx;have a0:=(Aw.1 U).1;obtain⟨v,O⟩:=h5 j 0 (by rw[I];exact a0) (by decide);have:=h6 j 0 [.str s] (.str s) v (by simp[Ba,U]) rfl O;cases this;simpa using O) (hi.C3 _ hS) (by rw[J];unfold sm at hl;omega) (by rw[J,<-I];exact a1) (by rw[hd,show(mkStr E).data.toList=E by simp[mkStr]];exact hj);rw[hd,J,show(mkStr E).data.toList=E by simp[mkStr]]at Z;rw[I];exact L Z
def F6z(s:A2)(c:UInt8)(hs:s.length<=sm):Ab prog 224 [B4 s,B4 [c]] (A7 (Lib.countByte s c)):=by
 refine⟨(Enters.of func224 rfl (by decide)),λC β vs V I=>?_⟩;obtain⟨W,J,r0⟩:=I.get (j:=0) rfl;obtain⟨Z,L,r1⟩:=I.get (j:=1) rfl;have E:=I.1
 match vs,E with
 |[a,b],_ =>
  simp only[Md,B0]at J;simp only[Q3,Md,B0]at L;subst J;subst L;have U:=r0.Gq;have O:=r1.Gq;cases U with
  |str _ _ =>
  cases O with
  |str _ _ =>
  refine(Any.strings_Count_one Cf (mkStr s) c C.w0).mono ?_;rintro e w' ⟨rfl,rfl⟩;refine⟨_,C.S0,β,rfl,V,?_⟩;have:(mkStr s).data.toList=s:=by simp[mkStr]
  rw[this];exact .d _ _ (.int _ _)
def B4t(s:A2):Bool:=match Lib.atoiAll s with
 |.ok _=>false
 |.range=>false
 |_=>true
def D4i(s:A2)(hs:s.length<=60000000*sm)(h1:Lib.hasPrefix s [36]=false)(L:B4t s=true):Ab prog 166 [B4 s] (.tuple [A7 0,B1 false]):=by
 refine⟨(Enters.of func166 rfl (by decide)),λC β vs hi O=>?_⟩;obtain⟨v0,e0,r0⟩:=O.get (j:=0) rfl;have V:=O.1
 match vs,V with
 |[a],_ =>
  simp only[Md,B0]at e0;subst e0;have h0:=r0.Gq;cases h0 with
  |str _ _ =>
  have E:(mkStr s).data.toList=s:=by simp[mkStr]
  have I:=λw=>Any.strings_CutPrefix E5q (mkStr s) ⟨#[36]⟩ w;rw[E,show(ByteArray.mk #[36]).data.toList=[36] from rfl,show Lib.trimPrefix s [36]=s by rw[Lib.trimPrefix,A3 (by rw[h1];exact Bool.false_ne_true)],h1]at I;obtain⟨_,ty,fr,W⟩:=hi.Dv 5 #[.iface C.G.sy.1 C.G.sy.2] (.inr (.inr (.inr (.inl ⟨rfl,rfl,trivial⟩))))
  have U:C.w0.var? prog "strconv.ErrSyntax" =some #[.iface C.G.sy.1 C.G.sy.2]:=by unfold World.var?;rw[show prog.globalNamed "strconv.ErrSyntax" =some 5 by kernel_rfl];simp only[Ap5,W]
  have a0:(mkStr s).size<=281474976710656:=by
   have:(mkStr s).size=s.length:=by simp[mkStr,ByteArray.size]
   unfold sm at hs;omega
  have J:=λL=>Any.strconv_Atoi_syntax_var D3t (mkStr s) a0 (by rw[E];exact L) C.G.sy.1 C.G.sy.2 C.w0 U;unfold B4t at L;generalize Z:Lib.atoiAll s=x at L;have Z:Lib.atoiAll (mkStr s).data.toList=x:=by rw[E];exact Z
  cases x
  .cases L
  rotate_left
  .cases L
  have J:=J Z;have key:Calls prog 166 #[.string (mkStr s)] C.w0 λe w'=>e=.returned (.tuple #[.int .i64 0,.bool false])/\Below C.w0.heap.size C.w0 w':=by
   go_enter func166,ntmps166
   go_wp2_with (first| (go_at_call 194;refine(I _).mono ?_;rintro e w' ⟨rfl,hw⟩;rw[hw])| (go_at_call 195;refine J.mono ?_;rintro e w1 ⟨N,rfl,hN,hc,hb⟩))
   go_ret2
   exact⟨rfl,hb⟩
  refine key.mono ?_;rintro e w' ⟨rfl,hb⟩;exact⟨_,C.S0,β,rfl,hi.below hb,.tuple _ _ rfl (by
   intro j c v hc O
   match j with
   |0=>cases hc;cases O;exact .d _ _ (.int _ _)
   |1=>cases hc;cases O;exact .d _ _ (.bool _))⟩
open Go Go.Proofs Tryz
abbrev comma:A2:=[44,32]
mutual
def Ty.D1:Ty->A2
 |.mk n a _=>if a.isEmpty=true then n else n++[91]++Lib.join (Ty.Pg a) comma++[93]
def Ty.Pg:List Ty->List A2
 |[]=>[]
 |t::E=>t.D1::Ty.Pg E
end
mutual
def Ty.Da:Ty->Nat
 |.mk n a _=>n.length+4+Ty.Bu a
def Ty.Bu:List Ty->Nat
 |[]=>0
 |t::E=>t.Da+Ty.Bu E
end
def Ty.A0k:∀l:List Ty,Ty.Pg l=l.map Ty.D1
 |[]=>rfl
 |t::E=>by rw[Ty.Pg,Ty.A0k E,Cp]
def Ty.C2p(t:Ty):t.D1=if t.args=[]then t.name else t.name++[91]++Lib.join (t.args.map Ty.D1) comma++[93]:=by
 cases t with
 |mk n a p =>rw[Ty.D1,Ty.A0k];simp only[At1];rfl
theorem Ty.Tu(t:Ty):t.Da=t.name.length+4+Ty.Bu t.args:=by cases t;rfl
def Jo(l:List A2):Nat:=(l.map λs=>s.length+2).sum
def A5x:∀l:List A2,(Lib.join l comma).length<=Jo l
 |[]=>by simp[Lib.join_nil]
 |x::r=>by
  have:∀r:List A2,(Lib.joinTail comma r).length<=Jo r:=λr=>by
   induction r with
   |nil=>simp[Lib.joinTail]
   |cons y r E=>simp only[Lib.joinTail,Jo,Cp,Aq7,As,Nf,Ar,Az]at E |-;omega
  rw[Lib.join_cons,As];have:=this r;simp only[Jo,Cp,Nf]at this |-;omega
mutual
theorem Ty.A4z:∀t:Ty,t.D1.length+2<=t.Da
 |.mk n a p=>by have I:=Ty.A0z a;have E:=A5x (Ty.Pg a);rw[Ty.D1,Ty.Da];split;omega;simp only[As,Ar,Az];omega
theorem Ty.A0z:∀l:List Ty,Jo (Ty.Pg l)<=Ty.Bu l
 |[]=>by simp[Jo,Ty.Pg]
 |t::J=>by have I:=Ty.A4z t;have E:=Ty.A0z J;simp only[Jo]at E;simp only[Ty.Pg,Ty.Bu,Jo,Cp,Nf];omega
end
def Wh:∀{l:List Ty} {t:Ty},t∈l->t.Da<=Ty.Bu l
 |[],_,h=>by simp at h
 |x::l,t,h=>by simp only[Ty.Bu];rcases B5.1 h with rfl|h;omega;have:=Wh h;omega
def B3a:∀l:List Ty,l.length<=Ty.Bu l
 |[]=>Bq _
 |x::l=>by have:=B3a l;have:=Ty.Tu x;simp only[Ty.Bu,Ar];omega
abbrev Uf:List Nat:=[0,1,2,3,5,9,13,14,15,16]
def D8s:∀t:Ty,t.Da<=sm->Ab prog 71 [Be t] (B4 t.D1):=by
 intro t
 induction t using Ty.induct with
 |h t ih =>
 intro hl;have a1:=Ty.Tu t;have a0:=B3a t.args;have I:=Ty.A4z t;have Z:=A5x (t.args.map Ty.D1);have O:=Ty.A0z t.args;rw[Ty.A0k]at O;rw[Ty.C2p]at I |-;by_cases L:t.args=[]
 .rw[A6 L];have U:((t.args.length:Nat):Int)=0:=by rw[L];rfl
  refine cB func71 ?_;refine sR Uf ?_;refine Ae U Uf λW u1=>?_;refine tI ?_;refine sR Uf ?_;exact aR
 have U:¬((t.args.length:Nat):Int)=0:=by have:t.args.length≠0:=λh=>L (Yj h);omega
 rw[A3 L]at I |-;simp only[As,Ar,Az]at I;have hj:=A7p (t.args.map Ty.D1) comma (by rw[Bc];omega) (by unfold lim sm at*;omega);generalize hJ:Lib.join (t.args.map Ty.D1) comma=J at*;refine cB func71 ?_;refine sR Uf ?_;refine Ae U Uf λW u1=>?_;refine kI u1 ?_;clear u1 W;refine sR Uf ?_;refine A0.pp 3 1 3 rfl<|kR Uf λW u1=>?_;refine A0.bb (A0.ii t.args (X:=Unit) (λj _=>[(1,.box 1 0),(3,.acc 3),(13,.d (.slice (Ag t.args))),(14,A7 t.args.length),(15,A7 j)]) (λj _=>[(1,.cells [.d (.str t.name),.d (.slice (Ag t.args)),.d (.int .i64 t.pos)]),(3,.rows 1 (Ba ((t.args.take j).map Ty.D1)))]) (λj _=>True) () trivial sS (by simp[ble,A8,Ba]) ?_ ?_)
 rotate_left
 .intro j _ u hu E dp tk V _;have hi:=ih u E (by have:=Wh E;omega);rw[tk];refine Ap V Uf ?_;refine A0.Ha rfl<|sK λK2 u2=>A0.bb ?_
  (refine sV Uf λK z=>?_;refine ci (Ev hu) ?_;apply z;clear z K)
  (refine lV Uf λK z=>?_;refine cc hi ?_;refine⟨by simp,by simp only[Bc,D0];unfold lim sm at*;omega,?_⟩;(try refine ev ?_);apply z;clear z K;try simp only[A5,A9])
  refine u2 _ _ ?_;clear u2 K2;refine lT Uf ?_;exact⟨(),trivial,sS,by simp[ble,A8,Ba]⟩
 intro _ _;rw[Cx];refine Ap B6 Uf ?_;refine A0.stop rfl ?_;simp only[A5,A9,Ac];refine u1 _ _ ?_
 (refine sG Uf [] 5 [] λK z=>?_;refine ev ?_;refine⟨(by(try simp only[As,Ar,Az]);unfold lim sm at*;omega),?_⟩;(try refine ev ?_);refine⟨_,.inr ⟨_,rfl,hj,rfl⟩,?_⟩;(try refine ev ?_);refine⟨(by(try simp only[As,Ar,Az]);unfold lim sm at*;omega),?_⟩;(try refine ev ?_);refine⟨(by(try simp only[As,Ar,Az]);unfold lim sm at*;omega),?_⟩;(try refine ev ?_);apply z;clear z K)
 exact aR
abbrev Yp:List Nat:=[0,1,4,5,7,8,9,10,11]
def F3x(l:List Ty)(hs:Ty.Bu l<=sm):Ab prog 70 [.d (.slice (Ag l)),.Bk 71 []] (B4 (Lib.join (l.map Ty.D1) comma)):=by
 have U:=B3a l;have O:=A5x (l.map Ty.D1);have I:=Ty.A0z l;rw[Ty.A0k]at I;have V:=A7p (l.map Ty.D1) comma (by rw[Bc];omega) (by unfold lim sm at*;omega);generalize hJ:Lib.join (l.map Ty.D1) comma=J at*;refine cB func70 ?_;refine sR Yp ?_;refine sR Yp ?_;refine A0.pp 5 1 5 rfl<|kR Yp λK1 u1=>?_;refine A0.bb (A0.ii l (X:=Unit) (λj _=>[(1,.Bk 71 []),(5,.acc 5),(8,.d (.slice (Ag l))),(9,A7 l.length),(10,A7 j)]) (λj _=>[(5,.rows 1 (Ba ((l.take j).map Ty.D1)))]) (λj _=>True) () trivial sS (by simp[ble,A8,Ba]) ?_ ?_)
 rotate_left
 .intro j _ u hu E dp tk L _;have W:=D8s u (by have:=Wh E;omega);rw[tk];refine Ap L Yp ?_;refine A0.Ha rfl<|sK λZ u2=>A0.bb ?_
  refine sV Yp λK z=>?_;refine ci (Ev hu) ?_;apply z;clear z K;(refine lV Yp λK z=>?_;refine cc W ?_;refine⟨by simp,by simp only[Bc,D0];unfold lim sm at*;omega,?_⟩;(try refine ev ?_);apply z;clear z K;try simp only[A5,A9,Ac]);refine u2 _ _ ?_;clear u2 Z;(refine lV Yp λK z=>?_;refine cl ?_;apply z;clear z K;try simp only[A5,A9,Ac]);exact⟨(),trivial,sS,by simp[ble,A8,Ba]⟩
 intro _ _;rw[Cx];refine Ap B6 Yp ?_;refine A0.stop rfl ?_;simp only[A5,A9,Ac];refine u1 _ _ ?_;refine sV Yp λK z=>?_;refine⟨_,.inr ⟨_,rfl,V,rfl⟩,?_⟩;(try refine ev ?_);apply z;clear z K;exact aR
def Ty.pre(t:Ty)(j:Nat):A2:=if j=0 then t.name else t.name++[91]++Lib.join ((t.args.take j).map Ty.D1) comma
def B1v(l:List Ty):A2:=if l=[]then[]else[91]++Lib.join (l.map Ty.D1) comma++[93]
def B2j(k:Int)(n:A2)(t:Ty)(a:List Ty)(ks:List A2):A2 :=if k=2 then ks.headD []++[46]++n++B1v a++[40]++Lib.join (ks.drop 1) comma++[41]
 else if k=3 then t.D1++[123]++Lib.join ks comma++[125]
 else if k=4 then ks.headD []++[46]++n
 else if k=5 then ks.headD []++[46,40]++t.D1++[41]
 else n
mutual
def Ex.D1:Ex->A2
 |.mk k n t a ks _=>B2j k n t a (Ex.Pg ks)
def Ex.Pg:List Ex->List A2
 |[]=>[]
 |e::es=>e.D1::Ex.Pg es
end
mutual
def Ex.M7:Ex->Nat
 |.mk _ n t a ks _=>n.length+10+t.Da+Ty.Bu a+Ex.N3 ks
def Ex.N3:List Ex->Nat
 |[]=>0
 |e::es=>e.M7+Ex.N3 es
end
def Ex.A0k:∀l:List Ex,Ex.Pg l=l.map Ex.D1
 |[]=>rfl
 |t::E=>by rw[Ex.Pg,Ex.A0k E,Cp]
def Ex.C2p(e:Ex):e.D1=B2j e.kind e.name e.type e.targs (e.kids.map Ex.D1):=by cases e with|mk k n t a ks q=>rw[Ex.D1,Ex.A0k];rfl
def Ex.B0v(e:Ex):e.M7=e.name.length+10+e.type.Da+Ty.Bu e.targs+Ex.N3 e.kids:=by cases e;rfl
def D8v(l:List Ty):(B1v l).length<=Ty.Bu l+2:=by have I:=A5x (l.map Ty.D1);have E:=Ty.A0z l;rw[Ty.A0k]at E;unfold B1v;split;simp;simp only[As,Ar,Az];omega
def D9g(x:A2)(l:List A2):Jo (x::l)=x.length+2+Jo l:=by simp[Jo]
def F5g(k:Int)(n:A2)(t:Ty)(a:List Ty)(ks:List A2):(B2j k n t a ks).length+2<=n.length+10+t.Da+Ty.Bu a+Jo ks:=by
 have E:=Ty.A4z t;have O:=D8v a;have I:=A5x ks;have L:=A5x (ks.drop 1);have J:(ks.headD []).length+Jo (ks.drop 1)<=Jo ks:=by
  cases ks with
  |nil=>simp[Jo]
  |cons x r=>simp only[List.headD_cons,Am1,Zu,D9g];omega
 unfold B2j;split;simp only[As,Ar,Az];omega;split;simp only[As,Ar,Az];omega;split;simp only[As,Ar,Az];omega;split;simp only[As,Ar,Az];omega;omega
mutual
theorem Ex.A4z:∀e:Ex,e.D1.length+2<=e.M7
 |.mk k n t a ks q=>by have E:=Ex.A0z ks;have I:=F5g k n t a (Ex.Pg ks);rw[Ex.D1,Ex.M7];omega
theorem Ex.A0z:∀l:List Ex,Jo (Ex.Pg l)<=Ex.N3 l
 |[]=>by simp[Jo,Ex.Pg]
 |t::J=>by have E:=Ex.A4z t;have I:=Ex.A0z J;rw[Ex.Pg,Ex.N3,D9g];omega
end
def B9t:∀{l:List Ex} {t:Ex},t∈l->t.M7<=Ex.N3 l
 |[],_,h=>by simp at h
 |x::l,t,h=>by simp only[Ex.N3];rcases B5.1 h with rfl|h;omega;have:=B9t h;omega
def C3m:∀l:List Ex,l.length<=Ex.N3 l
 |[]=>Bq _
 |x::l=>by have:=C3m l;have:=Ex.B0v x;simp only[Ex.N3,Ar];omega
inductive Ex.Ft:Ex->Prop where
 |mk (k:Int) (n:A2) (t:Ty) (a:List Ty) (ks:List Ex) (q:Int):(k=1\/k=2\/k=3\/k=4\/k=5)->(k=2\/k=4\/k=5->ks≠[])->(k=5->n=[])->(∀e,e∈ks->Ex.Ft e)->Ex.Ft (.mk k n t a ks q)
variable {e:Ex}
def Ex.Ft.kids(h:e.Ft):∀x,x∈e.kids->x.Ft:=by cases h;assumption
def Ex.Ft.some(h:e.Ft)(E:e.kind=2\/e.kind=4\/e.kind=5):∃v,e.kids[0]?=some v:=by
 cases h with
 |mk k n t a ks q _ I _ _ =>
  have:=I E;cases ks with
  |nil=>exact absurd rfl this
  |cons v _=>exact⟨v,rfl⟩
def Ex.Ft.kind(h:e.Ft):e.kind=1\/e.kind=2\/e.kind=3\/e.kind=4\/e.kind=5:=by cases h;assumption
theorem Ex.Ft.name(h:e.Ft):e.kind=5->e.name=[]:=by cases h;assumption
abbrev A0p:List Nat:=[0,1,4,5,7,8,9,10,11]
def D9h(l:List Ex)(hs:Ex.N3 l<=sm)(V:∀u,u∈l->Ab prog 27 [Bg u] (B4 u.D1)):Ab prog 72 [.d (.slice (Bj l)),.Bk 27 []] (B4 (Lib.join (l.map Ex.D1) comma)):=by
 have U:=C3m l;have O:=A5x (l.map Ex.D1);have I:=Ex.A0z l;rw[Ex.A0k]at I;have W:=A7p (l.map Ex.D1) comma (by rw[Bc];omega) (by unfold lim sm at*;omega);generalize hJ:Lib.join (l.map Ex.D1) comma=J at*;refine cB func72 ?_;refine sR A0p ?_;refine sR A0p ?_;refine A0.pp 5 1 5 rfl<|kR A0p λK1 u1=>?_;refine A0.bb (A0.ii l (X:=Unit) (λj _=>[(1,.Bk 27 []),(5,.acc 5),(8,.d (.slice (Bj l))),(9,A7 l.length),(10,A7 j)]) (λj _=>[(5,.rows 1 (Ba ((l.take j).map Ex.D1)))]) (λj _=>True) () trivial sS (by simp[ble,A8,Ba]) ?_ ?_)
 rotate_left
 .intro j _ u hu E dp tk L _;have Z:=V u E;rw[tk];refine Ap L A0p ?_;refine A0.Ha rfl<|sK λK2 u2=>A0.bb ?_
  refine sV A0p λK z=>?_;refine ci (Ck hu) ?_;apply z;clear z K;(refine lV A0p λK z=>?_;refine cc Z ?_;refine⟨by simp,by simp only[Bc,D0];unfold lim sm at*;omega,?_⟩;(try refine ev ?_);apply z;clear z K;try simp only[A5,A9,Ac]);refine u2 _ _ ?_;clear u2 K2;(refine lV A0p λK z=>?_;refine cl ?_;apply z;clear z K;try simp only[A5,A9,Ac]);exact⟨(),trivial,sS,by simp[ble,A8,Ba]⟩
 intro _ _;rw[Cx];refine Ap B6 A0p ?_;refine A0.stop rfl ?_;simp only[A5,A9,Ac];refine u1 _ _ ?_;refine sV A0p λK z=>?_;refine⟨_,.inr ⟨_,rfl,W,rfl⟩,?_⟩;(try refine ev ?_);apply z;clear z K;exact aR
def G9n(l:List Ex):Ex.N3 (l.drop 1)<=Ex.N3 l:=by
 cases l with
 |nil=>simp
 |cons x r=>simp only[Am1,Zu,Ex.N3];omega
abbrev G9:List Nat:=[0,1,2,3,5,6,11,35,46,57]
def C1b:∀e:Ex,e.Ft->e.M7<=sm->Ab prog 27 [Bg e] (B4 e.D1):=by
 intro e
 induction e using Ex.induct with
 |h e ih =>
 intro hs hl;have a7:=Ex.B0v e;have E:=Ex.A4z e;have a8:=C3m e.kids;have W:∀u,u∈e.kids->Ab prog 27 [Bg u] (B4 u.D1):=λu hu=>ih u hu (hs.kids u hu) (by have:=B9t hu;omega);have a1:=D8s e.type (by omega);rw[Ex.C2p]at E |-;unfold B2j at E |-;rcases hs.kind with hk|hk|hk|hk|hk
 .have hx:Bg e=.agg [.d (.int .i64 1),.d (.str e.name),.d (.str e.type.name),.d (.slice (Ag e.type.args)),.d (.int .i64 e.type.pos),.d (.slice (Ag e.targs)),.d (.slice (Bj e.kids)),.d (.int .i64 e.pos)]:=by rw[<-hk]
  rw[A3 (by omega),A3 (by omega),A3 (by omega),A3 (by omega),hx];refine cB func27 ?_;refine sR G9 ?_;refine kR G9 λK1 u1=>A0.bb ?_;refine sR G9 ?_;refine A0.ff rfl<|sR G9 ?_;refine A0.ff rfl<|sR G9 ?_;refine A0.ff rfl<|sR G9 ?_;refine A0.ff rfl (A0.kk (u1 _ _ ?_));refine sR G9 ?_;exact aR
 .obtain⟨v,I⟩:=hs.some (.inl hk);have a2:=Bm I;have O:=W v a2;have a6:=(Aw.1 I).1;have hx:Bg e=.agg [.d (.int .i64 2),.d (.str e.name),.d (.str e.type.name),.d (.slice (Ag e.type.args)),.d (.int .i64 e.type.pos),.d (.slice (Ag e.targs)),.d (.slice (Bj e.kids)),.d (.int .i64 e.pos)]:=by rw[<-hk]
  rw[A6 hk]at E |-;have Z:(e.kids.map Ex.D1).headD []=v.D1:=by
   cases L:e.kids with
   |nil=>rw[L]at I;cases I
   |cons y r=>rw[L]at I;cases I;rfl
  have dp:=G9n e.kids;have U:=D9h (e.kids.drop 1) (by omega) λu hu=>W u (Aj6 hu);rw[List.map_drop]at U;have a5:Bj (e.kids.drop 1)=((Bj e.kids).take e.kids.length).drop 1:=by rw[Ym (by rw[Wt];exact Bq _),I0,I0,<-List.map_drop]
  rw[a5]at U;rw[Z]at E |-;rw[hx];simp only[As,Ar,Az]at E;have a3:=F3x e.targs (by omega);have a0:B1v e.targs=if e.targs=[]then[]else[91]++Lib.join (e.targs.map Ty.D1) comma++[93]:=rfl
  have a4:=D8v e.targs;generalize B1v e.targs=TA at*;generalize hJ:Lib.join ((e.kids.map Ex.D1).drop 1) comma=J at*;generalize Lib.join (e.targs.map Ty.D1) comma=JA at*;generalize v.D1=V at*;by_cases h0:e.targs=[]
  .have hz:¬((e.targs.length:Nat):Int) > 0:=by rw[h0];decide
   rw[A6 h0]at a0;subst a0;rw[Gy];simp only[Az]at E;refine cB func27 ?_;refine sR G9 ?_;refine kR G9 λK1 u1=>A0.bb ?_;refine sR G9 ?_;refine A0.tt rfl<|sR G9 ?_;refine Ae hz G9 λK2 u2=>?_;refine A0.ff rfl (A0.kk (u2 _ _ ?_));clear u2 K2
   (refine sG G9 [] 16 [] λK z=>?_;refine ev ?_;refine cj (Ck I) ?_;refine cc O ?_;refine⟨(by(try simp only[As,Ar,Az]);unfold lim sm at*;omega),?_⟩;(try refine ev ?_);refine⟨(by(try simp only[As,Ar,Az]);unfold lim sm at*;omega),?_⟩;(try refine ev ?_);refine⟨(by(try simp only[As,Ar,Az]);unfold lim sm at*;omega),?_⟩;(try refine ev ?_);refine⟨(by(try simp only[As,Ar,Az]);unfold lim sm at*;omega),?_⟩;(try refine ev ?_);refine⟨Z5 _,by omega,by omega,?_⟩;(try refine ev ?_);refine cc U ?_;refine⟨(by(try simp only[As,Ar,Az]);unfold lim sm at*;omega),?_⟩;(try refine ev ?_);refine⟨(by(try simp only[As,Ar,Az]);unfold lim sm at*;omega),?_⟩;(try refine ev ?_);apply z;clear z K)
   exact aR
  .have hz:((e.targs.length:Nat):Int) > 0:=by
    have:e.targs.length≠0:=λh=>h0 (Yj h);omega
   rw[A3 h0]at a0;subst a0;simp only[As,Ar,Az]at E a4;refine cB func27 ?_;refine sR G9 ?_;refine kR G9 λK1 u1=>A0.bb ?_;refine sR G9 ?_;refine A0.tt rfl<|sR G9 ?_;refine Ae hz G9 λK2 u2=>?_;refine A0.tt rfl ?_
   (refine lV G9 λK z=>?_;refine cc a3 ?_;refine⟨(by(try simp only[As,Ar,Az]);unfold lim sm at*;omega),?_⟩;(try refine ev ?_);refine⟨(by(try simp only[As,Ar,Az]);unfold lim sm at*;omega),?_⟩;(try refine ev ?_);apply z;clear z K;try simp only[A5,A9,Ac])
   refine u2 _ _ ?_;clear u2 K2
   (refine sG G9 [] 16 [] λK z=>?_;refine ev ?_;refine cj (Ck I) ?_;refine cc O ?_;refine⟨(by(try simp only[As,Ar,Az]);unfold lim sm at*;omega),?_⟩;(try refine ev ?_);refine⟨(by(try simp only[As,Ar,Az]);unfold lim sm at*;omega),?_⟩;(try refine ev ?_);refine⟨(by(try simp only[As,Ar,Az]);unfold lim sm at*;omega),?_⟩;(try refine ev ?_);refine⟨(by(try simp only[As,Ar,Az]);unfold lim sm at*;omega),?_⟩;(try refine ev ?_);refine⟨Z5 _,by omega,by omega,?_⟩;(try refine ev ?_);refine cc U ?_;refine⟨(by(try simp only[As,Ar,Az]);unfold lim sm at*;omega),?_⟩;(try refine ev ?_);refine⟨(by(try simp only[As,Ar,Az]);unfold lim sm at*;omega),?_⟩;(try refine ev ?_);apply z;clear z K)
   exact aR
 .have hx:Bg e=.agg [.d (.int .i64 3),.d (.str e.name),.d (.str e.type.name),.d (.slice (Ag e.type.args)),.d (.int .i64 e.type.pos),.d (.slice (Ag e.targs)),.d (.slice (Bj e.kids)),.d (.int .i64 e.pos)]:=by rw[<-hk]
  rw[A3 (by omega),A6 hk]at E |-;have U:=D9h e.kids (by omega) W;rw[hx];simp only[As,Ar,Az]at E;generalize Lib.join (e.kids.map Ex.D1) comma=J at*;generalize e.type.D1=V at*;refine cB func27 ?_;refine sR G9 ?_;refine kR G9 λK1 u1=>A0.bb ?_;refine sR G9 ?_;refine A0.ff rfl<|sR G9 ?_;refine A0.tt rfl ?_
  (refine sG G9 [] 7 [] λK z=>?_;refine ev ?_;refine cc a1 ?_;refine⟨(by(try simp only[As,Ar,Az]);unfold lim sm at*;omega),?_⟩;(try refine ev ?_);refine cc U ?_;refine⟨(by(try simp only[As,Ar,Az]);unfold lim sm at*;omega),?_⟩;(try refine ev ?_);refine⟨(by(try simp only[As,Ar,Az]);unfold lim sm at*;omega),?_⟩;(try refine ev ?_);apply z;clear z K)
  exact aR
 .obtain⟨v,I⟩:=hs.some (.inr (.inl hk));have O:=W v (Bm I);have hx:Bg e=.agg [.d (.int .i64 4),.d (.str e.name),.d (.str e.type.name),.d (.slice (Ag e.type.args)),.d (.int .i64 e.type.pos),.d (.slice (Ag e.targs)),.d (.slice (Bj e.kids)),.d (.int .i64 e.pos)]:=by rw[<-hk]
  have Z:(e.kids.map Ex.D1).headD []=v.D1:=by
   cases L:e.kids with
   |nil=>rw[L]at I;cases I
   |cons y r=>rw[L]at I;cases I;rfl
  rw[A3 (by omega),A3 (by omega),A6 hk,Z]at E |-;rw[hx];simp only[As,Ar,Az]at E;generalize v.D1=V at*;refine cB func27 ?_;refine sR G9 ?_;refine kR G9 λK1 u1=>A0.bb ?_;refine sR G9 ?_;refine A0.ff rfl<|sR G9 ?_;refine A0.ff rfl<|sR G9 ?_;refine A0.tt rfl ?_
  (refine sG G9 [] 8 [] λK z=>?_;refine ev ?_;refine cj (Ck I) ?_;refine cc O ?_;refine⟨(by(try simp only[As,Ar,Az]);unfold lim sm at*;omega),?_⟩;(try refine ev ?_);refine⟨(by(try simp only[As,Ar,Az]);unfold lim sm at*;omega),?_⟩;(try refine ev ?_);apply z;clear z K)
  exact aR
 .obtain⟨v,I⟩:=hs.some (.inr (.inr hk));have O:=W v (Bm I);have hx:Bg e=.agg [.d (.int .i64 5),.d (.str e.name),.d (.str e.type.name),.d (.slice (Ag e.type.args)),.d (.int .i64 e.type.pos),.d (.slice (Ag e.targs)),.d (.slice (Bj e.kids)),.d (.int .i64 e.pos)]:=by rw[<-hk]
  have Z:(e.kids.map Ex.D1).headD []=v.D1:=by
   cases L:e.kids with
   |nil=>rw[L]at I;cases I
   |cons y r=>rw[L]at I;cases I;rfl
  rw[A3 (by omega),A3 (by omega),A3 (by omega),A6 hk,Z]at E |-;rw[hx];simp only[As,Ar,Az]at E;generalize v.D1=V at*;generalize e.type.D1=TX at*;refine cB func27 ?_;refine sR G9 ?_;refine kR G9 λK1 u1=>A0.bb ?_;refine sR G9 ?_;refine A0.ff rfl<|sR G9 ?_;refine A0.ff rfl<|sR G9 ?_;refine A0.ff rfl<|sR G9 ?_;refine A0.tt rfl ?_
  (refine sG G9 [] 9 [] λK z=>?_;refine ev ?_;refine cj (Ck I) ?_;refine cc O ?_;refine⟨(by(try simp only[As,Ar,Az]);unfold lim sm at*;omega),?_⟩;(try refine ev ?_);refine cc a1 ?_;refine⟨(by(try simp only[As,Ar,Az]);unfold lim sm at*;omega),?_⟩;(try refine ev ?_);refine⟨(by(try simp only[As,Ar,Az]);unfold lim sm at*;omega),?_⟩;(try refine ev ?_);apply z;clear z K)
  exact aR
abbrev Ut:List Nat:=[0,1,2,6,7,8,9,14,15,16,17,18,30]
def F2p(l m:List Ty)(hl:l.length<=sm)(hs:∀t,t∈l->t.Sm):Ab prog 63 [.d (.slice (Ag l)),.d (.slice (Ag m)),.Bk 62 []] (B1 (Jy l m)):=by
 refine cB func63 ?_;refine sR Ut ?_;refine kR Ut λW u1=>?_;refine A0.Nh rfl u1 (λE=>?_) (λE=>?_)
 .refine sR Ut ?_;have:Jy l m=false:=by
   cases h:Jy l m with
   |false=>rfl
   |true=>have:=C6n h;simp[this]at E
  rw[this];exact aR
 clear u1 W;have O:l.length=m.length:=by
  have:(l.length:Int)=m.length:=by simpa using E
  omega
 refine kR Ut λW u1=>?_;refine A0.bb (A0.ii l (X:=Unit) (λj _=>[(1,.d (.slice (Ag m))),(2,.Bk 62 []),(15,.d (.slice (Ag l))),(16,A7 l.length),(17,A7 j)]) (λ_ _=>[]) (λj _=>Jy (l.drop j) (m.drop j)=Jy l m) () (by simp) sS (by simp[ble,A8,Bp,Bs,Gs,E9,Dm,B3,Ai]) ?_ ?_);rotate_left
 .intro j _ d hd L Z tk U I;obtain⟨e,he,V⟩:=A0f (l:=m) (j:=j) (by omega);have J:=A9o d e (hs d L);rw[Z,V,Jy]at I;refine Ap U Ut ?_;refine A0.Ha rfl<|sK λK2 u2=>A0.bb ?_
  refine sV Ut λK z=>?_;refine ci (Ev hd) ?_;apply z;clear z K;refine sV Ut λK z=>?_;refine ci (Ev he) ?_;apply z;clear z K;refine sC J Ut ?_;refine A0.cond rfl (λE=>?_) (λE=>?_);refine sR Ut ?_;simp only[Jj]at E;rw[E,C8]at I;rw[<-I];exact aR;simp only[Qc]at E;rw[E,Cr]at I;refine A0.kk (u2 _ _ ?_);clear u2 K2;(refine lV Ut λK z=>?_;refine cl ?_;apply z;clear z K;try simp only[A5,A9,Ac]);exact⟨(),I,sS,(by simp[ble,A8,Bp,Bs,Gs,E9,Dm,B3,Ai])⟩
 intro _ I;refine Ap B6 Ut ?_;refine A0.stop rfl ?_;simp only[A5,A9,Ac];refine u1 _ _<|sR Ut ?_;rw[D3,O,D3]at I;rw[<-I];exact aR
abbrev Uw:List Nat:=[0,1,2,6,7,8,9,14,15,16,17,18,30]
def E8a(l m:List Ex)(hl:l.length<=sm)(hs:∀t,t∈l->∀u,Ab prog 24 [Bg t,Bg u] (B1 (Sh t u))):Ab prog 64 [.d (.slice (Bj l)),.d (.slice (Bj m)),.Bk 24 []] (B1 (Kk l m)):=by
 refine cB func64 ?_;refine sR Uw ?_;refine kR Uw λW u1=>?_;refine A0.Nh rfl u1 (λE=>?_) (λE=>?_)
 .refine sR Uw ?_;have:Kk l m=false:=by
   cases h:Kk l m with
   |false=>rfl
   |true=>have:=C8a h;simp[this]at E
  rw[this];exact aR
 clear u1 W;have O:l.length=m.length:=by
  have:(l.length:Int)=m.length:=by simpa using E
  omega
 refine kR Uw λW u1=>?_;refine A0.bb (A0.ii l (X:=Unit) (λj _=>[(1,.d (.slice (Bj m))),(2,.Bk 24 []),(15,.d (.slice (Bj l))),(16,A7 l.length),(17,A7 j)]) (λ_ _=>[]) (λj _=>Kk (l.drop j) (m.drop j)=Kk l m) () (by simp) sS (by simp[ble,A8,Bp,Bs,Gs,E9,Dm,B3,Ai]) ?_ ?_);rotate_left
 .intro j _ d hd L Z tk U I;obtain⟨e,he,V⟩:=A0f (l:=m) (j:=j) (by omega);have J:=hs d L e;rw[Z,V,Kk]at I;refine Ap U Uw ?_;refine A0.Ha rfl<|sK λK2 u2=>A0.bb ?_
  refine sV Uw λK z=>?_;refine ci (Ck hd) ?_;apply z;clear z K;refine sV Uw λK z=>?_;refine ci (Ck he) ?_;apply z;clear z K;refine sC J Uw ?_;refine A0.cond rfl (λE=>?_) (λE=>?_);refine sR Uw ?_;simp only[Jj]at E;rw[E,C8]at I;rw[<-I];exact aR;simp only[Qc]at E;rw[E,Cr]at I;refine A0.kk (u2 _ _ ?_);clear u2 K2;(refine lV Uw λK z=>?_;refine cl ?_;apply z;clear z K;try simp only[A5,A9,Ac]);exact⟨(),I,sS,(by simp[ble,A8,Bp,Bs,Gs,E9,Dm,B3,Ai])⟩
 intro _ I;refine Ap B6 Uw ?_;refine A0.stop rfl ?_;simp only[A5,A9,Ac];refine u1 _ _<|sR Uw ?_;rw[D3,O,D3]at I;rw[<-I];exact aR
def G4n:∀(a:Ex),a.Sm->∀b:Ex,Ab prog 24 [Bg a,Bg b] (B1 (Sh a b)):=by
 intro a
 induction a using Ex.induct with
 |h a U =>
 intro hs b;have L:=F2p a.targs b.targs hs.targs.1 hs.targs.2;have O:=E8a a.kids b.kids hs.kids.1 λt ht u=>U t ht (hs.kids.2 t ht) u;have J:=A9o a.type b.type hs.type;rw[C2n];generalize Ns a.type b.type=x at*;generalize Jy a.targs b.targs=y at*;generalize Kk a.kids b.kids=z at*;refine cB func24 ?_;refine sR [0,1,2,3,4] ?_;by_cases E:a.kind=b.kind
 .by_cases I:a.name=b.name
  .simp only[E,I,Ra,Cr];cases x with
   |false =>
    (refine sQ [0,1,2,3,4] λK z=>?_;refine Du E I ?_;refine⟨_,.inl ⟨_,rfl,J,rfl⟩,?_⟩;(try refine Du E I ?_);apply z;clear z K)
    exact aR
   |true =>
    cases y with
    |false =>
     (refine sQ [0,1,2,3,4] λK z=>?_;refine Du E I ?_;refine⟨_,.inl ⟨_,rfl,J,rfl⟩,?_⟩;(try refine Du E I ?_);refine⟨_,.inl ⟨_,rfl,L,rfl⟩,?_⟩;(try refine Du E I ?_);apply z;clear z K)
     exact aR
    |true =>
     (refine sQ [0,1,2,3,4] λK z=>?_;refine Du E I ?_;refine⟨_,.inl ⟨_,rfl,J,rfl⟩,?_⟩;(try refine Du E I ?_);refine⟨_,.inl ⟨_,rfl,L,rfl⟩,?_⟩;(try refine Du E I ?_);refine⟨_,.inl ⟨_,rfl,O,rfl⟩,?_⟩;(try refine Du E I ?_);apply z;clear z K)
     exact aR
  .simp only[E,I,Ra,Zj,Cr,C8];refine Er E I [0,1,2,3,4] ?_;exact aR
 .simp only[E,Zj,C8];refine Ap E [0,1,2,3,4] ?_;exact aR
def C0k(mt:Ty->Ty)(E:A2->List Ty->A2)(k:Int)(n:A2)(t:Ty)(a:List Ty)(ks:List Ex)(q:Int):Ex :=if k=3\/k=5 then .mk k n (mt t) a ks q else if k=2 then .mk k (E n a) t [] ks q else .mk k n t a ks q
mutual
def Gg(mt:Ty->Ty)(E:A2->List Ty->A2):Ex->Ex
 |.mk k n t a ks q=>C0k mt E k n t a (B7m mt E ks) q
def B7m(mt:Ty->Ty)(E:A2->List Ty->A2):List Ex->List Ex
 |[]=>[]
 |e::es=>Gg mt E e::B7m mt E es
end
def E3t(mt:Ty->Ty)(E:A2->List Ty->A2):∀l:List Ex,B7m mt E l=l.map (Gg mt E)
 |[]=>rfl
 |t::I=>by rw[B7m,E3t mt E I,Cp]
def D8g(mt:Ty->Ty)(E:A2->List Ty->A2)(e:Ex):Gg mt E e=C0k mt E e.kind e.name e.type e.targs (e.kids.map (Gg mt E)) e.pos:=by cases e with|mk k n t a ks q=>rw[Gg,E3t];rfl
inductive Pk(mt:Ty->Ty)(mm:A2->List Ty->A2):Ex->Prop where
 |mk (k:Int) (n:A2) (t:Ty) (a:List Ty) (ks:List Ex) (q:Int):(k=3\/k=5->Ab prog 66 [Be t] (Be (mt t)))->(k=2->Ab prog 67 [B4 n,.d (.slice (Ag a))] (B4 (mm n a))) -> (∀e,e∈ks->Pk mt mm e)->Pk mt mm (.mk k n t a ks q)
def Pk.kids{mt:Ty->Ty}{E:A2->List Ty->A2}(h:Pk mt E e):∀x,x∈e.kids->Pk mt E x:=by cases h;assumption
def Pk.plain{mt:Ty->Ty}{E:A2->List Ty->A2}(h:Pk mt E e):e.kind=3\/e.kind=5->Ab prog 66 [Be e.type] (Be (mt e.type)):=by cases h;assumption
def Pk.Iw{mt:Ty->Ty}{E:A2->List Ty->A2}(h:Pk mt E e):e.kind=2->Ab prog 67 [B4 e.name,.d (.slice (Ag e.targs))] (B4 (E e.name e.targs)):=by cases h;assumption
abbrev Dp:List Nat:=[0,1,2,3,5,10,11,12,13,25,26,33,67]
def G9u(mt:Ty->Ty)(W:A2->List Ty->A2):∀e:Ex,e.Sm->Pk mt W e->Ab prog 25 [Bg e] (Bg (Gg mt W e)):=by
 intro e
 induction e using Ex.induct with
 |h e ih =>
 intro hs U;have a0:=hs.kids.1;have L:=A4k e hs;rw[D8g];unfold C0k;by_cases k3:e.kind=3
 .have Z:Bg e=.agg [.d (.int .i64 3),.d (.str e.name),.d (.str e.type.name),.d (.slice (Ag e.type.args)),.d (.int .i64 e.type.pos),.d (.slice (Ag e.targs)),.d (.slice (Bj e.kids)),.d (.int .i64 e.pos)]:=by rw[<-k3]
  have hp:=U.plain (.inl k3);rw[A6 (.inl k3),k3];rw[Z]at L |-;refine cB func25 ?_;refine sR Dp ?_;refine sC L Dp ?_;refine sR Dp ?_;refine A0.Nz 67 8 3 6 rfl rfl (by decide)<|kR Dp λO u1=>?_;refine A0.bb (A0.ii e.kids (X:=Unit) (λj _=>[(1,.box 1 0),(2,.box 2 0),(3,.box 3 0),(10,.d (.slice (Bj e.kids))),(11,A7 e.kids.length),(12,A7 j)]) (λj _=>[(1,.cells [.d (.int .i64 3),.d (.str e.name),.d (.str e.type.name),.d (.slice (Ag e.type.args)),.d (.int .i64 e.type.pos),.d (.slice (Ag e.targs)),.d (.slice (Bj e.kids)),.d (.int .i64 e.pos)]),(2,.cells [.d (.int .i64 0),.d (.str []),.d (.str []),.d .nil,.d (.int .i64 0),.d .nil,.d .nil,.d (.int .i64 0)]),(3,.cells [.d (.int .i64 3),.d (.str e.name),.d (.str e.type.name),.d (.slice (Ag e.type.args)),.d (.int .i64 e.type.pos),.d (.slice (Ag e.targs)),.acc 67,.d (.int .i64 e.pos)]),(67,.rows 8 (Bj ((e.kids.take j).map (Gg mt W))))]) (λj _=>True) () trivial sS (by simp[ble,A8,C5,I0]) ?_ ?_)
  rotate_left
  .intro j _ d hd E dp tk J _;have V:=ih d E (hs.kids.2 d E) (U.kids d E);rw[tk];refine Ap J Dp ?_;refine A0.Ha rfl<|sK λI u2=>A0.bb ?_
   (refine sV Dp λK z=>?_;refine ci (Ck hd) ?_;apply z;clear z K)
   (refine lG Dp [] 5 [] λK z=>?_;refine ev ?_;refine cc V ?_;refine⟨by simp,by simp only[Bc,D0];unfold lim sm at*;omega,?_⟩;(try refine ev ?_);apply z;clear z K;try simp only[A5,A9,Ac])
   refine u2 _ _ ?_;clear u2 I
   (refine lV Dp λK z=>?_;refine cl ?_;apply z;clear z K;try simp only[A5,A9,Ac])
   exact⟨(),trivial,sS,by simp[ble,A8,I0,Bp]⟩
  intro _ _;rw[Cx];refine Ap B6 Dp ?_;refine A0.stop rfl ?_;simp only[A5,A9,Ac];refine u1 _ _ ?_;clear u1 O;refine kR Dp λO u1=>A0.bb ?_;refine kR Dp λI u2=>?_;refine A0.tt rfl (A0.kk (u2 _ _ ?_));clear u2 I;refine A0.tt rfl ?_
  (refine lV Dp λK z=>?_;refine cc hp ?_;apply z;clear z K;try simp only[A5,A9,Ac])
  refine u1 _ _<|sR Dp ?_;exact aR
 by_cases k5:e.kind=5
 .have Z:Bg e=.agg [.d (.int .i64 5),.d (.str e.name),.d (.str e.type.name),.d (.slice (Ag e.type.args)),.d (.int .i64 e.type.pos),.d (.slice (Ag e.targs)),.d (.slice (Bj e.kids)),.d (.int .i64 e.pos)]:=by rw[<-k5]
  have hp:=U.plain (.inr k5);rw[A6 (.inr k5),k5];rw[Z]at L |-;refine cB func25 ?_;refine sR Dp ?_;refine sC L Dp ?_;refine sR Dp ?_;refine A0.Nz 67 8 3 6 rfl rfl (by decide)<|kR Dp λO u1=>?_;refine A0.bb (A0.ii e.kids (X:=Unit) (λj _=>[(1,.box 1 0),(2,.box 2 0),(3,.box 3 0),(10,.d (.slice (Bj e.kids))),(11,A7 e.kids.length),(12,A7 j)]) (λj _=>[(1,.cells [.d (.int .i64 5),.d (.str e.name),.d (.str e.type.name),.d (.slice (Ag e.type.args)),.d (.int .i64 e.type.pos),.d (.slice (Ag e.targs)),.d (.slice (Bj e.kids)),.d (.int .i64 e.pos)]),(2,.cells [.d (.int .i64 0),.d (.str []),.d (.str []),.d .nil,.d (.int .i64 0),.d .nil,.d .nil,.d (.int .i64 0)]),(3,.cells [.d (.int .i64 5),.d (.str e.name),.d (.str e.type.name),.d (.slice (Ag e.type.args)),.d (.int .i64 e.type.pos),.d (.slice (Ag e.targs)),.acc 67,.d (.int .i64 e.pos)]),(67,.rows 8 (Bj ((e.kids.take j).map (Gg mt W))))]) (λj _=>True) () trivial sS (by simp[ble,A8,C5,I0]) ?_ ?_)
  rotate_left
  .intro j _ d hd E dp tk J _;have V:=ih d E (hs.kids.2 d E) (U.kids d E);rw[tk];refine Ap J Dp ?_;refine A0.Ha rfl<|sK λI u2=>A0.bb ?_
   (refine sV Dp λK z=>?_;refine ci (Ck hd) ?_;apply z;clear z K)
   (refine lG Dp [] 5 [] λK z=>?_;refine ev ?_;refine cc V ?_;refine⟨by simp,by simp only[Bc,D0];unfold lim sm at*;omega,?_⟩;(try refine ev ?_);apply z;clear z K;try simp only[A5,A9,Ac])
   refine u2 _ _ ?_;clear u2 I
   (refine lV Dp λK z=>?_;refine cl ?_;apply z;clear z K;try simp only[A5,A9,Ac])
   exact⟨(),trivial,sS,by simp[ble,A8,I0,Bp]⟩
  intro _ _;rw[Cx];refine Ap B6 Dp ?_;refine A0.stop rfl ?_;simp only[A5,A9,Ac];refine u1 _ _ ?_;clear u1 O;refine kR Dp λO u1=>A0.bb ?_;refine kR Dp λI u2=>?_;refine A0.ff rfl ?_
  (refine lV Dp λK z=>?_;apply z;clear z K;try simp only[A5,A9,Ac])
  refine u2 _ _ ?_;clear u2 I;refine A0.tt rfl ?_
  (refine lV Dp λK z=>?_;refine cc hp ?_;apply z;clear z K;try simp only[A5,A9,Ac])
  refine u1 _ _<|sR Dp ?_;exact aR
 rw[A3 (by omega)];by_cases k2:e.kind=2
 .have Z:Bg e=.agg [.d (.int .i64 2),.d (.str e.name),.d (.str e.type.name),.d (.slice (Ag e.type.args)),.d (.int .i64 e.type.pos),.d (.slice (Ag e.targs)),.d (.slice (Bj e.kids)),.d (.int .i64 e.pos)]:=by rw[<-k2]
  have hp:=U.Iw k2;rw[A6 k2,k2];rw[Z]at L |-;refine cB func25 ?_;refine sR Dp ?_;refine sC L Dp ?_;refine sR Dp ?_;refine A0.Nz 67 8 3 6 rfl rfl (by decide)<|kR Dp λO u1=>?_;refine A0.bb (A0.ii e.kids (X:=Unit) (λj _=>[(1,.box 1 0),(2,.box 2 0),(3,.box 3 0),(10,.d (.slice (Bj e.kids))),(11,A7 e.kids.length),(12,A7 j)]) (λj _=>[(1,.cells [.d (.int .i64 2),.d (.str e.name),.d (.str e.type.name),.d (.slice (Ag e.type.args)),.d (.int .i64 e.type.pos),.d (.slice (Ag e.targs)),.d (.slice (Bj e.kids)),.d (.int .i64 e.pos)]),(2,.cells [.d (.int .i64 0),.d (.str []),.d (.str []),.d .nil,.d (.int .i64 0),.d .nil,.d .nil,.d (.int .i64 0)]),(3,.cells [.d (.int .i64 2),.d (.str e.name),.d (.str e.type.name),.d (.slice (Ag e.type.args)),.d (.int .i64 e.type.pos),.d (.slice (Ag e.targs)),.acc 67,.d (.int .i64 e.pos)]),(67,.rows 8 (Bj ((e.kids.take j).map (Gg mt W))))]) (λj _=>True) () trivial sS (by simp[ble,A8,C5,I0]) ?_ ?_)
  rotate_left
  .intro j _ d hd E dp tk J _;have V:=ih d E (hs.kids.2 d E) (U.kids d E);rw[tk];refine Ap J Dp ?_;refine A0.Ha rfl<|sK λI u2=>A0.bb ?_
   (refine sV Dp λK z=>?_;refine ci (Ck hd) ?_;apply z;clear z K)
   (refine lG Dp [] 5 [] λK z=>?_;refine ev ?_;refine cc V ?_;refine⟨by simp,by simp only[Bc,D0];unfold lim sm at*;omega,?_⟩;(try refine ev ?_);apply z;clear z K;try simp only[A5,A9,Ac])
   refine u2 _ _ ?_;clear u2 I
   (refine lV Dp λK z=>?_;refine cl ?_;apply z;clear z K;try simp only[A5,A9,Ac])
   exact⟨(),trivial,sS,by simp[ble,A8,I0,Bp]⟩
  intro _ _;rw[Cx];refine Ap B6 Dp ?_;refine A0.stop rfl ?_;simp only[A5,A9,Ac];refine u1 _ _ ?_;clear u1 O;refine kR Dp λO u1=>A0.bb ?_;refine kR Dp λI u2=>?_;refine A0.ff rfl ?_
  (refine lV Dp λK z=>?_;apply z;clear z K;try simp only[A5,A9,Ac])
  refine u2 _ _ ?_;clear u2 I;refine A0.ff rfl<|sR Dp ?_;refine A0.tt rfl ?_
  (refine lV Dp λK z=>?_;refine cc hp ?_;apply z;clear z K;try simp only[A5,A9,Ac])
  refine u1 _ _<|sR Dp ?_;exact aR
 rw[A3 k2];refine cB func25 ?_;refine sR Dp ?_;refine sC L Dp ?_;refine sR Dp ?_;refine A0.Nz 67 8 3 6 rfl rfl (by decide)<|kR Dp λO u1=>?_;refine A0.bb (A0.ii e.kids (X:=Unit) (λj _=>[(1,.box 1 0),(2,.box 2 0),(3,.box 3 0),(10,.d (.slice (Bj e.kids))),(11,A7 e.kids.length),(12,A7 j)]) (λj _=>[(1,.cells [.d (.int .i64 e.kind),.d (.str e.name),.d (.str e.type.name),.d (.slice (Ag e.type.args)),.d (.int .i64 e.type.pos),.d (.slice (Ag e.targs)),.d (.slice (Bj e.kids)),.d (.int .i64 e.pos)]),(2,.cells [.d (.int .i64 0),.d (.str []),.d (.str []),.d .nil,.d (.int .i64 0),.d .nil,.d .nil,.d (.int .i64 0)]),(3,.cells [.d (.int .i64 e.kind),.d (.str e.name),.d (.str e.type.name),.d (.slice (Ag e.type.args)),.d (.int .i64 e.type.pos),.d (.slice (Ag e.targs)),.acc 67,.d (.int .i64 e.pos)]),(67,.rows 8 (Bj ((e.kids.take j).map (Gg mt W))))]) (λj _=>True) () trivial sS (by simp[ble,A8,C5,I0]) ?_ ?_)
 rotate_left
 .intro j _ d hd E dp tk J _;have V:=ih d E (hs.kids.2 d E) (U.kids d E);rw[tk];refine Ap J Dp ?_;refine A0.Ha rfl<|sK λI u2=>A0.bb ?_
  (refine sV Dp λK z=>?_;refine ci (Ck hd) ?_;apply z;clear z K)
  (refine lG Dp [] 5 [] λK z=>?_;refine ev ?_;refine cc V ?_;refine⟨by simp,by simp only[Bc,D0];unfold lim sm at*;omega,?_⟩;(try refine ev ?_);apply z;clear z K;try simp only[A5,A9,Ac])
  refine u2 _ _ ?_;clear u2 I
  (refine lV Dp λK z=>?_;refine cl ?_;apply z;clear z K;try simp only[A5,A9,Ac])
  exact⟨(),trivial,sS,by simp[ble,A8,I0,Bp]⟩
 intro _ _;rw[Cx];refine Ap B6 Dp ?_;refine A0.stop rfl ?_;simp only[A5,A9,Ac];refine u1 _ _ ?_;clear u1 O;refine kR Dp λO u1=>A0.bb ?_;refine Ae k3 Dp λI u2=>?_;refine A0.ff rfl ?_
 (refine lQ Dp λK z=>?_;refine Ah k5 ?_;apply z;clear z K;try simp only[A5,A9,Ac])
 refine u2 _ _ ?_;clear u2 I;refine A0.ff rfl<|Ap k2 Dp ?_;refine A0.ff rfl (A0.kk (u1 _ _ ?_));refine sR Dp ?_;exact aR
abbrev B1n:List Nat:=[0,1,2,3,8,9,10,11,12,14,15,22,28,36,51,52,53,54,77,78,79]
def G8v(s:A2)(hs:s.length<=sm)(h:Lib.countByte s 95=0):Ab prog 197 [B4 s,B4 [95],B4 [95,95],A7 (-1)] (B4 s):=by
 have J:Ab prog 224 [B4 s,B4 [95]] (A7 0):=by have:=F6z s 95 hs;rw[h]at this;exact this
 have E:¬([95]:A2)=[95,95]:=by decide
 refine cB func197 ?_;refine sR B1n ?_;refine Ae E B1n λI u1=>?_;refine kI u1 ?_;clear u1 I;refine kC J B1n λI u1=>?_;refine sR B1n ?_;refine A0.tt rfl<|sR B1n ?_;exact aR
def E8d(s:A2)(hs:s.length<=sm)(h:Lib.countByte s 95=0):Ab prog 125 [B4 s] (B4 s):=by
 have hr:=G8v s hs h;have E:Ab prog 167 [B4 s,B4 [95],B4 [95,95]] (B4 s):=by refine cB func167 ?_;refine sR [0,1,2,6] ?_;refine sC hr [0,1,2,6] ?_;exact aR
 refine cB func125 ?_;refine sR [0,2] ?_;refine sC E [0,2] ?_;exact aR
def F1q:Ab prog 126 [.d (.slice (Ag []))] (B4 []):=by refine cB func126 ?_;refine sR [0,2,3,5,8,9,10,11,12] ?_;refine kR [0,2,3,5,8,9,10,11,12] λE u1=>?_;refine tI ?_;refine sR [0,2,3,5,8,9,10,11,12] ?_;exact aR
structure C8t(n:A2):Prop where
 len:n.length<=sm
 noD:Lib.hasPrefix n [36]=false
 noN:B4t n=true
 noU:Lib.countByte n 95=0
def E8m(n:A2)(q:Int)(h:C8t n):Ab prog 124 [Be (.mk n [] q)] (B4 n):=by
 have O:=h.len;have E:=D4i n (by have:=h.len;omega) h.noD h.noN;have J:=E8d n h.len h.noU;have I:=F1q;refine cB func124 ?_;refine sR [0,1,2,3,4,17] ?_;refine kC E [0,1,2,3,4,17] λL u1=>?_;refine sR [0,1,2,3,4,17] ?_;refine kI u1 ?_;clear u1 L;refine sG [0,1,2,3,4,17] [] 5 [] λK z=>?_;refine ev ?_;refine cc J ?_;refine cc I ?_;refine⟨(by(try simp only[As,Ar,Az]);unfold lim sm at*;omega),?_⟩;(try refine ev ?_);apply z;clear z K;try rw[Gy]
 exact aR
def D2p(n:A2)(q:Int)(h:C8t n):Ab prog 66 [Be (.mk n [] q)] (Be (.mk n [] q)):=by have E:=E8m n q h;refine cB func66 ?_;refine sR [0,1,2] ?_;refine sG [0,1,2] [] 4 [] λK z=>?_;refine ev ?_;refine cc E ?_;apply z;clear z K;exact aR
def Ws(v:List A2)(a:List Ty)(e:Ex):e.subst v a=.mk e.kind e.name (e.type.subst v a) (e.targs.map (Ty.subst v a)) (e.kids.map (Ex.subst v a)) e.pos:=by unfold Ex.subst;rw[A0d];cases e;rfl
def G2m(names:List A2)(vals:List Ex)(e:Ex):e.Eo names vals=R6 names vals (e.Hz (e.kids.map (Ex.Eo names vals))):=by unfold Ex.Eo;rw[A0d]
def Ex.Ft.of(E:e.kind=1\/e.kind=2\/e.kind=3\/e.kind=4\/e.kind=5)(J:e.kind=2\/e.kind=4\/e.kind=5->e.kids≠[])(L:e.kind=5->e.name=[])(I:∀x,x∈e.kids->x.Ft):e.Ft:=by cases e with|mk k n t a ks q=>exact .mk k n t a ks q E J L I
def Ex.Ft.C9y(h:e.Ft):e.kind=2\/e.kind=4\/e.kind=5->e.kids≠[]:=λI J=>by obtain⟨v,E⟩:=h.some I;rw[J]at E;cases E
def Ex.D0c:∀e:Ex,e.right=true->e.Ft:=by
 intro e;induction e using Ex.induct with|_ e Z=>?_;intro h;rw[Ex.A1a,Bi,Bi]at h;have E:e.Mi=true:=by have:=h.2.2;unfold Ex.T6 at this;split at this <;> (simp only[Bi]at this;exact this.2)
 have hn:e.kind=5->e.name=[]:=λW=>by
  have:=h.2.2;have ht:e.typed=true:=by unfold Ex.typed;rw[W];rfl
  unfold Ex.T6 at this;rw[A6 ht]at this;simp only[Bi,E4]at this;exact this.1.2
 refine .of ?_ (λh2 V=>?_) hn λx J=>Z x J (A7q h.1 x J);unfold Ex.Mi at E;by_cases U:e.kind=1;exact .inl U;by_cases I:e.kind=2;exact .inr (.inl I);by_cases L:e.kind=3;exact .inr (.inr (.inl L));rw[A3 U,A3 I,A3 L]at E;by_cases O:e.kind=4\/e.kind=5;exact .inr (.inr (.inr O));rw[A3 O]at E;cases E
 .unfold Ex.Mi at E;have hl:e.kids.length=0:=by rw[V];rfl
  by_cases I:e.kind=2;rw[A3 (by omega),A6 I,E4]at E;omega;rw[A3 (by omega),A3 I,A3 (by omega),A6 (by omega),E4]at E;omega
def Ex.Ft.subst(v:List A2)(a:List Ty):∀{e:Ex},e.Ft->(e.subst v a).Ft:=by intro e;induction e using Ex.induct with|_ e L=>?_;intro h;rw[Ws];refine .mk _ _ _ _ _ _ h.kind (λJ O=>h.C9y J (Ar3.1 O)) h.name λx I=>?_;obtain⟨y,E,rfl⟩:=Au.1 I;exact L y E (h.kids y E)
def Ex.Ft.Eo{names:List A2}{vals:List Ex}(J:∀x,x∈vals->x.Ft):∀{e:Ex},e.Ft->(e.Eo names vals).Ft:=by
 intro e;induction e using Ex.induct with|_ e U=>?_;intro h;rw[G2m];have E:(e.Hz (e.kids.map (Ex.Eo names vals))).Ft:=.mk _ _ _ _ _ _ h.kind (λE V=>h.C9y E (Ar3.1 V)) h.name λx L=>by obtain⟨y,I,rfl⟩:=Au.1 L;exact U y I (h.kids y I)
 unfold R6;split
 .cases O:vals[(Cb (e.Hz (e.kids.map (Ex.Eo names vals))).name names 0).toNat]? with
  |none=>exact E
  |some u=>exact J u (Bm O)
 exact E
def E9i{p:Prog}(hr:p.right=true):∀d,d∈p.decls->d.kind=3->d.body.Ft:=λd hd E=>by unfold Prog.right at hr;simp only[Bi,Dr]at hr;have:=hr.1 d hd;unfold Decl.right Decl.Uc at this;rw[A6 E]at this;simp only[Bi]at this;exact Ex.D0c _ this.2.2.2.2.2.2.2.2
def F3j{p:Prog}(hr:p.right=true):p.main.Ft:=by unfold Prog.right at hr;simp only[Bi]at hr;exact Ex.D0c _ hr.2
mutual
theorem Ty.A1f:∀(t:Ty)(k:Int),t.count k<=2000->(t.Da:Int)<=60*(t.count k - k)
 |.mk n a p,k,h=>by simp only[Ty.count]at h |-;have J:=Ty.C1n a (k+1+((n.length / 50:Nat):Int)) h;rw[Ty.Da];omega
theorem Ty.C1n:∀(l:List Ty)(k:Int),Ty.Cf l k<=2000->(Ty.Bu l:Int)<=60*(Ty.Cf l k - k)
 |[],k,_=>by simp[Ty.Cf,Ty.Bu]
 |t::E,k,h=>by
  simp only[Ty.Cf]at h |-;split at h
  rename_i I;rw[A6 I];have L:=Ty.L1 E (t.count k);have J:=Ty.C1n E (t.count k) h;have O:=Ty.A1f t k (by omega);rw[Ty.Bu];omega;omega
end
mutual
theorem Ex.B3u:∀(e:Ex)(k:Int),e.count k<=2000->(e.M7:Int)<=120*(e.count k - k)
 |.mk U n t a ks p,k,h=>by simp only[Ex.count]at h |-;have I:=Ty.F7 t (k+((n.length / 50:Nat):Int));have O:=Ty.L1 a (t.count (k+((n.length / 50:Nat):Int)));have J:=Ex.L1 ks (Ty.Cf a (t.count (k+((n.length / 50:Nat):Int))));have W:=Ty.A1f t (k+((n.length / 50:Nat):Int)) (by omega);have V:=Ty.C1n a (t.count (k+((n.length / 50:Nat):Int))) (by omega);have Z:=Ex.D9e ks (Ty.Cf a (t.count (k+((n.length / 50:Nat):Int)))) h;rw[Ex.M7];omega
theorem Ex.D9e:∀(l:List Ex)(k:Int),Ex.Cf l k<=2000->(Ex.N3 l:Int)<=120*(Ex.Cf l k - k)
 |[],k,_=>by simp[Ex.Cf,Ex.N3]
 |t::E,k,h=>by
  simp only[Ex.Cf]at h |-;split at h
  rename_i L;rw[A6 L];have I:=Ex.L1 E (t.count k);have O:=Ex.D9e E (t.count k) h;have J:=Ex.B3u t k (by omega);rw[Ex.N3];omega;omega
end
end Go.Abs
