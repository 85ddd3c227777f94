import Derived.Shelf.SlSortCmp.KitK
import Derived.Shelf.RegionOpenPlain
import Derived.Test.YtoajimpjknbnoaaGreatDoorKW18
import Derived.Test.YtoajimpjknbnoaaGreatDoorKT07
set_option linter.all false
set_option maxHeartbeats 4000000
set_option maxRecDepth 100000
namespace Go.iA
open Go Go.Proofs Go.Sort Go.RowKit Go.Lib Tryz
section
variable {α:Type} [Inhabited α]
def JD(e:α->α->Bool)(d:Array α)(j:Nat):Bool:=decide (j=0) || !e d[j]! d[j - 1]!
def Y4(e:α->α->Bool)(d:Array α)(m:Nat):List α:=((List.range m).filter (JD e d)).map (d[·]!)
variable {e:α->α->Bool} {d dk:Array α} {m k:Nat}
theorem uK(e:α->α->Bool)(d:Array α)(m:Nat):Y4 e d (m+1)=Y4 e d m++(if JD e d m=true then[d[m]!]else[]):=by
 unfold Y4;rw[List.range_succ,mN,Gy]
 congr 1
 by_cases h:JD e d m=true <;> simp[h]
theorem GV(h:∀j,j<m->JD e d j=true):Y4 e d m=(List.range m).map (d[·]!):=by unfold Y4;rw[List.filter_eq_self.2 λj E=>h j (wJ.1 E)]
structure OF(e:α->α->Bool)(d:Array α)(m k:Nat)(dk:Array α):Prop where
 size:dk.size=d.size
 len:(Y4 e d m).length=k
 lt:k<m
 low:∀j,j<k->(Y4 e d m)[j]?=some dk[j]!
 high:∀j,k<=j->dk[j]! =d[j]!
theorem qp(dk:Array α)(k j:Nat)(x:α)(E:k<dk.size):(dk.setIfInBounds k x)[j]! =if j=k then x else dk[j]!:=by simp only[getElem!_def,Array.getElem?_setIfInBounds];by_cases h:j=k;subst h;simp[E];simp[h,Zy h]
theorem OF.start(E:∀j,j<k->JD e d j=true)(hd:JD e d k=false):OF e d (k+1) k d where
 size:=rfl
 len:=by rw[uK,hd,GV E];simp
 lt:=Nat.lt_succ_self _
 low:=λj I=>by rw[uK,hd,GV E];simp[I]
 high:=λ_ _=>rfl
theorem OF.Xi(h:OF e d m k dk)(V:m<d.size)(I:JD e d m=true):OF e d (m+1) (k+1) (dk.setIfInBounds k d[m]!) where
 size:=by simp[h.size]
 len:=by rw[uK,I];simp[h.len]
 lt:=by have:=h.lt;omega
 low:=λj J=>by
  have U:=h.len;have L:=h.lt;have O:=h.size;rw[uK,I,A7 rfl,qp _ _ _ _ (by omega)];by_cases E:j=k
  .subst E;rw[Lq (by omega),U,iR,A7 rfl];rfl
  .rw[Mm (by omega),h.low j (by omega),A5 E]
 high:=λj J=>by have L:=h.lt;have O:=h.size;rw[qp _ _ _ _ (by omega),A5 (by omega),h.high j (by omega)]
theorem OF.skip(h:OF e d m k dk)(E:JD e d m=false):OF e d (m+1) k dk where
 size:=h.size
 len:=by rw[uK,E];simp[h.len]
 lt:=by have:=h.lt;omega
 low:=λj I=>by rw[uK,E];simpa using h.low j I
 high:=h.high
end
section
variable {enc:Nat->List Value} {z:Nat}
end
section
variable {P:Program}
def aZ(P:Program)(f:FuncId)(enc:Nat->List Value)(z:Nat)(e:Nat->Nat->Bool)(E off size:Nat)(w:World):Prop :=∀(m:Nat) (os:Array Obj) (dk:Array Nat),dk.size=size->∀x y,Calls P f #[.agg (enc x).toArray,.agg (enc y).toArray] (sortWorldK enc z w E off m dk os) λev w'=>ev=.returned (.bool (e x y))/\∃q I,w'=grow ((sortWorldK enc z w E off m dk os).drewN q) I
theorem aZ.at{f:FuncId}{enc:Nat->List Value}{z:Nat}{e:Nat->Nat->Bool}{E off size:Nat}{w L:World}{dk:Array Nat}(h:aZ P f enc z e E off size w)(U:SWK enc z w E off dk L)(hs:dk.size=size)(x y n:Nat)(os:Array Obj) :Calls P f #[.agg (enc x).toArray,.agg (enc y).toArray] (grow (L.drewN n) os) λev w'=>ev=.returned (.bool (e x y))/\∃q I,w'=grow ((grow (L.drewN n) os).drewN q) I:=by obtain⟨O,J,V⟩:=U.grown n os;rw[V];exact h O J dk hs x y
def qj(enc:Nat->List Value)(z:Nat)(e:Nat->Nat->Bool)(E off cap:Nat)(d:Array Nat)(w:World)(ev:Ending)(w':World):Prop :=ev=.returned (.slice (some ⟨E,off,none⟩) (Y4 e d d.size).length cap)/\∃dk,dk.size=d.size/\(∀j,j<(Y4 e d d.size).length->(Y4 e d d.size)[j]?=some dk[j]!)/\SWK enc z w E off dk w'
theorem qj.all{enc:Nat->List Value}{z:Nat}{e:Nat->Nat->Bool}{E off cap:Nat}{d:Array Nat}{w w':World}(h:∀j,j<d.size->JD e d j=true)(O:SWK enc z w E off d w'):qj enc z e E off cap d w (.returned (.slice (some ⟨E,off,none⟩) d.size cap)) w':=by
 have I:=GV h;have L:(Y4 e d d.size).length=d.size:=by rw[I];simp
 refine⟨by rw[L],d,rfl,λj J=>?_,O⟩;rw[L]at J;rw[I];simp[J]
end
theorem E4.take{S:Nat->Prop}{w:World}{β:Names}{i:BI}{sz:Nat}{rs:List (List D)}(h:E4 S w β i (.rows sz rs))(n:Nat)(hn:n<=rs.length):E4 S w β { i with len:=n } (.rows sz (rs.take n)):=by
 obtain⟨J,q2,q3,q4,V,Z,E⟩:=h;refine⟨J,by simp only[Dh];omega,by simp only;omega,by simp only[Dh];omega,λrow hr=>V row (Kv hr),λrow hr=>Z row (Kv hr),?_⟩;cases I:i.base with
 |none=>rw[I]at E;exact E
 |some b =>rw[I]at E;obtain⟨ty,vs,W,O,U⟩:=E;exact⟨ty,vs,W,O,λr j row d v hr hd L=>U r j row d v (by rw[tE]at hr;split at hr;exact hr;cases hr) hd L⟩
end Go.iA
namespace Go.iA
open Go Go.Proofs Tryz
def Lg(p:Prog)(cs:List Be)(x:Ty):List Be:=(cs.filter λc=>Cr p [] x c.on).map λc=>⟨x,c.name,c.targs⟩
theorem oP(p:Prog)(cs:List Be)(x:Ty):(Lg p cs x).length<=cs.length:=by unfold Lg;rw[B7];exact tN _ _
theorem G2x{p:Prog}{cs:List Be}{x:Ty}(I:x.Sm)(E:∀c,c∈cs->c.Sm):∀c,c∈Lg p cs x->c.Sm:=λc h=>by obtain⟨d,hd,rfl⟩:=Ap.1 h;have:=E d (Kp.1 hd).1;exact⟨I,this.name,this.targs⟩
abbrev F8t:Ax:=.cells [.d .nil,.d .nil,.d (.bool false)]
def Y3(p:Prog)(cs:List Be)(x:Ty):Ao:=(Lg p cs x).foldl Hi ⟨[],[],false⟩
def Vx:Option Ao->Ao
 |none=>⟨[],[],false⟩
 |some o=>o
def bxZ:Option Ao->Ax
 |none=>F8t
 |some o=>.cells (K9 o)
theorem Oc:∀(l:List Be) {s:Ao},s.Sm->(∀c,c∈l->c.Sm)->(l.foldl Hi s).Sm
 |[],_,hs,_=>hs
 |c::l,_,hs,h=>Oc l (oS hs (h c (by simp))) λd hd=>h d (by simp[hd])
abbrev U0:=[0,1,2,3,4,5,6,7,8,14,25]
theorem H7s(p:Prog)(h:p.Sm)(s:Ao)(hs:s.Sm)(x:Ty)(hx:x.Sm):Ab Tryz.prog 60 [Cs p,Ks s,Ba x] (.d (.slice (Nt (Y3 p s.calls x).calls))):=by
 have a2:=hs.calls.1;unfold Y3;generalize hR:(Lg p s.calls x).foldl Hi ⟨[],[],false⟩=R;refine cB func60 ?_;refine sR U0 ?_;refine sR U0 ?_;refine kR U0 λK1 u1=>?_;refine bA (A0.ii s.calls (X:=Option Ao) (λj o=>[(3,.box 3 0),(4,.box 4 0),(5,.box 5 0),(7,.box 7 0),(8,A6 j)]) (λj o=>[(3,.cells ((Ah p).map .d)),(4,.cells (K9 s)),(5,.cells (Pt x)),(7,bxZ o)]) (λj o=>(Lg p (s.calls.drop j) x).foldl Hi (Vx o)=R/\(Vx o).Sm) none ⟨hR,⟨by simp[Vx],by simp[Vx]⟩,⟨by simp[Vx],by simp[Vx]⟩⟩ sS (by simp[ble,A9,Ah,bxZ]) ?_ ?_)
 rotate_left
 .intro j o c J W dp tk a0 I;obtain⟨I,ho⟩:=I;have hc:=hs.calls.2 c W;have L:=nJ p h [] (by simp) (by simp) x c.on hx hc.on;simp only[show Ai ([]:List Aj)=[] from rfl]at L;have V:Be.Sm ⟨x,c.name,c.targs⟩:=⟨hx,hc.name,hc.targs⟩;have E:=oe (Vx o) ho ⟨x,c.name,c.targs⟩ V;have U:=oS ho V;rw[dp]at I;unfold Lg at I;rw[jN]at I;refine Dq a0 @Eb U0 λO u2=>?_;refine gI u2 ?_;refine sK λO u2=>bA ?_;cases Z:Cr p [] x c.on with
  |false =>
   rw[Z]at L;rw[Z,A5 (by simp)]at I;refine sG U0 [] 8 [] λK z=>?_;refine ev ?_;refine C0 @Fp.eq_1 (Jw J) ?_;refine cc L ?_;apply z;refine dA rfl (cA (u2 _ _ ?_));refine lT U0 ?_;exact⟨o,⟨I,ho⟩,sS,by simp[ble,A9,Ah]⟩
  |true =>
   rw[Z]at L;rw[Z,A7 rfl,Cj,Mt]at I;generalize a1:Hi (Vx o) ⟨x,c.name,c.targs⟩=o2 at*
   (refine sG U0 [] 8 [] λK z=>?_;refine ev ?_;refine C0 @Fp.eq_1 (Jw J) ?_;refine cc L ?_;apply z)
   refine eA rfl ?_;cases o with
   |none =>
    simp only[Vx,bxZ]at E |-;have E:Ab Tryz.prog 47 [.agg [.d (.slice []),.d (.slice []),.d (.bool false)],caV ⟨x,c.name,c.targs⟩] (Ks o2):=E
    (refine lG U0 [] 15 [] λK z=>?_;refine ev ?_;refine C0 @Fp.eq_1 (Jw J) ?_;refine C0 @Fp.eq_1 (Jw J) ?_;refine cc E ?_;apply z;try simp only[Aa,Af]);apply u2;refine lT U0 ?_;exact⟨some o2,⟨I,U⟩,sS,by simp[ble,A9,Ah,bxZ]⟩
   |some o =>
    simp only[Vx,bxZ]at E |-
    (refine lG U0 [] 15 [] λK z=>?_;refine ev ?_;refine C0 @Fp.eq_1 (Jw J) ?_;refine C0 @Fp.eq_1 (Jw J) ?_;refine cc E ?_;apply z;try simp only[Aa,Af]);apply u2;refine lT U0 ?_;exact⟨some o2,⟨I,U⟩,sS,by simp[ble,A9,Ah,bxZ]⟩
 intro o I;obtain⟨I,_⟩:=I;rw[Dk]at I;simp only[Lg,iN,G5,Xq]at I;subst I;refine Dq B1 @Eb U0 λO u2=>?_;refine sE ?_;apply u1;cases o with
 |none =>simp only[Vx,bxZ];refine sR U0 ?_;exact aR
 |some o =>simp only[Vx,bxZ];refine sR U0 ?_;exact aR
end Go.iA
namespace Go.iA
open Go
theorem yc{a b c:Be}(h:E8 a b<0)(k:E8 b c<=0):E8 a c<0:=(JS a b c).1 h k
theorem oy{a b c:Be}(h:E8 a b=0)(k:E8 b c=0):E8 a c=0:=(JS a b c).2.2 h k
theorem G5e{a b:Be}(h:E8 a b=0):E8 b a=0:=by rw[rO,h];rfl
def U8(l:List Be):Prop:=l.Pairwise λa b=>E8 a b<0
def H5n(l m:List Be):Prop:=∀c,c∈l->∃d,d∈m/\E8 c d=0
theorem AZ(x:Be):∀(l out:List Be),(∀t,t∈l->E8 x t<0)->Gj E8 x l true out=some (out++l)
 |[],out,_=>by rw[Gj];simp
 |t::l,out,h=>by have E:=h t (by simp);rw[Gj,A5 (by omega),A5 (by simp),AZ x l _ λu I=>h u (by grind)];simp
theorem sY(x:Be):∀(l out:List Be),U8 l->(Gj E8 x l false out=none/\∃t,t∈l/\E8 x t=0)\/∃R,Gj E8 x l false out=some (out++R)/\U8 R/\∀t,t∈R↔t=x\/t∈l
 |[],out,_=>.inr ⟨[x],by rfl,by simp[U8],by simp⟩
 |t::l,out,hs=>by have I:=Tm.1 hs;rw[Gj];by_cases L:E8 x t=0;grind;rw[A5 L];by_cases E:E8 x t<0;rw[A7 ⟨E,rfl⟩,AZ x l _ λu hu=>yc E (by grind)];refine .inr ⟨x::t::l,by simp,?_,by simp⟩;exact Tm.2 ⟨λu hu=>by rcases Ay.1 hu with rfl|hu;exact E;exact yc E (by grind),hs⟩;rw[A5 λh=>E h.1];rcases sY x l (out++[t]) I.2 with⟨e,u,hu,h⟩|⟨R,e,J,O⟩;grind;refine .inr ⟨t::R,by grind,Tm.2 ⟨λu hu=>?_,J⟩,λu=>?_⟩;grind[rO];grind
theorem G7r(l:List Be)(x:Be)(hs:U8 l):U8 (Je E8 l x)/\(∀t,t∈Je E8 l x->t=x\/t∈l)/\(∀t,t∈l->t∈Je E8 l x)/\∃t,t∈Je E8 l x/\E8 x t=0:=by unfold Je;rcases sY x l [] hs with⟨e,u,J,h⟩|⟨R,e,I,E⟩;grind;rw[e];simp;exact⟨I,λt ht=>(E t).1 ht,λt ht=>(E t).2 (.inr ht),x,(E x).2 (.inl rfl),wX x⟩
theorem XM:∀(l:List Be)(s:Ao),U8 s.calls->s.calls.length+l.length<=101->U8 (l.foldl Hi s).calls/\(∀t,t∈(l.foldl Hi s).calls->t∈l\/t∈s.calls)/\(∀t,t∈s.calls->t∈(l.foldl Hi s).calls)/\H5n l (l.foldl Hi s).calls
 |[],s,hs,_=>⟨hs,λt ht=>.inr ht,λt ht=>ht,λc hc=>by grind⟩
 |x::l,s,hs,L=>by
  simp at L;obtain⟨V,O,I,t0,J,U⟩:=G7r s.calls x hs;have hp:(Hi s x).calls=Je E8 s.calls x:=by unfold Hi;rw[A5 (by omega)]
  have E:=(NG (cmp:=E8) (x:=x) s.calls).1;obtain⟨k1,k2,k3,k4⟩:=XM l (Hi s x) (by grind) (by grind);rw[hp]at k2 k3;rw[Mt];refine⟨k1,λt ht=>?_,λt ht=>k3 t (I t ht),λc hc=>?_⟩;grind;rcases Ay.1 hc with rfl|hc;grind;exact k4 c hc
theorem GO(t:Ty):t.er.mg=t.mg:=by
 induction t using Ty.induct with
 |h t E =>
 rw[FA t.er,FA t,RJ,fO];have I:(t.args.map Ty.er=[])↔t.args=[]:=by simp
 grind[Ki,List.map_congr_left]
theorem Vp{t u:Ty}(h:t.er=u.er):t.mg=u.mg:=by grind[GO]
theorem XU{a b:Be}(h:E8 a b=0):a.on.er=b.on.er/\a.name=b.name/\a.targs.map Ty.er=b.targs.map Ty.er:=by rw[PJ]at h;by_cases E:Er a.on b.on=0;by_cases I:Bw a.name b.name=0;rw[A5 (by omega),A5 (by omega)]at h;have:=(U5 _ _).1 h;rw[Gv,Gv]at this;refine⟨(U5 _ _).1 E,To.1 I,?_⟩;injection this;omega;omega
theorem YY{l m:List Ty}(h:l.map Ty.er=m.map Ty.er):Ki l=Ki m:=by
 have E:l.map Ty.mg=m.map Ty.mg:=by
  have e:∀k:List Ty,k.map Ty.mg=(k.map Ty.er).map Ty.mg:=λk=>by grind[List.map_congr_left,GO]
  rw[e l,e m,h]
 have I:l=[]↔m=[]:=by have:=F8 List.length h;simp at this;rw[<-Wu,<-Wu,this]
 grind[Ki]
theorem SD{t u:Ty}(h:t.er=u.er):Ej t=Ej u:=by unfold Ej;rw[Vp h]
end Go.iA
namespace Go.iA
open Go Go.Proofs Tryz
mutual
def Bt:Ex->Ex
 |.mk k n t a ks q=>.mk k (if k=2 then Gm n a else n) (.mk t.mg [] t.pos) [] (dP ks) q
def dP:List Ex->List Ex
 |[]=>[]
 |e::es=>Bt e::dP es
end
theorem il:∀l:List Ex,dP l=l.map Bt
 |[]=>rfl
 |t::E=>by rw[dP,il E,Cj]
theorem Qp(e:Ex):Bt e=.mk e.kind (if e.kind=2 then Gm e.name e.targs else e.name) (.mk e.type.mg [] e.type.pos) [] (e.kids.map Bt) e.pos:=by cases e with|mk k n t a ks q=>rw[Bt,il];rfl
inductive Ex.Mx:Ex->Prop where
 |mk (k:Int) (n:A3) (t:Ty) (a:List Ty) (ks:List Ex) (q:Int):Ab Tryz.prog 57 [Ba t] (Ba (.mk t.mg [] t.pos))->(k=2->n.length<=60000000*sm/\a.length<=sm/\(∀t,t∈a->t.Mg)/\fA a<=10000000000000) ->ks.length<=sm->(∀e,e∈ks->Ex.Mx e)->Ex.Mx (.mk k n t a ks q)
theorem Ex.Mx.kids  {e:Ex}(h:e.Mx):e.kids.length<=sm/\∀x,x∈e.kids->x.Mx:=by cases h;exact⟨by assumption,by assumption⟩
theorem Ex.Mx.type{e:Ex}(h:e.Mx):Ab Tryz.prog 57 [Ba e.type] (Ba (.mk e.type.mg [] e.type.pos)):=by cases h;assumption
theorem Ex.Mx.Jd  {e:Ex}(h:e.Mx):e.kind=2->e.name.length<=60000000*sm/\e.targs.length<=sm/\(∀t,t∈e.targs->t.Mg)/\fA e.targs<=10000000000000:=by cases h;assumption
abbrev Nb:=[0,1,2,3,4,17,28,67]
theorem u9:∀e:Ex,e.Mx->Ab Tryz.prog 23 [D6 e] (D6 (Bt e)):=by
 intro e
 induction e using Ex.induct with
 |h e Z =>
 intro U;have a0:=U.kids.1;have L:=U.type;rw[Qp];by_cases k2:e.kind=2
 .have hx:D6 e=.agg [.d (.int .i64 2),.d (.str e.name),.d (.str e.type.name),.d (.slice (Au e.type.args)),.d (.int .i64 e.type.pos),.d (.slice (Au e.targs)),.d (.slice (Ed e.kids)),.d (.int .i64 e.pos)]:=by rw[<-k2]
  obtain⟨a1,a2,a3,a4⟩:=U.Jd k2;have W:=eU e.name a1 e.targs a2 a3 a4;rw[A7 k2,k2,hx];refine cB func23 ?_;refine sR Nb ?_
  (refine sG Nb [] 11 gk λK z=>?_;refine ev ?_;refine cc L ?_;apply z)
  refine kR Nb λO u1=>?_;refine eA rfl ?_
  (refine lV Nb λK z=>?_;refine cc W ?_;apply z;try simp only[Aa,])
  apply u1;refine rA 67 8 3 6 rfl rfl (by decide)<|kR Nb λO u1=>?_;refine bA (A0.ii e.kids (X:=Unit) (λj _=>[(1,.box 1 0),(2,.box 2 0),(3,.box 3 0),(4,A6 j)]) (λj _=>[(1,.cells [.d (.int .i64 2),.d (.str e.name),.d (.str e.type.name),.d (.slice (Au e.type.args)),.d (.int .i64 e.type.pos),.d (.slice (Au e.targs)),.d (.slice (Ed e.kids)),.d (.int .i64 e.pos)]),(2,.cells [.d (.int .i64 0),.d (.str []),.d (.str []),.d .nil,.d (.int .i64 0),.d .nil,.d .nil,.d (.int .i64 0)]),(3,.cells [.d (.int .i64 2),.d (.str (Gm e.name e.targs)),.d (.str e.type.mg),.d (.slice []),.d (.int .i64 e.type.pos),.d .nil,.acc 67,.d (.int .i64 e.pos)]),(67,.rows 8 (Ed ((e.kids.take j).map Bt)))]) (λj _=>True) () trivial sS (by simp[ble,A9,P8];exact⟨rfl,rfl,rfl⟩) ?_ ?_)
  rotate_left
  .intro j _ d hd E dp tk J _;have V:=Z d E (U.kids.2 d E);rw[tk];refine Ag J Nb λI u2=>?_;refine gI u2 ?_;refine sK λI u2=>bA ?_
   (refine lG Nb [] 9 [] λK z=>?_;refine ev ?_;refine ci (Ey hd) ?_;refine cc V ?_;refine⟨by simp,by simp only[B7,Dh];unfold lim sm at*;omega,?_⟩;(try refine ev ?_);apply z;try simp only[Aa,Af])
   apply u2;refine lT Nb ?_;exact⟨(),trivial,sS,by simp[ble,A9,P8,Ce]⟩
  intro _ _;rw[Ca];refine Ag B1 Nb λI u2=>?_;refine sE ?_;refine u1 _ _<|sR Nb ?_;exact aR
 .rw[A5 k2];refine cB func23 ?_;refine sR Nb ?_
  (refine sG Nb [] 11 gk λK z=>?_;refine ev ?_;refine cc L ?_;apply z)
  refine Ag k2 Nb λO u1=>?_;refine dA rfl (cA (u1 _ _ ?_));refine rA 67 8 3 6 rfl rfl (by decide)<|kR Nb λO u1=>?_;refine bA (A0.ii e.kids (X:=Unit) (λj _=>[(1,.box 1 0),(2,.box 2 0),(3,.box 3 0),(4,A6 j)]) (λj _=>[(1,.cells [.d (.int .i64 e.kind),.d (.str e.name),.d (.str e.type.name),.d (.slice (Au e.type.args)),.d (.int .i64 e.type.pos),.d (.slice (Au e.targs)),.d (.slice (Ed e.kids)),.d (.int .i64 e.pos)]),(2,.cells [.d (.int .i64 0),.d (.str []),.d (.str []),.d .nil,.d (.int .i64 0),.d .nil,.d .nil,.d (.int .i64 0)]),(3,.cells [.d (.int .i64 e.kind),.d (.str e.name),.d (.str e.type.mg),.d (.slice []),.d (.int .i64 e.type.pos),.d .nil,.acc 67,.d (.int .i64 e.pos)]),(67,.rows 8 (Ed ((e.kids.take j).map Bt)))]) (λj _=>True) () trivial sS (by simp[ble,A9,P8];exact⟨rfl,rfl,rfl⟩) ?_ ?_)
  rotate_left
  .intro j _ d hd E dp tk J _;have V:=Z d E (U.kids.2 d E);rw[tk];refine Ag J Nb λI u2=>?_;refine gI u2 ?_;refine sK λI u2=>bA ?_
   (refine lG Nb [] 9 [] λK z=>?_;refine ev ?_;refine ci (Ey hd) ?_;refine cc V ?_;refine⟨by simp,by simp only[B7,Dh];unfold lim sm at*;omega,?_⟩;(try refine ev ?_);apply z;try simp only[Aa,Af])
   apply u2;refine lT Nb ?_;exact⟨(),trivial,sS,by simp[ble,A9,P8,Ce]⟩
  intro _ _;rw[Ca];refine Ag B1 Nb λI u2=>?_;refine sE ?_;refine u1 _ _<|sR Nb ?_;exact aR
abbrev deI(nm:A3)(x:SV):List SV:=[.d (.int .i64 2),.d (.str nm),.d .nil,.d .nil,x,.d (.str []),.d .nil,.d (.str []),.d .nil,.d .nil,.d (.str []),.d .nil,.d (.int .i64 0),.d (.int .i64 0),.d (.int .i64 0),.d (.str []),.d (.str []),.d .nil,.d (.int .i64 0),.d .nil,.d .nil,.d (.int .i64 0),.d (.int .i64 0)]
def gQ(p:Prog)(calls:List Be)(x:Ty):List Decl:=if B9 p x 2=true then[headD 2 x.mg [] (calls.filterMap (Hy p)++(C3 p [] x).map Gb)]else[]
def F7(ps qs:List Param):List Param:=ps.zipWith (λa b=>⟨b.name,a.type,a.pos⟩) qs
def VQ(M:Be->Option Decl)(p:Prog)(calls:List Be)(x:Ty):List Decl:=AP M p calls x++gQ p calls x
end Go.iA
namespace Go.iA
open Go
theorem Ty.Mg.arg{t:Ty}(h:t.Mg):∀u,u∈t.args->u.Mg:=λu E=>by
 cases h with
 |loc i p O=>simp[Ty.args]at E
 |R0 n a p U J L I=>exact I u E
structure A4.Mq(s:A4):Prop where
 A1:s.A1.length<=100000
 params:∀f,f∈s.params->f.type.Mg
 result:s.result.Mg
theorem A4.Ni.mq{B:Nat}{s:A4}(h:s.Ni B):s.Mq:=⟨by have:=h.A1.1;omega,λf E=>(h.params.2 f E).mg,h.result.mg⟩
theorem A4.Mq.subst{v:List A3}{I:List Ty}(E:∀u,u∈I->u.Mg){s:A4}(h:s.Mq):(s.subst v I).Mq:=by refine⟨by simp only[A4.subst,B7];exact h.A1,λf J=>?_,Ty.Mg.subst E h.result⟩;obtain⟨x,L,rfl⟩:=Ap.1 J;exact Ty.Mg.subst E (h.params x L)
theorem A4.Mq.canon{s:A4}(h:s.Mq):s.canon.Mq:=by
 have O:=h.A1;have hs:∀u,u∈Dv s.A1.length->u.Mg:=λu J=>by obtain⟨i,I,rfl⟩:=Ap.1 J;grind[FY]
 refine⟨by grind[A4.canon,Yz],λf E=>?_,Ty.Mg.subst hs h.result⟩;obtain⟨i,x,L,I,rfl⟩:=mem_mapIdx E;exact Ty.Mg.subst hs (h.params x (Bs L))
theorem rb{p:Prog}(hs:p.Sm)(ht:∀d,d∈p.decls->d.Tl)(hr:p.right=true){x:Ty}(U:∀u,u∈x.args->u.Mg):∀s,s∈D7 p [] x->s.Mq:=by
 intro s E;have key:∀{v:List A3} {y:A4},y.Ni 120000->(y.canon.subst v x.args).Mq:=λh=>A4.Mq.subst U h.mq.canon;have O:D3 [] x=none:=by simp[D3,Fk,E3]
 unfold D7 at E;rw[O]at E;simp at E;split at E;rename_i J;unfold Hj at E;rw[A7 J]at E;obtain⟨d,hd,_⟩:=La (by decide) J;rw[hd,Dx]at E;grind[Xh,Im,HA,P3];unfold Hf at E;obtain⟨⟨d,i⟩,L,rfl⟩:=Ap.1 E;have V:d∈p.decls:=Kv (Xr (Kp.1 L).1);have I:=(Kp.1 L).2;unfold Jm at I;simp at I;grind[HA]
theorem qq{p:Prog}(hs:p.Sm)(hr:p.right=true){x:Ty}(O:∀u,u∈x.args->u.Mg):∀f,f∈Bc p x->f.type.Mg:=by intro f E;unfold Bc at E;split at E;rename_i L;obtain⟨d,hd,_⟩:=La (by decide) L;rw[hd,Dx]at E;unfold fieldsD at E;obtain⟨y,J,rfl⟩:=Ap.1 E;have I:=P3 hd;simp only[Prog.right,Bh,Dz]at hr;have h:=hr.1 d I;simp only[Decl.right,Nf,Bh,Dz]at h;exact Ty.Mg.subst O (QA ((hs.decls.2 d I).fields.2 y J).type (h.2.2.1 y J).2);grind
inductive Ex.Mq:Ex->Prop where
 |mk (e:Ex):(e.kind=3\/e.kind=5->e.type.Mg)->(∀t,t∈e.targs->t.Mg)->(∀x,x∈e.kids->Ex.Mq x)->Ex.Mq e
theorem Ex.Mq.type{e:Ex}(h:e.Mq):e.kind=3\/e.kind=5->e.type.Mg:=by cases h;omega
theorem Ex.Mq.targs{e:Ex}(h:e.Mq):∀t,t∈e.targs->t.Mg:=by cases h;omega
theorem Ex.Mq.kids{e:Ex}(h:e.Mq):∀x,x∈e.kids->x.Mq:=by cases h;omega
theorem Ex.Mq.subst{v:List A3}{a:List Ty}(I:∀u,u∈a->u.Mg):∀{e:Ex},e.Mq->(e.subst v a).Mq:=by intro e;induction e using Ex.induct with|_ e J=>?_;intro h;rw[MD];refine .mk _ (λL=>Ty.Mg.subst I (h.type L)) (λt ht=>?_) λx O=>?_;obtain⟨u,E,rfl⟩:=Ap.1 ht;exact Ty.Mg.subst I (h.targs u E);obtain⟨u,E,rfl⟩:=Ap.1 O;exact J u E (h.kids u E)
theorem qB:∀{e:Ex},e.Sm->e.right=true->e.Mq:=by intro e;induction e using Ex.induct with|_ e J=>?_;intro hs h;rw[LA,Bh,Bh]at h;refine .mk _ (λL=>QA hs.type ?_) (λt ht=>QA (hs.targs.2 t ht) ?_) λx I=>J x I (hs.kids.2 x I) (kK h.1 x I);have E:=h.2.2;unfold Ex.Sw at E;rw[A7 (by grind[Ex.typed])]at E;grind;have E:=h.2.1;unfold Ex.DM at E;grind
theorem H1e{c:Cd}{e:Ex}{x:Ty}{g:A4}(h:Nh c e x=.inr g):g∈D7 c.p c.env x:=by unfold Nh at h;split at h;cases h;rename_i y E;split at h;cases h;split at h;cases h;split at h;cases h;split at h;cases h;cases h;exact Mj.1 (Bs E)
theorem H7f{p:Prog}(hs:p.Sm)(ht:∀d,d∈p.decls->d.Tl)(hr:p.right=true){vars:List Param}(hv:∀f,f∈vars->f.type.Mg):∀e:Ex,e.Mq->(Da ⟨p,false,[],vars⟩ e).2.bad=false->(Da ⟨p,false,[],vars⟩ e).1.Mg:=by
 intro e;induction e using Ex.induct with|_ e W=>?_;intro O;rw[wM];have L:∀(u z:Ty × Fw),u.1.Mg->Qy u=z->z.2.bad=false->z.1.Mg:=λu z hu E I=>by grind[Qy]
 obtain⟨z,E⟩:∃z,vD ⟨p,false,[],vars⟩ e (e.kids.map (Da ⟨p,false,[],vars⟩))=z:=⟨_,rfl⟩;rw[E];intro I;unfold vD at E;split at E;unfold yF at E;split at E;rename_i f V;split at E;subst E;cases I;grind;subst E;cases I;split at E;rename_i k3;unfold LI at E;split at E;subst E;cases I;split at E;subst E;cases I;subst E;exact O.type (.inl k3);split at E;subst E;cases I;rename_i hk;split at E;subst E;cases I
 .rename_i v zs J;cases U:e.kids with
  |nil=>grind
  |cons w ws =>
   rw[U]at J;simp at J;obtain⟨rfl,rfl⟩:=J;have hw:=W w (by grind) (O.kids w (by grind));generalize Da ⟨p,false,[],vars⟩ w=v at*;generalize ws.map (Da ⟨p,false,[],vars⟩)=zs at*;split at E;grind;rename_i Z;have hx:=hw (by grind);split at E;unfold zE at E;split at E;subst E;cases I;rename_i g hg;have hm:=H1e hg;refine L _ z ?_ E I;exact Ty.Mg.subst O.targs (rb hs ht hr hx.arg g hm).result;split at E;unfold Zp at E;split at E;subst E;cases I;split at E;rename_i f V;split at E;subst E;cases I;exact L (f.type,_) z (qq hs hr hx.arg f (Bs V)) E I;subst E;cases I;rename_i k2 k4;unfold NI at E;split at E;subst E;cases I;split at E;grind;subst E;exact O.type (.inr (by omega))
structure Ao.Mq(s:Ao):Prop where
 types:∀t,t∈s.types->t.Mg
 calls:∀c,c∈s.calls->∀t,t∈c.targs->t.Mg
theorem Ao.Mq.lg{s:Ao}(h:s.Mq)(b:Bool):Ao.Mq { s with Dw:=b }:=⟨h.types,h.calls⟩
theorem foldI{α β:Type}{Q:β->Prop}{f:β->α->β}:∀(l:List α) {s:β},(∀s a,a∈l->Q s->Q (f s a))->Q s->Q (l.foldl f s)
 |[],_,_,h=>h
 |a::l,s,E,h=>foldI l (λs b I=>E s b (by grind)) (E s a (by simp) h)
theorem AM{s:Ao}(hs:s.Mq){x:Ty}(E:x.Mg):(Hc s x).Mq:=by unfold Hc;split;exact⟨hs.types,hs.calls⟩;refine⟨λt ht=>?_,hs.calls⟩;rcases(NG (cmp:=Er) (x:=x) s.types).2 t ht with rfl|h;exact E;exact hs.types t h
theorem H1x{s:Ao}(hs:s.Mq){x:Be}(E:∀t,t∈x.targs->t.Mg):(Hi s x).Mq:=by unfold Hi;split;exact⟨hs.types,hs.calls⟩;refine⟨hs.types,λt ht=>?_⟩;rcases(NG (cmp:=E8) (x:=x) s.calls).2 t ht with rfl|h;exact E;exact hs.calls t h
section
variable {p:Prog} (hs:p.Sm) (ht:∀d,d∈p.decls->d.Tl) (hr:p.right=true)
include hs ht hr
theorem BX{vars:List Param}(I:∀f,f∈vars->f.type.Mg){s:Ao}(h:s.Mq){e:Ex}(J:e.Mq):(Pk p s e vars).Mq:=by refine foldI _ (λs x E h=>?_) h;have E:=HJ (Q:=Ex.Mq) (λe h x E=>h.kids x E) e J x E;unfold Ls;split;exact AM h (E.type (by omega));split;split;exact h;rename_i v vs L;unfold Vi;split;exact⟨h.types,h.calls⟩;rename_i O;exact H1x (x:=⟨(Da ⟨p,false,[],vars⟩ v).1,x.name,x.targs⟩) (AM (h.lg _) (H7f hs ht hr I v (E.kids v (by grind)) (by grind))) E.targs;omega
theorem G0e{s:Ao}(h:s.Mq){x:Ty}(hx:x.Mg){c:Be}(hc:∀t,t∈c.targs->t.Mg):(Rk p s x c).Mq:=by
 have U:∀u,u∈Ia x c->u.Mg:=λu hu=>(Bj.1 hu).elim (hx.arg u) (hc u);unfold Rk;rcases rp p x c.name with W|⟨j,d,W,hd,V⟩;grind;rw[W,A5 (by omega),Ic,hd];have J:=Bs hd;have I:=hs.decls.2 d J;have E:d.right=true:=by unfold Prog.right at hr;simp at hr;exact hr.1 d J
 unfold Decl.right Decl.Ub at E;rw[A7 V]at E;simp only[Bh,Dz]at E;have L:=((HA hs ht hr J).2 V).mq;refine BX hs ht hr (λf Z=>?_) h (Ex.Mq.subst U (qB I.body E.2.2.2.2.2.2.2.2));obtain⟨g,hg,rfl⟩:=Ap.1 Z;refine Ty.Mg.subst U ?_;unfold Hv at hg;rcases Ay.1 hg with rfl|hg;refine .R0 _ _ _ E.1 I.name (by rw[Fj,B7];exact I.vars.1) λt ht=>?_;obtain⟨v,O,rfl⟩:=Ap.1 ht;exact .R0 _ _ _ (E.2.2.2.2.1 v O) (I.vars.2 v O) (by simp) (by simp);exact L.params g hg
theorem G1j{x:Ty}(U:x.Mg){out:Ao}(O:out.Mq){c:Be}(J:∀t,t∈c.targs->t.Mg):(M1 p x out c).Mq:=by
 unfold M1;split;exact O
 .rename_i g E;have I:g.Mq:=by unfold Pq at E;split at E;cases E;split at E;cases E;rename_i W L;split at E;cases E;exact rb hs ht hr U.arg _ (Mj.1 (Bs L));grind
  refine G0e hs ht hr (AM (foldI _ (λs t ht h=>?_) O) (Ty.Mg.subst J I.result)) U J;obtain⟨q,V,rfl⟩:=Ap.1 ht;exact AM h (Ty.Mg.subst J (I.params q V))
theorem G6r{s:Ao}(h:s.Mq):(Me p s).Mq:=by refine foldI _ (λo x E I=>?_) h;have E:=h.types x E;refine foldI _ (λo c J I=>G1j hs ht hr E I (h.calls c J)) ?_;split;refine foldI _ (λs t ht h=>?_) I;obtain⟨f,L,rfl⟩:=Ap.1 ht;exact AM h (qq hs hr E.arg f L);omega
theorem VY:∀(k:Nat) {s:Ao} (n:Int),s.Mq->(Ir p k s n).1.Mq
 |0,_,_,_=>⟨by simp[Ir],by simp[Ir]⟩
 |k+1,s,n,h=>by have E:Ao.Mq Um:=⟨by simp,by simp⟩;rw[Ir];split;grind;split;exact E;exact VY k _ (G6r hs ht hr h)
theorem Is:(Li p).1.Mq:=by
 have E:p.main.Mq:=by unfold Prog.right at hr;simp only[Bh]at hr;exact qB hs.main hr.2
 exact VY hs ht hr _ _ (BX hs ht hr (by simp) ⟨by simp,by simp⟩ E)
end
theorem ZS{p:Prog}:∀(k:Nat)(s:Ao)(n:Int),(Ir p k s n).2=true->X2 (Ir p k s n).1=false
 |0,s,n,h=>by rfl
 |k+1,s,n,h=>by
  rw[Ir]at h |-;split at h
  grind;rename_i E;rw[A5 E];split at h;cases h;rename_i I;rw[A5 I];exact ZS k _ _ h
theorem F6i{s:Ao}(h:X2 s=false):s.types.length+s.calls.length<=60/\(∀t,t∈s.types->t.Ea<=3600)/\∀c,c∈s.calls->fA c.targs<=3600:=by have E:=rX h;unfold X2 at h;simp only[DJ,List.any_eq_false,Di]at h;refine⟨by unfold Fz at E;exact E,λt ht=>?_,λc I=>?_⟩;have J:=h.1 t ht;have:=DA t 0 (by omega);omega;have J:=h.2.1 c I;have:=DA (.mk [] c.targs 0) 0 (by omega);grind[yA,Ty.args]
structure Ao.Fd(s:Ao):Prop where
 sm:s.Sm
 types:∀t,t∈s.types->t.Ni 12000
 targs:∀c,c∈s.calls->(∀t,t∈c.targs->t.Ni 12000)/\fA c.targs<=3600
 len:s.types.length+s.calls.length<=60
 tl:∀t,t∈s.types->t.Ea<=3600
theorem H3m{p:Prog}(I:p.Fit)(ht:∀d,d∈p.decls->d.Tl)(hr:p.right=true)(h:(Li p).2=true):(Li p).1.Fd:=by have V:=ZS _ _ _ h;obtain⟨U,J,L⟩:=F6i V;have O:=Is I.sm ht hr;refine⟨H2i I,λt ht=>⟨O.types t ht,by have:=J t ht;omega⟩,λc E=>⟨λt ht=>⟨O.calls c E t ht,?_⟩,L c E⟩,U,J⟩;have:=L c E;have:=XG ht;omega
theorem Ao.Fd.Lg{p:Prog}{s:Ao}(h:s.Fd){x:Ty}(I:x∈s.types):∀c,c∈Go.iA.Lg p s.calls x->c.Ni:=λc J=>by obtain⟨d,hd,rfl⟩:=Ap.1 J;have hd:=(Kp.1 hd).1;obtain⟨L,O⟩:=h.targs d hd;have E:=h.sm.calls.2 d hd;exact⟨⟨h.sm.types.2 x I,E.name,E.targs⟩,h.types x I,L,by grind⟩
end Go.iA
namespace Go.iA
open Go Go.Proofs Tryz
inductive Ex.Rs:Ex->Prop where
 |mk (e:Ex):(e.kind=3\/e.kind=5\/e.type.name=[]/\e.type.args=[])->(e.kind=2\/e.targs=[])->(∀x,x∈e.kids->Ex.Rs x)->Ex.Rs e
theorem Ex.Rs.type{e:Ex}(h:e.Rs):e.kind=3\/e.kind=5\/e.type.name=[]/\e.type.args=[]:=by cases h;omega
theorem Ex.Rs.targs{e:Ex}(h:e.Rs):e.kind=2\/e.targs=[]:=by cases h;omega
theorem Ex.Rs.kids{e:Ex}(h:e.Rs):∀x,x∈e.kids->x.Rs:=by cases h;omega
theorem MB:∀{e:Ex},e.right=true->e.Rs:=by
 intro e;induction e using Ex.induct with|_ e J=>?_;intro h;rw[LA,Bh,Bh]at h;refine .mk _ ?_ ?_ λx I=>J x I (kK h.1 x I);have E:=h.2.2;unfold Ex.Sw at E;split at E;rename_i ht;unfold Ex.typed at ht;grind;grind
 .have E:=h.2.1;unfold Ex.DM at E;rw[Dz]at E;cases ht:e.targs with
  |nil=>simp
  |cons t L =>simp_all
theorem O7{v:List A3}(E:([]:A3) ∉v){a:List Ty}{t:Ty}(I:t.name=[])(J:t.args=[]):t.subst v a=.mk [] [] t.pos:=by grind[Jt,Pv]
theorem ZV(q:Int):(Ty.mk [] [] q).mg=[]:=by rfl
theorem Ex.Rs.subst{v:List A3}(J:([]:A3) ∉v){a:List Ty}:∀{e:Ex},e.Rs->(e.subst v a).Rs:=by intro e;induction e using Ex.induct with|_ e I=>?_;intro h;rw[MD];refine .mk _ ?_ ?_ λx U=>?_;rcases h.type with h|h|⟨O,L⟩;exact .inl h;exact .inr (.inl h);exact .inr (.inr (by show(e.type.subst v a).name=[]/\(e.type.subst v a).args=[];rw[O7 J O L];exact⟨rfl,rfl⟩));rcases h.targs with h|h;exact .inl h;exact .inr (by show e.targs.map _=[];grind);obtain⟨u,E,rfl⟩:=Ap.1 U;exact I u E (h.kids u E)
inductive Ex.Nq(B:Nat):Ex->Prop where
 |mk (e:Ex):(e.kind=3\/e.kind=5->e.type.Ni B)->(∀t,t∈e.targs->t.Ni B)->fA e.targs<=B->(∀x,x∈e.kids->Ex.Nq B x)->Ex.Nq B e
theorem Ex.Nq.type{B:Nat}{e:Ex}(h:e.Nq B):e.kind=3\/e.kind=5->e.type.Ni B:=by cases h;omega
theorem Ex.Nq.targs{B:Nat}{e:Ex}(h:e.Nq B):(∀t,t∈e.targs->t.Ni B)/\fA e.targs<=B:=by cases h;grind
theorem Ex.Nq.kids{B:Nat}{e:Ex}(h:e.Nq B):∀x,x∈e.kids->x.Nq B:=by cases h;omega
theorem Ex.Mq.nq{B:Nat}:∀{e:Ex},e.Mq->e.Uo<=B->e.Nq B:=by intro e;induction e using Ex.induct with|_ e J=>?_;intro h L;rw[uB]at L;refine .mk _ (λI=>⟨h.type I,by omega⟩) (λt ht=>⟨h.targs t ht,by have:=XG ht;omega⟩) (by omega) λx E=>J x E (h.kids x E) (by have:=eT E;omega)
theorem sX{v:List A3}{J:List Ty}{M:Nat}(E:4<=M)(I:∀u,u∈J->u.Ea<=M):∀l:List Ty,4*fA (l.map (Ty.subst v J))<=fA l*M
 |[]=>by simp[fA]
 |x::l=>by have O:=cp (v:=v) E I x;have L:=sX (v:=v) E I l;grind[fA,Nat.add_mul]
theorem Ex.Nq.subst{B M:Nat}(I:4<=M){v:List A3}{a:List Ty}(J:∀u,u∈a->u.Ni M):∀{e:Ex},e.Nq B->(e.subst v a).Nq (B*M / 4):=by intro e;induction e using Ex.induct with|_ e L=>?_;intro h;rw[MD];refine .mk _ (λO=>Ty.Ni.subst I J (h.type O)) (λt ht=>?_) ?_ λx U=>?_;obtain⟨u,E,rfl⟩:=Ap.1 ht;exact Ty.Ni.subst I J (h.targs.1 u E);rw[Nat.le_div_iff_mul_le (by decide),qE];exact Cy (sX I (λu E=>(J u E).len) e.targs) (Ih _ h.targs.2);obtain⟨u,E,rfl⟩:=Ap.1 U;exact L u E (h.kids u E)
theorem Decl.uI(d:Decl)(n:Int)(O:0<=n)(h:d.count n<=2000):d.body.Uo<=240000:=by unfold Decl.count at h;generalize hm:n+1+((d.name.length / 50:Nat):Int)+((d.recv.length / 50:Nat):Int)=m at h;obtain⟨a1,a2⟩:=LV d.A1 m;obtain⟨J,W⟩:=UT d.fields (Cf d.A1 m);obtain⟨U,Z⟩:=pZ d.sigs (Dj d.fields (Cf d.A1 m));obtain⟨E,L⟩:=QD d.vars (Ez d.sigs (Dj d.fields (Cf d.A1 m)));generalize I:Jb d.vars (Ez d.sigs (Dj d.fields (Cf d.A1 m)))=z at*;unfold Decl.S8 at h;obtain⟨f1,_⟩:=A4.H9 d.sig z;split at h;have V:=pB d.body (d.sig.count z) h;omega;omega
theorem G4s:Pb J8 (λd=>d.body.Uo<=240000):=P1 J8 Decl.count (λd=>d.body.Uo<=240000) (λ_=>rfl) (λ_ _ _=>rfl) (λx k=>(Decl.H9 x k).1) (λx k E h=>Decl.uI x k E h)
theorem Prog.uI(p:Prog)(h:p.count<=600):(∀d,d∈p.decls->d.body.Uo<=240000)/\p.main.Uo<=240000:=by unfold Prog.count at h;have E:=Ex.Fu p.main 0;obtain⟨L,I⟩:=G4s p.decls (p.main.count 0);have J:=pB p.main 0 (by omega);grind
def J4(F:Ex->Ex)(p:Prog)(c:Be):Option Decl:=match L9 p c.on c.name with
 |none=>none
 |some d=>match Hy p c with
  |none=>none
  |some g=>some ⟨3,c.on.mg,[],[],[],d.recv,[],⟨g.name,[],F7 g.params d.sig.params,g.result,0⟩,F (M4 d c.on c),0⟩
theorem QU{p:Prog}(hr:p.right=true){d:Decl}(hd:d∈p.decls)(I:d.kind=3):(∀v,v∈d.vars->isName v=true)/\(∀f,f∈d.sig.A1->isName f.name=true)/\d.body.right=true:=by
 have E:d.right=true:=by unfold Prog.right at hr;simp at hr;exact hr.1 d hd
 unfold Decl.right Decl.Ub at E;rw[A7 I]at E;simp only[Bh,Dz]at E;refine⟨E.2.2.2.2.1,?_,E.2.2.2.2.2.2.2.2⟩;have:=E.2.2.2.2.2.2.2.1;simp only[A4.right,Qn,Nf,Bh,Dz]at this;grind
theorem kq{p:Prog}(hr:p.right=true){d:Decl}(hd:d∈p.decls)(E:d.kind=3):([]:A3) ∉Jv d:=by obtain⟨O,J,_⟩:=QU hr hd E;intro h;rcases Bj.1 h with h|h;grind[isName];obtain⟨f,I,L⟩:=Ap.1 h;grind[isName]
theorem Vq{p:Prog}{x:Ty}{m:A3}{d:Decl}(h:L9 p x m=some d):d∈p.decls/\d.kind=3/\B9 p x 1=true/\d.vars.length=x.args.length:=by unfold L9 at h;split at h;rename_i I;split at h;rename_i J E;split at h;rename_i L;cases h;have:=oR E;unfold E2 at this;grind;grind;grind;grind
theorem cR(p:Prog)(x:Ty)(m:A3):(Ld p x m<0/\L9 p x m=none)\/∃(j:Nat)(d:Decl),Ld p x m=j/\p.decls[j]?=some d/\L9 p x m=some d:=by
 unfold Ld L9;by_cases E:B9 p x 1=true
 .rw[A7 E,A7 E];unfold N4 E3;cases h:p.decls.findIdx? (E2 x.name m)with
  |none =>grind
  |some j =>obtain⟨J,I,U⟩:=MG.1 h;have L:p.decls.find? (E2 x.name m)=some p.decls[j]:=As8.2 ⟨I,j,J,rfl,λk O=>by grind⟩;grind
 grind
theorem H3i{c:Be}(E:c.Ni):∀u,u∈Ia c.on c->u.Ni 12000:=λu I=>(Bj.1 I).elim (E.on.args u) (E.targs u)
theorem uP{p:Prog}(hp:p.count<=600)(hs:p.Sm)(hr:p.right=true){d:Decl}(hd:d∈p.decls)(J:d.kind=3){c:Be}(I:c.Ni):(M4 d c.on c).Nq 720000000/\(M4 d c.on c).Sm/\(M4 d c.on c).Rs:=by obtain⟨_,_,L⟩:=QU hr hd J;have E:=(hs.decls.2 d hd).body;have O:=(qB E L).nq ((Prog.uI p hp).1 d hd);refine⟨Ex.Nq.subst (B:=240000) (M:=12000) (by decide) (H3i I) O,Ex.Sm.subst (λu U=>(Bj.1 U).elim (I.sm.on.arg u) (I.sm.targs.2 u)) _ E,Ex.Rs.subst (kq hr hd J) (MB L)⟩
theorem G1i{p:Prog}{c:Be}{g:A4}(h:Hy p c=some g):¬Fo (C3 p [] c.on) c.name<0/\∃s,(C3 p [] c.on)[(Fo (C3 p [] c.on) c.name).toNat]?=some s/\s∈C3 p [] c.on/\s.name=c.name/\s.A1.length=c.targs.length/\g=D5 c s:=by grind[Hy,XJ,Fo,My]
def Gn(p:Prog)(cs:List Be)(x:Ty):List Decl:=VQ (J4 Bt p) p (Y3 p cs x).calls x
theorem y9{p:Prog}{cs:List Be}{x:Ty}:∀c,c∈Lg p cs x->c.on=x:=λc h=>by obtain⟨d,_,rfl⟩:=Ap.1 h;rfl
theorem BH.one{P:Program}{f:FuncId}{args:List SV}{E:SV}(h:BH P f args λr=>r=E):Ab P f args E :=⟨h.1,λC β vs O I=>(h.2 C β vs O I).mono λ_ _ ⟨r,v,S',β',U,V,J,L⟩=>⟨v,S',β',V,J,U ▸ L⟩⟩
abbrev Ua:=[0,1,2,3,4,5,6,7,8,9,10,11,33,64,900]
theorem F9y(p:Prog)(h:p.Sm)(ht:∀d,d∈p.decls->d.Tl)(hr:p.right=true)(c:Be)(J:c.Ni)(s:A4)(h0:¬Fo (C3 p [] c.on) c.name<0)(hs:(C3 p [] c.on)[(Fo (C3 p [] c.on) c.name).toNat]?=some s)(hl:s.A1.length=c.targs.length) :Ci Tryz.prog 61 [Cs p,caV c] [] (.tuple [.agg (agS (D5 c s).name (D5 c s).result.name (.acc 900)),Ar true]) [(900,.rows 5 (Aw (D5 c s).params))]:=by
 have L:=DE h ht hr J.sm.on J.on.args;have hS:=AH p h [] (by simp) (by simp) c.on J.sm.on;have O:=W0 h [] c.on;have hF:=GL (C3 p [] c.on) c.name O;have E:=@EU (C3 p [] c.on) c.name;rw[show E3 (λs:A4=>decide (s.name=c.name)) (C3 p [] c.on)=Fo (C3 p [] c.on) c.name from rfl]at hF;generalize C3 p [] c.on=l at*;generalize Fo l c.name=n at*;obtain⟨s',V,a6⟩:=E h0;rw[hs]at V;cases V;have ab:0<=n:=by omega
 have ac:n<l.length:=by have:=(Az.1 hs).1;omega
 have I:=L s a6;have a8:(s.A1.length:Int)=(c.targs.length:Int):=by omega
 have W:=Ss s.A1 I.sm.A1.1;rw[show s.A1.map (·.name)=Ad s.A1 from rfl]at W;have hM:=eU c.name J.sm.name c.targs J.sm.targs.1 (λt h=>(J.targs t h).mg) (by have:=J.tl;omega);have a2:=Qw (Ad s.A1) c.targs J.sm.targs.2 s.result I.sm.result;have hq:=A4.Ni.subst (v:=Ad s.A1) (by decide:4<=12000) J.targs J.sm.targs.2 I;have hP:=KM (s.result.subst (Ad s.A1) c.targs) hq.result.mg (Cy hq.result.len (by decide));have aa:=I.params.1;have a7:=I.params.2;have a5:=I.sm.params.2;have e1:D5 c s=⟨Gm c.name c.targs,[],Ge (s.params.map (Param.subst (Ad s.A1) c.targs)),Ej (s.result.subst (Ad s.A1) c.targs),0⟩:=rfl;rw[e1];show Ci Tryz.prog 61 [Cs p,caV c] [] (.tuple [.agg (agS (Gm c.name c.targs) (s.result.subst (Ad s.A1) c.targs).mg (.acc 900)),Ar true]) [(900,.rows 5 (Aw (Ge (s.params.map (Param.subst (Ad s.A1) c.targs)))))];generalize s.result.subst (Ad s.A1) c.targs=rt at*;generalize Gm c.name c.targs=nm at*;generalize a':Ad s.A1=nn at*;refine bB func61 ?_;refine sR Ua ?_;refine sC hS Ua ?_;refine sC hF Ua<|sK λK1 u1=>?_
 refine sG Ua [] 12 [] λK z=>?_;refine Bb h0 ?_;refine C0 a8 (Dg hs) ?_;apply z;refine kI u1 ?_;refine sV Ua λK z=>?_;refine ci (Dg hs) ?_;refine cc W ?_;apply z;refine sG Ua [] 17 gg λK z=>?_;refine ev ?_;refine cc hM ?_;refine ci (Dg hs) ?_;refine cc a2 ?_;refine cc hP ?_;apply z;refine rA 900 5 9 2 rfl rfl (by decide)<|kR Ua λK1 u1=>?_;refine bA (A0.ii s.params (X:=Unit) (λj _=>[(3,.box 3 0),(4,.box 4 0),(6,.d (.slice (B4 l))),(7,A6 n),(8,Cm nn),(9,.box 9 0),(10,A6 j)]) (λj _=>[(3,.cells (caS c)),(4,.cells [.d (.str []),.d .nil,.d .nil,.d (.str []),.d .nil,.d (.int .i64 0),.d (.int .i64 0)]),(9,.cells (agS nm rt.mg (.acc 900))),(900,.rows 5 (Aw (Ge ((s.params.take j).map (Param.subst nn c.targs)))))]) (λ_ _=>True) () trivial sS (by simp[ble,A9,Aw,Ge];exact⟨rfl,rfl,rfl⟩) ?_ ?_)
 rotate_left
 .intro j _ d hd E dp tk a1 _;have hj:=(Az.1 hd).1;have hit:=fP j (by unfold sm;omega);have a9:=Lib.itoa_length_le j (by omega) (by omega);rw[<-Uv]at hit;have Z:=Ty.Ni.subst (v:=nn) (by decide:4<=12000) J.targs (a7 d E);have a0:=Qw nn c.targs J.sm.targs.2 d.type (a5 d E).type;have a4:=KM (d.type.subst nn c.targs) Z.mg (by have:=Z.len;omega);have a3:(s.params.map (Param.subst nn c.targs))[j]?=some (Param.subst nn c.targs d):=by rw[Df,hd];rfl
  have e2:Aw (Ge ((s.params.take (j+1)).map (Param.subst nn c.targs)))=Aw (Ge ((s.params.take j).map (Param.subst nn c.targs)))++[G9 ⟨[112]++Lib.itoa (j:Nat),Ej (d.type.subst nn c.targs),0⟩]:=by rw[List.map_take,xX a3,List.map_take];simp[Aw,Param.subst]
  have e3:(Aw (Ge ((s.params.take j).map (Param.subst nn c.targs)))).length=j:=by rw[rK,DH,B7,Dh];omega
  rw[e2];generalize Aw (Ge ((s.params.take j).map (Param.subst nn c.targs)))=PR at*;generalize d.type.subst nn c.targs=dt at*;generalize Lib.itoa (j:Nat)=ds at*;refine sK λU u2=>?_;refine sV Ua λK z=>?_;refine C0 a1 (Dg hs) ?_;apply z;refine gI u2 ?_;refine sK λU u2=>bA ?_;refine sG Ua [] 14 gi λK z=>?_;refine ev ?_;refine ci (Dg hs) ?_;refine ci (Dt hd) ?_;refine cc a0 ?_;apply z;(refine lG Ua [] 9 [] λK z=>?_;refine ev ?_;refine cc hit ?_;refine⟨by(try simp only[B5,Bg,Ck]);unfold lim;omega,?_⟩;(try refine Bb e3 ?_);refine E0 e3 a4 ?_;refine⟨by simp,by(try simp only[e3]);unfold lim;omega,?_⟩;(try refine Bb e3 ?_);apply z;try simp only[Aa,Af]);apply u2;(refine lV Ua λK z=>?_;refine cl ?_;apply z;try simp only[Aa,]);exact⟨(),trivial,sS,by simp[ble,A9,G9]⟩
 intro _ _;rw[Ca];refine sK λU u2=>?_;refine sV Ua λK z=>?_;refine C0 B1 (Dg hs) ?_;apply z;refine sE ?_;apply u1;refine sR Ua ?_;exact A0.ret ⟨_,by rw[results61];rfl,.inl rfl,by simp[ble,A9]⟩
abbrev DQ:=[0,2,3,4,17,21,28,44]
theorem H2e:Ab Tryz.prog 135 [Bo []] (A6 (-1)):=by
 obtain⟨s,hs⟩:∃s:A3,s=[]:=⟨_,rfl⟩;rw[<-hs];have E:(s.length:Int)<2:=by rw[hs];decide
 refine cB func135 ?_;refine sR DQ ?_;refine sR DQ ?_;refine Ag E DQ λI u1=>?_;refine tI ?_;refine sR DQ ?_;exact aR
theorem H5h(q:Int):Ab Tryz.prog 59 [Ba (.mk [] [] q)] (Bo []):=by
 have J:=H2e;have I:=dO [] (by decide);have E:=IV [] (by decide) (by simp[fA]) (by simp);have L:Fx []=[]:=by simp[Fx]
 have U:Ki []=[]:=by simp[Ki]
 rw[L]at I;rw[U]at E;show Ab Tryz.prog 59 [.agg [.d (.str []),.d (.slice (Au [])),.d (.int .i64 q)]] (Bo []);refine cB func59 ?_;refine sR [0,1,2,3,14] ?_;refine sC J [0,1,2,3,14] ?_;refine kR [0,1,2,3,14] λO u1=>?_;refine kI u1 ?_;refine sG [0,1,2,3,14] [] 5 [] λK z=>?_;refine ev ?_;refine cc I ?_;refine cc E ?_;apply z;exact aR
theorem rv(q:Int):Ab Tryz.prog 57 [Ba (.mk [] [] q)] (Ba (.mk (Ty.mk [] [] q).mg [] q)):=by have E:=H5h q;rw[ZV];show Ab Tryz.prog 57 [.agg [.d (.str []),.d (.slice (Au [])),.d (.int .i64 q)]] (Ba (.mk [] [] q));refine cB func57 ?_;refine sR [0,1,2] ?_;refine sG [0,1,2] [] 4 [] λK z=>?_;refine ev ?_;refine cc E ?_;apply z;exact aR
theorem v7{B:Nat}(hB:B<=10000000000000):∀{e:Ex},e.Sm->e.Nq B->e.Rs->e.Mx:=by intro e;induction e using Ex.induct with|_ e O=>?_;intro hs h hr;obtain⟨k,n,t,a,ks,q⟩:=e;have L:=h.type;have J:=h.targs;have Z:=h.kids;have V:=hr.type;have U:=hr.kids;refine .mk _ _ _ _ _ _ ?_ (λE=>⟨hs.name,hs.targs.1,λu hu=>(J.1 u hu).mg,by have:=J.2;simp only[Ex.targs]at this;omega⟩) hs.kids.1 λx I=>O x I (hs.kids.2 x I) (Z x I) (U x I);by_cases E:(Ex.mk k n t a ks q).kind=3\/(Ex.mk k n t a ks q).kind=5;exact H5b t (L E).mg (by have:=(L E).len;simp only[Ex.type]at this;omega);have:=(V.resolve_left λh=>E (.inl h)).resolve_left λh=>E (.inr h);obtain⟨tn,ta,W⟩:=t;simp only[Ex.type,Ty.name,Ty.args]at this;obtain⟨rfl,rfl⟩:=this;exact rv W
theorem JV{p:Prog}{s:Ao}(h:s.Fd){x:Ty}(J:x∈s.types):(Y3 p s.calls x).calls.length<=sm/\∀c,c∈(Y3 p s.calls x).calls->c.on=x/\c.Ni:=by
 have O:=oP p s.calls x;have U:=h.len;have I:∀c,c∈(Y3 p s.calls x).calls->c∈Lg p s.calls x:=λc E=>by obtain⟨_,L,_⟩:=XM (Lg p s.calls x) ⟨[],[],false⟩ (by simp[U8]) (by simp only[Ck];omega);exact(L c E).elim id λh=>by simp at h
 refine⟨(Oc (Lg p s.calls x) (s:=⟨[],[],false⟩) ⟨by simp,by simp⟩ (G2x (h.sm.types.2 x J) h.sm.calls.2)).calls.1,λc E=>⟨y9 c (I c E),h.Lg J c (I c E)⟩⟩
theorem F9z{ps qs:List Param}{i:Nat}{q e:Param}(V:ps[i]?=some q)(L:qs[i]?=some e)(U:ps.drop i=q::ps.drop (i+1))(tk:ps.take (i+1)=ps.take i++[q])(J:(F7 (ps.take i) qs).length=i) :Aw (F7 (ps.take (i+1)) qs++ps.drop (i+1))=(Aw (F7 (ps.take i) qs++ps.drop i)).set i (Hr (G9 q) 0 [.str e.name]):=by
 have W:=(Az.1 V).1;have I:=(Az.1 L).1;have O:F7 (ps.take (i+1)) qs=F7 (ps.take i) qs++[⟨e.name,q.type,q.pos⟩]:=by
  unfold F7;rw[tk,show qs=qs.take i++(e::qs.drop (i+1)) by
   conv=>lhs;rw[<-Ue i qs]
   rw[H7 I,(Az.1 L).2]]
  rw[List.zipWith_append (by simp;omega)];have:(ps.take i).zipWith (λa b:Param=>(⟨b.name,a.type,a.pos⟩:Param)) (qs.take i++(e::qs.drop (i+1)))=(ps.take i).zipWith (λa b:Param=>(⟨b.name,a.type,a.pos⟩:Param)) (qs.take i):=by
   conv=>lhs;rw[<-Fv (ps.take i)]
   rw[List.zipWith_append (by simp;omega)];simp
  rw[this];simp
 rw[O,U];have E:(Aw (F7 (ps.take i) qs)).length=i:=by rw[rK];exact J
 simp only[Aw,Gy,Cj,H3,Kn,Wv]at E |-;rw[List.set_append_right _ _ (by omega),E,iR,List.set_cons_zero];rfl
abbrev D1:=[0,1,2,3,4,5,6,7,8,9,10,11,12,13,14,15,16,17,18,19,20,21,22,23,24,25,26,27,28,40,46,58,68,86,95,116,120,145,155,170,179,207,901,902]
set_option maxHeartbeats 8000000 in
theorem ns(p:Prog)(hp:p.count<=600)(hr:p.right=true){s:Ao}(h:s.Fd)(x:Ty)(hx:x∈s.types):Ab Tryz.prog 24 [Cs p,Ks s,Ba x] (.d (.slice (Bx (Gn p s.calls x)))):=by
 have E:=oA p hp;have a6:=Prog.V4 p hp;have a0:=h.sm.types.2 x hx;have a':=h.types x hx;have hT:=SH x a'.mg (by have:=a'.len;omega);have hM:=H7s p E.sm s h.sm x a0;have hS:=AH p E.sm [] (by simp) (by simp) x a0;simp only[show Ai ([]:List Aj)=[] from rfl]at hS;have a5:=aG p x 2;have aa:=aG p x 1;obtain⟨bs,av⟩:=JV (p:=p) h hx;have bo:=W0 E.sm [] x;have au:=DE E.sm a6 hr a0 a'.args;unfold Gn VQ AP gQ;generalize(Y3 p s.calls x).calls=C at*;cases ac:B9 p x 2 with
 |true =>
  have a1:¬B9 p x 1=true:=λhh=>by have:=(Pf ac).1;have:=(Pf hh).1;omega
  rw[ac]at a5;rw[A5 a1,A7 rfl,Wv];generalize x.mg=nm at*;generalize C3 p [] x=ss at*;refine cB func24 ?_;refine sR D1 ?_;refine sC hT D1 ?_;refine sC hM D1 ?_;refine sC hS D1 ?_;refine kC a5 D1 λU u1=>?_;refine tI ?_;refine sR D1 ?_;refine rA 902 7 10 4 rfl rfl (by decide)<|kR D1 λU u1=>?_;refine bA (A0.ii C (X:=Unit) (λj _=>[(3,.box 3 0),(8,.d (.slice (Nt C))),(9,.d (.slice (B4 ss))),(10,.box 10 0),(11,A6 j)]) (λj _=>[(3,.cells ((Ah p).map .d)),(10,.cells (deI nm (.acc 902))),(902,.rows 7 (B4 ((C.take j).filterMap (Hy p))))]) (λ_ _=>True) () trivial sS (by simp[ble,A9,B4,Ah]) ?_ ?_)
  rotate_left
  .intro j _ c W I dp tk O _;have hj:=(Az.1 W).1;have hm:=qZ p E.sm a6 hr c (av c I).2;have e2:B4 ((C.take (j+1)).filterMap (Hy p))=B4 ((C.take j).filterMap (Hy p))++B4 (Hy p c).toList:=by rw[Kj hj,(Az.1 W).2,List.filterMap_append];cases V:Hy p c <;> simp[B4,V]
   have e3:(B4 ((C.take j).filterMap (Hy p))).length<=j:=by simp only[B4,B7];have:=nC (Hy p) (C.take j);rw[Dh]at this;omega
   rw[e2];generalize B4 ((C.take j).filterMap (Hy p))=PR at*;refine Dq O @Eb D1 λJ u2=>?_;refine gI u2 ?_;refine sK λJ u2=>bA ?_;cases V:Hy p c with
   |none =>
    rw[V]at hm;unfold sgR at hm;refine sG D1 [] 11 gj λK z=>?_;refine ev ?_;refine C0 @Fp.eq_1 (Jw W) ?_;refine cc hm ?_;apply z;refine sR D1 ?_;refine dA rfl (cA (u2 _ _ ?_));refine lT D1 ?_;exact⟨(),trivial,sS,by simp[ble,A9,B4,Ah,V]⟩
   |some d =>
    rw[V]at hm;unfold sgR at hm;refine sG D1 [] 11 gj λK z=>?_;refine ev ?_;refine C0 @Fp.eq_1 (Jw W) ?_;refine cc hm ?_;apply z;refine sR D1 ?_;refine eA rfl ?_;(refine lV D1 λK z=>?_;refine⟨by simp,by unfold lim sm at*;omega,?_⟩;(try refine ev ?_);apply z;try simp only[Aa,Af]);apply u2;refine lT D1 ?_;exact⟨(),trivial,sS,by simp[ble,A9,B4,Dp,Ah,V]⟩
  intro _ _;rw[Ca];have ai:=nC (Hy p) C;generalize bq:C.filterMap (Hy p)=cm at*;refine Dq B1 @Eb D1 λJ u2=>?_;refine sE ?_;apply u1;refine kR D1 λU u1=>?_;refine bA (A0.ii ss (X:=Unit) (λj _=>[(9,.d (.slice (B4 ss))),(10,.box 10 0),(14,A6 j)]) (λj _=>[(10,.cells (deI nm (.acc 902))),(902,.rows 7 (B4 (cm++(ss.take j).map Gb)))]) (λ_ _=>True) () trivial sS sB ?_ ?_);rotate_left
  .intro j _ s hs I dp tk O _;have hj:=(Az.1 hs).1;have ag:=au s I;have ah:=zj s (A4.Ni.dum (ag.mono (by decide)));have e2:B4 (cm++(ss.take (j+1)).map Gb)=B4 (cm++(ss.take j).map Gb)++[Dp (Gb s)]:=by rw[Kj hj,(Az.1 hs).2];simp[B4]
   have e3:(B4 (cm++(ss.take j).map Gb)).length<=2*sm+1:=by simp only[B4,B7,B5,Dh];omega
   rw[e2];generalize B4 (cm++(ss.take j).map Gb)=PR at*;generalize Gb s=g at*;refine Ag O D1 λJ u2=>?_;refine gI u2 ?_;refine sK λJ u2=>bA ?_;(refine lG D1 [] 8 [] λK z=>?_;refine ev ?_;refine ci (Dg hs) ?_;refine cc ah ?_;refine⟨by simp,by unfold lim sm at*;omega,?_⟩;(try refine ev ?_);apply z;try simp only[Aa,Af]);apply u2;refine lT D1 ?_;exact⟨(),trivial,sS,by simp[ble,A9,Dp]⟩
  intro _ _;rw[Ca];refine Ag B1 D1 λJ u2=>?_;refine sE ?_;apply u1;refine A0.Km 902 rfl (wk [(10,.box 10 0)] [(10,.cells (deI nm (.d (.slice (B4 (cm++ss.map Gb))))))] ?_);refine sR D1 ?_;exact aR
 |false =>
 rw[ac]at a5;rw[A5 (by simp:¬false=true),Fv];cases a1:B9 p x 1 with
 |false =>rw[a1]at aa;rw[A5 (by simp),show Bx []=[] from rfl];refine cB func24 ?_;refine sR D1 ?_;refine sC hT D1 ?_;refine sC hM D1 ?_;refine sC hS D1 ?_;refine kC a5 D1 λU u1=>?_;refine kI u1 ?_;refine kC aa D1 λU u1=>?_;refine tI ?_;refine sR D1 ?_;exact aR
 |true =>
 have hF:=RP p E.sm x a0 a1;rw[a1]at aa;rw[A7 rfl];have bf:=F5q a6 hr E.sm a'.args;have bn:(Bc p x).length<=sm:=NJ E.sm x;have bp:=a0.len;have b3:=E.sm.decls.1;generalize bi:x.mg=nm at*;generalize Bc p x=fs at*;generalize C3 p [] x=ss at*;refine cB func24 ?_;refine sR D1 ?_;refine sC hT D1 ?_;refine sC hM D1 ?_;refine sC hS D1 ?_;refine kC a5 D1 λU u1=>?_;refine kI u1 ?_;refine kC aa D1 λU u1=>?_;refine kI u1 ?_;refine sR D1 ?_;refine rA 901 5 15 3 rfl rfl (by decide)<|sC hF D1 ?_;refine kR D1 λU u1=>?_;refine bA (A0.ii fs (X:=Unit) (λj _=>[(3,.box 3 0),(5,.box 5 0),(7,Bo nm),(8,.d (.slice (Nt C))),(9,.d (.slice (B4 ss))),(15,.box 15 0),(16,.d (.slice (Aw fs))),(17,A6 j)]) (λj _=>[(3,.cells ((Ah p).map .d)),(5,.cells (Pt x)),(15,.cells (deH nm (.acc 901))),(901,.rows 5 (Aw (G8 (fs.take j))))]) (λ_ _=>True) () trivial sS (by simp[ble,A9,Aw,G8,Ah]) ?_ ?_)
 rotate_left
 .intro j _ d hd I dp tk O _;have hj:=(Az.1 hd).1;have b2:=bf d I;have b4:=KM d.type b2.mg (by have:=b2.len;omega);have e3:(Aw (G8 (fs.take j))).length=j:=by simp only[Aw,G8,B7,Dh];omega
  rw[G6g hd];generalize Aw (G8 (fs.take j))=PR at*;refine Ag O D1 λJ u2=>?_;refine gI u2 ?_;refine sK λJ u2=>bA ?_
  (refine lG D1 [] 15 [] λK z=>?_;refine ev ?_;refine ci (Dt hd) ?_;refine ci (Dt hd) ?_;refine E0 e3 b4 ?_;refine⟨by simp,by(try simp only[e3]);unfold lim sm at*;omega,?_⟩;(try refine Bb e3 ?_);apply z;try simp only[Aa,Af])
  apply u2;refine lT D1 ?_;exact⟨(),trivial,sS,by simp[ble,A9,G9,Ah]⟩
 intro _ _;rw[Ca];refine Ag B1 D1 λJ u2=>?_;refine sE ?_;apply u1
 (refine A0.Km 901 rfl (wk [(3,.box 3 0),(5,.box 5 0),(7,Bo nm),(8,.d (.slice (Nt C))),(9,.d (.slice (B4 ss))),(15,.box 15 0)] [(3,.cells ((Ah p).map .d)),(5,.cells (Pt x)),(15,.cells (deH nm (.d (.slice (Aw (G8 fs))))))] ?_))
 (refine jA D1 [116] (by decide +kernel) λK z=>?_;refine ev ?_;apply z)
 refine kR D1 λU u1=>?_;refine bA (A0.ii C (X:=Unit) (λj _=>[(3,.box 3 0),(5,.box 5 0),(7,Bo nm),(8,.d (.slice (Nt C))),(9,.d (.slice (B4 ss))),(18,.acc 116),(19,A6 j)]) (λj _=>[(3,.cells ((Ah p).map .d)),(5,.cells (Pt x)),(116,.rows 23 (Bx (headD 1 nm (G8 fs) []::(C.take j).filterMap (J4 Bt p))))]) (λ_ _=>True) () trivial sS ⟨rfl,rfl,rfl,trivial⟩ ?_ ?_)
 rotate_left
 .intro j _ c W I dp tk O _;have hj:=(Az.1 W).1;obtain⟨ae,a3⟩:=av c I;have a2:=wT p b3 x c.name;have e2:Bx (headD 1 nm (G8 fs) []::(C.take (j+1)).filterMap (J4 Bt p))=Bx (headD 1 nm (G8 fs) []::(C.take j).filterMap (J4 Bt p))++Bx (J4 Bt p c).toList:=by
   rw[Kj hj,(Az.1 W).2,List.filterMap_append];cases V:J4 Bt p c <;> simp[Bx,V]
  have e3:(Bx (headD 1 nm (G8 fs) []::(C.take j).filterMap (J4 Bt p))).length<=j+1:=by simp only[Bx,B7,Bg];have:=nC (J4 Bt p) (C.take j);rw[Dh]at this;omega
  rw[e2];generalize Bx (headD 1 nm (G8 fs) []::(C.take j).filterMap (J4 Bt p))=PR at*;refine Dq O @Eb D1 λJ u2=>?_;refine gI u2 ?_;refine xB λK3 u3 a8=>bA ?_;have skip:J4 Bt p c=none->K3 [(3,.box 3 0),(5,.box 5 0),(7,Bo nm),(8,.d (.slice (Nt C))),(9,.d (.slice (B4 ss))),(18,.acc 116),(19,A6 j)] [(3,.cells ((Ah p).map .d)),(5,.cells (Pt x)),(116,.rows 23 PR)]:=by intro hn;refine u3 _ _<|lT D1 ?_;exact⟨(),trivial,sS,by simp[ble,A9,hn,Bx,Ah]⟩
  have hG:J4 Bt p c=match L9 p x c.name with
   |none=>none
   |some d=>match Hy p c with
    |none=>none
    |some g=>some ⟨3,nm,[],[],[],d.recv,[],⟨g.name,[],F7 g.params d.sig.params,g.result,0⟩,Bt (M4 d x c),0⟩:=by
   unfold J4;rw[ae,bi] <;> rfl
  have L:=qZ p E.sm a6 hr c a3;rcases cR p x c.name with⟨h1,h2⟩|⟨i,d,h1,b5,h2⟩
  .rw[h2]at hG;generalize Ld p x c.name=k at*;cases ho:Hy p c with
   |none =>
    rw[ho]at L;unfold sgR at L
    (refine sG D1 [] 7 [] λK z=>?_;refine ev ?_;refine C0 @Fp.eq_1 (Jw W) ?_;refine cc a2 ?_;apply z)
    (refine sG D1 [] 11 gf λK z=>?_;refine ev ?_;refine C0 @Fp.eq_1 (Jw W) ?_;refine cc L ?_;apply z)
    refine Ag h1 D1 λK4 u4=>?_;refine eA rfl (lA ?_);simp only[Aa,Af,Av];exact a8 sS (by simp[ble,A9,Ah]) (skip hG)
   |some g =>
    rw[ho]at L;unfold sgR at L
    (refine sG D1 [] 7 [] λK z=>?_;refine ev ?_;refine C0 @Fp.eq_1 (Jw W) ?_;refine cc a2 ?_;apply z)
    (refine sG D1 [] 11 gf λK z=>?_;refine ev ?_;refine C0 @Fp.eq_1 (Jw W) ?_;refine cc L ?_;apply z)
    refine Ag h1 D1 λK4 u4=>?_;refine eA rfl (lA ?_);simp only[Aa,Af,Av];exact a8 sS (by simp[ble,A9,Ah]) (skip hG)
  rw[h2]at hG;simp only at hG;rw[h1]at a2;have aq:¬(i:Int)<0:=by omega
  cases ho:Hy p c with
  |none =>
   rw[ho]at L hG;unfold sgR at L
   (refine sG D1 [] 7 [] λK z=>?_;refine ev ?_;refine C0 @Fp.eq_1 (Jw W) ?_;refine cc a2 ?_;apply z)
   (refine sG D1 [] 11 gf λK z=>?_;refine ev ?_;refine C0 @Fp.eq_1 (Jw W) ?_;refine cc L ?_;apply z)
   refine Ag aq D1 λK4 u4=>?_;refine eA rfl (lA ?_);simp only[Aa,Af,Av];exact a8 sS (by simp[ble,A9,Ah]) (skip hG)
  |some g =>
   rw[ho]at hG;simp only at hG;obtain⟨be,sg,ao,b1,ax,am,rfl⟩:=G1i ho;have hA:=F9y p E.sm a6 hr c a3 sg be ao am;obtain⟨az,bg,_,_⟩:=Vq h2;obtain⟨d',_,_,_,_,he,aj⟩:=UF a1 (Mj.1 (by rw[<-ae];exact b1));rw[ax,h2]at aj;cases aj;have a4:=E.sm.decls.2 d az;have bh:(D5 c sg).params.length=d.sig.params.length:=by show(Ge _).length=_;rw[DH,B7,he];simp only[A4.subst,B7,A4.canon,Yp]
   have bk:(D5 c sg).result=.mk (D5 c sg).result.name [] 0:=rfl;have bt:(D5 c sg).params.length<=sm:=by rw[bh];exact a4.sig.params.1
   obtain⟨hq,ak,ay⟩:=uP hp E.sm hr az bg a3;rw[ae]at hq ak ay;have ar:=u9 (M4 d x c) (v7 (B:=720000000) (by decide) ak hq ay);have ba:=lq (Jv d) (Ia x c) (λu hu=>(Bj.1 hu).elim (a0.arg u) (a3.sm.targs.2 u)) d.body a4.body;have bc:=Ss d.sig.A1 a4.sig.A1.1;have b7:Bq (Jv d)=Bq d.vars++Bq (d.sig.A1.map (·.name)):=by simp[Jv,Bq,Ad]
   have b8:Au (Ia x c)=Au x.args++Au c.targs:=by simp[Ia,Cq]
   have bv:=a4.vars.1;have bj:=a4.sig.A1.1;have bl:=a3.sm.targs.1;have b':J4 Bt p c=some ⟨3,nm,[],[],[],d.recv,[],⟨(D5 c sg).name,[],F7 (D5 c sg).params d.sig.params,.mk (D5 c sg).result.name [] 0,0⟩,Bt (d.body.subst (Jv d) (Ia x c)),0⟩:=hG;unfold M4 at ar;generalize(D5 c sg).name=gn at*;generalize(D5 c sg).result.name=rn at*;generalize(D5 c sg).params=ps at*;generalize br:Jv d=NN at*;generalize bu:Ia x c=AA at*
   (refine sG D1 [] 7 [] λK z=>?_;refine ev ?_;refine C0 @Fp.eq_1 (Jw W) ?_;refine cc a2 ?_;apply z)
   (refine sG D1 [800137] 11 [⟨[],[],[21],[21]⟩,⟨[],[],[21],[21]⟩,⟨[],[],[21],[21]⟩,⟨[],[],[21],[21]⟩,⟨[],[],[21],[21]⟩,⟨[25],[25],[21],[21]⟩,⟨[],[],[21],[21]⟩,⟨[],[],[21],[21]⟩,⟨[],[],[21],[21]⟩,⟨[21],[21],[25],[25]⟩,⟨[21],[],[],[]⟩] λK z=>?_;refine ev ?_;refine C0 @Fp.eq_1 (Jw W) ?_;refine⟨_,_,_,xP 25 rfl rfl rfl hA rfl (by decide) rfl,?_⟩;(try simp -implicitDefEqProofs only[EV,D8,Nat.reduceAdd,Nat.reduceEqDiff,Nat.reduceBEq,Nat.reduceLeDiff,reduceCtorEq,SV.Fi,qA,SJ]);apply z)
   refine Ag aq D1 λK4 u4=>?_;refine kI u4 ?_;refine sI (E6 b5) [0,1,2,3,4,5,6,7,8,9,10,11,12,13,14,15,16,17,18,19,20,21,22,23,24,25,26,27,28,40,46,58,68,86,95,116,120,145,155,170,179,207,901,902] ?_;refine kR D1 λK4 u4=>?_;refine bA (A0.ii ps (X:=Unit) (λi _=>[(3,.box 3 0),(5,.box 5 0),(7,Bo nm),(8,.d (.slice (Nt C))),(9,.d (.slice (B4 ss))),(18,.acc 116),(19,A6 j),(21,.box 21 0),(23,.box 23 0),(24,A6 i)]) (λi _=>[(3,.cells ((Ah p).map .d)),(5,.cells (Pt x)),(116,.rows 23 PR),(21,.cells (agS gn rn (.acc 25))),(23,.cells (Ti d)),(25,.rows 5 (Aw (F7 (ps.take i) d.sig.params++ps.drop i)))]) (λ_ _=>True) () trivial sS (by simp[ble,A9,F7,Ah]) ?_ ?_)
   rotate_left
   .intro i _ q hq b6 Z a9 aw _;obtain⟨e,he⟩:∃e,d.sig.params[i]?=some e:=⟨_,Bu (by have:=(Az.1 hq).1;omega)⟩;have ad:(F7 (ps.take i) d.sig.params).length=i:=by
     have:=(Az.1 hq).1;simp only[F7,pN,Dh];omega
    have ab:(Aw (F7 (ps.take i) d.sig.params++ps.drop i))[i]?=some (G9 q):=Dt (by rw[Lq (by omega),ad,iR,Z];rfl)
    have af:Aw (F7 (ps.take (i+1)) d.sig.params++ps.drop (i+1))=(Aw (F7 (ps.take i) d.sig.params++ps.drop i)).set i (Hr (G9 q) 0 [.str e.name]):=F9z hq he Z a9 ad;have ap:(Aw (F7 (ps.take i) d.sig.params++ps.drop i)).length=ps.length:=by rw[rK,B5,ad,yJ];have:=(Az.1 hq).1;omega
    have b0:i<=sm:=by have:=(Az.1 hq).1;omega
    unfold sm at b0;have b9:i<(Aw (F7 (ps.take i) d.sig.params++ps.drop i)).length:=(Az.1 ab).1;generalize Aw (F7 (ps.take i) d.sig.params++ps.drop i)=QR at*;refine Dq aw ap D1 λK5 u5=>?_;refine gI u5 ?_;refine sK λK5 u5=>bA ?_
    (refine lG D1 [] 10 [] λK z=>?_;refine ev ?_;refine ci (Dt he) ?_;refine⟨by omega,b9,G9 q,[.str e.name],ab,rfl,by simp[G9],?_⟩;(try refine ev ?_);apply z;try simp only[Aa,Af])
    apply u5
    (refine lV D1 λK z=>?_;refine cl ?_;apply z;try simp only[Aa,])
    exact⟨(),trivial,sS,by simp[ble,A9,Ah];exact af.symm⟩
   intro _ _;have a7:(Aw (F7 (ps.take ps.length) d.sig.params++ps.drop ps.length)).length=ps.length:=by rw[Ca,Dk,Fv,rK];simp only[F7,pN];omega
   rw[Ca,Dk,Fv]at a7 |-;refine Dq B1 a7 D1 λK5 u5=>?_;refine sE ?_;apply u4
   (refine sG D1 [170] 7 [⟨[170],[170],[],[]⟩,⟨[],[],[170],[170]⟩,⟨[],[],[170],[170]⟩,⟨[170],[170],[],[]⟩,⟨[],[],[170],[170]⟩,⟨[],[],[170],[170]⟩,⟨[],[],[170],[170]⟩] λK z=>?_;refine ev ?_;refine⟨LD _,by(try simp only[Bq,B7,Ck]);unfold lim sm at*;omega,?_⟩;(try refine ev ?_);refine cc bc ?_;refine⟨LD _,by(try simp only[B7]);unfold lim sm at*;omega,?_⟩;(try refine ev ?_);apply z)
   (refine sG D1 [179] 9 [⟨[179],[179],[],[]⟩,⟨[],[],[179],[179]⟩,⟨[],[],[179],[179]⟩,⟨[179],[179],[],[]⟩,⟨[],[],[179],[179]⟩,⟨[],[],[179],[179]⟩,⟨[],[],[179],[179]⟩,⟨[],[],[179],[179]⟩,⟨[],[],[179],[179]⟩] λK z=>?_;refine ev ?_;refine⟨R3 _,by(try simp only[Cq,B7,Ck]);unfold lim sm at*;omega,?_⟩;(try refine Bb @Fp.eq_1 ?_);refine C0 @Fp.eq_1 (Jw W) ?_;refine⟨R3 _,by(try simp only[Cq,B5,B7,Ck]);unfold lim sm at*;omega,?_⟩;(try refine Bb @Fp.eq_1 ?_);apply z)
   rw[<-b7,<-b8]
   (refine A0.Km 170 rfl ?_;refine A0.Km 179 rfl ?_;refine A0.Km 25 rfl (wk [(3,.box 3 0),(5,.box 5 0),(7,Bo nm),(8,.d (.slice (Nt C))),(9,.d (.slice (B4 ss))),(18,.acc 116),(19,A6 j),(21,.box 21 0),(23,.box 23 0),(25,Cm NN),(26,Cv AA)] [(3,.cells ((Ah p).map .d)),(5,.cells (Pt x)),(116,.rows 23 PR),(21,.cells (agS gn rn (.d (.slice (Aw (F7 ps d.sig.params)))))),(23,.cells (Ti d))] ?_))
   (refine sV D1 λK z=>?_;refine cc ba ?_;refine cc ar ?_;apply z)
   generalize Bt (d.body.subst NN AA)=bm at*;generalize F7 ps d.sig.params=pr at*
   (refine lV D1 λK z=>?_;refine⟨by simp,by unfold lim sm at*;omega,?_⟩;(try refine ev ?_);apply z;try simp only[Aa,Af])
   apply u3;refine lT D1 ?_;exact⟨(),trivial,sS,by simp[ble,A9,Bx,Am,Ah,b'];repeat' first|rfl|constructor⟩
 intro _ _;rw[Ca];have ai:=nC (J4 Bt p) C;refine Dq B1 @Eb D1 λJ u2=>?_;refine sE ?_;apply u1;refine kR D1 λU u1=>?_;refine bA (A0.ii ss (X:=Unit) (λj _=>[(7,Bo nm),(9,.d (.slice (B4 ss))),(18,.acc 116),(28,A6 j)]) (λj _=>[(116,.rows 23 (Bx (headD 1 nm (G8 fs) []::(C.filterMap (J4 Bt p)++(ss.take j).map (Io nm)))))]) (λ_ _=>True) () trivial sS (by simp[ble,A9,Bx]) ?_ ?_)
 rotate_left
 .intro j _ s hs I dp tk O _;have hj:=(Az.1 hs).1;have ag:=au s I;have ah:=zj s (A4.Ni.dum (ag.mono (by decide)));have e2:Bx (headD 1 nm (G8 fs) []::(C.filterMap (J4 Bt p)++(ss.take (j+1)).map (Io nm)))=Bx (headD 1 nm (G8 fs) []::(C.filterMap (J4 Bt p)++(ss.take j).map (Io nm)))++[Am (Io nm s)]:=by
   rw[Kj hj,(Az.1 hs).2];simp[Bx]
  have e3:(Bx (headD 1 nm (G8 fs) []::(C.filterMap (J4 Bt p)++(ss.take j).map (Io nm)))).length<=2*sm+1:=by simp only[Bx,B7,Bg,B5,Dh];omega
  rw[e2];generalize Bx (headD 1 nm (G8 fs) []::(C.filterMap (J4 Bt p)++(ss.take j).map (Io nm)))=PR at*;unfold Io;generalize Gb s=g at*;refine Ag O D1 λJ u2=>?_;refine gI u2 ?_;refine sK λJ u2=>bA ?_
  (refine lV D1 λK z=>?_;refine ci (Dg hs) ?_;refine cc ah ?_;refine⟨by simp,by unfold lim sm at*;omega,?_⟩;(try refine ev ?_);apply z;try simp only[Aa,Af])
  apply u2;refine lT D1 ?_;exact⟨(),trivial,sS,⟨rfl,trivial⟩⟩
 intro _ _;rw[Ca];refine Ag B1 D1 λJ u2=>?_;refine sE ?_;apply u1;refine sR D1 ?_;exact aR
end Go.iA
namespace Go.iA
open Go
def G4(t:Ty)(l:List Ty):Prop:=∃u,u∈l/\t.er=u.er
def dC(c:Be)(l:List Be):Prop:=∃d,d∈l/\E8 c d=0
section
variable {α:Type} {cmp:α->α->Int} {x:α}
theorem jJ:∀{l:List α} {done:Bool} {out R:List α},Gj cmp x l done out=some R->(∀t,t∈out\/t∈l->t∈R)/\(done=false->x∈R)/\R.length=out.length+l.length+(if done=true then 0 else 1)
 |[],done,out,R,h=>by grind[Gj]
 |t::l,done,out,R,h=>by rw[Gj]at h;split at h;cases h;split at h;rename_i E I;obtain⟨k1,_,k3⟩:=jJ h;grind;obtain⟨k1,k2,k3⟩:=jJ h;grind
theorem rU:∀{l:List α} {done:Bool} {out:List α},Gj cmp x l done out=none->∃t,t∈l/\cmp x t=0
 |[],done,out,h=>by rw[Gj]at h;cases h
 |t::l,done,out,h=>by rw[Gj]at h;split at h;grind;split at h;obtain⟨u,E,h⟩:=rU h;grind;obtain⟨u,E,h⟩:=rU h;grind
theorem Kl(l:List α):∀t,t∈l->t∈Je cmp l x:=λt ht=>by
 unfold Je;cases h:Gj cmp x l false []with
 |none=>exact ht
 |some R=>exact(jJ h).1 t (.inr ht)
theorem ZX(hr:cmp x x=0)(l:List α):∃t,t∈Je cmp l x/\cmp x t=0:=by
 unfold Je;cases h:Gj cmp x l false []with
 |none=>exact rU h
 |some R=>exact⟨x,(jJ h).2.1 rfl,hr⟩
theorem ze(l:List α)(h:(Je cmp l x).length=l.length):Je cmp l x=l:=by
 unfold Je at h |-;cases E:Gj cmp x l false []with
 |none=>rfl
 |some R =>have:=(jJ E).2.2;grind
theorem pU(E:∀a b c,T3 (cmp a b) (cmp b c) (cmp a c))(I:∀a b,cmp b a = - cmp a b):∀{l:List α} {done:Bool} {out R:List α},Gj cmp x l done out=some R->(out++l).Pairwise (λa b=>cmp a b<0) ->(done=false->∀t,t∈out->cmp t x<0)->(done=true->True)->R.Pairwise λa b=>cmp a b<0
 |[],done,out,R,h,hp,ho,_=>by
  rw[Gj]at h
  grind
 |t::l,done,out,R,h,hp,ho,hd=>by
  rw[Gj]at h;split at h
  .cases h
  rename_i h0;split at h
  .rename_i L;refine pU E I h ?_ (λh=>by cases h) λ_=>trivial;rw[H3];obtain⟨U,J,Z⟩:=sN.1 hp;rw[sN];obtain⟨O,W⟩:=Tm.1 J;refine⟨U,Tm.2 ⟨λu hu=>?_,J⟩,λa hm b hb=>?_⟩
   .rcases Ay.1 hu with rfl|hu
    .omega
    .exact(E x t u).1 L.1 (by have:=O u hu;omega)
   grind
  .rename_i L;refine pU E I h (by grind) (λV u hu=>?_) hd
   grind
theorem kl(E:∀a b c,T3 (cmp a b) (cmp b c) (cmp a c))(I:∀a b,cmp b a = - cmp a b){l:List α}(hp:l.Pairwise λa b=>cmp a b<0):(Je cmp l x).Pairwise λa b=>cmp a b<0:=by
 unfold Je;cases h:Gj cmp x l false []with
 |none=>exact hp
 |some R=>grind[pU]
end
structure Ao.Ext(s r:Ao):Prop where
 types:∀t,t∈s.types->t∈r.types
 calls:∀c,c∈s.calls->c∈r.calls
 Dw:r.Dw=false->s.Dw=false
theorem Ao.Ext.refl(s:Ao):s.Ext s:=⟨λ_ h=>h,λ_ h=>h,λh=>h⟩
theorem Ao.Ext.trans{a b c:Ao}(h:a.Ext b)(k:b.Ext c):a.Ext c:=⟨λt ht=>k.types t (h.types t ht),λt ht=>k.calls t (h.calls t ht),λE=>h.Dw (k.Dw E)⟩
theorem G4.ext{s r:Ao}(h:s.Ext r){t:Ty}(k:G4 t s.types):G4 t r.types:=by obtain⟨u,E,e⟩:=k;exact⟨u,h.types u E,e⟩
theorem dC.ext{s r:Ao}(h:s.Ext r){t:Be}(k:dC t s.calls):dC t r.calls:=by obtain⟨u,E,e⟩:=k;exact⟨u,h.calls u E,e⟩
structure G6(f:Ao->Ao):Prop where
 ext:∀s:Ao,s.Ext (f s)
 ge:∀s,Fz s<=Fz (f s)
 id:∀s,(f s).Dw=false->Fz (f s)=Fz s->f s=s
theorem G6.one:G6 λs=>s:=⟨Ao.Ext.refl,λ_=>Bv _,λ_ _ _=>rfl⟩
theorem G6.comp{f g:Ao->Ao}(E:G6 f)(I:G6 g):G6 λs=>g (f s) :=⟨λs=>(E.ext s).trans (I.ext _),λs=>Cy (E.ge s) (I.ge _),λs J hs=>by have U:=E.ge s;have O:=I.ge (f s);have L:=I.id (f s) J (by omega);rw[L]at J hs |-;exact E.id s J hs⟩
theorem G6.fold{α:Type}{f:Ao->α->Ao}:∀l:List α,(∀a,a∈l->G6 λs=>f s a)->G6 λs=>l.foldl f s
 |[],_=>G6.one
 |a::l,h=>G6.comp (h a (by simp)) (G6.fold l λb E=>h b (by grind))
theorem yM{α:Type}{f:Ao->α->Ao}:∀(l:List α)(s:Ao),(∀a,a∈l->G6 λs=>f s a)->∀a,a∈l->∃E,(f E a).Ext (l.foldl f s)
 |[],_,_,_,h=>by grind
 |b::l,s,hs,a,h=>by rcases Ay.1 h with rfl|h;exact⟨s,(G6.fold l λb J=>hs b (by grind)).ext _⟩;exact yM l (f s b) (λc I=>hs c (by grind)) a h
theorem FH(x:Ty):G6 λs=>Hc s x:=by
 refine⟨λs=>?_,λs=>OM s x,λs E hs=>?_⟩;unfold Hc;split;exact⟨λ_ h=>h,λ_ h=>h,λh=>by cases h⟩;exact⟨λt ht=>Kl _ t ht,λ_ h=>h,λh=>h⟩
 .unfold Hc at E hs |-;split at E
  cases E;rename_i I;rw[A5 I]at hs |-;simp only[Fz]at hs;rw[ze _ (by omega)]
theorem ET(x:Be):G6 λs=>Hi s x:=by
 refine⟨λs=>?_,λs=>bX s x,λs E hs=>?_⟩;unfold Hi;split;exact⟨λ_ h=>h,λ_ h=>h,λh=>by cases h⟩;exact⟨λ_ h=>h,λt ht=>Kl _ t ht,λh=>h⟩
 .unfold Hi at E hs |-;split at E
  cases E;rename_i I;rw[A5 I]at hs |-;simp only[Fz]at hs;rw[ze _ (by omega)]
theorem HN{s:Ao}{x:Ty}(h:(Hc s x).Dw=false):G4 x (Hc s x).types:=by
 unfold Hc at h |-;split at h
 cases h;rename_i E;rw[A5 E];obtain⟨t,ht,e⟩:=ZX (cmp:=Er) (x:=x) ((U5 x x).2 rfl) s.types;exact⟨t,ht,(U5 x t).1 e⟩
theorem G7g{s:Ao}{x:Be}(h:(Hi s x).Dw=false):dC x (Hi s x).calls:=by
 unfold Hi at h |-;split at h
 cases h;rename_i E;rw[A5 E];exact ZX (wX x) s.calls
theorem F7c(e:Ex)(z:Ty × Fw):G6 λs=>Vi s e z:=by
 have E:G6 λs=>({ s with Dw:=s.Dw ||z.2.Dw }:Ao):=by refine⟨λs=>⟨λ_ h=>h,λ_ h=>h,λh=>?_⟩,λs=>Bv _,λs I _=>?_⟩;grind;simp at I;obtain⟨a,b,c⟩:=s;grind
 unfold Vi;by_cases h:z.2.bad=true;grind;simp only[h,Gi];exact G6.comp E (G6.comp (FH z.1) (ET _))
theorem sq(p:Prog)(vars:List Param)(e:Ex):G6 λs=>Ls p vars s e:=by
 unfold Ls;by_cases E:e.kind=3\/e.kind=5;simp only[E,Av];exact FH e.type;simp only[E,Gi];by_cases I:e.kind=2
 .simp only[I,Av];cases e.kids with
  |nil=>exact G6.one
  |cons v vs=>exact F7c e _
 simp only[I,Gi];exact G6.one
theorem H0u(p:Prog)(e:Ex)(vars:List Param):G6 λs=>Pk p s e vars:=G6.fold _ λa _=>sq p vars a
theorem ui(p:Prog)(x:Ty)(c:Be):G6 λs=>Rk p s x c:=by unfold Rk;split;exact G6.one;split;exact G6.one;exact H0u p _ _
theorem p6(l:List Ty):G6 λs=>L2 s l:=G6.fold _ λa _=>FH a
theorem MQ(p:Prog)(x:Ty)(c:Be):G6 λs=>M1 p x s c:=by
 unfold M1;cases Pq p x c with
 |none=>exact G6.one
 |some g=>exact G6.comp (p6 _) (G6.comp (FH _) (ui p x c))
theorem tg(p:Prog)(s:Ao)(x:Ty):G6 λout=>Ri p s out x:=by unfold Ri;by_cases h:B9 p x 1=true;simp only[h,Av];exact G6.comp (p6 _) (G6.fold _ λa _=>MQ p x a);simp only[h];exact G6.fold _ λa _=>MQ p x a
theorem Oe(p:Prog)(s:Ao):G6 λout=>s.types.foldl (Ri p s) out:=G6.fold _ λa _=>tg p s a
def U3(p:Prog)(vars:List Param)(y:Ex)(r:Ao):Prop :=(y.kind=3\/y.kind=5->G4 y.type r.types)/\∀v vs,y.kind=2->y.kids=v::vs->(Da ⟨p,false,[],vars⟩ v).2.Dw=false /\ ((Da ⟨p,false,[],vars⟩ v).2.bad=false->G4 (Da ⟨p,false,[],vars⟩ v).1 r.types/\dC ⟨(Da ⟨p,false,[],vars⟩ v).1,y.name,y.targs⟩ r.calls)
theorem U3.ext{p:Prog}{vars:List Param}{y:Ex}{s r:Ao}(h:s.Ext r)(k:U3 p vars y s):U3 p vars y r :=⟨λL=>(k.1 L).ext h,λv vs I E=>⟨(k.2 v vs I E).1,λJ=>⟨((k.2 v vs I E).2 J).1.ext h,((k.2 v vs I E).2 J).2.ext h⟩⟩⟩
theorem H6i{p:Prog}{vars:List Param}{s:Ao}{y:Ex}(h:(Ls p vars s y).Dw=false):U3 p vars y (Ls p vars s y):=by
 unfold Ls at h |-;by_cases E:y.kind=3\/y.kind=5
 simp only[E,Av]at h |-;exact⟨λ_=>HN h,λv vs I=>by omega⟩
 simp only[E,Gi]at h |-;refine⟨λL=>absurd L E,λv vs I O=>?_⟩;simp only[I,Av,O]at h |-;unfold Vi at h |-;by_cases U:(Da ⟨p,false,[],vars⟩ v).2.bad=true
 grind
 .rw[A5 U]at h |-;have E:=(ET _).ext _ |>.Dw h
  have J:=(FH _).ext _ |>.Dw E
  simp at J;exact⟨J.2,λ_=>⟨(HN E).ext ((ET _).ext _),G7g h⟩⟩
theorem kg{p:Prog}{vars:List Param}{s:Ao}{e:Ex}(h:(Pk p s e vars).Dw=false):∀y,y∈B3 e->U3 p vars y (Pk p s e vars):=λy E=>by obtain⟨I,hs⟩:=yM (B3 e) s (λa _=>sq p vars a) y E;exact(H6i (hs.Dw h)).ext hs
theorem x7{s:Ao}{l:List Ty}(h:(L2 s l).Dw=false):∀t,t∈l->G4 t (L2 s l).types:=λt ht=>by obtain⟨E,hs⟩:=yM l s (λa _=>FH a) t ht;exact(HN (hs.Dw h)).ext hs
def qS(p:Prog)(x:Ty)(c:Be)(r:Ao):Prop:=∀g,Pq p x c=some g->(∀t,t∈Q0 g c->G4 t r.types)/\G4 (T1 g c) r.types/\∀d,L9 p x c.name=some d->∀y,y∈B3 (M4 d x c)->U3 p (Sp p d x c) y r
theorem G0g{p:Prog}{x:Ty}{s:Ao}{c:Be}(h:(M1 p x s c).Dw=false):qS p x c (M1 p x s c):=by
 intro g U;unfold M1 at h |-;rw[U]at h |-;simp only at h |-;have E:=(ui p x c).ext (Hc (L2 s (Q0 g c)) (T1 g c));have J:=E.Dw h;have L:=(FH (T1 g c)).ext (L2 s (Q0 g c));have Z:=L.Dw J;refine⟨λt ht=>((x7 Z t ht).ext L).ext E,(HN J).ext E,λd hd y W=>?_⟩;unfold Rk at h |-;rcases cR p x c.name with⟨_,O⟩|⟨j,d',V,I,O⟩
 grind;rw[O]at hd;cases hd;rw[V,A5 (by omega),Ic,I]at h |-;exact kg h y W
structure vq(p:Prog)(s:Ao):Prop where
 main:∀y,y∈B3 p.main->U3 p [] y s
 fields:∀x,x∈s.types->B9 p x 1=true->∀f,f∈Bc p x->G4 f.type s.types
 call:∀x,x∈s.types->∀c,c∈s.calls->qS p x c s
 types:s.types.Pairwise λa b=>Er a b<0
 calls:s.calls.Pairwise λa b=>E8 a b<0
theorem G7p{p:Prog}{s:Ao}(h:(Me p s).Dw=false):(∀x,x∈s.types->B9 p x 1=true->∀f,f∈Bc p x->G4 f.type (Me p s).types)/\∀x,x∈s.types->∀c,c∈s.calls->qS p x c (Me p s):=by have key:∀x,x∈s.types->∃o,(Ri p s o x).Ext (Me p s):=λx J=>yM s.types s (λa _=>tg p s a) x J;refine⟨λx J Z f U=>?_,λx J c W=>?_⟩;obtain⟨o,E⟩:=key x J;have I:=E.Dw h;unfold Ri at E I;rw[A7 Z]at E I;have O:=(G6.fold s.calls λa _=>MQ p x a).ext (L2 o ((Bc p x).map (·.type)));exact((x7 (O.Dw I) f.type (Ap.2 ⟨f,U,rfl⟩)).ext O).ext E;obtain⟨o,E⟩:=key x J;have I:=E.Dw h;unfold Ri at E I;obtain⟨o',L⟩:=yM s.calls (if B9 p x 1=true then L2 o ((Bc p x).map (·.type))else o) (λa _=>MQ p x a) c W;have e:=L.trans E;intro g V;obtain⟨k1,k2,k3⟩:=G0g (e.Dw h) g V;exact⟨λt ht=>(k1 t ht).ext e,k2.ext e,λd hd y hy=>(k3 d hd y hy).ext e⟩
structure Ao.S7(s:Ao):Prop where
 types:s.types.Pairwise λa b=>Er a b<0
 calls:s.calls.Pairwise λa b=>E8 a b<0
theorem Ao.S7.lg{s:Ao}(h:s.S7)(b:Bool):Ao.S7 { s with Dw:=b }:=⟨h.types,h.calls⟩
theorem mL{s:Ao}(h:s.S7)(x:Ty):(Hc s x).S7:=by unfold Hc;split;exact⟨h.types,h.calls⟩;exact⟨kl LS oT h.types,h.calls⟩
theorem H6e{s:Ao}(h:s.S7)(x:Be):(Hi s x).S7:=by unfold Hi;split;exact⟨h.types,h.calls⟩;exact⟨h.types,kl JS rO h.calls⟩
theorem r9{p:Prog}{vars:List Param}{s:Ao}(h:s.S7)(e:Ex):(Pk p s e vars).S7:=by refine foldI _ (λs y _ h=>?_) h;unfold Ls;split;exact mL h _;split;split;exact h;unfold Vi;split;exact⟨h.types,h.calls⟩;exact H6e (mL (h.lg _) _) _;omega
theorem F7i{p:Prog}{s:Ao}(h:s.S7):(Me p s).S7:=by refine foldI _ (λo x _ E=>foldI _ (λo c _ E=>?_) ?_) h;unfold M1;split;exact E;refine(?_:Ao.S7 _);unfold Rk;have I:(Hc (L2 o (Q0 ‹A4› c)) (T1 ‹A4› c)).S7:=mL (foldI _ (λs t _ h=>mL h t) E) _;grind[r9];split;exact foldI _ (λs t _ h=>mL h t) E;omega
theorem HY{p:Prog}:∀(k:Nat)(s:Ao)(n:Int),s.S7->(Ir p k s n).2=true->(n = -1\/∃E:Ao,s=Me p E/\n=Fz E) ->s.Ext (Ir p k s n).1/\(Ir p k s n).1.S7/\∃E:Ao,(Ir p k s n).1=Me p E/\Fz E=Fz (Ir p k s n).1
 |0,s,n,_,h,_=>by simp[Ir]at h
 |k+1,s,n,hs,h,V=>by
  rw[Ir]at h |-;by_cases J:n=(Fz s:Int)
  .rw[A7 J]at h |-;split at h
   .cases h
   .rename_i I;rw[A5 I]
    grind[Ao.Ext.refl]
  .rw[A5 J]at h |-;split at h
   .cases h
   .rename_i I;rw[A5 I];obtain⟨O,U,L⟩:=HY k (Me p s) (Fz s) (F7i hs) h (.inr ⟨s,rfl,rfl⟩);exact⟨((Oe p s).ext s).trans O,U,L⟩
theorem H7n{p:Prog}(h:(Li p).2=true):vq p (Li p).1:=by
 have I:=ZS _ _ _ h;rw[show(Ir p 64 (Pk p Um p.main []) (-1)).1=(Li p).1 from rfl]at I;have J:(Li p).1.Dw=false:=by unfold X2 at I;simp only[DJ]at I;exact I.2.2.1
 obtain⟨L,O,E,U,Z⟩:=HY 64 (Pk p Um p.main []) (-1) (r9 ⟨by simp,by simp⟩ _) h (.inl rfl);rw[show(Ir p 64 (Pk p Um p.main []) (-1)).1=(Li p).1 from rfl]at L O U Z;have e:Me p E=E:=(Oe p E).id E (by grind[Me]) (by grind[Me]);have V:(Li p).1=E:=U.trans e;have W:Me p (Li p).1=(Li p).1:=by rw[V];exact e
 obtain⟨k1,k2⟩:=G7p (p:=p) (s:=(Li p).1) (by grind);rw[W]at k1 k2;exact⟨λy hy=>(kg (L.Dw J) y hy).ext L,k1,k2,O.types,O.calls⟩
end Go.iA
