import Derived.Test.YtoajimpjknbnoaaGreatDoorKV05
import Derived.Lib.ReplaceLaws
import Derived.Lib.Join
import Derived.Lib.SmallJoins
import Derived.Shelf.Strconv.Atoi
import Derived.Shelf.Strings.Replace
set_option linter.all false
set_option maxHeartbeats 2000000
set_option maxRecDepth 100000
namespace Go.iA
open Go Go.Proofs Tryz
abbrev comma:A3:=[44,32]
mutual
def Ty.txt:Ty->A3
 |.mk n a _=>if a.isEmpty=true then n else n++[91]++Lib.join (Ty.TL a) comma++[93]
def Ty.TL:List Ty->List A3
 |[]=>[]
 |t::E=>t.txt::Ty.TL E
end
mutual
def Ty.Ea:Ty->Nat
 |.mk n a _=>n.length+4+fA a
def fA:List Ty->Nat
 |[]=>0
 |t::E=>t.Ea+fA E
end
theorem yA(t:Ty):t.Ea=t.name.length+4+fA t.args:=by cases t;rfl
def uF(l:List A3):Nat:=(l.map λs=>s.length+2).sum
def XG:∀{l:List Ty} {t:Ty},t∈l->t.Ea<=fA l
 |[],_,h=>by simp at h
 |x::l,t,h=>by simp only[fA];rcases Ay.1 h with rfl|h;omega;have:=XG h;omega
def yS:∀l:List Ty,l.length<=fA l
 |[]=>Bv _
 |x::l=>by have:=yS l;have:=yA x;simp only[fA,Bg];omega
def Ty.pre(t:Ty)(j:Nat):A3:=if j=0 then t.name else t.name++[91]++Lib.join ((t.args.take j).map Ty.txt) comma
def H0q(l:List Ty):A3:=if l=[]then[]else[91]++Lib.join (l.map Ty.txt) comma++[93]
def Ft(k:Int)(n:A3)(t:Ty)(a:List Ty)(ks:List A3):A3 :=if k=2 then ks.headD []++[46]++n++H0q a++[40]++Lib.join (ks.drop 1) comma++[41]
 else if k=3 then t.txt++[123]++Lib.join ks comma++[125]
 else if k=4 then ks.headD []++[46]++n
 else if k=5 then ks.headD []++[46,40]++t.txt++[41]
 else n
mutual
def Ex.txt:Ex->A3
 |.mk k n t a ks _=>Ft k n t a (Ex.TL ks)
def Ex.TL:List Ex->List A3
 |[]=>[]
 |e::es=>e.txt::Ex.TL es
end
mutual
def Ex.Uo:Ex->Nat
 |.mk _ n t a ks _=>n.length+10+t.Ea+fA a+IA ks
def IA:List Ex->Nat
 |[]=>0
 |e::es=>e.Uo+IA es
end
def uB(e:Ex):e.Uo=e.name.length+10+e.type.Ea+fA e.targs+IA e.kids:=by cases e;rfl
def eT:∀{l:List Ex} {t:Ex},t∈l->t.Uo<=IA l
 |[],_,h=>by simp at h
 |x::l,t,h=>by simp only[IA];rcases Ay.1 h with rfl|h;omega;have:=eT h;omega
inductive Ex.Hs:Ex->Prop where
 |mk (k:Int) (n:A3) (t:Ty) (a:List Ty) (ks:List Ex) (q:Int):(k=1\/k=2\/k=3\/k=4\/k=5)->(k=2\/k=4\/k=5->ks≠[])->(k=5->n=[])->(∀e,e∈ks->Ex.Hs e)->Ex.Hs (.mk k n t a ks q)
variable {e:Ex}
def Ex.Hs.kids(h:e.Hs):∀x,x∈e.kids->x.Hs:=by cases h;assumption
def Ex.Hs.some(h:e.Hs)(I:e.kind=2\/e.kind=4\/e.kind=5):∃v,e.kids[0]?=some v:=by
 cases h with
 |mk k n t a ks q _ E _ _ =>
  have:=E I;cases ks with
  |nil=>exact absurd rfl this
  |cons v _=>exact⟨v,rfl⟩
def Ex.Hs.kind(h:e.Hs):e.kind=1\/e.kind=2\/e.kind=3\/e.kind=4\/e.kind=5:=by cases h;assumption
theorem Ex.Hs.name(h:e.Hs):e.kind=5->e.name=[]:=by cases h;assumption
structure I4h(n:A3):Prop where
 len:n.length<=sm
 noD:Lib.hasPrefix n [36]=false
 noN:H0f n=true
 noU:Lib.countByte n 95=0
def MD(v:List A3)(a:List Ty)(e:Ex):e.subst v a=.mk e.kind e.name (e.type.subst v a) (e.targs.map (Ty.subst v a)) (e.kids.map (Ex.subst v a)) e.pos:=by unfold Ex.subst;rw[AE];cases e;rfl
def G4h(names:List A3)(E:List Ex)(e:Ex):e.Ta names E=QL names E (e.Xy (e.kids.map (Ex.Ta names E))):=by unfold Ex.Ta;rw[AE]
def Ex.Hs.of(L:e.kind=1\/e.kind=2\/e.kind=3\/e.kind=4\/e.kind=5)(I:e.kind=2\/e.kind=4\/e.kind=5->e.kids≠[])(E:e.kind=5->e.name=[])(J:∀x,x∈e.kids->x.Hs):e.Hs:=by cases e with|mk k n t a ks q=>exact .mk k n t a ks q L I E J
def Ex.Hs.FZ(h:e.Hs):e.kind=2\/e.kind=4\/e.kind=5->e.kids≠[]:=λJ I=>by obtain⟨v,E⟩:=h.some J;rw[I]at E;cases E
def IB:∀e:Ex,e.right=true->e.Hs:=by
 intro e;induction e using Ex.induct with|_ e V=>?_;intro h;rw[LA,Bh,Bh]at h;have E:e.N7=true:=by have:=h.2.2;unfold Ex.Sw at this;split at this <;> (simp only[Bh]at this;exact this.2)
 have hn:e.kind=5->e.name=[]:=λW=>by
  have:=h.2.2;have ht:e.typed=true:=by unfold Ex.typed;rw[W];rfl
  unfold Ex.Sw at this;rw[A7 ht]at this;simp only[Bh,Di]at this;exact this.1.2
 refine .of ?_ (λh2 Z=>?_) hn λx U=>V x U (kK h.1 x U);unfold Ex.N7 at E;by_cases O:e.kind=1;exact .inl O;by_cases I:e.kind=2;exact .inr (.inl I);by_cases J:e.kind=3;exact .inr (.inr (.inl J));rw[A5 O,A5 I,A5 J]at E;by_cases L:e.kind=4\/e.kind=5;exact .inr (.inr (.inr L));rw[A5 L]at E;cases E
 .unfold Ex.N7 at E;have hl:e.kids.length=0:=by rw[Z];rfl
  by_cases I:e.kind=2;rw[A5 (by omega),A7 I,Di]at E;omega;rw[A5 (by omega),A5 I,A5 (by omega),A7 (by omega),Di]at E;omega
def Ex.Hs.subst(v:List A3)(a:List Ty):∀{e:Ex},e.Hs->(e.subst v a).Hs:=by intro e;induction e using Ex.induct with|_ e I=>?_;intro h;rw[MD];refine .mk _ _ _ _ _ _ h.kind (λJ L=>h.FZ J (nN.1 L)) h.name λx O=>?_;obtain⟨y,E,rfl⟩:=Ap.1 O;exact I y E (h.kids y E)
def Ex.Hs.Ta{names:List A3}{E:List Ex}(U:∀x,x∈E->x.Hs):∀{e:Ex},e.Hs->(e.Ta names E).Hs:=by
 intro e;induction e using Ex.induct with|_ e L=>?_;intro h;rw[G4h];have I:(e.Xy (e.kids.map (Ex.Ta names E))).Hs:=.mk _ _ _ _ _ _ h.kind (λI V=>h.FZ I (nN.1 V)) h.name λx W=>by obtain⟨y,J,rfl⟩:=Ap.1 W;exact L y J (h.kids y J)
 unfold QL;split
 .cases O:E[(Du (e.Xy (e.kids.map (Ex.Ta names E))).name names 0).toNat]? with
  |none=>exact I
  |some u=>exact U u (Bs O)
 exact I
def G4q{p:Prog}(hr:p.right=true):∀d,d∈p.decls->d.kind=3->d.body.Hs:=λd hd E=>by unfold Prog.right at hr;simp only[Bh,Dz]at hr;have:=hr.1 d hd;unfold Decl.right Decl.Ub at this;rw[A7 E]at this;simp only[Bh]at this;exact IB _ this.2.2.2.2.2.2.2.2
def G7d{p:Prog}(hr:p.right=true):p.main.Hs:=by unfold Prog.right at hr;simp only[Bh]at hr;exact IB _ hr.2
mutual
theorem DA:∀(t:Ty)(k:Int),t.count k<=2000->(t.Ea:Int)<=60*(t.count k - k)
 |.mk n a p,k,h=>by simp only[Ty.count]at h |-;have I:=rB a (k+1+((n.length / 50:Nat):Int)) h;rw[Ty.Ea];omega
theorem rB:∀(l:List Ty)(k:Int),Ty.Ct l k<=2000->(fA l:Int)<=60*(Ty.Ct l k - k)
 |[],k,_=>by simp[Ty.Ct,fA]
 |t::E,k,h=>by
  simp only[Ty.Ct]at h |-;split at h
  rename_i J;rw[A7 J];have O:=Ty.Lz E (t.count k);have I:=rB E (t.count k) h;have L:=DA t k (by omega);rw[fA];omega;omega
end
mutual
theorem pB:∀(e:Ex)(k:Int),e.count k<=2000->(e.Uo:Int)<=120*(e.count k - k)
 |.mk W n t a ks p,k,h=>by simp only[Ex.count]at h |-;have O:=Ty.Fu t (k+((n.length / 50:Nat):Int));have I:=Ty.Lz a (t.count (k+((n.length / 50:Nat):Int)));have L:=Ex.Lz ks (Ty.Ct a (t.count (k+((n.length / 50:Nat):Int))));have V:=DA t (k+((n.length / 50:Nat):Int)) (by omega);have Z:=rB a (t.count (k+((n.length / 50:Nat):Int))) (by omega);have U:=NB ks (Ty.Ct a (t.count (k+((n.length / 50:Nat):Int)))) h;rw[Ex.Uo];omega
theorem NB:∀(l:List Ex)(k:Int),Ex.Ct l k<=2000->(IA l:Int)<=120*(Ex.Ct l k - k)
 |[],k,_=>by simp[Ex.Ct,IA]
 |t::E,k,h=>by
  simp only[Ex.Ct]at h |-;split at h
  rename_i J;rw[A7 J];have O:=Ex.Lz E (t.count k);have I:=NB E (t.count k) h;have L:=pB t k (by omega);rw[IA];omega;omega
end
open Go
def Fx(s:List UInt8):List UInt8:=s.flatMap λc=>if c=95 then[95,95]else[c]
def CY(a b:List UInt8):Fx (a++b)=Fx a++Fx b:=by simp[Fx]
def nI(s:A3):(Fx s).length<=2*s.length:=by
 induction s with
 |nil=>simp[Fx]
 |cons c s E =>
  rw[show c::s=[c]++s from rfl,CY,B5,B5];have:(Fx [c]).length<=2:=by simp only[Fx,Ww,List.flatMap_nil,Fv];split <;> simp
  simp only[Bg,Ck];omega
abbrev Qj:A3:=[95,67]
mutual
def Ty.mg:Ty->A3
 |.mk n a _=>if n.head? =some 36/\a.isEmpty=true then[95,86]++n.drop 1 else Fx n++(if a.isEmpty=true then[]else[95,76]++Lib.join (uA a) Qj++[95,82])
def uA:List Ty->List A3
 |[]=>[]
 |t::E=>t.mg::uA E
end
def lB:∀l:List Ty,uA l=l.map Ty.mg
 |[]=>rfl
 |t::E=>by rw[uA,lB E,Cj]
def Ki(l:List Ty):A3:=if l=[]then[]else[95,76]++Lib.join (l.map Ty.mg) Qj++[95,82]
def FA(t:Ty):t.mg=if t.name.head? =some 36/\t.args=[]then[95,86]++t.name.drop 1 else Fx t.name++Ki t.args:=by
 cases t with
 |mk n a p =>rw[Ty.mg,lB];simp only[vW];rfl
def sW:∀l:List A3,(Lib.join l Qj).length<=uF l
 |[]=>by simp[Lib.join_nil]
 |x::r=>by
  have:∀r:List A3,(Lib.joinTail Qj r).length<=uF r:=λr=>by
   induction r with
   |nil=>simp[Lib.joinTail]
   |cons y r E=>simp only[Lib.joinTail,uF,Cj,AJ,B5,Jy,Bg,Ck]at E |-;omega
  rw[Lib.join_cons,B5];have:=this r;simp only[uF,Cj,Jy]at this |-;omega
mutual
theorem CA:∀t:Ty,t.mg.length+2<=2*t.Ea
 |.mk n a p=>by have J:=kB a;have E:=sW (uA a);have L:=nI n;rw[Ty.mg,Ty.Ea];split;simp only[B5,Bg,Ck,yJ];omega;split;simp only[B5,Ck];omega;simp only[B5,Bg,Ck];omega
theorem kB:∀l:List Ty,uF (uA l)<=2*fA l
 |[]=>by simp[uF,uA]
 |t::I=>by have J:=CA t;have E:=kB I;simp only[uF]at E;simp only[uA,fA,uF,Cj,Jy];omega
end
def vU(l:List Ty):(Ki l).length<=2*fA l+4:=by have E:=kB l;have I:=sW (uA l);rw[lB]at E I;unfold Ki;split;simp;simp only[B5,Bg,Ck];omega
variable {s:A3}
theorem UQ(h:isName s=true):∃c r,s=c::r/\cls c.toNat=1:=by
 cases s with
 |nil=>cases h
 |cons c r =>refine⟨c,r,rfl,?_⟩;unfold isName at h;simp only[Bh,Di]at h;exact h.1.1
def me{n:Nat}(h:cls n=1):65<=n/\n<=122/\¬(48<=n/\n<=57):=by unfold cls at h;split at h;rename_i E;unfold letter at E;omega;split at h;cases h;split at h;cases h;split at h <;> cases h
def gJ(h:isName s=true):s.head?≠some 36:=by obtain⟨c,r,rfl,I⟩:=UQ h;intro E;simp only[List.head?_cons,B8]at E;subst E;have:=me I;simp at this
inductive Ty.Mg:Ty->Prop where
 |loc (i:Nat) (p:Int):i<=100000->Ty.Mg (.mk (En i) [] p)
 |R0 (n:A3) (a:List Ty) (p:Int):isName n=true->n.length<=60000000*sm->a.length<=sm->(∀t,t∈a->Ty.Mg t)->Ty.Mg (.mk n a p)
def Ty.Mg.at_{n:A3}{a:List Ty}{p:Int}(h:Ty.Mg (.mk n a p))(q:Int):Ty.Mg (.mk n a q):=by
 cases h with
 |loc i _ L=>exact .loc i q L
 |R0 _ _ _ O I J E=>exact .R0 n a q O I J E
def Ty.Mg.as_{u:Ty}(h:u.Mg)(q:Int):(Ty.mk u.name u.args q).Mg:=by obtain⟨n,a,p⟩:=u;exact h.at_ q
def aQ{l:List Ty}{i:Int}(I:0<=i)(h:i<l.length):(l[i.toNat]?).getD default∈l:=by
 have E:i.toNat<l.length:=by omega
 rw[Bu E];exact Gc E
def Ty.Mg.subst{v:List A3}{J:List Ty}(I:∀u,u∈J->u.Mg):∀{t:Ty},t.Mg->(t.subst v J).Mg:=by
 intro t ht
 induction ht with
 |loc i p V =>rw[W1];split;rename_i E;exact(I _ (aQ E.2.1 E.2.2)).as_ _;exact .loc i p V
 |R0 n a p W O U h4 L =>rw[W1];split;rename_i E;exact(I _ (aQ E.2.1 E.2.2)).as_ _;refine .R0 _ _ _ W O (by rw[B7];exact U) λt ht=>?_;obtain⟨u,Z,rfl⟩:=Ap.1 ht;exact L u Z
def QA:∀{t:Ty},t.Sm->t.right=true->t.Mg:=by
 intro t
 induction t using Ty.induct with
 |h t L =>
 intro hs hr;obtain⟨n,a,p⟩:=t;unfold Ty.right at hr;rw[OA,Qa,Bh]at hr;refine .R0 n a p hr.1 hs.name hs.len λt ht=>L t ht (hs.arg t ht) ?_;unfold Ty.right;rw[Dz]at hr |-;refine λs J=>hr.2 s ?_;have:∀{l:List Ty} {t:Ty},t∈l->∀s,s∈t.names->s∈Ty.Eg l:=by
  intro l
  induction l with
  |nil=>intro t ht;simp at ht
  |cons x l I =>intro t ht s E;rw[Ty.Eg,Bj];rcases Ay.1 ht with rfl|ht;exact .inl E;exact .inr (I ht s E)
 exact this ht s J
theorem FY(i:Nat)(h:i<=100000):(Vu i).Mg:=.loc i 0 h
open Go Go.Proofs Tryz
def VP(b:UInt8)(d:Nat)(hd:Lib.digitVal b=some d):∀(l:List UInt8)(acc n:Nat),Lib.decFrom acc l=some n->Lib.decFrom acc (l++[b])=some (n*10+d)
 |[],acc,n,h=>by simp only[Lib.decFrom,B8]at h;subst h;simp[Lib.decFrom,hd]
 |c::l,acc,n,h=>by
  simp only[Kn,Lib.decFrom]at h |-;cases E:Lib.digitVal c with
  |none=>rw[E]at h;cases h
  |some e =>rw[E]at h;exact VP b d hd l _ n h
def dq{k:Nat}(h:k<10):Lib.digitVal (UInt8.ofNat (48+k))=some k:=by
 have:k=0\/k=1\/k=2\/k=3\/k=4\/k=5\/k=6\/k=7\/k=8\/k=9:=by omega
 rcases this with rfl|rfl|rfl|rfl|rfl|rfl|rfl|rfl|rfl|rfl <;> decide
def yY(n:Nat):Lib.decFrom 0 (Lib.decDigits n)=some n:=by
 induction n using Nat.strongRecOn with
 |_ n E =>
 by_cases h:n<10
 .rw[gL h];have:=VP _ n (dq h) [] 0 0 rfl;simpa using this
 .rw[bN h];have:=VP _ (n % 10) (dq (oE _ (by omega))) (Lib.decDigits (n / 10)) 0 (n / 10) (E (n / 10) (by omega));rw[this]
  congr 1
  omega
def bW(n:Nat):∃c r,Lib.decDigits n=c::r/\48<=c.toNat/\c.toNat<=57:=by
 induction n using Nat.strongRecOn with
 |_ n E =>
 by_cases h:n<10
 .rw[gL h];refine⟨_,[],rfl,?_⟩;have:n=0\/n=1\/n=2\/n=3\/n=4\/n=5\/n=6\/n=7\/n=8\/n=9:=by omega
  rcases this with rfl|rfl|rfl|rfl|rfl|rfl|rfl|rfl|rfl|rfl <;> decide
 .rw[bN h];obtain⟨c,r,J,I⟩:=E (n / 10) (by omega);exact⟨c,_,by rw[J];rfl,I⟩
def ig(n:Nat):Lib.atoi (Lib.decDigits n)=some (n:Int):=by
 obtain⟨c,r,L,J,O⟩:=bW n;have hd:=yY n;rw[L]at hd |-;have E:(c ==45)=false:=by rw[BW];rintro rfl;simp at J
 have I:(c ==43)=false:=by rw[BW];rintro rfl;simp at J
 simp only[Lib.atoi,E,I,Iu,Gi,Lib.decNat,hd];rfl
def hQ(n:Nat)(h:n<=100000):(Lib.decDigits n).length<=6:=by
 have d1:∀n,n<10->(Lib.decDigits n).length=1:=λn h=>by rw[gL h];rfl
 have st:∀n k,¬n<10->(Lib.decDigits (n / 10)).length<=k->(Lib.decDigits n).length<=k+1:=λn k h W=>by rw[bN h,B5];simp only[Bg,Ck];omega
 have I:∀k B,(∀n,n<B->(Lib.decDigits n).length<=k)->1<=k->∀n,n<10*B->(Lib.decDigits n).length<=k+1:=λk B hB W n J=>by by_cases E:n<10;rw[d1 n E];omega;exact st n k E (hB _ (by omega))
 have h1:=λn (J:n<10)=>Nat.le_of_eq (d1 n J);have V:=I 1 10 h1 (by omega);have Z:=I 2 _ V (by omega);have L:=I 3 _ Z (by omega);have O:=I 4 _ L (by omega);have U:=I 5 _ O (by omega);exact U n (by omega)
def Gm(m:A3)(l:List Ty):A3:=Fx m++Ki l
abbrev Vy:=[0,2,3,4,17,21,28,44]
def G0t(s:A3)(h:isName s=true):Ab Tryz.prog 135 [Bo s] (A6 (-1)):=by
 obtain⟨c,r,rfl,U⟩:=UQ h;obtain⟨g1,g2,W⟩:=me U;have J:¬(c.toNat:Int)=36:=by
  intro h;have:c.toNat=36:=by omega
  omega
 have V:(c::r)[0]?=some c:=rfl;have O:(c::r).length=r.length+1:=rfl;generalize c::r=s at*;by_cases Z:s.length<2
 .have E:(s.length:Int)<2:=by omega
  refine cB func135 ?_;refine sR Vy ?_;refine sR Vy ?_;refine Ag E Vy λL u1=>?_;refine tI ?_;refine sR Vy ?_;exact aR
 have E:¬(s.length:Int)<2:=by omega
 by_cases h3:s.length > 11
 .have I:(s.length:Int) > 11:=by omega
  refine cB func135 ?_;refine sR Vy ?_;refine sR Vy ?_;refine Dq E I Vy λL u1=>?_;refine tI ?_;refine sR Vy ?_;exact aR
 have I:¬(s.length:Int) > 11:=by omega
 refine cB func135 ?_;refine sR Vy ?_;refine sR Vy<|sK λL u1=>?_
 refine sQ Vy λK z=>?_;refine G1 E I ?_;refine⟨c,V,?_⟩;(try refine Bb J ?_);apply z;refine tI ?_;refine sR Vy ?_;exact aR
variable {j:Nat}
def G5n{c:UInt8}(h:s[j]?=some c):Fx (s.take (j+1))=Fx (s.take j)++(if c=95 then[95,95]else[c]):=by have E:=(Az.1 h).1;have I:=(Az.1 h).2;rw[Kj E,CY,I];simp[Fx]
abbrev Wp:=[0,2,3,4,8,21]
def dO(s:A3)(hs:s.length<=60000000*sm):Ab Tryz.prog 133 [Bo s] (Bo (Fx s)):=by
 refine cB func133 ?_;refine sR Wp ?_;refine sR Wp ?_;refine kR Wp λK1 u1=>?_;refine bA (A0.ii s (X:=Unit) (λj _=>[(0,Bo s),(3,Bo (Fx (s.take j))),(4,A6 j)]) (λ_ _=>[]) (λ_ _=>True) () trivial (by simp[sle,B0,Ae,Fx]) sB ?_ ?_);rotate_left
 .intro j _ c O W dp tk V _;have Z:=(Az.1 O).1;have U:=nI (s.take j);have he:((j:Int)+1).toNat=j+1:=by omega
  have L:List.drop j (List.take (j+1) s)=[c]:=by rw[Kj Z,List.drop_left' (by simp;omega),(Az.1 O).2]
  rw[Dh]at U;rw[G5n O];generalize Fx (s.take j)=o at*;refine Ag V Wp λJ u2=>?_;refine gI u2 ?_;refine sK λJ u2=>bA ?_;refine sQ Wp λK z=>?_;simp -implicitDefEqProofs only[EV,D8,Nat.reduceEqDiff,reduceCtorEq];rw[he,L];refine⟨by simp only[B6,sm]at*;omega,by omega,by omega,by omega,by simp only[Bg,Ck];unfold lim sm at*;omega,?_⟩;(try refine ev ?_);apply z;by_cases E:c=95
  .have I:(c.toNat:Int)=95:=by rw[E];rfl
   rw[A7 E];subst E;refine sV Wp λK z=>?_;refine⟨by omega,_,O,?_⟩;(try refine Bb I ?_);apply z;refine eA rfl ?_;(refine lV Wp λK z=>?_;refine⟨by simp only[B5,Bg,Ck];unfold lim sm at*;omega,?_⟩;(try refine ev ?_);apply z;try simp only[Aa,Af]);apply u2;(refine lI Wp ?_;try simp only[Aa,Av]);exact⟨(),trivial,by simp[sle,B0,Ae],sB⟩
  .have I:¬(c.toNat:Int)=95:=λh=>E (by
    have:c.toNat=95:=by omega
    exact UInt8.toNat_inj.1 this)
   rw[A5 E];refine sV Wp λK z=>?_;refine⟨by omega,_,O,?_⟩;(try refine Bb I ?_);apply z;refine dA rfl (cA (u2 _ _ ?_));refine lT Wp ?_;exact⟨(),trivial,by simp[sle,B0,Ae,E],sB⟩
 intro _ _;rw[Ca];refine Ag B1 Wp λJ u2=>?_;refine sE ?_;apply u1;refine sR Wp ?_;exact aR
def Rj(l:List Ty)(j:Nat):A3:=if j=0 then[]else[95,76]++Lib.join ((l.take j).map Ty.mg) Qj
def F6k(l:List A3)(x:A3)(h:l≠[]):Lib.join (l++[x]) Qj=Lib.join l Qj++Qj++x:=by
 cases l with
 |nil=>exact absurd rfl h
 |cons y r=>simp[Lib.join_cons,Lib.joinTail]
def G8q{l:List Ty}{t:Ty}(h:l[j]?=some t):Rj l (j+1)=(if j=0 then Rj l j++[95,76]else Rj l j++Qj)++t.mg:=by have I:=(Az.1 h).1;unfold Rj;rw[A5 (by omega),Kj I,(Az.1 h).2,Gy];by_cases E:j=0;subst E;simp[Lib.join_cons,Lib.joinTail];rw[A5 E,A5 E,show[t].map Ty.mg=[t.mg] from rfl,F6k _ _ (by intro J;have:=F8 List.length J;rw[B7,Dh]at this;simp only[Ck]at this;omega)];simp only[H3]
def xh(l:List Ty)(j:Nat):(Rj l j).length<=2*fA l+2:=by
 unfold Rj;split;simp
 .have L:=sW ((l.take j).map Ty.mg);have J:=kB (l.take j);rw[lB]at J;have E:∀(m:List Ty) (j:Nat),fA (m.take j)<=fA m:=by
   intro m
   induction m with
   |nil=>intro j;simp[fA]
   |cons a m I =>
    intro j;cases j with
    |zero=>simp[fA]
    |succ j=>rw[RC,fA,fA];have:=I j;omega
  have:=E l j;simp only[B5,Bg,Ck];omega
def H8m(l:List Ty):(if l=[]then Rj l l.length else Rj l l.length++[95,82])=Ki l:=by
 unfold Rj Ki;cases l with
 |nil=>rfl
 |cons a r=>rw[A5 (by simp),A5 (by simp),A5 (by simp),Ca]
def H8h{l:List Ty} :Rj l l.length=[]↔l=[]:=by
 unfold Rj;cases l with
 |nil=>simp
 |cons a r=>rw[A5 (by simp)];simp
abbrev Pz:=[0,2,3,4,8,12,25]
def IV(l:List Ty)(hl:l.length<=sm)(a1:fA l<=10000000000000)(ih:∀t,t∈l->Ab Tryz.prog 59 [Ba t] (Bo t.mg)):Ab Tryz.prog 134 [.d (.slice (Au l))] (Bo (Ki l)):=by
 rw[<-H8m];refine cB func134 ?_;refine sR Pz ?_;refine sR Pz ?_;refine kR Pz λU u1=>?_;refine bA (A0.ii l (X:=Unit) (λj _=>[(0,.d (.slice (Au l))),(3,Bo (Rj l j)),(4,A6 j)]) (λ_ _=>[]) (λ_ _=>True) () trivial (by simp[sle,B0,Ae,Rj]) sB ?_ ?_);rotate_left
 .intro j _ t ht I dp tk Z _;have O:=ih t I;have a0:=xh l j;have a2:=CA t;have a3:=XG I;rw[G8q ht];generalize Rj l j=o at*;generalize t.mg=m at*;refine Ag Z Pz λL u2=>?_;refine gI u2 ?_;refine sK λL u2=>bA<|sK λK3 W=>?_;by_cases E:j=0
  subst E;have J:((0:Nat):Int)=0:=rfl;refine Ak J Pz ?_;refine eA rfl ?_;(refine lV Pz λK z=>?_;refine⟨by(try simp only[Bg,Ck]);unfold lim;omega,?_⟩;(try refine ev ?_);apply z;try simp only[Aa,]);refine W _ _ ?_;(refine lV Pz λK z=>?_;refine cj (Fs ht) ?_;refine cc O ?_;refine⟨by(try simp only[B5,Bg,Ck]);unfold lim;omega,?_⟩;(try refine ev ?_);apply z;try simp only[Aa,Af]);apply u2;(refine lV Pz λK z=>?_;refine cl ?_;apply z;try simp only[Aa,Av]);exact⟨(),trivial,by simp[sle,B0,Ae],sB⟩
  .have J:¬(j:Int)=0:=by omega
   rw[A5 E];refine Ak J Pz ?_;refine dA rfl ?_;(refine lV Pz λK z=>?_;refine⟨by(try simp only[Bg,Ck]);unfold lim;omega,?_⟩;(try refine ev ?_);apply z;try simp only[Aa,]);refine W _ _ ?_;(refine lV Pz λK z=>?_;refine ci (Fs ht) ?_;refine cc O ?_;refine⟨by(try simp only[B5,Bg,Ck]);unfold lim;omega,?_⟩;(try refine ev ?_);apply z;try simp only[Aa,Af]);apply u2;refine lT Pz ?_;exact⟨(),trivial,by simp[sle,B0,Ae,E],sB⟩
 intro _ _;have a0:=xh l l.length;have hn:=H8h (l:=l);generalize Rj l l.length=o at*;refine Ag B1 Pz λL u2=>?_;refine sE ?_;apply u1;by_cases E:l=[];have V:o=[]:=hn.2 E;rw[A7 E];refine Ag V Pz λU u1=>?_;refine tI ?_;refine sR Pz ?_;rw[V];exact aR;have V:¬o=[]:=λh=>E (hn.1 h);rw[A5 E];refine Ag V Pz λU u1=>?_;refine kI u1 ?_;refine sV Pz λK z=>?_;refine⟨by(try simp only[Bg,Ck]);unfold lim;omega,?_⟩;(try refine ev ?_);apply z;exact aR
def G3t{n:Nat}(E:48<=n)(I:n<=57):cls (n:Int)=2:=by unfold cls;rw[A5 (by unfold letter;omega),A7 (by omega)]
def uX(n:Nat):∀c,c∈Lib.decDigits n->48<=c.toNat/\c.toNat<=57:=by
 have E:∀k,k<10->48<=(UInt8.ofNat (48+k)).toNat/\(UInt8.ofNat (48+k)).toNat<=57:=λk h=>by
  have:k=0\/k=1\/k=2\/k=3\/k=4\/k=5\/k=6\/k=7\/k=8\/k=9:=by omega
  rcases this with rfl|rfl|rfl|rfl|rfl|rfl|rfl|rfl|rfl|rfl <;> decide
 induction n using Nat.strongRecOn with
 |_ n I =>
 intro c hc;by_cases h:n<10
 .rw[gL h]at hc;rw[Pj.1 hc];exact E n h
 .rw[bN h]at hc;rcases Bj.1 hc with hc|hc
  .exact I (n / 10) (by omega) c hc
  .rw[Pj.1 hc];exact E _ (oE _ (by omega))
def UW:∀(l:List UInt8)(acc n:Nat),Lib.decFrom acc l=some n->n<(acc+1)*10 ^ l.length
 |[],acc,n,h=>by simp only[Lib.decFrom,B8]at h;subst h;simp
 |c::l,acc,n,h=>by
  simp only[Lib.decFrom]at h;cases E:Lib.digitVal c with
  |none=>rw[E]at h;cases h
  |some d =>
   rw[E]at h;have I:=UW l _ n h;have hd:d<=9:=by unfold Lib.digitVal at E;split at E;cases E;omega;cases E
   rw[Bg,Nat.pow_succ];refine X0 I ?_
   calc (acc*10+d+1)*10 ^ l.length<=((acc+1)*10)*10 ^ l.length:=Ih _ (by omega)
    _=(acc+1)*(10 ^ l.length*10):=by rw[Nat.mul_assoc,qE 10 (10 ^ l.length)]
abbrev Xm:=[0,2,3,4,17,21,28,44]
def F5x(i:Nat)(h:i<=100000):Ab Tryz.prog 135 [Bo (En i)] (A6 i):=by
 have O:=uX i;have aa:=hQ i h;have a1:=yY i;have a4:=o6 i (by unfold sm;omega);have e0:En i=36::Lib.decDigits i:=by unfold En;rw[Uv]
 have a8:1<=(Lib.decDigits i).length:=by obtain⟨c,r,h1,_⟩:=bW i;rw[h1];simp
 have a0:¬(i:Int) > 2147483647:=by omega
 have g0:(En i)[0]?=some 36:=by rw[e0];rfl
 have gs:∀j c,(Lib.decDigits i)[j]?=some c->(En i)[j+1]?=some c:=λj c hc=>by rw[e0,WC];exact hc
 have ab:(En i).length=(Lib.decDigits i).length+1:=by rw[e0];rfl
 generalize En i=s at*;generalize Lib.decDigits i=ds at*;have a2:¬(s.length:Int)<2:=by omega
 have a6:¬(s.length:Int) > 11:=by omega
 have a5:(((36:UInt8).toNat:Nat):Int)=36:=rfl;refine cB func135 ?_;refine sR Xm ?_;refine sR Xm<|sK λV u1=>?_
 refine sQ Xm λK z=>?_;refine G1 a2 a6 ?_;refine⟨36,g0,?_⟩;(try refine Bb a5 ?_);apply z;refine kI u1 ?_;refine kR Xm λV u1=>?_;refine bA (A0.ii ds (X:=Nat) (λj n=>[(0,Bo s),(3,A6 n),(4,A6 ((j+1:Nat):Int))]) (λ_ _=>[]) (λj n=>Lib.decFrom 0 (ds.take j)=some n) 0 rfl sS sB ?_ ?_);rotate_left
 .intro j n c hc Z dp tk a9 L;obtain⟨c1,c2⟩:=O c Z;have I:=vV c.toNat;rw[G3t c1 c2]at I;have U:=gs j c hc;have W:((j+1:Nat):Int)<(s.length:Int):=by omega
  have ac:=(Az.1 hc).1;have a':=UW _ _ _ L;have a7:10 ^ (ds.take j).length<=10 ^ 5:=Nat.pow_le_pow_right (by omega) (by rw[Dh];omega);have a3:Lib.digitVal c=some (c.toNat - 48):=by unfold Lib.digitVal;rw[A7 ⟨c1,c2⟩]
  have J:=VP c _ a3 _ _ _ L;rw[<-tk]at J;refine Ag W Xm λE u2=>?_;refine gI u2 ?_;refine sK λE u2=>bA<|sK λK3 u3=>?_
  refine sV Xm λK z=>?_;refine⟨by omega,_,U,?_⟩;(try simp -implicitDefEqProofs only[EV,D8,M6,Mp,Nat.reduceAdd,Nat.reduceEqDiff,Nat.reduceBEq,Nat.reduceLeDiff,Nat.reduceSub,Nat.reduceMul,Int.reduceEq,Int.reduceLT,Int.reduceLE,Int.reduceSub,Int.reduceAdd,Int.reduceToNat,reduceCtorEq,Int.reduceNeg,ne_eq,rR]);refine cc I ?_;apply z
  refine kI u3 ?_;have hw:IntKind.i64.wrap (IntKind.u8.wrap ((c.toNat:Int) - 48))=((c.toNat - 48:Nat):Int):=by
   have:c.toNat=48\/c.toNat=49\/c.toNat=50\/c.toNat=51\/c.toNat=52\/c.toNat=53\/c.toNat=54\/c.toNat=55\/c.toNat=56\/c.toNat=57:=by omega
   rcases this with h|h|h|h|h|h|h|h|h|h <;> (rw[h];decide)
  have ad:n<100000:=by omega
  have hv:10*(n:Int)+((c.toNat - 48:Nat):Int)=((n*10+(c.toNat - 48):Nat):Int):=by omega
  have h4:((j+1:Nat):Int)+1=((j+1+1:Nat):Int):=by omega
  (refine lV Xm λK z=>?_;refine⟨by simp only[B6];omega,by omega,_,U,?_⟩;rw[hw];refine⟨by simp only[B6];omega,?_⟩;(try refine ev ?_);apply z;try simp only[Aa,Af]);apply u2;(refine lV Xm λK z=>?_;refine cl ?_;apply z;try simp only[Aa,]);rw[hv,h4];exact⟨_,J,by simp only[sle,B0,Ae];simp,sB⟩
 intro n L;rw[Ca,a1]at L;obtain rfl:=Tf L;have hx:¬((ds.length+1:Nat):Int)<(s.length:Int):=by omega
 refine Ag hx Xm λE u2=>?_;refine sE ?_;apply u1;refine sK λV u1=>?_;refine sQ Xm λK z=>?_;refine Bb a0 ?_;refine cc a4 ?_;apply z;refine kI u1 ?_;refine sR Xm ?_;exact aR
abbrev LF:=[0,1,2,3,14]
def SH:∀t:Ty,t.Mg->t.Ea<=10000000000000->Ab Tryz.prog 59 [Ba t] (Bo t.mg):=by
 intro t
 induction t using Ty.induct with
 |h t ih =>
 intro hm W;have E:=CA t;rw[FA]at E |-;obtain⟨n,a,p⟩:=t;cases hm with
 |loc i _ Z =>
  have I:=F5x i Z;have hit:=fP i (by unfold sm;omega);have e:(if(Ty.mk (En i) [] p).name.head? =some 36/\(Ty.mk (En i) [] p).args=[]then[95,86]++(Ty.mk (En i) [] p).name.drop 1 else Fx (Ty.mk (En i) [] p).name++Ki (Ty.mk (En i) [] p).args)=[95,86]++Lib.decDigits i:=by rw[A7 ⟨rfl,rfl⟩,<-Uv];rfl
  rw[e]at E |-;have a0:=hQ i Z;generalize Lib.decDigits i=s at*;have a1:(((Au []).length:Nat):Int)=0:=rfl;have U:(i:Int) >= 0:=by omega
  refine cB func59 ?_;refine sR LF ?_;refine sC I LF ?_;refine Ag U LF λV u1=>?_;refine tI ?_;refine sV LF λK z=>?_;refine cc hit ?_;refine⟨by(try simp only[B5,Bg,Ck]);unfold lim;omega,?_⟩;(try refine ev ?_);apply z;exact aR
 |R0 _ _ _ h1 h2 h3 h4 =>
  have I:=G0t n h1;have L:=dO n h2;have a2:(Ty.mk n a p).Ea=n.length+4+fA a:=rfl;have O:=IV a h3 (by omega) λu J=>ih u J (h4 u J) (by have:=XG J;omega);have e:(if(Ty.mk n a p).name.head? =some 36/\(Ty.mk n a p).args=[]then[95,86]++(Ty.mk n a p).name.drop 1 else Fx (Ty.mk n a p).name++Ki (Ty.mk n a p).args)=Fx n++Ki a:=by rw[A5 (λh=>gJ h1 h.1)];rfl
  rw[e]at E |-;rw[B5]at E;generalize Fx n=s1 at*;generalize Ki a=s2 at*;refine cB func59 ?_;refine sR LF ?_;refine sC I LF ?_;refine kR LF λV u1=>?_;refine kI u1 ?_
  refine sG LF [] 5 [] λK z=>?_;refine ev ?_;refine cc L ?_;refine cc O ?_;refine⟨by(try simp only[B5]);unfold lim;omega,?_⟩;(try refine ev ?_);apply z;exact aR
def eU(m:A3)(U:m.length<=60000000*sm)(l:List Ty)(L:l.length<=sm)(J:∀t,t∈l->t.Mg)(E:fA l<=10000000000000):Ab Tryz.prog 58 [Bo m,.d (.slice (Au l))] (Bo (Gm m l)):=by have V:=dO m U;have O:=IV l L E λu I=>SH u (J u I) (by have:=XG I;omega);have Z:=nI m;have W:=vU l;unfold Gm;generalize Fx m=s1 at*;generalize Ki l=s2 at*;refine cB func58 ?_;refine sR [0,1,4] ?_;refine sV [0,1,4] λK z=>?_;refine cc V ?_;refine cc O ?_;refine⟨by(try simp only[B5]);unfold lim sm at*;omega,?_⟩;(try refine ev ?_);apply z;exact aR
def H5b(t:Ty)(J:t.Mg)(E:t.Ea<=10000000000000):Ab Tryz.prog 57 [Ba t] (Ba (.mk t.mg [] t.pos)):=by have I:=SH t J E;generalize t.mg=s at*;refine cB func57 ?_;refine sR [0,1,2] ?_;refine sG [0,1,2] [] 4 [] λK z=>?_;refine ev ?_;refine cc I ?_;apply z;exact aR
abbrev Ej(t:Ty):Ty:=.mk t.mg [] 0
def KM(t:Ty)(I:t.Mg)(E:t.Ea<=10000000000000):Ab Tryz.prog 63 [Ba t] (Ba (Ej t)):=by have J:=SH t I E;show Ab Tryz.prog 63 [Ba t] (Ba (.mk t.mg [] 0));generalize t.mg=s at*;refine cB func63 ?_;refine sR [0,1,2] ?_;refine sC J [0,1,2] ?_;exact aR
def Jx(l:List Aj):A3:=l.flatMap λf=>f.bound.mg++[95,66]
def Kd(l:List Param):A3:=l.flatMap λf=>f.type.mg++[95,80]
def L7(s:A4):A3:=Fx s.name++[95,83]++Jx s.canon.A1++Kd s.canon.params++s.canon.result.mg++[95,69]
def H0w{l:List Aj}{f:Aj}(h:l[j]?=some f):Jx (l.take (j+1))=Jx (l.take j)++f.bound.mg++[95,66]/\(Jx (l.take (j+1))).length<=(Jx l).length:=by
 have E:=(Az.1 h).1;have e:Jx (l.take (j+1))=Jx (l.take j)++f.bound.mg++[95,66]:=by rw[Kj E,(Az.1 h).2];simp[Jx]
 refine⟨e,?_⟩;have:Jx l=Jx (l.take (j+1))++Jx (l.drop (j+1)):=by unfold Jx;rw[<-oN,Ue]
 rw[this,B5];omega
def F9d{l:List Param}{f:Param}(h:l[j]?=some f):Kd (l.take (j+1))=Kd (l.take j)++f.type.mg++[95,80]/\(Kd (l.take (j+1))).length<=(Kd l).length:=by
 have E:=(Az.1 h).1;have e:Kd (l.take (j+1))=Kd (l.take j)++f.type.mg++[95,80]:=by rw[Kj E,(Az.1 h).2];simp[Kd]
 refine⟨e,?_⟩;have:Kd l=Kd (l.take (j+1))++Kd (l.drop (j+1)):=by unfold Kd;rw[<-oN,Ue]
 rw[this,B5];omega
abbrev QJ:Nat:=10000000000000
structure rS(s:A4):Prop where
 sm:s.Sm
 f:∀f,f∈s.canon.A1->f.bound.Mg/\f.bound.Ea<=QJ
 p:∀f,f∈s.canon.params->f.type.Mg/\f.type.Ea<=QJ
 r:s.canon.result.Mg/\s.canon.result.Ea<=QJ
 len:(L7 s).length<=100000000000000
abbrev T0:=[0,1,2,3,4,5,6,17,34]
def H5d(s:A4)(h:rS s):Ab Tryz.prog 137 [Db s] (Bo (L7 s)):=by
 have a1:=ZK s h.sm;have a0:=dO s.name h.sm.name;have hr:=SH s.canon.result h.r.1 h.r.2;have hf:=h.f;have hp:=h.p;have O:=h.len;have a3:s.canon.A1.length<=sm:=by rw[show s.canon.A1.length=s.A1.length from Yz s _];exact h.sm.A1.1
 have a2:s.canon.params.length<=sm:=by rw[show s.canon.params.length=s.params.length from Yp s _];exact h.sm.params.1
 unfold L7 at*;generalize s.canon=q at*;generalize Fx s.name=n at*;generalize q.result.mg=rr at*;simp only[B5,Bg,Ck]at O;refine cB func137 ?_;refine sR T0 ?_;refine sC a1 T0 ?_;refine sV T0 λK z=>?_;refine cc a0 ?_;refine⟨by(try simp only[B5,Bg,Ck]);unfold lim;omega,?_⟩;(try refine ev ?_);apply z;refine kR T0 λZ u1=>?_;refine bA (A0.ii q.A1 (X:=Unit) (λj _=>[(1,.box 1 0),(3,.box 3 0),(4,Bo (n++[95,83]++Jx (q.A1.take j))),(5,A6 j)]) (λ_ _=>[(1,.cells (Q3 s)),(3,.cells (Q3 q))]) (λ_ _=>True) () trivial (by simp[sle,B0,Ae,Jx]) sB ?_ ?_);rotate_left;intro j _ u V E dp tk J _;obtain⟨L,U⟩:=H0w V;have W:=SH u.bound (hf u E).1 (hf u E).2;rw[L]at U;rw[L,<-H3,<-H3];generalize Jx (q.A1.take j)=o at*;generalize u.bound.mg=m at*;simp only[B5,Bg,Ck]at U;refine Ag J T0 λI u2=>?_;refine gI u2 ?_;refine sK λI u2=>bA ?_;(refine lV T0 λK z=>?_;refine ci (Fm V) ?_;refine cc W ?_;refine⟨by(try simp only[B5,Bg,Ck]);unfold lim;omega,?_⟩;(try refine ev ?_);refine⟨by(try simp only[B5,Bg,Ck]);unfold lim;omega,?_⟩;(try refine ev ?_);apply z;try simp only[Aa,Af]);apply u2;refine lT T0 ?_;exact⟨(),trivial,by simp[sle,B0,Ae],by simp[ble,A9]⟩;intro _ _;rw[Ca];refine Ag B1 T0 λI u2=>?_;refine sE ?_;apply u1;generalize Jx q.A1=o1 at*;refine kR T0 λZ u1=>?_;refine bA (A0.ii q.params (X:=Unit) (λj _=>[(1,.box 1 0),(3,.box 3 0),(4,Bo (n++[95,83]++o1++Kd (q.params.take j))),(6,A6 j)]) (λ_ _=>[(1,.cells (Q3 s)),(3,.cells (Q3 q))]) (λ_ _=>True) () trivial (by simp[sle,B0,Ae,Kd]) sB ?_ ?_);rotate_left;intro j _ u V E dp tk J _;obtain⟨L,U⟩:=F9d V;have W:=SH u.type (hp u E).1 (hp u E).2;rw[L]at U;rw[L,<-H3,<-H3];generalize Kd (q.params.take j)=o at*;generalize u.type.mg=m at*;simp only[B5,Bg,Ck]at U;refine Ag J T0 λI u2=>?_;refine gI u2 ?_;refine sK λI u2=>bA ?_;(refine lV T0 λK z=>?_;refine ci (Dt V) ?_;refine cc W ?_;refine⟨by(try simp only[B5,Bg,Ck]);unfold lim;omega,?_⟩;(try refine ev ?_);refine⟨by(try simp only[B5,Bg,Ck]);unfold lim;omega,?_⟩;(try refine ev ?_);apply z;try simp only[Aa,Af]);apply u2;refine lT T0 ?_;exact⟨(),trivial,by simp[sle,B0,Ae],by simp[ble,A9]⟩;intro _ _;rw[Ca];refine Ag B1 T0 λI u2=>?_;refine sE ?_;apply u1;generalize Kd q.params=o2 at*;refine sV T0 λK z=>?_;refine cc hr ?_;refine⟨by(try simp only[B5,Bg,Ck]);unfold lim;omega,?_⟩;(try refine ev ?_);refine⟨by(try simp only[B5,Bg,Ck]);unfold lim;omega,?_⟩;(try refine ev ?_);apply z;exact aR
abbrev Lb:A3:=[84,111,112,95,84]
abbrev Qc:Ty:=.mk Lb [] 0
def Gb(s:A4):A4:=⟨L7 s,[],[],Qc,0⟩
def zj(s:A4)(h:rS s):Ab Tryz.prog 62 [Db s] (Db (Gb s)):=by have E:=H5d s h;show Ab Tryz.prog 62 [Db s] (Db ⟨L7 s,[],[],Qc,0⟩);generalize L7 s=n at*;refine cB func62 ?_;refine sR [0,1,2] ?_;refine sC E [0,1,2] ?_;exact aR
end Go.iA
