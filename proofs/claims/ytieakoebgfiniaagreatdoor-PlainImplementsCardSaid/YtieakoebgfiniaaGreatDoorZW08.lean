/- underscores doubled: strings.ReplaceAll(s, "_", "__") -/
import Derived.Lib.ReplaceLaws
import Derived.Lib.Join
import Derived.Test.YtieakoebgfiniaaGreatDoorZS95
import Derived.Lib.SmallJoins
import Derived.Shelf.Strconv.Atoi
import Derived.Shelf.Strings.Replace
set_option linter.all false
set_option maxHeartbeats 2000000
set_option maxRecDepth 100000
namespace Go.Abs
open Go
def Ew(s:List UInt8):List UInt8:=s.flatMap λc=>if c=95 then[95,95]else[c]
def E8i(a b:List UInt8):Ew (a++b)=Ew a++Ew b:=by simp[Ew]
def A9s(s:A2):(Ew s).length<=2*s.length:=by
 induction s with
 |nil=>simp[Ew]
 |cons c s E =>
  rw[show c::s=[c]++s from rfl,E8i,B6,B6];have:(Ew [c]).length<=2:=by simp only[Ew,Zw,List.flatMap_nil,Fj];split <;> simp
  simp only[Bg,Ca];omega
abbrev Q6:A2:=[95,67]
mutual
def Ty.mg:Ty->A2
 |.mk n a _=>if n.head? =some 36/\a.isEmpty=true then[95,86]++n.drop 1 else Ew n++(if a.isEmpty=true then[]else[95,76]++Lib.join (Ty.mgL a) Q6++[95,82])
def Ty.mgL:List Ty->List A2
 |[]=>[]
 |t::E=>t.mg::Ty.mgL E
end
def Ty.B5r:∀l:List Ty,Ty.mgL l=l.map Ty.mg
 |[]=>rfl
 |t::E=>by rw[Ty.mgL,Ty.B5r E,Ck]
def Jb(l:List Ty):A2:=if l=[]then[]else[95,76]++Lib.join (l.map Ty.mg) Q6++[95,82]
def Ty.A1f(t:Ty):t.mg=if t.name.head? =some 36/\t.args=[]then[95,86]++t.name.drop 1 else Ew t.name++Jb t.args:=by
 cases t with
 |mk n a p =>rw[Ty.mg,Ty.B5r];simp only[Au6];rfl
def C8o:∀l:List A2,(Lib.join l Q6).length<=A3v l
 |[]=>by simp[Lib.join_nil]
 |x::r=>by
  have:∀r:List A2,(Lib.joinTail Q6 r).length<=A3v r:=λr=>by
   induction r with
   |nil=>simp[Lib.joinTail]
   |cons y r E=>simp only[Lib.joinTail,A3v,Ck,Ao6,B6,J5,Bg,Ca]at E |-;omega
  rw[Lib.join_cons,B6];have:=this r;simp only[A3v,Ck,J5]at this |-;omega
mutual
theorem Ty.Xv:∀t:Ty,t.mg.length+2<=2*t.Dv
 |.mk n a p=>by
  have J:=Ty.C0g a;have E:=C8o (Ty.mgL a);have L:=A9s n;rw[Ty.mg,Ty.Dv];split
  .simp only[B6,Bg,Ca,Ap1];omega
  .split
   .simp only[B6,Ca];omega
   .simp only[B6,Bg,Ca];omega
theorem Ty.C0g:∀l:List Ty,A3v (Ty.mgL l)<=2*Ty.C0 l
 |[]=>by simp[A3v,Ty.mgL]
 |t::I=>by have J:=Ty.Xv t;have E:=Ty.C0g I;simp only[A3v]at E;simp only[Ty.mgL,Ty.C0,A3v,Ck,J5];omega
end
def C5z(l:List Ty):(Jb l).length<=2*Ty.C0 l+4:=by
 have I:=Ty.C0g l;have E:=C8o (Ty.mgL l);rw[Ty.B5r]at I E;unfold Jb;split
 .simp
 .simp only[B6,Bg,Ca];omega
theorem B8y{s:A2}(h:isName s=true):∃c r,s=c::r/\cls c.toNat=1:=by
 cases s with
 |nil=>cases h
 |cons c r =>refine⟨c,r,rfl,?_⟩;unfold isName at h;simp only[Bb,Dp]at h;exact h.1.1
def D4u{n:Nat}(h:cls n=1):65<=n/\n<=122/\¬(48<=n/\n<=57):=by
 unfold cls at h;split at h
 .rename_i E;unfold letter at E;omega
 .split at h
  .cases h
  .split at h
   .cases h
   .split at h <;> cases h
def B0f{s:A2}(h:isName s=true):s.head?≠some 36:=by obtain⟨c,r,rfl,I⟩:=B8y h;intro E;simp only[List.head?_cons,B5]at E;subst E;have:=D4u I;simp at this
inductive Ty.Mg:Ty->Prop where
 |loc (i:Nat) (p:Int):i<=100000->Ty.Mg (.mk (E0 i) [] p)
 |Pg (n:A2) (a:List Ty) (p:Int):isName n=true->n.length<=60000000*sm->a.length<=sm->(∀t,t∈a->Ty.Mg t)->Ty.Mg (.mk n a p)
def Ty.Mg.at_{n:A2}{a:List Ty}{p:Int}(h:Ty.Mg (.mk n a p))(q:Int):Ty.Mg (.mk n a q):=by
 cases h with
 |loc i _ J=>exact .loc i q J
 |Pg _ _ _ I L O E=>exact .Pg n a q I L O E
def Ty.Mg.as_{u:Ty}(h:u.Mg)(q:Int):(Ty.mk u.name u.args q).Mg:=by obtain⟨n,a,p⟩:=u;exact h.at_ q
def C2o{l:List Ty}{i:Int}(I:0<=i)(h:i<l.length):(l[i.toNat]?).getD default∈l:=by
 have E:i.toNat<l.length:=by omega
 rw[Bi E];exact Fq E
def Ty.Mg.subst{v:List A2}{I:List Ty}(J:∀u,u∈I->u.Mg):∀{t:Ty},t.Mg->(t.subst v I).Mg:=by
 intro t ht
 induction ht with
 |loc i p U =>
  rw[Wo];split
  .rename_i E;exact(J _ (C2o E.2.1 E.2.2)).as_ _
  .exact .loc i p U
 |Pg n a p O W Z h4 V =>
  rw[Wo];split
  .rename_i E;exact(J _ (C2o E.2.1 E.2.2)).as_ _
  .refine .Pg _ _ _ O W (by rw[Bc];exact Z) λt ht=>?_;obtain⟨u,L,rfl⟩:=Au.1 ht;exact V u L
def Ty.A6c:∀{t:Ty},t.Sm->t.right=true->t.Mg:=by
 intro t
 induction t using Ty.induct with
 |h t L =>
 intro hs hr;obtain⟨n,a,p⟩:=t;unfold Ty.right at hr;rw[Ty.Xf,Qv,Bb]at hr;refine .Pg n a p hr.1 hs.name hs.len λt ht=>L t ht (hs.arg t ht) ?_;unfold Ty.right;rw[Dm]at hr |-;refine λs J=>hr.2 s ?_;have:∀{l:List Ty} {t:Ty},t∈l->∀s,s∈t.names->s∈Ty.Dw l:=by
  intro l
  induction l with
  |nil=>intro t ht;simp at ht
  |cons x l I =>
   intro t ht s E;rw[Ty.Dw,Bz];rcases B1.1 ht with rfl|ht
   .exact .inl E
   .exact .inr (I ht s E)
 exact this ht s J
theorem D3e(i:Nat)(h:i<=100000):(U7 i).Mg:=.loc i 0 h
open Go Go.Proofs Tryz
def B5q(b:UInt8)(d:Nat)(hd:Lib.digitVal b=some d):∀(l:List UInt8)(acc n:Nat),Lib.decFrom acc l=some n->Lib.decFrom acc (l++[b])=some (n*10+d)
 |[],acc,n,h=>by simp only[Lib.decFrom,B5]at h;subst h;simp[Lib.decFrom,hd]
 |c::l,acc,n,h=>by
  simp only[Jq,Lib.decFrom]at h |-;cases E:Lib.digitVal c with
  |none=>rw[E]at h;cases h
  |some e =>rw[E]at h;exact B5q b d hd l _ n h
def D1k{k:Nat}(h:k<10):Lib.digitVal (UInt8.ofNat (48+k))=some k:=by
 have:k=0\/k=1\/k=2\/k=3\/k=4\/k=5\/k=6\/k=7\/k=8\/k=9:=by omega
 rcases this with rfl|rfl|rfl|rfl|rfl|rfl|rfl|rfl|rfl|rfl <;> decide
def H3v(n:Nat):Lib.decFrom 0 (Lib.decDigits n)=some n:=by
 induction n using Nat.strongRecOn with
 |_ n E =>
 by_cases h:n<10
 .rw[B4o h];have:=B5q _ n (D1k h) [] 0 0 rfl;simpa using this
 .rw[B3r h];have:=B5q _ (n % 10) (D1k (Ar6 _ (by omega))) (Lib.decDigits (n / 10)) 0 (n / 10) (E (n / 10) (by omega));rw[this]
  congr 1
  omega
def E8b(n:Nat):∃c r,Lib.decDigits n=c::r/\48<=c.toNat/\c.toNat<=57:=by
 induction n using Nat.strongRecOn with
 |_ n I =>
 by_cases h:n<10
 .rw[B4o h];refine⟨_,[],rfl,?_⟩;have:n=0\/n=1\/n=2\/n=3\/n=4\/n=5\/n=6\/n=7\/n=8\/n=9:=by omega
  rcases this with rfl|rfl|rfl|rfl|rfl|rfl|rfl|rfl|rfl|rfl <;> decide
 .rw[B3r h];obtain⟨c,r,J,E⟩:=I (n / 10) (by omega);exact⟨c,_,by rw[J];rfl,E⟩
def B5s(n:Nat)(h:n<=100000):(Lib.decDigits n).length<=6:=by
 have d1:∀n,n<10->(Lib.decDigits n).length=1:=λn h=>by rw[B4o h];rfl
 have st:∀n k,¬n<10->(Lib.decDigits (n / 10)).length<=k->(Lib.decDigits n).length<=k+1:=λn k h O=>by rw[B3r h,B6];simp only[Bg,Ca];omega
 have I:∀k B,(∀n,n<B->(Lib.decDigits n).length<=k)->1<=k->∀n,n<10*B->(Lib.decDigits n).length<=k+1:=λk B hB O n J=>by
  by_cases E:n<10
  .rw[d1 n E];omega
  .exact st n k E (hB _ (by omega))
 have V:=λn (J:n<10)=>Nat.le_of_eq (d1 n J);have W:=I 1 10 V (by omega);have Z:=I 2 _ W (by omega);have L:=I 3 _ Z (by omega);have U:=I 4 _ L (by omega);have h6:=I 5 _ U (by omega);exact h6 n (by omega)
def Gq(m:A2)(l:List Ty):A2:=Ew m++Jb l
abbrev U8:List Nat:=[0,2,3,4,17,21,28,44]
def G3w(s:A2)(h:isName s=true):Aa Tryz.prog 35 [Bm s] (A5 (-1)):=by
 obtain⟨c,r,rfl,U⟩:=B8y h;obtain⟨Z,W,g3⟩:=D4u U;have J:¬(c.toNat:Int)=36:=by
  intro h;have:c.toNat=36:=by omega
  omega
 have V:(c::r)[0]?=some c:=rfl;have L:(c::r).length=r.length+1:=rfl;generalize c::r=s at*;by_cases h2:s.length<2
 .have E:(s.length:Int)<2:=by omega
  refine cB func35 ?_;refine sR U8 ?_;refine sR U8 ?_;refine Ai E U8 λO u1=>?_;refine tI ?_;refine sR U8 ?_;exact aR
 have E:¬(s.length:Int)<2:=by omega
 by_cases h3:s.length > 11
 .have I:(s.length:Int) > 11:=by omega
  refine cB func35 ?_;refine sR U8 ?_;refine sR U8 ?_;refine Ng E I U8 λO u1=>?_;refine tI ?_;refine sR U8 ?_;exact aR
 have I:¬(s.length:Int) > 11:=by omega
 refine cB func35 ?_;refine sR U8 ?_;refine sR U8<|sK λO u1=>?_
 (refine sQ U8 λK z=>?_;refine Fm E I ?_;refine⟨c,V,?_⟩;(try refine Ap J ?_);apply z;clear z K)
 refine tI ?_;refine sR U8 ?_;exact aR
def H3n{s:A2}{j:Nat}{c:UInt8}(h:s[j]?=some c):Ew (s.take (j+1))=Ew (s.take j)++(if c=95 then[95,95]else[c]):=by have I:=(Az.1 h).1;have E:=(Az.1 h).2;rw[J0 I,E8i,E];simp[Ew]
abbrev Ut:List Nat:=[0,2,3,4,8,21]
def B9v(s:A2)(hs:s.length<=60000000*sm):Aa Tryz.prog 37 [Bm s] (Bm (Ew s)):=by
 refine cB func37 ?_;refine sR Ut ?_;refine sR Ut ?_;refine kR Ut λK1 u1=>?_;refine A0.bb (A0.ii s (X:=Unit) (λj _=>[(0,Bm s),(3,Bm (Ew (s.take j))),(4,A5 j)]) (λ_ _=>[])
  (λ_ _=>True) () trivial (by simp[sle,Ay,Ae,Ew]) sB ?_ ?_)
 rotate_left
 .intro j _ c L W dp tk U _;have Z:=(Az.1 L).1;have V:=A9s (s.take j);have he:((j:Int)+1).toNat=j+1:=by omega
  have O:List.drop j (List.take (j+1) s)=[c]:=by rw[J0 Z,List.drop_left' (by simp;omega),(Az.1 L).2]
  rw[D4]at V;rw[H3n L];generalize Ew (s.take j)=o at*;refine Ai U Ut λJ u2=>?_;refine gI u2 ?_;clear u2 J;refine sK λJ u2=>A0.bb ?_
  (refine sQ Ut λK z=>?_;simp -implicitDefEqProofs only[EV,Nat.reduceEqDiff,reduceCtorEq,Ka];rw[he,O];refine⟨by simp only[B4,sm]at*;omega,by omega,by omega,by omega,by simp only[Bg,Ca];unfold lim sm at*;omega,?_⟩;(try refine ev ?_);apply z;clear z K)
  by_cases E:c=95
  .have I:(c.toNat:Int)=95:=by rw[E];rfl
   rw[A8 E];subst E
   (refine sV Ut λK z=>?_;refine⟨by omega,_,L,?_⟩;(try refine Ap I ?_);apply z;clear z K)
   refine A0.tt rfl ?_
   (refine lV Ut λK z=>?_;refine⟨by simp only[B6,Bg,Ca];unfold lim sm at*;omega,?_⟩;(try refine ev ?_);apply z;clear z K;try simp only[A4,Ac])
   refine u2 _ _ ?_;clear u2 J
   (refine lI Ut ?_;try simp only[A4,Af])
   exact⟨(),trivial,by simp[sle,Ay,Ae],sB⟩
  .have I:¬(c.toNat:Int)=95:=λh=>E (by
    have:c.toNat=95:=by omega
    exact UInt8.toNat_inj.1 this)
   rw[A6 E]
   (refine sV Ut λK z=>?_;refine⟨by omega,_,L,?_⟩;(try refine Ap I ?_);apply z;clear z K)
   refine A0.ff rfl (A0.kk (u2 _ _ ?_));clear u2 J;refine lT Ut ?_;exact⟨(),trivial,by simp[sle,Ay,Ae,E],sB⟩
 intro _ _;rw[Ci];refine Ai B3 Ut λJ u2=>?_;refine A0.ss rfl ?_;simp only[A4,Ac,Af];refine u1 _ _ ?_;clear u2 J u1 K1;refine sR Ut ?_;exact aR
def Qh(l:List Ty)(j:Nat):A2:=if j=0 then[]else[95,76]++Lib.join ((l.take j).map Ty.mg) Q6
def G3m(l:List A2)(x:A2)(h:l≠[]):Lib.join (l++[x]) Q6=Lib.join l Q6++Q6++x:=by
 cases l with
 |nil=>exact absurd rfl h
 |cons y r=>simp[Lib.join_cons,Lib.joinTail]
def H3m{l:List Ty}{j:Nat}{t:Ty}(h:l[j]?=some t):Qh l (j+1)=(if j=0 then Qh l j++[95,76]else Qh l j++Q6)++t.mg:=by
 have I:=(Az.1 h).1;unfold Qh;rw[A6 (by omega),J0 I,(Az.1 h).2,G0];by_cases E:j=0
 .subst E;simp[Lib.join_cons,Lib.joinTail]
 .rw[A6 E,A6 E,show[t].map Ty.mg=[t.mg] from rfl,G3m _ _ (by
   intro J;have:=Gi List.length J;rw[Bc,D4]at this;simp only[Ca]at this;omega)]
  simp only[Ga]
def D6t(l:List Ty)(j:Nat):(Qh l j).length<=2*Ty.C0 l+2:=by
 unfold Qh;split
 .simp
 .have L:=C8o ((l.take j).map Ty.mg);have E:=Ty.C0g (l.take j);rw[Ty.B5r]at E;have I:∀(m:List Ty) (j:Nat),Ty.C0 (m.take j)<=Ty.C0 m:=by
   intro m
   induction m with
   |nil=>intro j;simp[Ty.C0]
   |cons a m J =>
    intro j;cases j with
    |zero=>simp[Ty.C0]
    |succ j=>rw[Am1,Ty.C0,Ty.C0];have:=J j;omega
  have:=I l j;simp only[B6,Bg,Ca];omega
def G4v(l:List Ty):(if l=[]then Qh l l.length else Qh l l.length++[95,82])=Jb l:=by
 unfold Qh Jb;cases l with
 |nil=>rfl
 |cons a r=>rw[A6 (by simp),A6 (by simp),A6 (by simp),Ci]
def G9y{l:List Ty}:Qh l l.length=[]↔l=[]:=by
 unfold Qh;cases l with
 |nil=>simp
 |cons a r=>rw[A6 (by simp)];simp
abbrev Nk:List Nat:=[0,2,3,4,8,12,25]
def C6n(l:List Ty)(hl:l.length<=sm)(a1:Ty.C0 l<=10000000000000)(ih:∀t,t∈l->Aa Tryz.prog 12 [B7 t] (Bm t.mg)):Aa Tryz.prog 38 [.d (.slice (Ax l))] (Bm (Jb l)):=by
 rw[<-G4v];refine cB func38 ?_;refine sR Nk ?_;refine sR Nk ?_;refine kR Nk λW u1=>?_;refine A0.bb (A0.ii l (X:=Unit) (λj _=>[(0,.d (.slice (Ax l))),(3,Bm (Qh l j)),(4,A5 j)]) (λ_ _=>[])
  (λ_ _=>True) () trivial (by simp[sle,Ay,Ae,Qh]) sB ?_ ?_)
 rotate_left
 .intro j _ t ht I dp tk a0 _;have O:=ih t I;have Z:=D6t l j;have a3:=Ty.Xv t;have a2:=A6a I;rw[H3m ht];generalize Qh l j=o at*;generalize t.mg=m at*;refine Ai a0 Nk λL u2=>?_;refine gI u2 ?_;clear u2 L;refine sK λL u2=>A0.bb<|sK λK3 U=>?_;by_cases E:j=0
  .subst E;have J:((0:Nat):Int)=0:=rfl;refine Ak J Nk ?_;refine A0.tt rfl ?_
   (refine lV Nk λK z=>?_;refine⟨by(try simp only[Bg,Ca]);unfold lim;omega,?_⟩;(try refine ev ?_);apply z;clear z K;try simp only[A4,])
   refine U _ _ ?_;clear U K3
   (refine lV Nk λK z=>?_;refine cj (Et ht) ?_;refine cc O ?_;refine⟨by(try simp only[B6,Bg,Ca]);unfold lim;omega,?_⟩;(try refine ev ?_);apply z;clear z K;try simp only[A4,Ac])
   refine u2 _ _ ?_;clear u2 L
   (refine lV Nk λK z=>?_;refine cl ?_;apply z;clear z K;try simp only[A4,Af])
   exact⟨(),trivial,by simp[sle,Ay,Ae],sB⟩
  .have J:¬(j:Int)=0:=by omega
   rw[A6 E];refine Ak J Nk ?_;refine A0.ff rfl ?_
   (refine lV Nk λK z=>?_;refine⟨by(try simp only[Bg,Ca]);unfold lim;omega,?_⟩;(try refine ev ?_);apply z;clear z K;try simp only[A4,])
   refine U _ _ ?_;clear U K3
   (refine lV Nk λK z=>?_;refine ci (Et ht) ?_;refine cc O ?_;refine⟨by(try simp only[B6,Bg,Ca]);unfold lim;omega,?_⟩;(try refine ev ?_);apply z;clear z K;try simp only[A4,Ac])
   refine u2 _ _ ?_;clear u2 L;refine lT Nk ?_;exact⟨(),trivial,by simp[sle,Ay,Ae,E],sB⟩
 intro _ _;have Z:=D6t l l.length;have hn:=G9y (l:=l);generalize Qh l l.length=o at*;refine Ai B3 Nk λL u2=>?_;refine A0.ss rfl ?_;simp only[A4,Ac,Af];refine u1 _ _ ?_;clear u2 L u1 W;by_cases E:l=[]
 .have V:o=[]:=hn.2 E;rw[A8 E];refine Ai V Nk λW u1=>?_;refine tI ?_;refine sR Nk ?_;rw[V];exact aR
 .have V:¬o=[]:=λh=>E (hn.1 h);rw[A6 E];refine Ai V Nk λW u1=>?_;refine kI u1 ?_;clear u1 W
  (refine sV Nk λK z=>?_;refine⟨by(try simp only[Bg,Ca]);unfold lim;omega,?_⟩;(try refine ev ?_);apply z;clear z K)
  exact aR
def G5u{n:Nat}(I:48<=n)(E:n<=57):cls (n:Int)=2:=by unfold cls;rw[A6 (by unfold letter;omega),A8 (by omega)]
def D2g(n:Nat):∀c,c∈Lib.decDigits n->48<=c.toNat/\c.toNat<=57:=by
 have E:∀k,k<10->48<=(UInt8.ofNat (48+k)).toNat/\(UInt8.ofNat (48+k)).toNat<=57:=λk h=>by
  have:k=0\/k=1\/k=2\/k=3\/k=4\/k=5\/k=6\/k=7\/k=8\/k=9:=by omega
  rcases this with rfl|rfl|rfl|rfl|rfl|rfl|rfl|rfl|rfl|rfl <;> decide
 induction n using Nat.strongRecOn with
 |_ n I =>
 intro c hc;by_cases h:n<10
 .rw[B4o h]at hc;rw[U0.1 hc];exact E n h
 .rw[B3r h]at hc;rcases Bz.1 hc with hc|hc
  .exact I (n / 10) (by omega) c hc
  .rw[U0.1 hc];exact E _ (Ar6 _ (by omega))
def D3n:∀(l:List UInt8)(acc n:Nat),Lib.decFrom acc l=some n->n<(acc+1)*10 ^ l.length
 |[],acc,n,h=>by simp only[Lib.decFrom,B5]at h;subst h;simp
 |c::l,acc,n,h=>by
  simp only[Lib.decFrom]at h;cases E:Lib.digitVal c with
  |none=>rw[E]at h;cases h
  |some d =>
   rw[E]at h;have I:=D3n l _ n h;have hd:d<=9:=by
    unfold Lib.digitVal at E;split at E
    .cases E;omega
    .cases E
   rw[Bg,Nat.pow_succ];refine W5 I ?_
   calc (acc*10+d+1)*10 ^ l.length<=((acc+1)*10)*10 ^ l.length:=Hp _ (by omega)
    _=(acc+1)*(10 ^ l.length*10):=by rw[Nat.mul_assoc,Ap7 10 (10 ^ l.length)]
abbrev Vb:List Nat:=[0,2,3,4,17,21,28,44]
def H4n(i:Nat)(h:i<=100000):Aa Tryz.prog 35 [Bm (E0 i)] (A5 i):=by
 have E:=D2g i;have ad:=B5s i h;have a4:=H3v i;have a0:=D0w i (by unfold sm;omega);have e0:E0 i=36::Lib.decDigits i:=by unfold E0;rw[Vt]
 have ab:1<=(Lib.decDigits i).length:=by obtain⟨c,r,h1,_⟩:=E8b i;rw[h1];simp
 have a3:¬(i:Int) > 2147483647:=by omega
 have g0:(E0 i)[0]?=some 36:=by rw[e0];rfl
 have gs:∀j c,(Lib.decDigits i)[j]?=some c->(E0 i)[j+1]?=some c:=λj c hc=>by rw[e0,Ai7];exact hc
 have a9:(E0 i).length=(Lib.decDigits i).length+1:=by rw[e0];rfl
 generalize E0 i=s at*;clear e0;generalize Lib.decDigits i=ds at*;have a2:¬(s.length:Int)<2:=by omega
 have a6:¬(s.length:Int) > 11:=by omega
 have a1:(((36:UInt8).toNat:Nat):Int)=36:=rfl;refine cB func35 ?_;refine sR Vb ?_;refine sR Vb<|sK λV u1=>?_
 (refine sQ Vb λK z=>?_;refine Fm a2 a6 ?_;refine⟨36,g0,?_⟩;(try refine Ap a1 ?_);apply z;clear z K)
 refine kI u1 ?_;clear u1 V;refine kR Vb λV u1=>?_;refine A0.bb (A0.ii ds (X:=Nat) (λj n=>[(0,Bm s),(3,A5 n),(4,A5 ((j+1:Nat):Int))]) (λ_ _=>[])
  (λj n=>Lib.decFrom 0 (ds.take j)=some n) 0 rfl sS sB ?_ ?_)
 rotate_left
 .intro j n c hc Z dp tk aa U;obtain⟨c1,c2⟩:=E c Z;have L:=C8e c.toNat;rw[G5u c1 c2]at L;have W:=gs j c hc;have J:((j+1:Nat):Int)<(s.length:Int):=by omega
  have a7:=(Az.1 hc).1;have a':=D3n _ _ _ U;have ac:10 ^ (ds.take j).length<=10 ^ 5:=Nat.pow_le_pow_right (by omega) (by rw[D4];omega);have a5:Lib.digitVal c=some (c.toNat - 48):=by unfold Lib.digitVal;rw[A8 ⟨c1,c2⟩]
  have O:=B5q c _ a5 _ _ _ U;rw[<-tk]at O;refine Ai J Vb λI u2=>?_;refine gI u2 ?_;clear u2 I;refine sK λI u2=>A0.bb<|sK λK3 u3=>?_
  (refine sV Vb λK z=>?_;refine⟨by omega,_,W,?_⟩;refine cc L ?_;apply z;clear z K)
  refine kI u3 ?_;clear u3 K3;have hw:IntKind.i64.wrap (IntKind.u8.wrap ((c.toNat:Int) - 48))=((c.toNat - 48:Nat):Int):=by
   have:c.toNat=48\/c.toNat=49\/c.toNat=50\/c.toNat=51\/c.toNat=52\/c.toNat=53\/c.toNat=54\/c.toNat=55\/c.toNat=56\/c.toNat=57:=by omega
   rcases this with h|h|h|h|h|h|h|h|h|h <;> (rw[h];decide)
  have a8:n<100000:=by omega
  have hv:10*(n:Int)+((c.toNat - 48:Nat):Int)=((n*10+(c.toNat - 48):Nat):Int):=by omega
  have h4:((j+1:Nat):Int)+1=((j+1+1:Nat):Int):=by omega
  (refine lV Vb λK z=>?_;refine⟨by simp only[B4];omega,by omega,_,W,?_⟩;rw[hw];refine⟨by simp only[B4];omega,?_⟩;(try refine ev ?_);apply z;clear z K;try simp only[A4,Ac])
  refine u2 _ _ ?_;clear u2 I
  (refine lV Vb λK z=>?_;refine cl ?_;apply z;clear z K;try simp only[A4,])
  rw[hv,h4];exact⟨_,O,by simp only[sle,Ay,Ae];simp,sB⟩
 intro n U;rw[Ci,a4]at U;obtain rfl:=X9 U;have hx:¬((ds.length+1:Nat):Int)<(s.length:Int):=by omega
 refine Ai hx Vb λI u2=>?_;refine A0.ss rfl ?_;simp only[A4,Ac,Af];refine u1 _ _ ?_;clear u2 I u1 V;refine sK λV u1=>?_
 (refine sQ Vb λK z=>?_;refine Ap a3 ?_;refine cc a0 ?_;apply z;clear z K)
 refine kI u1 ?_;clear u1 V;refine sR Vb ?_;exact aR
abbrev A1k:List Nat:=[0,1,2,3,14]
def Yi:∀t:Ty,t.Mg->t.Dv<=10000000000000->Aa Tryz.prog 12 [B7 t] (Bm t.mg):=by
 intro t
 induction t using Ty.induct with
 |h t ih =>
 intro hm a0;have E:=Ty.Xv t;rw[Ty.A1f]at E |-;obtain⟨n,a,p⟩:=t;cases hm with
 |loc i _ W =>
  have I:=H4n i W;have hit:=C1c i (by unfold sm;omega);have e:(if(Ty.mk (E0 i) [] p).name.head? =some 36/\(Ty.mk (E0 i) [] p).args=[]then[95,86]++(Ty.mk (E0 i) [] p).name.drop 1 else Ew (Ty.mk (E0 i) [] p).name++Jb (Ty.mk (E0 i) [] p).args)=[95,86]++Lib.decDigits i:=by rw[A8 ⟨rfl,rfl⟩,<-Vt];rfl
  rw[e]at E |-;clear e;have a3:=B5s i W;generalize Lib.decDigits i=s at*;have a2:(((Ax []).length:Nat):Int)=0:=rfl;have L:(i:Int) >= 0:=by omega
  refine cB func12 ?_;refine sR A1k ?_;refine sC I A1k ?_;refine Ai L A1k λZ u1=>?_;refine tI ?_
  (refine sV A1k λK z=>?_;refine cc hit ?_;refine⟨by(try simp only[B6,Bg,Ca]);unfold lim;omega,?_⟩;(try refine ev ?_);apply z;clear z K)
  exact aR
 |Pg _ _ _ V h2 h3 h4 =>
  have I:=G3w n V;have U:=B9v n h2;have a1:(Ty.mk n a p).Dv=n.length+4+Ty.C0 a:=rfl;have O:=C6n a h3 (by omega) λu J=>ih u J (h4 u J) (by have:=A6a J;omega);have e:(if(Ty.mk n a p).name.head? =some 36/\(Ty.mk n a p).args=[]then[95,86]++(Ty.mk n a p).name.drop 1 else Ew (Ty.mk n a p).name++Jb (Ty.mk n a p).args)=Ew n++Jb a:=by rw[A6 (λh=>B0f V h.1)];rfl
  rw[e]at E |-;clear e;rw[B6]at E;generalize Ew n=s1 at*;generalize Jb a=s2 at*;refine cB func12 ?_;refine sR A1k ?_;refine sC I A1k ?_;refine kR A1k λZ u1=>?_;refine kI u1 ?_;clear u1 Z
  (refine sG A1k [] 5 [] λK z=>?_;refine ev ?_;refine cc U ?_;refine cc O ?_;refine⟨by(try simp only[B6]);unfold lim;omega,?_⟩;(try refine ev ?_);apply z;clear z K)
  exact aR
def C7n(m:A2)(L:m.length<=60000000*sm)(l:List Ty)(V:l.length<=sm)(J:∀t,t∈l->t.Mg)(E:Ty.C0 l<=10000000000000):Aa Tryz.prog 67 [Bm m,.d (.slice (Ax l))] (Bm (Gq m l)):=by
 have O:=B9v m L;have U:=C6n l V E λu I=>Yi u (J u I) (by have:=A6a I;omega);have W:=A9s m;have Z:=C5z l;unfold Gq;generalize Ew m=s1 at*;generalize Jb l=s2 at*;refine cB func67 ?_;refine sR [0,1,4] ?_
 (refine sV [0,1,4] λK z=>?_;refine cc O ?_;refine cc U ?_;refine⟨by(try simp only[B6]);unfold lim sm at*;omega,?_⟩;(try refine ev ?_);apply z;clear z K)
 exact aR
def E9f(t:Ty)(I:t.Mg)(E:t.Dv<=10000000000000):Aa Tryz.prog 66 [B7 t] (B7 (.mk t.mg [] t.pos)):=by
 have J:=Yi t I E;generalize t.mg=s at*;refine cB func66 ?_;refine sR [0,1,2] ?_
 (refine sG [0,1,2] [] 4 [] λK z=>?_;refine ev ?_;refine cc J ?_;apply z;clear z K)
 exact aR
abbrev Pd(t:Ty):Ty:=.mk t.mg [] 0
def B4p(t:Ty)(I:t.Mg)(E:t.Dv<=10000000000000):Aa Tryz.prog 71 [B7 t] (B7 (Pd t)):=by have J:=Yi t I E;show Aa Tryz.prog 71 [B7 t] (B7 (.mk t.mg [] 0));generalize t.mg=s at*;refine cB func71 ?_;refine sR [0,1,2] ?_;refine sC J [0,1,2] ?_;exact aR
def Jc(l:List Ah):A2:=l.flatMap λf=>f.bound.mg++[95,66]
def Ja(l:List Param):A2:=l.flatMap λf=>f.type.mg++[95,80]
def Jw(s:A3):A2:=Ew s.name++[95,83]++Jc s.canon.A1++Ja s.canon.params++s.canon.result.mg++[95,69]
def F1d{l:List Ah}{j:Nat}{f:Ah}(h:l[j]?=some f):Jc (l.take (j+1))=Jc (l.take j)++f.bound.mg++[95,66]/\(Jc (l.take (j+1))).length<=(Jc l).length:=by
 have E:=(Az.1 h).1;have e:Jc (l.take (j+1))=Jc (l.take j)++f.bound.mg++[95,66]:=by rw[J0 E,(Az.1 h).2];simp[Jc]
 refine⟨e,?_⟩;have:Jc l=Jc (l.take (j+1))++Jc (l.drop (j+1)):=by unfold Jc;rw[<-Ao9,Uz]
 rw[this,B6];omega
def F4g{l:List Param}{j:Nat}{f:Param}(h:l[j]?=some f):Ja (l.take (j+1))=Ja (l.take j)++f.type.mg++[95,80]/\(Ja (l.take (j+1))).length<=(Ja l).length:=by
 have E:=(Az.1 h).1;have e:Ja (l.take (j+1))=Ja (l.take j)++f.type.mg++[95,80]:=by rw[J0 E,(Az.1 h).2];simp[Ja]
 refine⟨e,?_⟩;have:Ja l=Ja (l.take (j+1))++Ja (l.drop (j+1)):=by unfold Ja;rw[<-Ao9,Uz]
 rw[this,B6];omega
abbrev A9c:Nat:=10000000000000
structure C8u(s:A3):Prop where
 sm:s.Sm
 f:∀f,f∈s.canon.A1->f.bound.Mg/\f.bound.Dv<=A9c
 p:∀f,f∈s.canon.params->f.type.Mg/\f.type.Dv<=A9c
 r:s.canon.result.Mg/\s.canon.result.Dv<=A9c
 len:(Jw s).length<=100000000000000
abbrev Rr:List Nat:=[0,1,2,3,4,5,6,17,34]
def G2d(s:A3)(h:C8u s):Aa Tryz.prog 141 [Cy s] (Bm (Jw s)):=by
 have W:=B1s s h.sm;have a0:=B9v s.name h.sm.name;have hr:=Yi s.canon.result h.r.1 h.r.2;have hf:=h.f;have hp:=h.p;have V:=h.len;have a2:s.canon.A1.length<=sm:=by rw[show s.canon.A1.length=s.A1.length from Yf s _];exact h.sm.A1.1
 have a1:s.canon.params.length<=sm:=by rw[show s.canon.params.length=s.params.length from Vy s _];exact h.sm.params.1
 unfold Jw at*;generalize s.canon=q at*;generalize Ew s.name=n at*;generalize q.result.mg=rr at*;simp only[B6,Bg,Ca]at V;refine cB func141 ?_;refine sR Rr ?_;refine sC W Rr ?_
 (refine sV Rr λK z=>?_;refine cc a0 ?_;refine⟨by(try simp only[B6,Bg,Ca]);unfold lim;omega,?_⟩;(try refine ev ?_);apply z;clear z K)
 refine kR Rr λZ u1=>?_;refine A0.bb (A0.ii q.A1 (X:=Unit) (λj _=>[(1,.box 1 0),(3,.box 3 0),(4,Bm (n++[95,83]++Jc (q.A1.take j))),(5,A5 j)]) (λ_ _=>[(1,.cells (R7 s)),(3,.cells (R7 q))])
  (λ_ _=>True) () trivial (by simp[sle,Ay,Ae,Jc]) sB ?_ ?_)
 rotate_left
 .intro j _ u L E dp tk J _;obtain⟨U,O⟩:=F1d L;have hc:=Yi u.bound (hf u E).1 (hf u E).2;rw[U]at O;rw[U,<-Ga,<-Ga];generalize Jc (q.A1.take j)=o at*;generalize u.bound.mg=m at*;simp only[B6,Bg,Ca]at O;refine Ai J Rr λI u2=>?_;refine gI u2 ?_;clear u2 I;refine sK λI u2=>A0.bb ?_
  (refine lV Rr λK z=>?_;refine ci (F4 L) ?_;refine cc hc ?_;refine⟨by(try simp only[B6,Bg,Ca]);unfold lim;omega,?_⟩;(try refine ev ?_);refine⟨by(try simp only[B6,Bg,Ca]);unfold lim;omega,?_⟩;(try refine ev ?_);apply z;clear z K;try simp only[A4,Ac])
  refine u2 _ _ ?_;clear u2 I;refine lT Rr ?_;exact⟨(),trivial,by simp[sle,Ay,Ae],by simp[ble,A7]⟩
 intro _ _;rw[Ci];refine Ai B3 Rr λI u2=>?_;refine A0.ss rfl ?_;simp only[A4,Ac,Af];refine u1 _ _ ?_;clear u2 I u1 Z;generalize Jc q.A1=o1 at*;refine kR Rr λZ u1=>?_;refine A0.bb (A0.ii q.params (X:=Unit) (λj _=>[(1,.box 1 0),(3,.box 3 0),(4,Bm (n++[95,83]++o1++Ja (q.params.take j))),(6,A5 j)]) (λ_ _=>[(1,.cells (R7 s)),(3,.cells (R7 q))])
  (λ_ _=>True) () trivial (by simp[sle,Ay,Ae,Ja]) sB ?_ ?_)
 rotate_left
 .intro j _ u L E dp tk J _;obtain⟨U,O⟩:=F4g L;have hc:=Yi u.type (hp u E).1 (hp u E).2;rw[U]at O;rw[U,<-Ga,<-Ga];generalize Ja (q.params.take j)=o at*;generalize u.type.mg=m at*;simp only[B6,Bg,Ca]at O;refine Ai J Rr λI u2=>?_;refine gI u2 ?_;clear u2 I;refine sK λI u2=>A0.bb ?_
  (refine lV Rr λK z=>?_;refine ci (Du L) ?_;refine cc hc ?_;refine⟨by(try simp only[B6,Bg,Ca]);unfold lim;omega,?_⟩;(try refine ev ?_);refine⟨by(try simp only[B6,Bg,Ca]);unfold lim;omega,?_⟩;(try refine ev ?_);apply z;clear z K;try simp only[A4,Ac])
  refine u2 _ _ ?_;clear u2 I;refine lT Rr ?_;exact⟨(),trivial,by simp[sle,Ay,Ae],by simp[ble,A7]⟩
 intro _ _;rw[Ci];refine Ai B3 Rr λI u2=>?_;refine A0.ss rfl ?_;simp only[A4,Ac,Af];refine u1 _ _ ?_;clear u2 I u1 Z;generalize Ja q.params=o2 at*
 (refine sV Rr λK z=>?_;refine cc hr ?_;refine⟨by(try simp only[B6,Bg,Ca]);unfold lim;omega,?_⟩;(try refine ev ?_);refine⟨by(try simp only[B6,Bg,Ca]);unfold lim;omega,?_⟩;(try refine ev ?_);apply z;clear z K)
 exact aR
abbrev A4i:A2:=[84,111,112,95,84]
abbrev A6m:Ty:=.mk A4i [] 0
def Hd(s:A3):A3:=⟨Jw s,[],[],A6m,0⟩
def E1r(s:A3)(h:C8u s):Aa Tryz.prog 70 [Cy s] (Cy (Hd s)):=by have E:=G2d s h;show Aa Tryz.prog 70 [Cy s] (Cy ⟨Jw s,[],[],A6m,0⟩);generalize Jw s=n at*;refine cB func70 ?_;refine sR [0,1,2] ?_;refine sC E [0,1,2] ?_;exact aR
end Go.Abs
