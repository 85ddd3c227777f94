/- underscores doubled: strings.ReplaceAll(s, "_", "__") -/
import Derived.Lib.ReplaceLaws
import Derived.Lib.Join
import Derived.Test.YtjneockcgjfhaaaGreatDoorKS95
import Derived.Lib.SmallJoins
import Derived.Shelf.Strconv.Atoi
import Derived.Shelf.Strings.Replace
set_option linter.all false
set_option maxHeartbeats 2000000
set_option maxRecDepth 100000
namespace Go.Abs
open Go
def Dt(s:List UInt8):List UInt8:=s.flatMap λc=>if c=95 then[95,95]else[c]
def C9r(a b:List UInt8):Dt (a++b)=Dt a++Dt b:=by simp[Dt]
def G9q(b:UInt8)(J:b≠95)(l:List UInt8)(k:Nat)(L:k<=Lib.count l [95]):Lib.replaceK [95] [95,95] k (b::l)=b::Lib.replaceK [95] [95,95] k l:=by
 cases k with
 |zero=>rfl
 |succ k =>
  obtain⟨i,I⟩:=Lib.index_of_count (s:=l) (old:=[95]) (by omega);have E:Lib.index (b::l) [95]=((i+1:Nat):Int):=by rw[Lib.index,A3 (by simpa [List.isPrefixOf]using λh=>J h.symm),I,A3 (by simp)];omega
  rw[Lib.replaceK_hit _ _ _ _ _ I,Lib.replaceK_hit _ _ _ _ _ E,Am2,show i+1+[(95:UInt8)].length=(i+[(95:UInt8)].length)+1 by simp,Am1];rfl
def C6o:∀s:List UInt8,Lib.replaceK [95] [95,95] (Lib.count s [95]) s=Dt s
 |[]=>by
  have:Lib.count [] [95]=0:=by rw[Lib.count_one];rfl
  rw[this];rfl
 |b::l=>by
  by_cases E:b=95
  .subst E;have I:Lib.index (95::l) [95]=((0:Nat):Int):=by rw[Lib.index,A6 (by simp[List.isPrefixOf])];rfl
   rw[Lib.count_cons_eq,Nat.add_comm,Lib.replaceK_hit _ _ _ _ _ I];simp only[Au8,Y7,Qe,Ar,Az,Am1,Zu];rw[C6o l];rfl
  rw[Lib.count_cons_ne _ _ _ E,G9q b E l _ (Bq _),C6o l];simp[Dt,E]
def F4n(s:List UInt8):Lib.replaceAll s [95] [95,95]=Dt s:=by rw[Lib.replaceAll,Lib.replace,A3 (by decide),Lib.replaceNum,A6 (.inl (by decide)),C6o]
def A3q(s:A2):(Dt s).length<=2*s.length:=by
 induction s with
 |nil=>simp[Dt]
 |cons c s E =>
  rw[show c::s=[c]++s from rfl,C9r,As,As];have:(Dt [c]).length<=2:=by simp only[Dt,Aj9,List.flatMap_nil,Gy];split <;> simp
  simp only[Ar,Az];omega
abbrev Q2:A2:=[95,67]
mutual
def Ty.mg:Ty->A2
 |.mk n a _=>if n.head? =some 36/\a.isEmpty=true then[95,86]++n.drop 1 else Dt n++(if a.isEmpty=true then[]else[95,76]++Lib.join (Ty.Y4 a) Q2++[95,82])
def Ty.Y4:List Ty->List A2
 |[]=>[]
 |t::E=>t.mg::Ty.Y4 E
end
def Ty.B1q:∀l:List Ty,Ty.Y4 l=l.map Ty.mg
 |[]=>rfl
 |t::E=>by rw[Ty.Y4,Ty.B1q E,Cp]
def H7(l:List Ty):A2:=if l=[]then[]else[95,76]++Lib.join (l.map Ty.mg) Q2++[95,82]
def Ty.Yv(t:Ty):t.mg=if t.name.head? =some 36/\t.args=[]then[95,86]++t.name.drop 1 else Dt t.name++H7 t.args:=by
 cases t with
 |mk n a p =>rw[Ty.mg,Ty.B1q];simp only[At1];rfl
def B5h:∀l:List A2,(Lib.join l Q2).length<=Jo l
 |[]=>by simp[Lib.join_nil]
 |x::r=>by
  have:∀r:List A2,(Lib.joinTail Q2 r).length<=Jo r:=λr=>by
   induction r with
   |nil=>simp[Lib.joinTail]
   |cons y r E=>simp only[Lib.joinTail,Jo,Cp,Aq7,As,Nf,Ar,Az]at E |-;omega
  rw[Lib.join_cons,As];have:=this r;simp only[Jo,Cp,Nf]at this |-;omega
mutual
theorem Ty.W9:∀t:Ty,t.mg.length+2<=2*t.Da
 |.mk n a p=>by have I:=Ty.B3v a;have E:=B5h (Ty.Y4 a);have L:=A3q n;rw[Ty.mg,Ty.Da];split;simp only[As,Ar,Az,An9];omega;split;simp only[As,Az];omega;simp only[As,Ar,Az];omega
theorem Ty.B3v:∀l:List Ty,Jo (Ty.Y4 l)<=2*Ty.Bu l
 |[]=>by simp[Jo,Ty.Y4]
 |t::J=>by have I:=Ty.W9 t;have E:=Ty.B3v J;simp only[Jo]at E;simp only[Ty.Y4,Ty.Bu,Jo,Cp,Nf];omega
end
def C0t(l:List Ty):(H7 l).length<=2*Ty.Bu l+4:=by have E:=Ty.B3v l;have I:=B5h (Ty.Y4 l);rw[Ty.B1q]at E I;unfold H7;split;simp;simp only[As,Ar,Az];omega
theorem B2v{s:A2}(h:isName s=true):∃c r,s=c::r/\cls c.toNat=1:=by
 cases s with
 |nil=>cases h
 |cons c r =>refine⟨c,r,rfl,?_⟩;unfold isName at h;simp only[Bi,E4]at h;exact h.1.1
def C4w{n:Nat}(h:cls n=1):65<=n/\n<=122/\¬(48<=n/\n<=57):=by unfold cls at h;split at h;rename_i E;unfold letter at E;omega;split at h;cases h;split at h;cases h;split at h <;> cases h
def A5u{s:A2}(h:isName s=true):s.head?≠some 36:=by obtain⟨c,r,rfl,I⟩:=B2v h;intro E;simp only[List.head?_cons,B0]at E;subst E;have:=C4w I;simp at this
inductive Ty.Mg:Ty->Prop where
 |loc (i:Nat) (p:Int):i<=100000->Ty.Mg (.mk (Dc i) [] p)
 |Ph (n:A2) (a:List Ty) (p:Int):isName n=true->n.length<=60000000*sm->a.length<=sm->(∀t,t∈a->Ty.Mg t)->Ty.Mg (.mk n a p)
def Ty.Mg.at_{n:A2}{a:List Ty}{p:Int}(h:Ty.Mg (.mk n a p))(q:Int):Ty.Mg (.mk n a q):=by
 cases h with
 |loc i _ J=>exact .loc i q J
 |Ph _ _ _ E O I L=>exact .Ph n a q E O I L
def Ty.Mg.as_{u:Ty}(h:u.Mg)(q:Int):(Ty.mk u.name u.args q).Mg:=by obtain⟨n,a,p⟩:=u;exact h.at_ q
def C5v{l:List Ty}{i:Int}(I:0<=i)(h:i<l.length):(l[i.toNat]?).getD default∈l:=by
 have E:i.toNat<l.length:=by omega
 rw[Br E];exact Gi E
def Ty.Mg.subst{v:List A2}{I:List Ty}(J:∀u,u∈I->u.Mg):∀{t:Ty},t.Mg->(t.subst v I).Mg:=by
 intro t ht
 induction ht with
 |loc i p V =>rw[Uo];split;rename_i E;exact(J _ (C5v E.2.1 E.2.2)).as_ _;exact .loc i p V
 |Ph n a p L W O h4 U =>rw[Uo];split;rename_i E;exact(J _ (C5v E.2.1 E.2.2)).as_ _;refine .Ph _ _ _ L W (by rw[Bc];exact O) λt ht=>?_;obtain⟨u,Z,rfl⟩:=Au.1 ht;exact U u Z
def Ty.A4d:∀{t:Ty},t.Sm->t.right=true->t.Mg:=by
 intro t
 induction t using Ty.induct with
 |h t L =>
 intro hs hr;obtain⟨n,a,p⟩:=t;unfold Ty.right at hr;rw[Ty.A9m,Rx,Bi]at hr;refine .Ph n a p hr.1 hs.name hs.len λt ht=>L t ht (hs.arg t ht) ?_;unfold Ty.right;rw[Dr]at hr |-;refine λs I=>hr.2 s ?_;have:∀{l:List Ty} {t:Ty},t∈l->∀s,s∈t.names->s∈Ty.Kh l:=by
  intro l
  induction l with
  |nil=>intro t ht;simp at ht
  |cons x l J =>intro t ht s E;rw[Ty.Kh,C6];rcases B5.1 ht with rfl|ht;exact .inl E;exact .inr (J ht s E)
 exact this ht s I
theorem E3e(i:Nat)(h:i<=100000):(V4 i).Mg:=.loc i 0 h
open Go Go.Proofs Tryz
def Tryz.F7q:Builder.Extra Tryz.prog Tryz.E6e where
 sizeBuilder:=by kernel_rfl
 liesBuilder:=by kernel_rfl
 t5:=underlying5
 a5:=run_isAgg_plain underlying5 rfl
 z5:=sizeOf5
 v5:=zeroValue5
 infoByte:=by kernel_rfl
 cellsByte:=by kernel_rfl
 sizeByte:=by kernel_rfl
 neB5:=by decide
def countB_le(s:A2):Lib.countB (mkStr s) (mkStr [95])<=s.length:=by
 have h:=Lib.countB_mul_le (mkStr [95]) (by simp[mkStr,ByteArray.size]) (mkStr s).size (mkStr s) (Bq _);have E:(mkStr [95]).size=1:=by simp[mkStr,ByteArray.size]
 have I:(mkStr s).size=s.length:=by simp[mkStr,ByteArray.size]
 rw[E,I]at h;omega
def F9t(s:A2)(hs:s.length<=4000*sm):Ab Tryz.prog 167 [B4 s,B4 [95],B4 [95,95]] (B4 (Dt s)):=by
 refine⟨(Enters.of func167 rfl (by decide)),λC β vs W L=>?_⟩;obtain⟨v0,Z,r0⟩:=L.get (j:=0) rfl;obtain⟨v1,U,r1⟩:=L.get (j:=1) rfl;obtain⟨v2,O,r2⟩:=L.get (j:=2) rfl;have I:=L.1
 match vs,I with
 |[a,b,c],_ =>
  simp only[Md,B0]at Z;simp only[Q3,Md,B0]at U;simp only[Q3,Md,B0]at O;subst Z;subst U;subst O;have h0:=r0.Gq;have V:=r1.Gq;have h2:=r2.Gq;cases h0 with
  |str _ _ =>
  cases V with
  |str _ _ =>
  cases h2 with
  |str _ _ =>
  obtain⟨_,ty,fr,J⟩:=W.Dv 2 #[.int .i64 (B7f C.G.ra)] (.inr (.inr (.inr (.inr ⟨rfl,rfl,trivial⟩))));have hm:C.w0.cell? ⟨2,0,none⟩=some (.int .i64 (B7f C.G.ra)):=by simp[World.cell?,J]
  have E:(mkStr s).size=s.length:=by simp[mkStr,ByteArray.size]
  have a0:=countB_le s;refine(Any.strings_ReplaceAll Tryz.G2s Tryz.F7q (mkStr s) (mkStr [95]) (mkStr [95,95]) (B7f C.G.ra) C.w0 (by rw[E];unfold sm at hs;omega) hm (by simp[mkStr,ByteArray.size]) (by
   have V:(mkStr [95,95]).size=2:=by simp[mkStr,ByteArray.size]
   rw[E,V];unfold sm at hs;omega)).mono ?_
  rintro e w' ⟨rfl,hb⟩;have U:(mkStr s).data.toList=s:=by simp[mkStr]
  have O:(mkStr [95]).data.toList=[95]:=by simp[mkStr]
  have e3:(mkStr [95,95]).data.toList=[95,95]:=by simp[mkStr]
  rw[U,O,e3,F4n];exact⟨_,C.S0,β,rfl,W.below hb,.d _ _ (.str _ (by have:=A3q s;unfold sm at hs;unfold lim;omega))⟩
def E0k(s:A2)(hs:s.length<=4000*sm):Ab Tryz.prog 125 [B4 s] (B4 (Dt s)):=by have E:=F9t s hs;refine cB func125 ?_;refine sR [0,2] ?_;refine sC E [0,2] ?_;exact aR
def D7y{s:A2}(h:isName s=true):Lib.hasPrefix s [36]=false/\B4t s=true:=by
 obtain⟨c,r,rfl,V⟩:=B2v h;obtain⟨U,W,Z⟩:=C4w V;have J:¬c=36:=by rintro rfl;simp at U
 have L:¬c.toNat=43:=by omega
 have O:¬c.toNat=45:=by omega
 refine⟨by simp[Lib.hasPrefix,List.isPrefixOf,Yo J],?_⟩;unfold B4t;rw[Lib.atoiAll_plain c r L O];have:∀x,Lib.parseMag (c::r)=x->Lib.parseUint10 0 (c::r)=x:=λx I=>by simpa [Lib.parseMag]using I
 generalize I:Lib.parseMag (c::r)=x;have E:=this x I;simp only[Lib.parseUint10]at E;rw[A3 (by omega)]at E;subst E;rfl
def F4x(s:A2)(hs:s.length<=60000000*sm)(h:isName s=true):Ab Tryz.prog 166 [B4 s] (.tuple [A7 0,B1 false]) :=D4i s hs (D7y h).1 (D7y h).2
def B6p(b:UInt8)(d:Nat)(hd:Lib.digitVal b=some d):∀(l:List UInt8)(acc n:Nat),Lib.decFrom acc l=some n->Lib.decFrom acc (l++[b])=some (n*10+d)
 |[],acc,n,h=>by simp only[Lib.decFrom,B0]at h;subst h;simp[Lib.decFrom,hd]
 |c::l,acc,n,h=>by
  simp only[Nj,Lib.decFrom]at h |-;cases E:Lib.digitVal c with
  |none=>rw[E]at h;cases h
  |some e =>rw[E]at h;exact B6p b d hd l _ n h
def D8i{k:Nat}(h:k<10):Lib.digitVal (UInt8.ofNat (48+k))=some k:=by
 have:k=0\/k=1\/k=2\/k=3\/k=4\/k=5\/k=6\/k=7\/k=8\/k=9:=by omega
 rcases this with rfl|rfl|rfl|rfl|rfl|rfl|rfl|rfl|rfl|rfl <;> decide
def D0p(n:Nat):Lib.decFrom 0 (Lib.decDigits n)=some n:=by
 induction n using Nat.strongRecOn with
 |_ n E =>
 by_cases h:n<10
 .rw[B4n h];have:=B6p _ n (D8i h) [] 0 0 rfl;simpa using this
 .rw[B1h h];have:=B6p _ (n % 10) (D8i (As0 _ (by omega))) (Lib.decDigits (n / 10)) 0 (n / 10) (E (n / 10) (by omega));rw[this]
  congr 1
  omega
def C5b(n:Nat):∃c r,Lib.decDigits n=c::r/\48<=c.toNat/\c.toNat<=57:=by
 induction n using Nat.strongRecOn with
 |_ n J =>
 by_cases h:n<10
 .rw[B4n h];refine⟨_,[],rfl,?_⟩;have:n=0\/n=1\/n=2\/n=3\/n=4\/n=5\/n=6\/n=7\/n=8\/n=9:=by omega
  rcases this with rfl|rfl|rfl|rfl|rfl|rfl|rfl|rfl|rfl|rfl <;> decide
 .rw[B1h h];obtain⟨c,r,E,I⟩:=J (n / 10) (by omega);exact⟨c,_,by rw[E];rfl,I⟩
def F2v(n:Nat):Lib.atoi (Lib.decDigits n)=some (n:Int):=by
 obtain⟨c,r,L,J,O⟩:=C5b n;have hd:=D0p n;rw[L]at hd |-;have I:(c ==45)=false:=by rw[At8];rintro rfl;simp at J
 have E:(c ==43)=false:=by rw[At8];rintro rfl;simp at J
 simp only[Lib.atoi,I,E,I5,Fm,Lib.decNat,hd];rfl
def B2h(n:Nat)(h:n<=100000):(Lib.decDigits n).length<=6:=by
 have d1:∀n,n<10->(Lib.decDigits n).length=1:=λn h=>by rw[B4n h];rfl
 have st:∀n k,¬n<10->(Lib.decDigits (n / 10)).length<=k->(Lib.decDigits n).length<=k+1:=λn k h W=>by rw[B1h h,As];simp only[Ar,Az];omega
 have I:∀k B,(∀n,n<B->(Lib.decDigits n).length<=k)->1<=k->∀n,n<10*B->(Lib.decDigits n).length<=k+1:=λk B hB W n J=>by by_cases E:n<10;rw[d1 n E];omega;exact st n k E (hB _ (by omega))
 have L:=λn (J:n<10)=>Nat.le_of_eq (d1 n J);have h2:=I 1 10 L (by omega);have U:=I 2 _ h2 (by omega);have Z:=I 3 _ U (by omega);have V:=I 4 _ Z (by omega);have O:=I 5 _ V (by omega);exact O n (by omega)
def G6x(r:A2)(hr:r.length<=sm):Ab Tryz.prog 194 [B4 (36::r),B4 [36]] (.tuple [B4 r,B1 true]):=by
 refine⟨(Enters.of func194 rfl (by decide)),λC β vs hi I=>?_⟩;obtain⟨v0,L,r0⟩:=I.get (j:=0) rfl;obtain⟨v1,V,r1⟩:=I.get (j:=1) rfl;have J:=I.1
 match vs,J with
 |[a,b],_ =>
  simp only[Md,B0]at L;simp only[Q3,Md,B0]at V;subst L;subst V;have Z:=r0.Gq;have W:=r1.Gq;cases Z with
  |str _ _ =>
  cases W with
  |str _ _ =>
  have hd:(mkStr (36::r)).data.toList=36::r:=by simp[mkStr]
  have U:Lib.hasPrefix (36::r) [36]=true:=by simp[Lib.hasPrefix]
  have E:=Any.strings_CutPrefix Tryz.E5q (mkStr (36::r)) (mkStr [36]) C.w0;rw[hd,show(mkStr [36]).data.toList=[36] from rfl,show Lib.trimPrefix (36::r) [36]=r by rw[Lib.trimPrefix,A6 U];rfl,U]at E;refine E.mono ?_;rintro e w' ⟨rfl,hw⟩;rw[hw];exact⟨_,C.S0,β,rfl,hi,.tuple _ _ rfl (by
   intro j c v O I
   match j with
   |0=>cases O;cases I;exact .d _ _ (.str _ (by unfold sm at hr;unfold lim;omega))
   |1=>cases O;cases I;exact .d _ _ (.bool _))⟩
def G9b(i:Nat)(h:i<=100000):Ab Tryz.prog 195 [B4 (Lib.itoa i)] (.tuple [A7 i,.d .Kc]):=by
 refine⟨(Enters.of func195 rfl (by decide)),λC β vs W E=>?_⟩;obtain⟨Z,J,r0⟩:=E.get (j:=0) rfl;have I:=E.1
 match vs,I with
 |[a],_ =>
  simp only[Md,B0]at J;subst J;have O:=r0.Gq;cases O with
  |str _ _ =>
  have hd:(mkStr (Lib.itoa i)).data.toList=Lib.decDigits i:=by rw[Tk];simp[mkStr]
  have V:(mkStr (Lib.itoa i)).size<=18:=by rw[B6o,Tk];exact Dd (B2h i h) (by decide)
  refine(Any.strconv_Atoi { Tryz.D3t with } (mkStr (Lib.itoa i)) i V (by rw[hd];exact F2v i) C.w0).mono ?_;rintro e w' ⟨rfl,t,U⟩;rw[U];exact⟨_,C.S0,β,rfl,W.below (Joins.below_bytesWorld _ _ _ _ (Bq _)),.tuple _ _ rfl (by
   intro j c v L E
   match j with
   |0=>cases L;cases E;exact .d _ _ (.int _ _)
   |1=>cases L;cases E;exact .d _ _ .Kc)⟩
abbrev B3r:List Nat:=[0,2,3,4,5,6,7,33]
def F7x(i:Nat)(h:i<=100000):Ab Tryz.prog 166 [B4 (Dc i)] (.tuple [A7 i,B1 true]):=by
 have E:=G6x (Lib.itoa i) (by have:=Lib.itoa_length_le i (by omega) (by omega);unfold sm;omega);have L:=G9b i h;have J:=C8h i (by unfold sm;omega);have I:¬(i:Int) > 2147483647:=by omega
 rw[show(36::Lib.itoa (i:Int))=Dc i from rfl]at E;generalize Dc i=s at*;refine cB func166 ?_;refine sR B3r ?_;refine sC E B3r ?_;refine sC L B3r<|sK λO u1=>?_
 refine sQ B3r λK z=>?_;simp -implicitDefEqProofs only[EV,G0,G2,Nat.reduceAdd,Nat.reduceEqDiff,Nat.reduceBEq,Nat.reduceLeDiff,Nat.reduceSub,Nat.reduceMul,Int.reduceEq,Int.reduceLT,Int.reduceLE,Int.reduceSub,Int.reduceAdd,Int.reduceToNat,reduceCtorEq,Int.reduceNeg,TFA,I,ne_eq,Ar9];refine⟨_,.inl ⟨_,rfl,J,rfl⟩,?_⟩;(try simp -implicitDefEqProofs only[EV,G0,G2,Nat.reduceAdd,Nat.reduceEqDiff,Nat.reduceBEq,Nat.reduceLeDiff,Nat.reduceSub,Nat.reduceMul,Int.reduceEq,Int.reduceLT,Int.reduceLE,Int.reduceSub,Int.reduceAdd,Int.reduceToNat,reduceCtorEq,Int.reduceNeg,TFA,I,ne_eq,Ar9]);apply z;clear z K;refine kI u1 ?_;clear u1 O;refine sR B3r ?_;exact aR
abbrev Tm:List Nat:=[0,2,3,5,8,9,10,11,12]
def D2r(l:List Ty)(hl:l.length<=sm)(a0:Ty.Bu l<=10000000000000)(ih:∀t,t∈l->Ab Tryz.prog 124 [Be t] (B4 t.mg)):Ab Tryz.prog 126 [.d (.slice (Ag l))] (B4 (H7 l)):=by
 have V:=Ty.B3v l;have U:=B5h (Ty.Y4 l);rw[Ty.B1q]at V U;have hj:=A7p (l.map Ty.mg) Q2 (by rw[Bc];exact hl) (by unfold lim;omega);by_cases O:l=[]
 .subst O;have Z:(((Ag []).length:Nat):Int)=0:=rfl;have e:H7 []=[]:=rfl;rw[e];refine cB func126 ?_;refine sR Tm<|sK λI u1=>?_
  refine sQ Tm λK z=>?_;simp -implicitDefEqProofs only[EV,G0,G2,Nat.reduceAdd,Nat.reduceEqDiff,Nat.reduceBEq,Nat.reduceLeDiff,Nat.reduceSub,Nat.reduceMul,Int.reduceEq,Int.reduceLT,Int.reduceLE,Int.reduceSub,Int.reduceAdd,Int.reduceToNat,reduceCtorEq,Int.reduceNeg,TFA,Z,Ra];apply z;clear z K;refine tI ?_;refine sR Tm ?_;exact aR
 have W:¬(l.length:Int)=0:=by
  cases l with
  |nil=>exact absurd rfl O
  |cons a r=>simp only[Ar];omega
 unfold H7;rw[A3 O];refine cB func126 ?_;refine sR Tm ?_;refine Ae W Tm λI u1=>?_;refine kI u1 ?_;clear u1 I;refine sR Tm ?_;refine A0.pp 3 1 3 rfl<|kR Tm λI u1=>?_;refine A0.bb (A0.ii l (X:=Unit) (λj _=>[(3,.acc 3),(9,.d (.slice (Ag l))),(10,A7 l.length),(11,A7 j)]) (λj _=>[(3,.rows 1 (Ba ((l.take j).map Ty.mg)))]) (λ_ _=>True) () trivial sS (by simp[ble,A8,Ba]) ?_ ?_)
 rotate_left
 .intro j _ u hu E dp tk L _;have J:=ih u E;rw[tk];refine Ap L Tm ?_;refine A0.Ha rfl<|sK λK2 u2=>A0.bb ?_
  refine sV Tm λK z=>?_;refine ci (Ev hu) ?_;apply z;clear z K;(refine lV Tm λK z=>?_;refine cc J ?_;refine⟨by simp,by(try simp only[Ba,Bc,D0]);unfold lim sm at*;omega,?_⟩;(try refine ev ?_);apply z;clear z K;try simp only[A5,A9,Ac]);refine u2 _ _ ?_;clear u2 K2;(refine lV Tm λK z=>?_;refine cl ?_;apply z;clear z K;try simp only[A5,A9,Ac]);exact⟨(),trivial,sS,by simp[ble,A8,Ba]⟩
 intro _ _;rw[Cx];refine Ap B6 Tm ?_;refine A0.stop rfl ?_;simp only[A5,A9,Ac];refine u1 _ _ ?_;clear u1 I;refine sV Tm λK z=>?_;refine⟨_,.inr ⟨_,rfl,hj,rfl⟩,?_⟩;(try refine ev ?_);refine⟨by(try simp only[As,Ar,Az]);unfold lim;omega,?_⟩;(try refine ev ?_);refine⟨by(try simp only[As,Ar,Az]);unfold lim;omega,?_⟩;(try refine ev ?_);apply z;clear z K;exact aR
abbrev A3c:List Nat:=[0,1,2,3,4,17]
def D8b:∀t:Ty,t.Mg->t.Da<=1000000000->Ab Tryz.prog 124 [Be t] (B4 t.mg):=by
 intro t
 induction t using Ty.induct with
 |h t ih =>
 intro hm W;have E:=Ty.W9 t;rw[Ty.Yv]at E |-;obtain⟨n,a,p⟩:=t;cases hm with
 |loc i _ hi =>
  have I:=F7x i hi;have hit:=B5f i (by omega) (by omega);have e:(if(Ty.mk (Dc i) [] p).name.head? =some 36/\(Ty.mk (Dc i) [] p).args=[]then[95,86]++(Ty.mk (Dc i) [] p).name.drop 1 else Dt (Ty.mk (Dc i) [] p).name++H7 (Ty.mk (Dc i) [] p).args)=[95,86]++Lib.itoa i:=by rw[A6 ⟨rfl,rfl⟩];rfl
  rw[e]at E |-;clear e;have a0:=Lib.itoa_length_le i (by omega) (by omega);generalize Lib.itoa (i:Int)=s at*;have O:(((Ag []).length:Nat):Int)=0:=rfl;refine cB func124 ?_;refine sR A3c ?_;refine kC I A3c λK1 u1=>?_
  refine sQ A3c λK z=>?_;simp -implicitDefEqProofs only[EV,G0,G2,Nat.reduceAdd,Nat.reduceEqDiff,Nat.reduceBEq,Nat.reduceLeDiff,Nat.reduceSub,Nat.reduceMul,Int.reduceEq,Int.reduceLT,Int.reduceLE,Int.reduceSub,Int.reduceAdd,Int.reduceToNat,reduceCtorEq,Int.reduceNeg,TFA,O,Ra];apply z;clear z K;refine tI ?_;refine sV A3c λK z=>?_;refine cc hit ?_;refine⟨by(try simp only[As,Ar,Az]);unfold lim;omega,?_⟩;(try refine ev ?_);apply z;clear z K;exact aR
 |Ph _ _ _ V Z h3 h4 =>
  have I:=F4x n Z V;have a1:(Ty.mk n a p).Da=n.length+4+Ty.Bu a:=rfl;have J:=E0k n (by unfold sm;omega);have L:=D2r a h3 (by omega) λu U=>ih u U (h4 u U) (by have:=Wh U;omega);have e:(if(Ty.mk n a p).name.head? =some 36/\(Ty.mk n a p).args=[]then[95,86]++(Ty.mk n a p).name.drop 1 else Dt (Ty.mk n a p).name++H7 (Ty.mk n a p).args)=Dt n++H7 a:=by rw[A3 (λh=>A5u V h.1)];rfl
  rw[e]at E |-;clear e;rw[As]at E;generalize Dt n=s1 at*;generalize H7 a=s2 at*;refine cB func124 ?_;refine sR A3c ?_;refine kC I A3c λK1 u1=>?_;refine sR A3c ?_;refine kI u1 ?_;clear u1 K1
  refine sG A3c [] 5 [] λK z=>?_;refine ev ?_;refine cc J ?_;refine cc L ?_;refine⟨by(try simp only[As]);unfold lim;omega,?_⟩;(try refine ev ?_);apply z;clear z K;exact aR
def Dg(m:A2)(l:List Ty):A2:=Dt m++H7 l
def F6t(m:A2)(U:m.length<=4000*sm)(l:List Ty)(V:l.length<=sm)(L:∀t,t∈l->t.Mg)(E:Ty.Bu l<=1000000000):Ab Tryz.prog 67 [B4 m,.d (.slice (Ag l))] (B4 (Dg m l)):=by have J:=E0k m U;have O:=D2r l V (by omega) λu I=>D8b u (L u I) (by have:=Wh I;omega);have W:=A3q m;have Z:=C0t l;unfold Dg;generalize Dt m=s1 at*;generalize H7 l=s2 at*;refine cB func67 ?_;refine sR [0,1,4] ?_;refine sV [0,1,4] λK z=>?_;refine cc J ?_;refine cc O ?_;refine⟨by(try simp only[As]);unfold lim sm at*;omega,?_⟩;(try refine ev ?_);apply z;clear z K;exact aR
def G0a(t:Ty)(J:t.Mg)(E:t.Da<=1000000000):Ab Tryz.prog 66 [Be t] (Be (.mk t.mg [] t.pos)):=by have I:=D8b t J E;generalize t.mg=s at*;refine cB func66 ?_;refine sR [0,1,2] ?_;refine sG [0,1,2] [] 4 [] λK z=>?_;refine ev ?_;refine cc I ?_;apply z;clear z K;exact aR
abbrev V3:List Nat:=[0,2,3,4,17,21,28,44]
def F1y(s:A2)(h:isName s=true):Ab Tryz.prog 117 [B4 s] (A7 (-1)):=by
 obtain⟨c,r,rfl,U⟩:=B2v h;obtain⟨Z,W,g3⟩:=C4w U;have J:¬(c.toNat:Int)=36:=by
  intro h;have:c.toNat=36:=by omega
  omega
 have V:(c::r)[0]?=some c:=rfl;have L:(c::r).length=r.length+1:=rfl;generalize c::r=s at*;by_cases h2:s.length<2
 .have E:(s.length:Int)<2:=by omega
  refine cB func117 ?_;refine sR V3 ?_;refine sR V3 ?_;refine Ae E V3 λO u1=>?_;refine tI ?_;refine sR V3 ?_;exact aR
 have E:¬(s.length:Int)<2:=by omega
 by_cases h3:s.length > 11
 .have I:(s.length:Int) > 11:=by omega
  refine cB func117 ?_;refine sR V3 ?_;refine sR V3 ?_;refine P4 E I V3 λO u1=>?_;refine tI ?_;refine sR V3 ?_;exact aR
 have I:¬(s.length:Int) > 11:=by omega
 refine cB func117 ?_;refine sR V3 ?_;refine sR V3<|sK λO u1=>?_
 refine sQ V3 λK z=>?_;refine Du E I ?_;refine⟨c,V,?_⟩;(try refine Ah J ?_);apply z;clear z K;refine tI ?_;refine sR V3 ?_;exact aR
def F2b{s:A2}{j:Nat}{c:UInt8}(h:s[j]?=some c):Dt (s.take (j+1))=Dt (s.take j)++(if c=95 then[95,95]else[c]):=by have I:=(Aw.1 h).1;have E:=(Aw.1 h).2;rw[La I,C9r,E];simp[Dt]
abbrev V6:List Nat:=[0,2,3,4,8,21]
def B9j(s:A2)(hs:s.length<=60000000*sm):Ab Tryz.prog 115 [B4 s] (B4 (Dt s)):=by
 refine cB func115 ?_;refine sR V6 ?_;refine sR V6 ?_;refine kR V6 λK1 u1=>?_;refine A0.bb (A0.ii s (X:=Unit) (λj _=>[(0,B4 s),(3,B4 (Dt (s.take j))),(4,A7 j)]) (λ_ _=>[]) (λ_ _=>True) () trivial (by simp[sle,Av,Af,Dt]) sB ?_ ?_);rotate_left
 .intro j _ c O W dp tk U _;have Z:=(Aw.1 O).1;have V:=A3q (s.take j);have he:((j:Int)+1).toNat=j+1:=by omega
  have L:List.drop j (List.take (j+1) s)=[c]:=by rw[La Z,List.drop_left' (by simp;omega),(Aw.1 O).2]
  rw[D0]at V;rw[F2b O];generalize Dt (s.take j)=o at*;refine Ae U V6 λJ u2=>?_;refine gI u2 ?_;clear u2 J;refine sK λJ u2=>A0.bb ?_;refine sQ V6 λK z=>?_;simp -implicitDefEqProofs only[EV,Nat.reduceEqDiff,reduceCtorEq,TFA];rw[he,L];refine⟨by simp only[B7,sm]at*;omega,by omega,by omega,by omega,by simp only[Ar,Az];unfold lim sm at*;omega,?_⟩;(try refine ev ?_);apply z;clear z K;by_cases E:c=95
  .have I:(c.toNat:Int)=95:=by rw[E];rfl
   rw[A6 E];subst E;refine sV V6 λK z=>?_;refine⟨by omega,_,O,?_⟩;(try refine Ah I ?_);apply z;clear z K;refine A0.tt rfl ?_;(refine lV V6 λK z=>?_;refine⟨by simp only[As,Ar,Az];unfold lim sm at*;omega,?_⟩;(try refine ev ?_);apply z;clear z K;try simp only[A5,A9]);refine u2 _ _ ?_;clear u2 J;(refine lI V6 ?_;try simp only[A5,Ac]);exact⟨(),trivial,by simp[sle,Av,Af],sB⟩
  .have I:¬(c.toNat:Int)=95:=λh=>E (by
    have:c.toNat=95:=by omega
    exact UInt8.toNat_inj.1 this)
   rw[A3 E];refine sV V6 λK z=>?_;refine⟨by omega,_,O,?_⟩;(try refine Ah I ?_);apply z;clear z K;refine A0.ff rfl (A0.kk (u2 _ _ ?_));clear u2 J;refine lT V6 ?_;exact⟨(),trivial,by simp[sle,Av,Af,E],sB⟩
 intro _ _;rw[Cx];refine Ae B6 V6 λJ u2=>?_;refine A0.ss rfl ?_;simp only[A5,A9,Ac];refine u1 _ _ ?_;clear u2 J u1 K1;refine sR V6 ?_;exact aR
def Re(l:List Ty)(j:Nat):A2:=if j=0 then[]else[95,76]++Lib.join ((l.take j).map Ty.mg) Q2
def E7k(l:List A2)(x:A2)(h:l≠[]):Lib.join (l++[x]) Q2=Lib.join l Q2++Q2++x:=by
 cases l with
 |nil=>exact absurd rfl h
 |cons y r=>simp[Lib.join_cons,Lib.joinTail]
def E9r{l:List Ty}{j:Nat}{t:Ty}(h:l[j]?=some t):Re l (j+1)=(if j=0 then Re l j++[95,76]else Re l j++Q2)++t.mg:=by have I:=(Aw.1 h).1;unfold Re;rw[A3 (by omega),La I,(Aw.1 h).2,Hc];by_cases E:j=0;subst E;simp[Lib.join_cons,Lib.joinTail];rw[A3 E,A3 E,show[t].map Ty.mg=[t.mg] from rfl,E7k _ _ (by intro J;have:=Gf List.length J;rw[Bc,D0]at this;simp only[Az]at this;omega)];simp only[H8]
def D2o(l:List Ty)(j:Nat):(Re l j).length<=2*Ty.Bu l+2:=by
 unfold Re;split;simp
 .have L:=B5h ((l.take j).map Ty.mg);have E:=Ty.B3v (l.take j);rw[Ty.B1q]at E;have J:∀(m:List Ty) (j:Nat),Ty.Bu (m.take j)<=Ty.Bu m:=by
   intro m
   induction m with
   |nil=>intro j;simp[Ty.Bu]
   |cons a m I =>
    intro j;cases j with
    |zero=>simp[Ty.Bu]
    |succ j=>rw[Am2,Ty.Bu,Ty.Bu];have:=I j;omega
  have:=J l j;simp only[As,Ar,Az];omega
def F6a(l:List Ty):(if l=[]then Re l l.length else Re l l.length++[95,82])=H7 l:=by
 unfold Re H7;cases l with
 |nil=>rfl
 |cons a r=>rw[A3 (by simp),A3 (by simp),A3 (by simp),Cx]
def H0y{l:List Ty}:Re l l.length=[]↔l=[]:=by
 unfold Re;cases l with
 |nil=>simp
 |cons a r=>rw[A3 (by simp)];simp
abbrev Q1:List Nat:=[0,2,3,4,8,12,25]
def C1c(l:List Ty)(hl:l.length<=sm)(a1:Ty.Bu l<=10000000000000)(ih:∀t,t∈l->Ab Tryz.prog 55 [Be t] (B4 t.mg)):Ab Tryz.prog 116 [.d (.slice (Ag l))] (B4 (H7 l)):=by
 rw[<-F6a];refine cB func116 ?_;refine sR Q1 ?_;refine sR Q1 ?_;refine kR Q1 λW u1=>?_;refine A0.bb (A0.ii l (X:=Unit) (λj _=>[(0,.d (.slice (Ag l))),(3,B4 (Re l j)),(4,A7 j)]) (λ_ _=>[]) (λ_ _=>True) () trivial (by simp[sle,Av,Af,Re]) sB ?_ ?_);rotate_left
 .intro j _ t ht E dp tk Z _;have O:=ih t E;have a0:=D2o l j;have a2:=Ty.W9 t;have a3:=Wh E;rw[E9r ht];generalize Re l j=o at*;generalize t.mg=m at*;refine Ae Z Q1 λL u2=>?_;refine gI u2 ?_;clear u2 L;refine sK λL u2=>A0.bb<|sK λK3 V=>?_;by_cases I:j=0
  subst I;have J:((0:Nat):Int)=0:=rfl;refine Ap J Q1 ?_;refine A0.tt rfl ?_;(refine lV Q1 λK z=>?_;refine⟨by(try simp only[Ar,Az]);unfold lim;omega,?_⟩;(try refine ev ?_);apply z;clear z K;try simp only[A5,]);refine V _ _ ?_;clear V K3;(refine lV Q1 λK z=>?_;refine cj (Ev ht) ?_;refine cc O ?_;refine⟨by(try simp only[As,Ar,Az]);unfold lim;omega,?_⟩;(try refine ev ?_);apply z;clear z K;try simp only[A5,A9]);refine u2 _ _ ?_;clear u2 L;(refine lV Q1 λK z=>?_;refine cl ?_;apply z;clear z K;try simp only[A5,Ac]);exact⟨(),trivial,by simp[sle,Av,Af],sB⟩
  .have J:¬(j:Int)=0:=by omega
   rw[A3 I];refine Ap J Q1 ?_;refine A0.ff rfl ?_;(refine lV Q1 λK z=>?_;refine⟨by(try simp only[Ar,Az]);unfold lim;omega,?_⟩;(try refine ev ?_);apply z;clear z K;try simp only[A5,]);refine V _ _ ?_;clear V K3;(refine lV Q1 λK z=>?_;refine ci (Ev ht) ?_;refine cc O ?_;refine⟨by(try simp only[As,Ar,Az]);unfold lim;omega,?_⟩;(try refine ev ?_);apply z;clear z K;try simp only[A5,A9]);refine u2 _ _ ?_;clear u2 L;refine lT Q1 ?_;exact⟨(),trivial,by simp[sle,Av,Af,I],sB⟩
 intro _ _;have a0:=D2o l l.length;have hn:=H0y (l:=l);generalize Re l l.length=o at*;refine Ae B6 Q1 λL u2=>?_;refine A0.ss rfl ?_;simp only[A5,A9,Ac];refine u1 _ _ ?_;clear u2 L u1 W;by_cases I:l=[];have U:o=[]:=hn.2 I;rw[A6 I];refine Ae U Q1 λW u1=>?_;refine tI ?_;refine sR Q1 ?_;rw[U];exact aR;have U:¬o=[]:=λh=>I (hn.1 h);rw[A3 I];refine Ae U Q1 λW u1=>?_;refine kI u1 ?_;clear u1 W;refine sV Q1 λK z=>?_;refine⟨by(try simp only[Ar,Az]);unfold lim;omega,?_⟩;(try refine ev ?_);apply z;clear z K;exact aR
def G2k{n:Nat}(E:48<=n)(I:n<=57):cls (n:Int)=2:=by unfold cls;rw[A3 (by unfold letter;omega),A6 (by omega)]
def D0s(n:Nat):∀c,c∈Lib.decDigits n->48<=c.toNat/\c.toNat<=57:=by
 have E:∀k,k<10->48<=(UInt8.ofNat (48+k)).toNat/\(UInt8.ofNat (48+k)).toNat<=57:=λk h=>by
  have:k=0\/k=1\/k=2\/k=3\/k=4\/k=5\/k=6\/k=7\/k=8\/k=9:=by omega
  rcases this with rfl|rfl|rfl|rfl|rfl|rfl|rfl|rfl|rfl|rfl <;> decide
 induction n using Nat.strongRecOn with
 |_ n I =>
 intro c hc;by_cases h:n<10
 .rw[B4n h]at hc;rw[Qp.1 hc];exact E n h
 .rw[B1h h]at hc;rcases C6.1 hc with hc|hc
  .exact I (n / 10) (by omega) c hc
  .rw[Qp.1 hc];exact E _ (As0 _ (by omega))
def E0m:∀(l:List UInt8)(acc n:Nat),Lib.decFrom acc l=some n->n<(acc+1)*10 ^ l.length
 |[],acc,n,h=>by simp only[Lib.decFrom,B0]at h;subst h;simp
 |c::l,acc,n,h=>by
  simp only[Lib.decFrom]at h;cases E:Lib.digitVal c with
  |none=>rw[E]at h;cases h
  |some d =>
   rw[E]at h;have I:=E0m l _ n h;have hd:d<=9:=by unfold Lib.digitVal at E;split at E;cases E;omega;cases E
   rw[Ar,Nat.pow_succ];refine X9 I ?_
   calc (acc*10+d+1)*10 ^ l.length<=((acc+1)*10)*10 ^ l.length:=Iv _ (by omega)
    _=(acc+1)*(10 ^ l.length*10):=by rw[Nat.mul_assoc,Aq2 10 (10 ^ l.length)]
abbrev W5:List Nat:=[0,2,3,4,17,21,28,44]
def G0z(i:Nat)(h:i<=100000):Ab Tryz.prog 117 [B4 (Dc i)] (A7 i):=by
 have I:=D0s i;have a':=B2h i h;have a6:=D0p i;have a2:=D0j i (by unfold sm;omega);have e0:Dc i=36::Lib.decDigits i:=by unfold Dc;rw[Tk]
 have a7:1<=(Lib.decDigits i).length:=by obtain⟨c,r,h1,_⟩:=C5b i;rw[h1];simp
 have a5:¬(i:Int) > 2147483647:=by omega
 have g0:(Dc i)[0]?=some 36:=by rw[e0];rfl
 have gs:∀j c,(Lib.decDigits i)[j]?=some c->(Dc i)[j+1]?=some c:=λj c hc=>by rw[e0,Q3];exact hc
 have ad:(Dc i).length=(Lib.decDigits i).length+1:=by rw[e0];rfl
 generalize Dc i=s at*;clear e0;generalize Lib.decDigits i=ds at*;have a0:¬(s.length:Int)<2:=by omega
 have a3:¬(s.length:Int) > 11:=by omega
 have a4:(((36:UInt8).toNat:Nat):Int)=36:=rfl;refine cB func117 ?_;refine sR W5 ?_;refine sR W5<|sK λZ u1=>?_
 refine sQ W5 λK z=>?_;refine Du a0 a3 ?_;refine⟨36,g0,?_⟩;(try refine Ah a4 ?_);apply z;clear z K;refine kI u1 ?_;clear u1 Z;refine kR W5 λZ u1=>?_;refine A0.bb (A0.ii ds (X:=Nat) (λj n=>[(0,B4 s),(3,A7 n),(4,A7 ((j+1:Nat):Int))]) (λ_ _=>[]) (λj n=>Lib.decFrom 0 (ds.take j)=some n) 0 rfl sS sB ?_ ?_);rotate_left
 .intro j n c hc L dp tk ac O;obtain⟨c1,c2⟩:=I c L;have J:=C7t c.toNat;rw[G2k c1 c2]at J;have E:=gs j c hc;have W:((j+1:Nat):Int)<(s.length:Int):=by omega
  have aa:=(Aw.1 hc).1;have a8:=E0m _ _ _ O;have a9:10 ^ (ds.take j).length<=10 ^ 5:=Nat.pow_le_pow_right (by omega) (by rw[D0];omega);have a1:Lib.digitVal c=some (c.toNat - 48):=by unfold Lib.digitVal;rw[A6 ⟨c1,c2⟩]
  have U:=B6p c _ a1 _ _ _ O;rw[<-tk]at U;refine Ae W W5 λV u2=>?_;refine gI u2 ?_;clear u2 V;refine sK λV u2=>A0.bb<|sK λK3 u3=>?_
  refine sV W5 λK z=>?_;refine⟨by omega,_,E,?_⟩;refine cc J ?_;apply z;clear z K
  refine kI u3 ?_;clear u3 K3;have hw:IntKind.i64.wrap (IntKind.u8.wrap ((c.toNat:Int) - 48))=((c.toNat - 48:Nat):Int):=by
   have:c.toNat=48\/c.toNat=49\/c.toNat=50\/c.toNat=51\/c.toNat=52\/c.toNat=53\/c.toNat=54\/c.toNat=55\/c.toNat=56\/c.toNat=57:=by omega
   rcases this with h|h|h|h|h|h|h|h|h|h <;> (rw[h];decide)
  have ab:n<100000:=by omega
  have hv:10*(n:Int)+((c.toNat - 48:Nat):Int)=((n*10+(c.toNat - 48):Nat):Int):=by omega
  have h4:((j+1:Nat):Int)+1=((j+1+1:Nat):Int):=by omega
  (refine lV W5 λK z=>?_;refine⟨by simp only[B7];omega,by omega,_,E,?_⟩;rw[hw];refine⟨by simp only[B7];omega,?_⟩;(try refine ev ?_);apply z;clear z K;try simp only[A5,A9]);refine u2 _ _ ?_;clear u2 V;(refine lV W5 λK z=>?_;refine cl ?_;apply z;clear z K;try simp only[A5,]);rw[hv,h4];exact⟨_,U,by simp only[sle,Av,Af];simp,sB⟩
 intro n O;rw[Cx,a6]at O;obtain rfl:=An6 O;have hx:¬((ds.length+1:Nat):Int)<(s.length:Int):=by omega
 refine Ae hx W5 λV u2=>?_;refine A0.ss rfl ?_;simp only[A5,A9,Ac];refine u1 _ _ ?_;clear u2 V u1 Z;refine sK λZ u1=>?_;refine sQ W5 λK z=>?_;refine Ah a5 ?_;refine cc a2 ?_;apply z;clear z K;refine kI u1 ?_;clear u1 Z;refine sR W5 ?_;exact aR
abbrev A3t:List Nat:=[0,1,2,3,14]
def A5t:∀t:Ty,t.Mg->t.Da<=10000000000000->Ab Tryz.prog 55 [Be t] (B4 t.mg):=by
 intro t
 induction t using Ty.induct with
 |h t ih =>
 intro hm W;have E:=Ty.W9 t;rw[Ty.Yv]at E |-;obtain⟨n,a,p⟩:=t;cases hm with
 |loc i _ Z =>
  have I:=G0z i Z;have hit:=B8g i (by unfold sm;omega);have e:(if(Ty.mk (Dc i) [] p).name.head? =some 36/\(Ty.mk (Dc i) [] p).args=[]then[95,86]++(Ty.mk (Dc i) [] p).name.drop 1 else Dt (Ty.mk (Dc i) [] p).name++H7 (Ty.mk (Dc i) [] p).args)=[95,86]++Lib.decDigits i:=by rw[A6 ⟨rfl,rfl⟩,<-Tk];rfl
  rw[e]at E |-;clear e;have a0:=B2h i Z;generalize Lib.decDigits i=s at*;have a2:(((Ag []).length:Nat):Int)=0:=rfl;have O:(i:Int) >= 0:=by omega
  refine cB func55 ?_;refine sR A3t ?_;refine sC I A3t ?_;refine Ae O A3t λK1 u1=>?_;refine tI ?_;refine sV A3t λK z=>?_;refine cc hit ?_;refine⟨by(try simp only[As,Ar,Az]);unfold lim;omega,?_⟩;(try refine ev ?_);apply z;clear z K;exact aR
 |Ph _ _ _ V h2 h3 h4 =>
  have I:=F1y n V;have J:=B9j n h2;have a1:(Ty.mk n a p).Da=n.length+4+Ty.Bu a:=rfl;have L:=C1c a h3 (by omega) λu U=>ih u U (h4 u U) (by have:=Wh U;omega);have e:(if(Ty.mk n a p).name.head? =some 36/\(Ty.mk n a p).args=[]then[95,86]++(Ty.mk n a p).name.drop 1 else Dt (Ty.mk n a p).name++H7 (Ty.mk n a p).args)=Dt n++H7 a:=by rw[A3 (λh=>A5u V h.1)];rfl
  rw[e]at E |-;clear e;rw[As]at E;generalize Dt n=s1 at*;generalize H7 a=s2 at*;refine cB func55 ?_;refine sR A3t ?_;refine sC I A3t ?_;refine kR A3t λK1 u1=>?_;refine kI u1 ?_;clear u1 K1
  refine sG A3t [] 5 [] λK z=>?_;refine ev ?_;refine cc J ?_;refine cc L ?_;refine⟨by(try simp only[As]);unfold lim;omega,?_⟩;(try refine ev ?_);apply z;clear z K;exact aR
def C4m(m:A2)(U:m.length<=60000000*sm)(l:List Ty)(V:l.length<=sm)(L:∀t,t∈l->t.Mg)(E:Ty.Bu l<=10000000000000):Ab Tryz.prog 54 [B4 m,.d (.slice (Ag l))] (B4 (Dg m l)):=by have J:=B9j m U;have O:=C1c l V E λu I=>A5t u (L u I) (by have:=Wh I;omega);have W:=A3q m;have Z:=C0t l;unfold Dg;generalize Dt m=s1 at*;generalize H7 l=s2 at*;refine cB func54 ?_;refine sR [0,1,4] ?_;refine sV [0,1,4] λK z=>?_;refine cc J ?_;refine cc O ?_;refine⟨by(try simp only[As]);unfold lim sm at*;omega,?_⟩;(try refine ev ?_);apply z;clear z K;exact aR
def F3d(t:Ty)(J:t.Mg)(E:t.Da<=10000000000000):Ab Tryz.prog 53 [Be t] (Be (.mk t.mg [] t.pos)):=by have I:=A5t t J E;generalize t.mg=s at*;refine cB func53 ?_;refine sR [0,1,2] ?_;refine sG [0,1,2] [] 4 [] λK z=>?_;refine ev ?_;refine cc I ?_;apply z;clear z K;exact aR
abbrev Pm(t:Ty):Ty:=.mk t.mg [] 0
def B1m(t:Ty)(J:t.Mg)(E:t.Da<=10000000000000):Ab Tryz.prog 59 [Be t] (Be (Pm t)):=by have I:=A5t t J E;show Ab Tryz.prog 59 [Be t] (Be (.mk t.mg [] 0));generalize t.mg=s at*;refine cB func59 ?_;refine sR [0,1,2] ?_;refine sC I [0,1,2] ?_;exact aR
def Js(l:List Ak):A2:=l.flatMap λf=>f.bound.mg++[95,66]
def Jm(l:List Param):A2:=l.flatMap λf=>f.type.mg++[95,80]
def Km(s:A4):A2:=Dt s.name++[95,83]++Js s.canon.A1++Jm s.canon.params++s.canon.result.mg++[95,69]
def G4d{l:List Ak}{j:Nat}{f:Ak}(h:l[j]?=some f):Js (l.take (j+1))=Js (l.take j)++f.bound.mg++[95,66]/\(Js (l.take (j+1))).length<=(Js l).length:=by
 have E:=(Aw.1 h).1;have e:Js (l.take (j+1))=Js (l.take j)++f.bound.mg++[95,66]:=by rw[La E,(Aw.1 h).2];simp[Js]
 refine⟨e,?_⟩;have:Js l=Js (l.take (j+1))++Js (l.drop (j+1)):=by unfold Js;rw[<-Ap4,X5]
 rw[this,As];omega
def F3z{l:List Param}{j:Nat}{f:Param}(h:l[j]?=some f):Jm (l.take (j+1))=Jm (l.take j)++f.type.mg++[95,80]/\(Jm (l.take (j+1))).length<=(Jm l).length:=by
 have E:=(Aw.1 h).1;have e:Jm (l.take (j+1))=Jm (l.take j)++f.type.mg++[95,80]:=by rw[La E,(Aw.1 h).2];simp[Jm]
 refine⟨e,?_⟩;have:Jm l=Jm (l.take (j+1))++Jm (l.drop (j+1)):=by unfold Jm;rw[<-Ap4,X5]
 rw[this,As];omega
abbrev B0o:Nat:=10000000000000
structure C7v(s:A4):Prop where
 sm:s.Sm
 f:∀f,f∈s.canon.A1->f.bound.Mg/\f.bound.Da<=B0o
 p:∀f,f∈s.canon.params->f.type.Mg/\f.type.Da<=B0o
 r:s.canon.result.Mg/\s.canon.result.Da<=B0o
 len:(Km s).length<=100000000000000
abbrev Sg:List Nat:=[0,1,2,3,4,5,6,17,34]
def G5b(s:A4)(h:C7v s):Ab Tryz.prog 119 [E0 s] (B4 (Km s)):=by
 have Z:=B1r s h.sm;have W:=B9j s.name h.sm.name;have hr:=A5t s.canon.result h.r.1 h.r.2;have hf:=h.f;have hp:=h.p;have L:=h.len;have a1:s.canon.A1.length<=sm:=by rw[show s.canon.A1.length=s.A1.length from Xj s _];exact h.sm.A1.1
 have a0:s.canon.params.length<=sm:=by rw[show s.canon.params.length=s.params.length from Vv s _];exact h.sm.params.1
 unfold Km at*;generalize s.canon=q at*;generalize Dt s.name=n at*;generalize q.result.mg=rr at*;simp only[As,Ar,Az]at L;refine cB func119 ?_;refine sR Sg ?_;refine sC Z Sg ?_;refine sV Sg λK z=>?_;refine cc W ?_;refine⟨by(try simp only[As,Ar,Az]);unfold lim;omega,?_⟩;(try refine ev ?_);apply z;clear z K;refine kR Sg λK1 u1=>?_;refine A0.bb (A0.ii q.A1 (X:=Unit) (λj _=>[(1,.box 1 0),(3,.box 3 0),(4,B4 (n++[95,83]++Js (q.A1.take j))),(5,A7 j)]) (λ_ _=>[(1,.cells (R8 s)),(3,.cells (R8 q))]) (λ_ _=>True) () trivial (by simp[sle,Av,Af,Js]) sB ?_ ?_);rotate_left;intro j _ u V E dp tk J _;obtain⟨U,O⟩:=G4d V;have hc:=A5t u.bound (hf u E).1 (hf u E).2;rw[U]at O;rw[U,<-H8,<-H8];generalize Js (q.A1.take j)=o at*;generalize u.bound.mg=m at*;simp only[As,Ar,Az]at O;refine Ae J Sg λI u2=>?_;refine gI u2 ?_;clear u2 I;refine sK λI u2=>A0.bb ?_;(refine lV Sg λK z=>?_;refine ci (Fc V) ?_;refine cc hc ?_;refine⟨by(try simp only[As,Ar,Az]);unfold lim;omega,?_⟩;(try refine ev ?_);refine⟨by(try simp only[As,Ar,Az]);unfold lim;omega,?_⟩;(try refine ev ?_);apply z;clear z K;try simp only[A5,A9]);refine u2 _ _ ?_;clear u2 I;refine lT Sg ?_;exact⟨(),trivial,by simp[sle,Av,Af],by simp[ble,A8]⟩;intro _ _;rw[Cx];refine Ae B6 Sg λI u2=>?_;refine A0.ss rfl ?_;simp only[A5,A9,Ac];refine u1 _ _ ?_;clear u2 I u1 K1;generalize Js q.A1=o1 at*;refine kR Sg λK1 u1=>?_;refine A0.bb (A0.ii q.params (X:=Unit) (λj _=>[(1,.box 1 0),(3,.box 3 0),(4,B4 (n++[95,83]++o1++Jm (q.params.take j))),(6,A7 j)]) (λ_ _=>[(1,.cells (R8 s)),(3,.cells (R8 q))]) (λ_ _=>True) () trivial (by simp[sle,Av,Af,Jm]) sB ?_ ?_);rotate_left;intro j _ u V E dp tk J _;obtain⟨U,O⟩:=F3z V;have hc:=A5t u.type (hp u E).1 (hp u E).2;rw[U]at O;rw[U,<-H8,<-H8];generalize Jm (q.params.take j)=o at*;generalize u.type.mg=m at*;simp only[As,Ar,Az]at O;refine Ae J Sg λI u2=>?_;refine gI u2 ?_;clear u2 I;refine sK λI u2=>A0.bb ?_;(refine lV Sg λK z=>?_;refine ci (Dx V) ?_;refine cc hc ?_;refine⟨by(try simp only[As,Ar,Az]);unfold lim;omega,?_⟩;(try refine ev ?_);refine⟨by(try simp only[As,Ar,Az]);unfold lim;omega,?_⟩;(try refine ev ?_);apply z;clear z K;try simp only[A5,A9]);refine u2 _ _ ?_;clear u2 I;refine lT Sg ?_;exact⟨(),trivial,by simp[sle,Av,Af],by simp[ble,A8]⟩;intro _ _;rw[Cx];refine Ae B6 Sg λI u2=>?_;refine A0.ss rfl ?_;simp only[A5,A9,Ac];refine u1 _ _ ?_;clear u2 I u1 K1;generalize Jm q.params=o2 at*;refine sV Sg λK z=>?_;refine cc hr ?_;refine⟨by(try simp only[As,Ar,Az]);unfold lim;omega,?_⟩;(try refine ev ?_);refine⟨by(try simp only[As,Ar,Az]);unfold lim;omega,?_⟩;(try refine ev ?_);apply z;clear z K;exact aR
abbrev A5k:A2:=[84,111,112,95,84]
abbrev A6j:Ty:=.mk A5k [] 0
def Ho(s:A4):A4:=⟨Km s,[],[],A6j,0⟩
def E4z(s:A4)(h:C7v s):Ab Tryz.prog 58 [E0 s] (E0 (Ho s)):=by have E:=G5b s h;show Ab Tryz.prog 58 [E0 s] (E0 ⟨Km s,[],[],A6j,0⟩);generalize Km s=n at*;refine cB func58 ?_;refine sR [0,1,2] ?_;refine sC E [0,1,2] ?_;exact aR
end Go.Abs
