/- underscores doubled: strings.ReplaceAll(s, "_", "__") -/
import Derived.Lib.ReplaceLaws
import Derived.Lib.Join
import Derived.Test.YtaneedhchnaniaaGreatDoorKS95
import Derived.Lib.SmallJoins
import Derived.Shelf.Strconv.Atoi
import Derived.Shelf.Strings.Replace
namespace Go.Abs
set_option linter.all false
open Go
def G2 (s:List UInt8):List UInt8:=s.flatMap fun c=>if c=95 then [95,95] else [c]
theorem F0u (a b:List UInt8):G2 (a++b)=G2 a++G2 b:=by simp [G2]
theorem G5g (b:UInt8)(J:b≠95)(l:List UInt8)(k:Nat)(L:k≤Lib.count l [95]):Lib.replaceK [95] [95,95] k (b::l)=b::Lib.replaceK [95] [95,95] k l:=by
 cases k with
 |zero=>rfl
 |succ k =>
  obtain⟨i,I⟩:=Lib.index_of_count (s:=l) (old:=[95]) (by omega);have E:Lib.index (b::l) [95]=((i+1:Nat):Int):=by rw [Lib.index,A6 (by simpa [List.isPrefixOf] using fun h=>J h.symm),I,A6 (by simp)];omega
  rw [Lib.replaceK_hit _ _ _ _ _ I,Lib.replaceK_hit _ _ _ _ _ E,Wk,show i+1+[(95:UInt8)].length=(i+[(95:UInt8)].length)+1 by simp,Am7];rfl
theorem C0p:∀s:List UInt8,Lib.replaceK [95] [95,95] (Lib.count s [95]) s=G2 s
 |[]=>by
  have:Lib.count [] [95]=0:=by rw [Lib.count_one];rfl
  rw [this];rfl
 |b::l=>by
  by_cases E:b=95
  ·subst E;have I:Lib.index (95::l) [95]=((0:Nat):Int):=by rw [Lib.index,A8 (by simp [List.isPrefixOf])];rfl
   rw [Lib.count_cons_eq,Nat.add_comm,Lib.replaceK_hit _ _ _ _ _ I];simp only [Ar9,Wa,I2,Bg,Ch,Am7,Y7];rw [C0p l];rfl
  ·rw [Lib.count_cons_ne _ _ _ E,G5g b E l _ (Cq _),C0p l];simp [G2,E]
theorem G6b (s:List UInt8):Lib.replaceAll s [95] [95,95]=G2 s:=by rw [Lib.replaceAll,Lib.replace,A6 (by decide),Lib.replaceNum,A8 (.inl (by decide)),C0p]
set_option maxRecDepth 100000
set_option maxHeartbeats 2000000
theorem B8v (s:A3):(G2 s).length≤2*s.length:=by
 induction s with
 |nil=>simp [G2]
 |cons c s E =>
  rw [show c::s=[c]++s from rfl,F0u,B3,B3];have:(G2 [c]).length≤2:=by simp only [G2,Ar4,List.flatMap_nil,Ge];split <;> simp
  simp only [Bg,Ch];omega
abbrev usC:A3:=[95,67]
mutual
def Ty.mg:Ty→A3
 |.mk n a _=>if n.head? = some 36∧a.isEmpty=true then [95,86]++n.drop 1 else G2 n++(if a.isEmpty=true then [] else [95,76]++Lib.join (Ty.Xm a) usC++[95,82])
def Ty.Xm:List Ty→List A3
 |[]=>[]
 |t::E=>t.mg::Ty.Xm E
end
theorem Ty.B5p:∀l:List Ty,Ty.Xm l=l.map Ty.mg
 |[]=>rfl
 |t::E=>by rw [Ty.Xm,Ty.B5p E,Cz]
def J5 (l:List Ty):A3:=if l=[] then [] else [95,76]++Lib.join (l.map Ty.mg) usC++[95,82]
theorem Ty.A5c (t:Ty):t.mg=if t.name.head? = some 36∧t.args=[] then [95,86]++t.name.drop 1 else G2 t.name++J5 t.args:=by
 cases t with
 |mk n a p =>rw [Ty.mg,Ty.B5p];simp only [Au2];rfl
theorem B9e:∀l:List A3,(Lib.join l usC).length≤A2b l
 |[]=>by simp [Lib.join_nil]
 |x::r=>by
  have:∀r:List A3,(Lib.joinTail usC r).length≤A2b r:=fun r=>by
   induction r with
   |nil=>simp [Lib.joinTail]
   |cons y r E=>simp only [Lib.joinTail,A2b,Cz,Aq0,B3,Kr,Bg,Ch] at E ⊢;omega
  rw [Lib.join_cons,B3];have:=this r;simp only [A2b,Cz,Kr] at this ⊢;omega
mutual
theorem Ty.A7c:∀t:Ty,t.mg.length+2≤2*t.Dr
 |.mk n a p=>by
  have I:=Ty.B4c a;have E:=B9e (Ty.Xm a);have L:=B8v n;rw [Ty.mg,Ty.Dr];split
  ·simp only [B3,Bg,Ch,Ao8];omega
  ·split
   ·simp only [B3,Ch];omega
   ·simp only [B3,Bg,Ch];omega
theorem Ty.B4c:∀l:List Ty,A2b (Ty.Xm l)≤2*Ty.C9 l
 |[]=>by simp [A2b,Ty.Xm]
 |t::J=>by have I:=Ty.A7c t;have E:=Ty.B4c J;simp only [A2b] at E;simp only [Ty.Xm,Ty.C9,A2b,Cz,Kr];omega
end
theorem G3u (l:List Ty):(J5 l).length≤2*Ty.C9 l+4:=by
 have I:=Ty.B4c l;have E:=B9e (Ty.Xm l);rw [Ty.B5p] at I E;unfold J5;split
 ·simp
 ·simp only [B3,Bg,Ch];omega
theorem C7t {s:A3} (h:isName s=true):∃c r,s=c::r∧cls c.toNat=1:=by
 cases s with
 |nil=>cases h
 |cons c r =>refine⟨c,r,rfl,?_⟩;unfold isName at h;simp only [B1,D8] at h;exact h.1.1
theorem E2x {n:Nat} (h:cls n=1):65≤n∧n≤122∧¬(48≤n∧n≤57):=by
 unfold cls at h;split at h
 ·rename_i E;unfold letter at E;omega
 ·split at h
  ·cases h
  ·split at h
   ·cases h
   ·split at h <;> cases h
theorem G2e {s:A3} (h:isName s=true):s.head?≠some 36:=by obtain⟨c,r,rfl,I⟩:=C7t h;intro E;simp only [List.head?_cons,Av] at E;subst E;have:=E2x I;simp at this
inductive Ty.Mg:Ty→Prop where
 |loc (i:Nat) (p:Int):i≤100000→Ty.Mg (.mk (Ec i) [] p)
 |Uk (n:A3) (a:List Ty) (p:Int):isName n=true→n.length≤sm→a.length≤sm→(∀t,t∈a→Ty.Mg t)→Ty.Mg (.mk n a p)
theorem Ty.Mg.at_ {n:A3} {a:List Ty} {p:Int} (h:Ty.Mg (.mk n a p))(q:Int):Ty.Mg (.mk n a q):=by
 cases h with
 |loc i _ I=>exact .loc i q I
 |Uk _ _ _ O E J L=>exact .Uk n a q O E J L
theorem Ty.Mg.as_ {u:Ty} (h:u.Mg)(q:Int):(Ty.mk u.name u.args q).Mg:=by obtain⟨n,a,p⟩:=u;exact h.at_ q
theorem C3s {l:List Ty} {i:Int} (I:0≤i)(h:i < l.length):(l[i.toNat]?).getD default∈l:=by
 have E:i.toNat < l.length:=by omega
 rw [Ba E];exact F7 E
theorem Ty.Mg.subst {v:List A3} {J:List Ty} (I:∀u,u∈J→u.Mg):∀{t:Ty},t.Mg→(t.subst v J).Mg:=by
 intro t ht
 induction ht with
 |loc i p R =>
  rw [Uq];split
  ·rename_i E;exact (I _ (C3s E.2.1 E.2.2)).as_ _
  ·exact .loc i p R
 |Uk n a p W O V Z U =>
  rw [Uq];split
  ·rename_i E;exact (I _ (C3s E.2.1 E.2.2)).as_ _
  ·refine .Uk _ _ _ W O (by rw [B6];exact V) fun t ht=>?_;obtain⟨u,L,rfl⟩:=Ax.1 ht;exact U u L
theorem Ty.A3w:∀{t:Ty},t.Sm→t.right=true→t.Mg:=by
 intro t
 induction t using Ty.induct with
 |h t L =>
 intro hs hr;obtain⟨n,a,p⟩:=t;unfold Ty.right at hr;rw [Ty.A8o,Na,B1] at hr;refine .Uk n a p hr.1 hs.name hs.len fun t ht=>L t ht (hs.arg t ht) ?_;unfold Ty.right;rw [Cf] at hr ⊢;refine fun s J=>hr.2 s ?_;have:∀{l:List Ty} {t:Ty},t∈l→∀s,s∈t.names→s∈Ty.J2 l:=by
  intro l
  induction l with
  |nil=>intro t ht;simp at ht
  |cons x l I =>
   intro t ht s E;rw [Ty.J2,Bw];rcases As.1 ht with rfl| ht
   ·exact .inl E
   ·exact .inr (I ht s E)
 exact this ht s J
theorem C9x (i:Nat)(h:i≤100000):(Tz i).Mg:=.loc i 0 h
open Go Go.Proofs Tryz
theorem Tryz.G5n:Builder.Extra Tryz.prog Tryz.D0j where
 sizeBuilder:=by kernel_rfl
 liesBuilder:=by kernel_rfl
 t5:=Tryz.C4.t5
 a5:=run_isAgg_plain Tryz.C4.t5 rfl
 z5:=Tryz.C4.z5
 v5:=Tryz.C4.v5
 infoByte:=by kernel_rfl
 cellsByte:=by kernel_rfl
 sizeByte:=by kernel_rfl
 neB5:=by decide
theorem countB_le (s:A3):Lib.countB (mkStr s) (mkStr [95])≤s.length:=by
 have h:=Lib.countB_mul_le (mkStr [95]) (by simp [mkStr,ByteArray.size]) (mkStr s).size (mkStr s) (Cq _);have I:(mkStr [95]).size=1:=by simp [mkStr,ByteArray.size]
 have E:(mkStr s).size=s.length:=by simp [mkStr,ByteArray.size]
 rw [I,E] at h;omega
theorem F0n (s:A3)(hs:s.length≤sm):Ac Tryz.prog 212 [C8 s,C8 [95],C8 [95,95]] (C8 (G2 s)):=by
 refine⟨(Enters.of func212 rfl (by decide)),fun C β vs V R=>?_⟩;obtain⟨v0,W,r0⟩:=R.get (j:=0) rfl;obtain⟨v1,O,r1⟩:=R.get (j:=1) rfl;obtain⟨v2,L,r2⟩:=R.get (j:=2) rfl;have E:=R.1
 match vs,E with
 |[a,b,c],_ =>
  simp only [Iz,Av] at W;simp only [Ny,Iz,Av] at O;simp only [Ny,Iz,Av] at L;subst W;subst O;subst L;have h0:=r0.Gp;have U:=r1.Gp;have h2:=r2.Gp;cases h0 with
  |str _ _ =>
  cases U with
  |str _ _ =>
  cases h2 with
  |str _ _ =>
  obtain⟨_,ty,fr,J⟩:=V.D9 1 #[.int .i64 (B5z C.G.ra)] (.inr (.inr (.inr (.inr ⟨rfl,rfl,trivial⟩))));have Z:C.w0.cell? ⟨1,0,none⟩=some (.int .i64 (B5z C.G.ra)):=by simp [World.cell?,J]
  have I:(mkStr s).size=s.length:=by simp [mkStr,ByteArray.size]
  have a0:=countB_le s;refine (Any.strings_ReplaceAll Tryz.F6r Tryz.G5n (mkStr s) (mkStr [95]) (mkStr [95,95]) (B5z C.G.ra) C.w0 (by rw [I];unfold sm at hs;omega) Z (by simp [mkStr,ByteArray.size]) (by
   have U:(mkStr [95,95]).size=2:=by simp [mkStr,ByteArray.size]
   rw [I,U];unfold sm at hs;omega)).mono ?_
  rintro e w' ⟨rfl,hb⟩;have O:(mkStr s).data.toList=s:=by simp [mkStr]
  have L:(mkStr [95]).data.toList=[95]:=by simp [mkStr]
  have e3:(mkStr [95,95]).data.toList=[95,95]:=by simp [mkStr]
  rw [O,L,e3,G6b];exact⟨_,C.S0,β,rfl,V.below hb,.d _ _ (.str _ (by have:=B8v s;unfold sm at hs;unfold lim;omega))⟩
theorem C3t (s:A3)(hs:s.length≤sm):Ac Tryz.prog 133 [C8 s] (C8 (G2 s)):=by have E:=F0n s hs;refine cB func133 ?_;refine sR [0,2] ?_;refine sC E [0,2] ?_;exact aR
theorem D2z {s:A3} (h:isName s=true):Lib.hasPrefix s [36]=false∧B3a s=true:=by
 obtain⟨c,r,rfl,R⟩:=C7t h;obtain⟨U,W,V⟩:=E2x R;have L:¬c=36:=by rintro rfl;simp at U
 have I:¬c.toNat=43:=by omega
 have O:¬c.toNat=45:=by omega
 refine⟨by simp [Lib.hasPrefix,List.isPrefixOf,Pp L],?_⟩;unfold B3a;rw [Lib.atoiAll_plain c r I O];have:∀x,Lib.parseMag (c::r)=x→Lib.parseUint10 0 (c::r)=x:=fun x J=>by simpa [Lib.parseMag] using J
 generalize J:Lib.parseMag (c::r)=x;have E:=this x J;simp only [Lib.parseUint10] at E;rw [A6 (by omega)] at E;subst E;rfl
theorem F2b (s:A3)(hs:s.length≤sm)(h:isName s=true):Ac Tryz.prog 213 [C8 s] (.tuple [A9 0,B0 false]) :=
 G1z s hs (D2z h).1 (D2z h).2
theorem C1c (b:UInt8)(d:Nat)(hd:Lib.digitVal b=some d):∀(l:List UInt8)(acc n:Nat),Lib.decFrom acc l=some n→Lib.decFrom acc (l++[b])=some (n*10+d)
 |[],acc,n,h=>by simp only [Lib.decFrom,Av] at h;subst h;simp [Lib.decFrom,hd]
 |c::l,acc,n,h=>by
  simp only [S9,Lib.decFrom] at h ⊢;cases E:Lib.digitVal c with
  |none=>rw [E] at h;cases h
  |some e =>rw [E] at h;exact C1c b d hd l _ n h
theorem D9x {k:Nat} (h:k < 10):Lib.digitVal (UInt8.ofNat (48+k))=some k:=by
 have:k=0∨k=1∨k=2∨k=3∨k=4∨k=5∨k=6∨k=7∨k=8∨k=9:=by omega
 rcases this with rfl| rfl| rfl| rfl| rfl| rfl| rfl| rfl| rfl| rfl <;> decide
theorem E5e (n:Nat):Lib.decFrom 0 (Lib.decDigits n)=some n:=by
 induction n using Nat.strongRecOn with
 |_ n E =>
 by_cases h:n < 10
 ·rw [B2m h];have:=C1c _ n (D9x h) [] 0 0 rfl;simpa using this
 ·rw [B2w h];have:=C1c _ (n % 10) (D9x (Xp _ (by omega))) (Lib.decDigits (n / 10)) 0 (n / 10) (E (n / 10) (by omega));rw [this]
  congr 1
  omega
theorem D4k (n:Nat):∃c r,Lib.decDigits n=c::r∧48≤c.toNat∧c.toNat≤57:=by
 induction n using Nat.strongRecOn with
 |_ n I =>
 by_cases h:n < 10
 ·rw [B2m h];refine⟨_,[],rfl,?_⟩;have:n=0∨n=1∨n=2∨n=3∨n=4∨n=5∨n=6∨n=7∨n=8∨n=9:=by omega
  rcases this with rfl| rfl| rfl| rfl| rfl| rfl| rfl| rfl| rfl| rfl <;> decide
 ·rw [B2w h];obtain⟨c,r,J,E⟩:=I (n / 10) (by omega);exact⟨c,_,by rw [J];rfl,E⟩
theorem F6c (n:Nat):Lib.atoi (Lib.decDigits n)=some (n:Int):=by
 obtain⟨c,r,L,J,O⟩:=D4k n;have hd:=E5e n;rw [L] at hd ⊢;have I:(c == 45)=false:=by rw [Av2];rintro rfl;simp at J
 have E:(c == 43)=false:=by rw [Av2];rintro rfl;simp at J
 simp only [Lib.atoi,I,E,Hh,Et,Lib.decNat,hd];rfl
theorem C8z (n:Nat)(h:n≤100000):(Lib.decDigits n).length≤6:=by
 have d1:∀n,n < 10→(Lib.decDigits n).length=1:=fun n h=>by rw [B2m h];rfl
 have st:∀n k,¬n < 10→(Lib.decDigits (n / 10)).length≤k→(Lib.decDigits n).length≤k+1:=fun n k h W=>by rw [B2w h,B3];simp only [Bg,Ch];omega
 have I:∀k B,(∀n,n < B→(Lib.decDigits n).length≤k)→1≤k→∀n,n < 10*B→(Lib.decDigits n).length≤k+1:=fun k B R W n J=>by
  by_cases E:n < 10
  ·rw [d1 n E];omega
  ·exact st n k E (R _ (by omega))
 have h1:=fun n (J:n < 10)=>Nat.le_of_eq (d1 n J);have O:=I 1 10 h1 (by omega);have V:=I 2 _ O (by omega);have Z:=I 3 _ V (by omega);have L:=I 4 _ Z (by omega);have U:=I 5 _ L (by omega);exact U n (by omega)
theorem E8y (r:A3)(hr:r.length≤sm):Ac Tryz.prog 276 [C8 (36::r),C8 [36]] (.tuple [C8 r,B0 true]):=by
 refine⟨(Enters.of func276 rfl (by decide)),fun C β vs Z I=>?_⟩;obtain⟨v0,U,r0⟩:=I.get (j:=0) rfl;obtain⟨v1,L,V⟩:=I.get (j:=1) rfl;have J:=I.1
 match vs,J with
 |[a,b],_ =>
  simp only [Iz,Av] at U;simp only [Ny,Iz,Av] at L;subst U;subst L;have h0:=r0.Gp;have h1:=V.Gp;cases h0 with
  |str _ _ =>
  cases h1 with
  |str _ _ =>
  have hd:(mkStr (36::r)).data.toList=36::r:=by simp [mkStr]
  have O:Lib.hasPrefix (36::r) [36]=true:=by simp [Lib.hasPrefix]
  have E:=Any.strings_CutPrefix Tryz.D9m (mkStr (36::r)) (mkStr [36]) C.w0;rw [hd,show (mkStr [36]).data.toList=[36] from rfl,show Lib.trimPrefix (36::r) [36]=r by rw [Lib.trimPrefix,A8 O];rfl,O] at E;refine E.mono ?_;rintro e w' ⟨rfl,W⟩;rw [W];exact⟨_,C.S0,β,rfl,Z,.tuple _ _ rfl (by
   intro j c v R I
   match j with
   | 0=>cases R;cases I;exact .d _ _ (.str _ (by unfold sm at hr;unfold lim;omega))
   | 1=>cases R;cases I;exact .d _ _ (.bool _))⟩
theorem F2f (i:Nat)(h:i≤100000):Ac Tryz.prog 277 [C8 (Lib.itoa i)] (.tuple [A9 i,.d .J3]):=by
 refine⟨(Enters.of func277 rfl (by decide)),fun C β vs U E=>?_⟩;obtain⟨Z,L,W⟩:=E.get (j:=0) rfl;have I:=E.1
 match vs,I with
 |[a],_ =>
  simp only [Iz,Av] at L;subst L;have V:=W.Gp;cases V with
  |str _ _ =>
  have hd:(mkStr (Lib.itoa i)).data.toList=Lib.decDigits i:=by rw [A3j];simp [mkStr]
  have O:(mkStr (Lib.itoa i)).size≤18:=by rw [B7j,A3j];exact Dk (C8z i h) (by decide)
  refine (Any.strconv_Atoi { Tryz.C6n with } (mkStr (Lib.itoa i)) i O (by rw [hd];exact F6c i) C.w0).mono ?_;rintro e w' ⟨rfl,t,R⟩;rw [R];exact⟨_,C.S0,β,rfl,U.below (Joins.below_bytesWorld _ _ _ _ (Cq _)),.tuple _ _ rfl (by
   intro j c v J E
   match j with
   | 0=>cases J;cases E;exact .d _ _ (.int _ _)
   | 1=>cases J;cases E;exact .d _ _ .J3)⟩
abbrev B1y:List Nat:=[0,2,3,4,5,6,7,33]
theorem E4m (i:Nat)(h:i≤100000):Ac Tryz.prog 213 [C8 (Ec i)] (.tuple [A9 i,B0 true]):=by
 have E:=E8y (Lib.itoa i) (by have:=Lib.itoa_length_le i (by omega) (by omega);unfold sm;omega);have L:=F2f i h;have J:=C5s i (by unfold sm;omega);have I:¬(i:Int) > 2147483647:=by omega
 rw [show (36::Lib.itoa (i:Int))=Ec i from rfl] at E;generalize Ec i=s at *;refine cB func213 ?_;refine sR B1y ?_;refine sC E B1y ?_;refine sC L B1y ?_;refine sK fun O u1=>?_
 (refine sQ B1y fun K z=>?_;refine An I ?_;refine cc J ?_;apply z;clear z K)
 refine kI u1 ?_;clear u1 O;refine sR B1y ?_;exact aR
abbrev T9:List Nat:=[0,2,3,5,8,9,10,11,12]
theorem D6q (l:List Ty)(Z:l.length≤sm)(W:Ty.C9 l≤10000000000000)(ih:∀t,t∈l→Ac Tryz.prog 134 [Be t] (C8 t.mg)):Ac Tryz.prog 170 [.d (.slice (Aq l))] (C8 (J5 l)):=by
 have J:=Ty.B4c l;have R:=B9e (Ty.Xm l);rw [Ty.B5p] at J R;have hj:=F5k (l.map Ty.mg) usC (by rw [B6];exact Z) (by unfold lim;omega);by_cases O:l=[]
 ·subst O;have a0:(((Aq []).length:Nat):Int)=0:=rfl;have e:J5 []=[]:=rfl;rw [e];refine cB func170 ?_;refine sR T9 ?_;refine kR T9 fun I u1=>?_;refine tI ?_;refine sR T9 ?_;exact aR
 have L:¬(l.length:Int)=0:=by
  cases l with
  |nil=>exact absurd rfl O
  |cons a r=>simp only [Bg];omega
 unfold J5;rw [A6 O];refine cB func170 ?_;refine sR T9 ?_;refine Ai L T9 fun I u1=>?_;refine kI u1 ?_;clear u1 I;refine sR T9 ?_;refine A0.pp 3 1 3 rfl ?_;refine kR T9 fun I u1=>?_;refine A0.bb (A0.ii l (X:=Unit) (fun j _=>[(3,.acc 3),(9,.d (.slice (Aq l))),(10,A9 l.length),(11,A9 j)]) (fun j _=>[(3,.rows 1 (C6 ((l.take j).map Ty.mg)))])
  (fun _ _=>True) () trivial sS (by simp [ble,A7,C6]) ?_ ?_)
 rotate_left
 ·intro j _ u hu E dp tk U _;have V:=ih u E;rw [tk];refine Ah U T9 ?_;refine A0.E5 rfl ?_;refine sK fun K2 u2=>?_;refine A0.bb ?_
  (refine sV T9 fun K z=>?_;refine ci (F5 hu) ?_;apply z;clear z K)
  (refine lV T9 fun K z=>?_;refine cc V ?_;refine⟨by simp,by (try simp only [B6,Cw]);unfold lim sm at *;omega,?_⟩;(try refine ev ?_);apply z;clear z K;try simp only [A4,Aa])
  refine u2 _ _ ?_;clear u2 K2;refine lT T9 ?_;exact⟨(),trivial,sS,by simp [ble,A7,C6]⟩
 intro _ _;rw [Cs];refine Ah B4 T9 ?_;refine A0.stop rfl ?_;simp only [A4,Aa,Af];refine u1 _ _ ?_;clear u1 I
 (refine sV T9 fun K z=>?_;refine⟨_,.inr ⟨_,rfl,hj,rfl⟩,?_⟩;(try refine ev ?_);refine⟨by (try simp only [B3,Bg,Ch]);unfold lim;omega,?_⟩;(try refine ev ?_);refine⟨by (try simp only [B3,Bg,Ch]);unfold lim;omega,?_⟩;(try refine ev ?_);apply z;clear z K)
 exact aR
abbrev A1k:List Nat:=[0,1,2,3,4,17]
theorem A2d:∀t:Ty,t.Mg→t.Dr≤10000000000000→Ac Tryz.prog 134 [Be t] (C8 t.mg):=by
 intro t
 induction t using Ty.induct with
 |h t ih =>
 intro hm U;have E:=Ty.A7c t;rw [Ty.A5c] at E ⊢;obtain⟨n,a,p⟩:=t;cases hm with
 |loc i _ Z =>
  have I:=E4m i Z;have hit:=B7e i (by omega) (by omega);have e:(if (Ty.mk (Ec i) [] p).name.head? = some 36∧(Ty.mk (Ec i) [] p).args=[] then [95,86]++(Ty.mk (Ec i) [] p).name.drop 1 else G2 (Ty.mk (Ec i) [] p).name++J5 (Ty.mk (Ec i) [] p).args)=[95,86]++Lib.itoa i:=by rw [A8 ⟨rfl,rfl⟩];rfl
  rw [e] at E ⊢;clear e;have a1:=Lib.itoa_length_le i (by omega) (by omega);generalize Lib.itoa (i:Int)=s at *;have a2:(((Aq []).length:Nat):Int)=0:=rfl;refine cB func134 ?_;refine sR A1k ?_;refine kC I A1k fun V u1=>?_;refine sR A1k ?_;refine tI ?_
  (refine sV A1k fun K z=>?_;refine cc hit ?_;refine⟨by (try simp only [B3,Bg,Ch]);unfold lim;omega,?_⟩;(try refine ev ?_);apply z;clear z K)
  exact aR
 |Uk _ _ _ W R h3 h4 =>
  have I:=F2b n R W;have L:=C3t n R;have a0:(Ty.mk n a p).Dr=n.length+4+Ty.C9 a:=rfl;have O:=D6q a h3 (by omega) fun u J=>ih u J (h4 u J) (by have:=A6w J;omega);have e:(if (Ty.mk n a p).name.head? = some 36∧(Ty.mk n a p).args=[] then [95,86]++(Ty.mk n a p).name.drop 1 else G2 (Ty.mk n a p).name++J5 (Ty.mk n a p).args)=G2 n++J5 a:=by rw [A6 (fun h=>G2e W h.1)];rfl
  rw [e] at E ⊢;clear e;rw [B3] at E;generalize G2 n=s1 at *;generalize J5 a=s2 at *;refine cB func134 ?_;refine sR A1k ?_;refine kC I A1k fun V u1=>?_;refine sR A1k ?_;refine kI u1 ?_;clear u1 V
  (refine sG A1k [] 5 [] fun K z=>?_;refine ev ?_;refine cc L ?_;refine cc O ?_;refine⟨by (try simp only [B3]);unfold lim;omega,?_⟩;(try refine ev ?_);apply z;clear z K)
  exact aR
def G3 (m:A3)(l:List Ty):A3:=G2 m++J5 l
theorem B9i (m:A3)(O:m.length≤sm)(l:List Ty)(J:l.length≤sm)(R:∀t,t∈l→t.Mg)(E:Ty.C9 l≤10000000000000):Ac Tryz.prog 88 [C8 m,.d (.slice (Aq l))] (C8 (G3 m l)):=by
 have U:=C3t m O;have L:=D6q l J E fun u I=>A2d u (R u I) (by have:=A6w I;omega);have W:=B8v m;have V:=G3u l;unfold G3;generalize G2 m=s1 at *;generalize J5 l=s2 at *;refine cB func88 ?_;refine sR [0,1,4] ?_
 (refine sV [0,1,4] fun K z=>?_;refine cc U ?_;refine cc L ?_;refine⟨by (try simp only [B3]);unfold lim sm at *;omega,?_⟩;(try refine ev ?_);apply z;clear z K)
 exact aR
theorem B9n (t:Ty)(I:t.Mg)(E:t.Dr≤10000000000000):Ac Tryz.prog 87 [Be t] (Be (.mk t.mg [] t.pos)):=by
 have J:=A2d t I E;generalize t.mg=s at *;refine cB func87 ?_;refine sR [0,1,2] ?_
 (refine sG [0,1,2] [] 4 [] fun K z=>?_;refine ev ?_;refine cc J ?_;apply z;clear z K)
 exact aR
theorem G4v (n:Nat):∀c,c∈Lib.decDigits n→48≤c.toNat∧c.toNat≤57:=by
 have E:∀k,k < 10→48≤(UInt8.ofNat (48+k)).toNat∧(UInt8.ofNat (48+k)).toNat≤57:=fun k h=>by
  have:k=0∨k=1∨k=2∨k=3∨k=4∨k=5∨k=6∨k=7∨k=8∨k=9:=by omega
  rcases this with rfl| rfl| rfl| rfl| rfl| rfl| rfl| rfl| rfl| rfl <;> decide
 induction n using Nat.strongRecOn with
 |_ n I =>
 intro c hc;by_cases h:n < 10
 ·rw [B2m h] at hc;rw [Qt.1 hc];exact E n h
 ·rw [B2w h] at hc;rcases Bw.1 hc with hc| hc
  ·exact I (n / 10) (by omega) c hc
  ·rw [Qt.1 hc];exact E _ (Xp _ (by omega))
abbrev R7 (t:Ty):Ty:=.mk t.mg [] 0
theorem B1i (t:Ty)(I:t.Mg)(E:t.Dr≤10000000000000):Ac Tryz.prog 137 [Be t] (Be (R7 t)):=by have J:=B9n t I E;show Ac Tryz.prog 137 [Be t] (Be (.mk t.mg [] 0));generalize t.mg=s at *;refine cB func137 ?_;refine sR [0,1,2,3] ?_;refine sC J [0,1,2,3] ?_;refine sR [0,1,2,3] ?_;refine sR [0,1,2,3] ?_;exact aR
def Me (l:List Ak):A3:=l.flatMap fun f=>f.bound.mg++[95,66]
def Mk (l:List Param):A3:=l.flatMap fun f=>f.type.mg++[95,80]
def Wp (s:A5):A3:=G2 s.name++[95,83]++Me s.canon.A1++Mk s.canon.params++s.canon.result.mg++[95,69]
theorem E6s {l:List Ak} {j:Nat} {f:Ak} (h:l[j]? = some f):Me (l.take (j+1))=Me (l.take j)++f.bound.mg++[95,66]∧(Me (l.take (j+1))).length≤(Me l).length:=by
 have E:=(Ay.1 h).1;have e:Me (l.take (j+1))=Me (l.take j)++f.bound.mg++[95,66]:=by rw [L5 E,(Ay.1 h).2];simp [Me]
 refine⟨e,?_⟩;have:Me l=Me (l.take (j+1))++Me (l.drop (j+1)):=by unfold Me;rw [←Aq2,Sw]
 rw [this,B3];omega
theorem F2n {l:List Param} {j:Nat} {f:Param} (h:l[j]? = some f):Mk (l.take (j+1))=Mk (l.take j)++f.type.mg++[95,80]∧(Mk (l.take (j+1))).length≤(Mk l).length:=by
 have E:=(Ay.1 h).1;have e:Mk (l.take (j+1))=Mk (l.take j)++f.type.mg++[95,80]:=by rw [L5 E,(Ay.1 h).2];simp [Mk]
 refine⟨e,?_⟩;have:Mk l=Mk (l.take (j+1))++Mk (l.drop (j+1)):=by unfold Mk;rw [←Aq2,Sw]
 rw [this,B3];omega
abbrev A7e:Nat:=10000000000000
structure C1a (s:A5):Prop where
 sm:s.Sm
 f:∀f,f∈s.canon.A1→f.bound.Mg∧f.bound.Dr≤A7e
 p:∀f,f∈s.canon.params→f.type.Mg∧f.type.Dr≤A7e
 r:s.canon.result.Mg∧s.canon.result.Dr≤A7e
 len:(Wp s).length≤100000000000000
abbrev Ph:List Nat:=[0,1,2,3,4,6,8,16,17,18,19,30,31,32,33]
theorem G0u (s:A5)(h:C1a s):Ac Tryz.prog 71 [Cx s] (C8 (Wp s)):=by
 have U:=B1a s h.sm;have W:=C3t s.name h.sm.name;have hr:=A2d s.canon.result h.r.1 h.r.2;have hf:=h.f;have hp:=h.p;have R:=h.len;have a0:s.canon.A1.length≤sm:=by rw [show s.canon.A1.length=s.A1.length from Xr s _];exact h.sm.A1.1
 have a1:s.canon.params.length≤sm:=by rw [show s.canon.params.length=s.params.length from Xb s _];exact h.sm.params.1
 unfold Wp at *;generalize s.canon=q at *;generalize G2 s.name=n at *;generalize q.result.mg=rr at *;simp only [B3,Bg,Ch] at R;refine cB func71 ?_;refine sR Ph ?_;refine sC U Ph ?_
 (refine sV Ph fun K z=>?_;refine cc W ?_;refine⟨by (try simp only [B3,Bg,Ch]);unfold lim;omega,?_⟩;(try refine ev ?_);apply z;clear z K)
 refine kR Ph fun K1 u1=>?_;refine A0.bb (A0.ii q.A1 (X:=Unit) (fun j _=>[(1,.box 1 0),(3,.box 3 0),(4,C8 (n++[95,83]++Me (q.A1.take j))),(16,.d (.slice (Az q.A1))),(17,A9 q.A1.length),(18,A9 j)]) (fun _ _=>[(1,.cells (Nd s)),(3,.cells (Nd q))])
  (fun _ _=>True) () trivial (by simp [sle,Aw,Ae,Me]) sB ?_ ?_)
 rotate_left
 ·intro j _ u J E dp tk I _;obtain⟨L,O⟩:=E6s J;have V:=A2d u.bound (hf u E).1 (hf u E).2;rw [L] at O;rw [L,←Pg,←Pg];generalize Me (q.A1.take j)=o at *;generalize u.bound.mg=m at *;simp only [B3,Bg,Ch] at O;refine Ah I Ph ?_;refine A0.E5 rfl ?_;refine sK fun Z u2=>?_;refine A0.bb ?_
  (refine sV Ph fun K z=>?_;refine ci (Ep J) ?_;apply z;clear z K)
  (refine lV Ph fun K z=>?_;refine cc V ?_;refine⟨by (try simp only [B3,Bg,Ch]);unfold lim;omega,?_⟩;(try refine ev ?_);refine⟨by (try simp only [B3,Bg,Ch]);unfold lim;omega,?_⟩;(try refine ev ?_);apply z;clear z K;try simp only [A4,Aa])
  refine u2 _ _ ?_;clear u2 Z;refine lT Ph ?_;exact⟨(),trivial,by simp [sle,Aw,Ae],by simp [ble,A7]⟩
 intro _ _;rw [Cs];refine Ah B4 Ph ?_;refine A0.stop rfl ?_;simp only [A4,Aa,Af];refine u1 _ _ ?_;clear u1 K1;generalize Me q.A1=o1 at *;refine kR Ph fun K1 u1=>?_;refine A0.bb (A0.ii q.params (X:=Unit) (fun j _=>[(1,.box 1 0),(3,.box 3 0),(4,C8 (n++[95,83]++o1++Mk (q.params.take j))),(30,.d (.slice (B5 q.params))),(31,A9 q.params.length),(32,A9 j)]) (fun _ _=>[(1,.cells (Nd s)),(3,.cells (Nd q))])
  (fun _ _=>True) () trivial (by simp [sle,Aw,Ae,Mk]) sB ?_ ?_)
 rotate_left
 ·intro j _ u J E dp tk I _;obtain⟨L,O⟩:=F2n J;have V:=A2d u.type (hp u E).1 (hp u E).2;rw [L] at O;rw [L,←Pg,←Pg];generalize Mk (q.params.take j)=o at *;generalize u.type.mg=m at *;simp only [B3,Bg,Ch] at O;refine Ah I Ph ?_;refine A0.E5 rfl ?_;refine sK fun Z u2=>?_;refine A0.bb ?_
  (refine sV Ph fun K z=>?_;refine ci (E7 J) ?_;apply z;clear z K)
  (refine lV Ph fun K z=>?_;refine cc V ?_;refine⟨by (try simp only [B3,Bg,Ch]);unfold lim;omega,?_⟩;(try refine ev ?_);refine⟨by (try simp only [B3,Bg,Ch]);unfold lim;omega,?_⟩;(try refine ev ?_);apply z;clear z K;try simp only [A4,Aa])
  refine u2 _ _ ?_;clear u2 Z;refine lT Ph ?_;exact⟨(),trivial,by simp [sle,Aw,Ae],by simp [ble,A7]⟩
 intro _ _;rw [Cs];refine Ah B4 Ph ?_;refine A0.stop rfl ?_;simp only [A4,Aa,Af];refine u1 _ _ ?_;clear u1 K1;generalize Mk q.params=o2 at *
 (refine sV Ph fun K z=>?_;refine cc hr ?_;refine⟨by (try simp only [B3,Bg,Ch]);unfold lim;omega,?_⟩;(try refine ev ?_);refine⟨by (try simp only [B3,Bg,Ch]);unfold lim;omega,?_⟩;(try refine ev ?_);apply z;clear z K)
 exact aR
abbrev B0n:A3:=[84,111,112,95,84]
abbrev Xe:Ty:=.mk B0n [] 0
theorem E0y:Ac Tryz.prog 39 [] (C8 B0n):=by refine cB func39 ?_;refine sR [0] ?_;refine sR [0] ?_;exact aR
theorem E0b:Ac Tryz.prog 72 [] (Be Xe):=by have h:=E0y;refine cB func72 ?_;refine sR [0] ?_;refine sC h [0] ?_;exact aR
def Jd (s:A5):A5:=⟨Wp s,[],[],Xe,0⟩
theorem B9s (s:A5)(h:C1a s):Ac Tryz.prog 32 [Cx s] (Cx (Jd s)):=by
 have I:=G0u s h;have E:=E0b;show Ac Tryz.prog 32 [Cx s] (Cx ⟨Wp s,[],[],Xe,0⟩);generalize Wp s=n at *;refine cB func32 ?_;refine sR [0,1,2] ?_
 (refine sV [0,1,2] fun K z=>?_;refine cc I ?_;refine cc E ?_;apply z;clear z K)
 exact aR
end Go.Abs
