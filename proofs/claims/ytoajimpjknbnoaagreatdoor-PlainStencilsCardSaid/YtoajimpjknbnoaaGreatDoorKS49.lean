import Derived.Lib.ItoaLen
import Derived.Test.YtoajimpjknbnoaaGreatDoorKShelf
import Derived.Test.YtoajimpjknbnoaaGreatDoorKAb8
import Derived.Test.YtoajimpjknbnoaaGreatDoorKSB
import Derived.Shelf.Lay
import Derived.Shelf.Strings.OnBuilder
import Derived.Shelf.Strings.Count
import Derived.Shelf.Small.Wraps
import Derived.Shelf.Strconv.ErrVarAll
set_option linter.all false
set_option maxHeartbeats 1000000
set_option maxRecDepth 100000
namespace Go.iA
open Go Go.Proofs Tryz
def Inv.grown{C:Ctx}{S:Nat->Prop}{w:World}{β:Names}{bx:Ac}(h:Inv C S w β bx)(k:Nat)(os:Array Obj):Inv C S (Sort.grow (w.drewN k) os) β bx/\Cg S w S (Sort.grow (w.drewN k) os) :=h.grow (λ_ h=>h) (λ_ h=>.inl h) (λb E=>by have:=h.C9 b E;simp[Sort.grow];omega) (λb E=>by simp only[Sort.grow];exact IW E) rfl rfl rfl (by simp[Sort.grow])
def yy{C:Ctx}{S:Nat->Prop}{w:World}{β:Names}{bx:Ac}(h:Inv C S w β bx):Lib.TabIs prog w "internal/strconv.uint64pow10" .u64 Lib.pow10Tab:=by obtain⟨_,ty,I,E⟩:=h.Ek 1 WO (.inl ⟨rfl,rfl⟩);unfold Lib.TabIs World.var?;rw[show prog.globalNamed "internal/strconv.uint64pow10" =some 1 by kernel_rfl];simp only[zJ,E,B8];rfl
def F6x(n:Int)(O:-9223372036854775808<=n)(V:n<=9223372036854775807):Ab prog 297 [A6 n] (Bo (Lib.itoa n)):=by
 refine⟨(Enters.of func297 rfl (by decide)),λC β vs U L=>?_⟩;obtain⟨v,E,I⟩:=L.get (j:=0) (c:=A6 n) rfl;have J:vs=[.int .i64 n]:=by
  have Z:=L.1
  match vs,Z with
  |[u],_=>simp only[Rh,B8]at E;subst E;rw[I.J6]
 subst J;refine(Any.strconv_Itoa G5o n O V C.w0 (yy U)).mono ?_;rintro e w' ⟨rfl,k,os,rfl⟩;obtain⟨W,_⟩:=U.grown k os;exact⟨_,C.S0,β,rfl,W,.d _ _ (.str _ (by have:=Lib.itoa_length_le n O V;unfold lim;omega))⟩
def En(i:Nat):A3:=36::Lib.itoa i
def Uv(i:Nat):Lib.itoa (i:Int)=Lib.decDigits i:=by unfold Lib.itoa;rw[A5 (by omega)];rfl
def qn(i:Nat)(h:i<=sm):(En i).length<=30:=by have:=Lib.itoa_length_le i (by omega) (by unfold sm at h;omega);simp only[En,Bg];omega
def vg(i:Nat)(h:i<=sm):Ab prog 243 [A6 i] (Bo (En i)):=by
 have E:¬(i:Int)<0:=by omega
 have hit:=F6x i (by omega) (by unfold sm at h;omega);have J:=Lib.itoa_length_le i (by omega) (by unfold sm at h;omega);unfold En;generalize Lib.itoa (i:Int)=s at*;refine cB func243 ?_;refine sR [0,2,4] ?_;refine Ag E [0,2,4] λL I=>?_;refine kI I ?_;refine sV [0,2,4] λK z=>?_;refine cc hit ?_;refine⟨by unfold lim;omega,?_⟩;(try refine ev ?_);apply z;exact aR
def gL{n:Nat}(h:n<10):Lib.decDigits n=[UInt8.ofNat (48+n)]:=by rw[Lib.decDigits,dif_pos h]
def bN{n:Nat}(h:¬n<10):Lib.decDigits n=Lib.decDigits (n / 10)++[UInt8.ofNat (48+n % 10)]:=by rw[Lib.decDigits,dif_neg h]
def KY{n:Nat}(h:n<10):[[D.int .u8 (IntKind.u8.wrap (48+(n:Int)))]]=[UInt8.ofNat (48+n)].map λc=>[D.int .u8 c.toNat]:=by
 have:IntKind.u8.wrap (48+(n:Int))=((UInt8.ofNat (48+n)).toNat:Int):=by
  have:n=0\/n=1\/n=2\/n=3\/n=4\/n=5\/n=6\/n=7\/n=8\/n=9:=by omega
  rcases this with rfl|rfl|rfl|rfl|rfl|rfl|rfl|rfl|rfl|rfl <;> decide
 simp only[Cj,G5,this]
def fP(n:Nat)(hn:n<=sm):Ab prog 136 [A6 n] (Bo (Lib.decDigits n)):=by
 induction n using Nat.strongRecOn with
 |_ n U =>
 refine cB func136 ?_;refine sR [0,2,4]<|sK λW L=>?_;by_cases I:n<10
 .have E:(n:Int)<10:=by omega
  refine Ak E [0,2,4] ?_;refine tI ?_
  (refine sV [0,2,4] λK z=>?_;refine cl ?_;refine⟨_,oq (e:=5) [UInt8.ofNat (48+n)] (by kernel_rfl) (by kernel_rfl) (by kernel_rfl) rfl (KY I) (by simp),?_⟩;(try refine ev ?_);apply z)
  rw[gL I];exact aR
 .have E:¬(n:Int)<10:=by omega
  refine Ak E [0,2,4] ?_;refine kI L ?_;have J:=U (n / 10) (by omega) (by omega);have O:((n:Int)).tdiv 10=((n / 10:Nat):Int):=rfl;have Z:((n:Int)).tmod 10=((n % 10:Nat):Int):=rfl;rw[bN I];have V:=Lib.itoa_length_le (n / 10:Nat) (by omega) (by unfold sm at hn;omega);rw[Uv]at V
  (refine sG [0,2,4] [] 9 [] λK z=>?_;simp -implicitDefEqProofs only[EV,D8,Nat.reduceAdd,Nat.reduceEqDiff,Nat.reduceLeDiff,Nat.reduceMul,Int.reduceEq,reduceCtorEq];simp only[O,Z];(try refine ev ?_);refine ca ?_;refine cc J ?_;refine cl ?_;refine⟨_,oq (e:=5) [UInt8.ofNat (48+n % 10)] (by kernel_rfl) (by kernel_rfl) (by kernel_rfl) rfl (KY (oE _ (by decide))) (by simp),?_⟩;(try refine ev ?_);refine⟨by unfold lim;omega,?_⟩;(try refine ev ?_);apply z)
  exact aR
def o6(i:Nat)(h:i<=sm):Ab prog 200 [A6 i] (Bo (En i)):=by
 have E:¬(i:Int)<0:=by omega
 have hit:=fP i h;have J:=Lib.itoa_length_le i (by omega) (by unfold sm at h;omega);unfold En;rw[Uv]at*;generalize Lib.decDigits i=s at*;refine cB func200 ?_;refine sR [0,2,4] ?_;refine Ag E [0,2,4] λL I=>?_;refine kI I ?_;refine sV [0,2,4] λK z=>?_;refine cc hit ?_;refine⟨by unfold lim;omega,?_⟩;(try refine ev ?_);apply z;exact aR
open Go Go.Proofs Go.RowKit Go.Lib Go.Sort Tryz
def H0f(s:A3):Bool:=match Lib.atoiAll s with
 |.ok _=>false
 |.range=>false
 |_=>true
open Go Go.Proofs Tryz
mutual
theorem Ty.Fu:∀(t:Ty)(k:Int),k+1<=t.count k
 |.mk n a _,k=>by simp only[Ty.count];have:=Ty.Lz a (k+1+((n.length / 50:Nat):Int));omega
theorem Ty.Lz:∀(l:List Ty)(k:Int),k<=Ty.Ct l k
 |[],k=>by simp[Ty.Ct]
 |t::E,k=>by simp only[Ty.Ct];split;have J:=Ty.Fu t k;have I:=Ty.Lz E (t.count k);omega;omega
end
mutual
theorem Ty.H9:∀(t:Ty)(k:Int),0<=k->t.count k<=2000->t.Sm
 |.mk n a p,k,I,h=>by simp only[Ty.count]at h;have O:=Ty.Lz a (k+1+((n.length / 50:Nat):Int));have E:=Ty.CK a (k+1+((n.length / 50:Nat):Int)) (by omega) h;exact .mk n a p (by unfold sm;omega) (by unfold sm;omega) E.2
theorem Ty.CK:∀(l:List Ty)(k:Int),0<=k->Ty.Ct l k<=2000->(k+l.length<=2000/\∀t,t∈l->t.Sm)
 |[],k,I,h=>by simp[Ty.Ct]at h |-;omega
 |t::J,k,I,h=>by simp only[Ty.Ct]at h;split at h;have O:=Ty.Fu t k;have E:=Ty.CK J (t.count k) (by omega) h;have L:=Ty.H9 t k I (by have:=Ty.Lz J (t.count k);omega);refine⟨by simp only[Bg];omega,?_⟩;intro u hu;simp only[Ay]at hu;rcases hu with rfl|hu;exact L;exact E.2 u hu;omega
end
mutual
theorem Ex.Fu:∀(t:Ex)(k:Int),k+1<=t.count k
 |.mk _ n t a ks _,k=>by simp only[Ex.count];have J:=Ty.Fu t (k+((n.length / 50:Nat):Int));have I:=Ty.Lz a (t.count (k+((n.length / 50:Nat):Int)));have L:=Ex.Lz ks (Ty.Ct a (t.count (k+((n.length / 50:Nat):Int))));omega
theorem Ex.Lz:∀(l:List Ex)(k:Int),k<=Ex.Ct l k
 |[],k=>by simp[Ex.Ct]
 |t::E,k=>by simp only[Ex.Ct];split;have J:=Ex.Fu t k;have I:=Ex.Lz E (t.count k);omega;omega
end
mutual
theorem Ex.H9:∀(t:Ex)(k:Int),0<=k->t.count k<=2000->t.Sm
 |.mk V n t a ks p,k,E,h=>by simp only[Ex.count]at h;have Z:=Ty.Fu t (k+((n.length / 50:Nat):Int));have I:=Ty.Lz a (t.count (k+((n.length / 50:Nat):Int)));have J:=Ex.Lz ks (Ty.Ct a (t.count (k+((n.length / 50:Nat):Int))));have U:=Ty.H9 t (k+((n.length / 50:Nat):Int)) (by omega) (by omega);have W:=Ty.CK a (t.count (k+((n.length / 50:Nat):Int))) (by omega) (by omega);have O:=Ex.CK ks (Ty.Ct a (t.count (k+((n.length / 50:Nat):Int)))) (by omega) h;exact .mk V n t a ks p (by unfold sm;omega) U (by unfold sm;omega) W.2 (by unfold sm;omega) O.2
theorem Ex.CK:∀(l:List Ex)(k:Int),0<=k->Ex.Ct l k<=2000->(k+l.length<=2000/\∀t,t∈l->t.Sm)
 |[],k,E,h=>by simp[Ex.Ct]at h |-;omega
 |t::L,k,E,h=>by simp only[Ex.Ct]at h;split at h;have Z:=Ex.Fu t k;have I:=Ex.CK L (t.count k) (by omega) h;have J:=Ex.H9 t k E (by have:=Ex.Lz L (t.count k);omega);refine⟨by simp only[Bg];omega,?_⟩;intro u hu;simp only[Ay]at hu;rcases hu with rfl|hu;exact J;exact I.2 u hu;omega
end
abbrev Pb{α:Type}(F:List α->Int->Int)(Sm:α->Prop):Prop:=∀(l:List α)(k:Int),(k<=F l k)/\(0<=k->F l k<=2000->k+l.length<=2000/\∀t,t∈l->Sm t)
def P1{α:Type}(F:List α->Int->Int)(g:α->Int->Int)(Sm:α->Prop)(J:∀k,F [] k=k)(L:∀x xs k,F (x::xs) k=if k<=2000 then F xs (g x k)else k)
  (I:∀x k,k+1<=g x k)(E:∀x k,0<=k->g x k<=2000->Sm x):∀(l:List α) (k:Int),(k<=F l k)/\(0<=k->F l k<=2000->k+l.length<=2000/\∀t,t∈l->Sm t)
 |[],k=>by rw[J];exact⟨Int.le_refl _,λJ h=>⟨by simp;omega,by simp⟩⟩
 |t::Z,k=>by
  rw[L];obtain⟨i1,W⟩:=P1 F g Sm J L I E Z (g t k);have h2:=I t k;split
  .refine⟨by omega,λU h=>?_⟩;obtain⟨j1,O⟩:=W (by omega) h;have V:=E t k U (by omega);refine⟨by simp only[Bg];omega,?_⟩;intro u hu;simp only[Ay]at hu;rcases hu with rfl|hu
   .exact V
   .exact O u hu
  .exact⟨Int.le_refl _,λ_ h=>by omega⟩
def kL:Pb Cf Aj.Sm:=P1 Cf (λf n=>f.bound.count (n+1+((f.name.length / 50:Nat):Int))) Aj.Sm (λ_=>rfl) (λ_ _ _=>rfl)
 (λx k=>by have:=Ty.Fu x.bound (k+1+((x.name.length / 50:Nat):Int));omega)
 (λx k E h=>by have:=Ty.Fu x.bound (k+1+((x.name.length / 50:Nat):Int));exact⟨by unfold sm;omega,Ty.H9 _ _ (by omega) h⟩)
def xM:Pb Dj Param.Sm:=P1 Dj (λf n=>f.type.count (n+1+((f.name.length / 50:Nat):Int))) Param.Sm (λ_=>rfl) (λ_ _ _=>rfl)
 (λx k=>by have:=Ty.Fu x.type (k+1+((x.name.length / 50:Nat):Int));omega)
 (λx k E h=>by have:=Ty.Fu x.type (k+1+((x.name.length / 50:Nat):Int));exact⟨by unfold sm;omega,Ty.H9 _ _ (by omega) h⟩)
def QD:Pb Jb (λv=>v.length<=sm):=P1 Jb (λv n=>n+1+((v.length / 50:Nat):Int)) (λv=>v.length<=sm) (λ_=>rfl) (λ_ _ _=>rfl) (λx k=>by omega) (λx k E h=>by unfold sm;omega)
def A4.H9(s:A4)(n:Int):n+1<=s.count n/\(0<=n->s.count n<=2000->s.Sm):=by unfold A4.count;obtain⟨a1,L⟩:=kL s.A1 (n+((s.name.length / 50:Nat):Int));obtain⟨U,I⟩:=xM s.params (Cf s.A1 (n+((s.name.length / 50:Nat):Int)));have Z:=Ty.Fu s.result (Dj s.params (Cf s.A1 (n+((s.name.length / 50:Nat):Int))));refine⟨by omega,λW h=>?_⟩;obtain⟨O,J⟩:=L (by omega) (by omega);obtain⟨V,E⟩:=I (by omega) (by omega);exact⟨by unfold sm;omega,⟨by unfold sm;omega,J⟩,⟨by unfold sm;omega,E⟩,Ty.H9 _ _ (by omega) h⟩
def VT:Pb Ez A4.Sm:=P1 Ez A4.count A4.Sm (λ_=>rfl) (λ_ _ _=>rfl) (λx k=>(A4.H9 x k).1) (λx k=>(A4.H9 x k).2)
def Decl.H9(d:Decl)(n:Int):n+1<=d.count n/\(0<=n->d.count n<=2000->d.Sm):=by unfold Decl.count;generalize hm:n+1+((d.name.length / 50:Nat):Int)+((d.recv.length / 50:Nat):Int)=m;obtain⟨a1,V⟩:=kL d.A1 m;obtain⟨b1,I⟩:=xM d.fields (Cf d.A1 m);obtain⟨c1,J⟩:=VT d.sigs (Dj d.fields (Cf d.A1 m));obtain⟨e1,W⟩:=QD d.vars (Ez d.sigs (Dj d.fields (Cf d.A1 m)));generalize hz:Jb d.vars (Ez d.sigs (Dj d.fields (Cf d.A1 m)))=z at*;unfold Decl.S8;obtain⟨f1,f2⟩:=A4.H9 d.sig z;have g1:=Ex.Fu d.body (d.sig.count z);refine⟨by split <;> omega,λh0 h=>?_⟩;split at h;obtain⟨a3,Z⟩:=V (by omega) (by omega);obtain⟨b3,L⟩:=I (by omega) (by omega);obtain⟨c3,O⟩:=J (by omega) (by omega);obtain⟨e3,U⟩:=W (by omega) (by omega);exact⟨by unfold sm;omega,⟨by unfold sm;omega,Z⟩,⟨by unfold sm;omega,L⟩,⟨by unfold sm;omega,O⟩,by unfold sm;omega,⟨by unfold sm;omega,λv E=>Cy (U v E) (by decide)⟩,f2 (by omega) (by omega),Ex.H9 _ _ (by omega) h⟩;omega
def KU:Pb J8 Decl.Sm:=P1 J8 Decl.count Decl.Sm (λ_=>rfl) (λ_ _ _=>rfl) (λx k=>(Decl.H9 x k).1) (λx k=>(Decl.H9 x k).2)
def Prog.H9(p:Prog)(h:p.count<=600):p.Sm/\p.decls.length<=2000:=by unfold Prog.count at h;have L:=Ex.Fu p.main 0;obtain⟨O,I⟩:=KU p.decls (p.main.count 0);obtain⟨J,E⟩:=I (by omega) (by omega);exact⟨⟨⟨by unfold sm;omega,E⟩,Ex.H9 p.main 0 (by omega) (by omega)⟩,by omega⟩
def I3(a b:A3):D:=.agg [.str a,.str b]
def isStr(P:Program)(t:TypeId):Bool:=match P.underlying t with|some .string=>true|_=>false
def OT(P:Program)(E:TypeId):Bool:=match P.underlying E with
 |some (.struct fs)=>match fs.toList with
  |[f1,f2]=>f1.offset ==0 && f2.offset ==1 && isStr P f1.type && isStr P f2.type && P.cellsOf f1.type ==1 && P.cellsOf f2.type ==1 && P.cellsOf E ==2 && fs.all (·.name != "_") && Nat.ble 1 P.types.size
  |_=>false
 |_=>false
def l6{P:Program}{t:TypeId}(h:isStr P t=true):P.underlying t=some .string:=by unfold isStr at h;split at h <;> simp_all
def NL{P:Program}{I:TypeId}(h:OT P I=true)(a b:A3)(U:a.length<=lim)(hb:b.length<=lim):E1 P I (I3 a b):=by
 unfold OT at h;split at h
 .rename_i fs J;split at h
  .rename_i f1 f2 E;simp only[Bh,W8,Nat.ble_eq]at h;obtain⟨⟨⟨⟨⟨⟨⟨⟨W,V⟩,u1⟩,u2⟩,c1⟩,c2⟩,L⟩,hn⟩,a0⟩:=h;obtain⟨d,hd⟩:∃d,P.types.size+1=d+2:=⟨P.types.size - 1,by omega⟩;refine⟨rfl,?_,?_⟩;simp[I3,D.kv,Value.formed,J,L]
   .rw[hd];have O:∀s:A3,s.length<=lim->P.keyLits (d+1) f1.type [.string ⟨s.toArray⟩]=some [.string s]:=λs hs=>by simp[Program.keyLits,l6 u1,ByteArray.size];unfold lim at hs;unfold maxLen;omega
    have Z:∀s:A3,s.length<=lim->P.keyLits (d+1) f2.type [.string ⟨s.toArray⟩]=some [.string s]:=λs hs=>by simp[Program.keyLits,l6 u2,ByteArray.size];unfold lim at hs;unfold maxLen;omega
    unfold Program.keyLits;rw[J];simp only[I3,D.kv,Value.cells,Cj,G5,D.lit,Lit.value,Bg,Ck,L,hn,and_self,Av,E,List.mapM_cons,List.mapM_nil,W,V,c1,c2,vJ,AW,RC,lR,O a U,Z b hb];rfl
  simp at h
 simp at h
def mM:OT prog 149=true:=by kernel_rfl
def Nx(d:Decl):Option D:=if d.kind=1\/d.kind=2 then some (I3 d.name [])else if d.kind=3 then some (I3 d.name (46::d.sig.name))else none
def Zj(m:List (D × D))(i:Nat)(d:Decl):List (D × D):=match Nx d with
 |none=>m
 |some k=>if(Fh k.lits m 0).isSome=true then m else Ro k (.int .i64 i) m
def DD:List Decl->Nat->List (D × D)->List (D × D)
 |[],_,m=>m
 |d::ds,i,m=>DD ds (i+1) (Zj m i d)
def Rt(p:Prog):List (D × D):=DD p.decls 0 []
def D4(p:Prog):List D:=Ah p++[.map (Rt p)]
def PN{P:Program}{E:TypeId}{m:List (D × D)}{k v:D}(h:∀kv,kv∈m->E1 P E kv.1)(I:E1 P E k):∀kv,kv∈Ro k v m->E1 P E kv.1:=by intro kv hkv;unfold Ro at hkv;split at hkv;rcases xq hkv with hkv|rfl;exact h kv hkv;exact I;rcases Bj.1 hkv with hkv|hkv;exact h kv hkv;simp only[Ay,Eh,Eo]at hkv;subst hkv;exact I
abbrev Lo:=[0,1,2,3,4,5,6,8,11,13,18,19,20,21,29,30,33,50]
def zM(p:Prog)(h:p.Sm):Ab prog 32 [Cs p] (.A8 (D4 p) 0):=by
 refine cB func32 ?_;refine sR Lo ?_;refine sC (MW p h) Lo ?_;have a':=h.decls.1;refine sK λK1 a5=>?_;have a7:∀sl bx,sle sl [(3,.box 13 0)]->ble bx [(13,.cells ((Ah p).map .d++[.mp 11])),(11,.map (Rt p))]->K1 sl bx:=by intro sl bx h1 h2;refine a5 _ _ (A0.ww h1 h2 ?_);refine vB 11 rfl<|A0.ww (sl':=[(3,.box 13 0)]) (bx':=[(13,.cells ((D4 p).map .d))]) (by simp[Ms,SV.sub,sle,B0,Ae]) (by simp[Kz,Ax.sub,nA,SV.sub,ble,A9,Cu,D4,Ah]) ?_;refine gA 13 rfl rfl<|A0.ww (sl':=[(3,.A8 (D4 p) 0)]) (bx':=[]) (by simp[Ms,SV.sub,sle,B0,Ae];rfl) trivial ?_;refine sR Lo ?_;exact aR
 refine sR Lo ?_;refine bA (A0.loop (X:=Nat × List (D × D)) (λx=>[(20,A6 x.1),(19,A6 p.decls.length),(18,.d (.slice (Bx p.decls))),(3,.box 13 0)]) (λx=>[(13,.cells ((Ah p).map .d++[.mp 11])),(11,.map x.2)]) (λx=>x.1<=p.decls.length/\(∀kv,kv∈x.2->E1 prog 149 kv.1)/\DD (p.decls.drop x.1) x.1 x.2=Rt p) (λx=>p.decls.length - x.1) (0,[]) ?_ ?_ ?_ ?_);exact⟨by simp,by simp,rfl⟩;exact sS;exact(by simp[ble,A9,Ah]);rintro⟨j,m⟩ ⟨hj,hm,L⟩;simp only at hj hm L;by_cases a6:(j:Int)<(p.decls.length:Int)
 .have Z:j<p.decls.length:=by omega
  have hy:p.decls[j]?=some p.decls[j]:=Bu Z;have a3:p.decls[j]∈p.decls:=Gc Z;have dp:p.decls.drop j=p.decls[j]::p.decls.drop (j+1):=H7 Z;generalize p.decls[j]=y at*;rw[dp,DD]at L;refine Ak a6 Lo ?_;refine sK λK2 I=>eA rfl (cA (I _ _ ?_));refine sK λK2 I=>?_;have V:∀sl bx m',sle sl [(20,A6 j),(19,A6 p.decls.length),(18,.d (.slice (Bx p.decls))),(3,.box 13 0)]->ble bx [(13,.cells ((Ah p).map .d++[.mp 11])),(11,.map m')] ->(∀kv,kv∈m'->E1 prog 149 kv.1)->m'=Zj m j y->K2 sl bx:=by
   rintro sl bx m' h1 h2 h3 rfl;refine I _ _ (A0.ww h1 h2 ?_)
   (refine lQ Lo λK E=>?_;refine ev ?_)
   refine⟨by unfold B6;unfold sm at*;omega,?_⟩
   (apply E;try simp only[Aa,])
   exact⟨(j+1,Zj m j y),⟨by simp only;omega,h3,L⟩,by simp only;omega,by simp[sle,B0,Ae],(by simp[ble,A9,Ah])⟩
  refine bA ?_;refine sQ Lo λK E=>?_;refine ev ?_;refine⟨by omega,Am y,E6 hy,rfl,?_⟩;refine ev ?_;apply E
  refine sR Lo ?_;have a9:y.name.length<=lim:=Cy (h.decls.2 y a3).name (by unfold sm lim;omega);refine sK λK3 a4=>?_;have O:∀sl bx (mth:A3),sle sl [(4,A6 j),(6,.box 6 0),(20,A6 j),(19,A6 p.decls.length),(18,.d (.slice (Bx p.decls))),(3,.box 13 0)] ->ble bx [(13,.cells ((Ah p).map .d++[.mp 11])),(11,.map m),(6,.cells [.d (.str y.name),.d (.str mth)])]->Nx y=some (I3 y.name mth)->mth.length<=lim->K3 sl bx:=by
   intro sl bx mth h1 h2 a2 a8;refine a4 _ _ (A0.ww h1 h2 ?_);have U:=NL mM y.name mth a9 a8
   (refine sG Lo [] 10 [] λK E=>?_;refine ev ?_)
   refine⟨hm,U,?_⟩
   (apply E)
   by_cases hs:(Fh (D.agg [D.str y.name,D.str mth]).lits m 0).isSome=true
   .have ht:Zj m j y=m:=by simp only[Zj,a2];exact A7 hs
    rw[hs];refine sR Lo ?_;refine dA rfl (cA ?_);simp only[Aa,Af];exact V _ _ m sS (by simp[ble,A9,Ah]) hm ht.symm
   .have ht:Zj m j y=Ro (I3 y.name mth) (.int .i64 j) m:=by simp only[Zj,a2];exact A5 hs
    rw[pR]at hs;rw[hs];refine sR Lo ?_;refine eA rfl ?_
    (refine lG Lo [] 6 [] λK E=>?_;refine ev ?_)
    refine⟨hm,U,?_⟩
    (apply E;try simp only[Aa,Af])
    exact V _ _ _ sS (by simp[ble,A9,Ah];rfl) (PN hm U) ht.symm
  refine sR Lo<|bA<|sK λK4 J=>?_;by_cases W:y.kind=1
  refine Ak W Lo ?_;refine eA rfl (cA (J _ _ ?_));refine eA rfl (cA ?_);simp only[Aa,Af];exact O _ _ [] sS (by simp[ble,A9,Ah]) (by simp[Nx,W]) (by simp)
  .by_cases a0:y.kind=2;refine Ak W Lo ?_;refine dA rfl ?_;refine lQ Lo λK E=>?_;refine Bb a0 ?_;(apply E;try simp only[Aa,]);refine J _ _ ?_;refine eA rfl (cA ?_);simp only[Aa,Af];exact O _ _ [] sS (by simp[ble,A9,Ah]) (by simp[Nx,a0]) (by simp)
   .refine Ak W Lo ?_;refine dA rfl ?_;refine lQ Lo λK E=>?_;refine Bb a0 ?_;(apply E;try simp only[Aa,]);refine J _ _ ?_;refine dA rfl ?_;by_cases a1:y.kind=3
    .refine Ak a1 Lo ?_;refine eA rfl ?_;have ab:=(h.decls.2 y a3).sig.name;have aa:(ByteArray.mk #[46]).size<=lim:=by decide
     refine lQ Lo λK E=>?_;refine ev ?_;refine⟨by unfold sm lim at*;first|omega| (simp;omega),?_⟩;(apply E;try simp only[Aa,Af]);exact O _ _ (46::y.sig.name) sS (by simp[ble,A9,Ah]) (by simp[Nx,a1]) (by simp only[Bg];unfold sm lim at*;omega)
    refine Ak a1 Lo ?_;refine dA rfl (lA ?_);simp only[Aa,Af];rw[A5 (by decide)];exact V _ _ m sS (by simp[ble,A9,Ah]) hm (by simp[Zj,Nx,W,a0,a1])
 refine Ak a6 Lo ?_;refine sK λK2 I=>dA rfl (lA ?_);simp only[Aa,Af,Av];rw[Jk (by omega),DD]at L;exact a7 _ _ sS (by rw[<-L];exact(by simp[ble,A9,Ah]))
def Q1(l:List Lit)(m:List (D × D)):Option D:=(Fh l m 0).map (·.2)
def PU(l:List Lit):∀(m:List (D × D))(i:Nat),(Fh l m i).map (·.2)=Q1 l m
 |[],i=>rfl
 |kv::r,i=>by unfold Q1;simp only[Fh];split;rfl;rw[PU l r (i+1),PU l r (0+1)]
def SR(l:List Lit)(k v:D)(m:List (D × D)):Q1 l ((k,v)::m)=if l=k.lits then some v else Q1 l m:=by unfold Q1;simp only[Fh];split;rfl;exact PU l m 1
def pe(l:List Lit)(k v:D):∀m:List (D × D),Q1 l (m++[(k,v)])=match Q1 l m with|some x=>some x|none=>if l=k.lits then some v else none
 |[]=>by rw[Wv,SR];rfl
 |(I,E)::m=>by rw[Kn,SR,SR,pe l k v m];split <;> rfl
def Wj(l:List Lit):List Decl->Nat->Option D
 |[],_=>none
 |d::ds,i=>match Nx d with
  |some k=>if l=k.lits then some (.int .i64 i)else Wj l ds (i+1)
  |none=>Wj l ds (i+1)
def uU(l:List Lit):∀(ds:List Decl)(i:Nat)(m:List (D × D)),Q1 l (DD ds i m)=match Q1 l m with|some x=>some x|none=>Wj l ds i
 |[],i,m=>by simp only[DD,Wj];cases Q1 l m <;> rfl
 |d::ds,i,m=>by
  simp only[DD,Wj];rw[uU l ds (i+1)];unfold Zj;cases O:Nx d with
  |none=>rfl
  |some k =>
   simp only;by_cases hs:(Fh k.lits m 0).isSome=true
   .rw[A7 hs];cases J:Q1 l m with
    |some x=>rfl
    |none =>simp only;rw[A5];rintro rfl;unfold Q1 at J;cases I:Fh k.lits m 0 <;> simp[I]at hs J
   .rw[A5 hs];have L:Fh k.lits m 0=none:=by cases I:Fh k.lits m 0 <;> simp[I]at hs |-
    unfold Ro;rw[L];simp only;rw[pe];cases J:Q1 l m with
    |some x=>rfl
    |none =>simp only;by_cases E:l=k.lits;rw[A7 E,A7 E];rw[A5 E,A5 E]
def rI(p:Prog)(k:D):Option Decl:=p.decls.find? λd=>match Nx d with|some E=>decide (k.lits=E.lits)|none=>false
def O2(l:List Lit):∀(ds:List Decl)(i:Nat),(Wj l ds i=none/\(ds.find? λd=>match Nx d with|some J=>decide (l=J.lits)|none=>false)=none) \/∃j d,ds[j]?=some d/\Wj l ds i=some (.int .i64 ((i+j:Nat):Int))/\(ds.find? λd=>match Nx d with|some J=>decide (l=J.lits)|none=>false)=some d
 |[],i=>.inl ⟨rfl,rfl⟩
 |d::ds,i=>by
  simp only[Wj,Y6];have U:=O2 l ds (i+1);cases W:Nx d with
  |none =>
   simp only;rcases U with h|⟨j,E,O,I,L⟩
   .exact .inl h
   .exact .inr ⟨j+1,E,by simpa using O,by rw[I];congr 3;omega,L⟩
  |some k =>
   simp only;by_cases V:l=k.lits
   .simp only[V,Av,Xx];exact .inr ⟨0,d,rfl,by simp,rfl⟩
   .simp only[V,Gi,CG];rcases U with h|⟨j,E,O,I,L⟩
    .exact .inl h
    .exact .inr ⟨j+1,E,by simpa using O,by rw[I];congr 3;omega,L⟩
instance:Inhabited Prog:=⟨⟨[],default⟩⟩
def db(p:Prog)(h:p.Sm):∀kv,kv∈Rt p->E1 prog 149 kv.1:=by
 have go:∀(ds:List Decl) (i:Nat) (m:List (D × D)),(∀d,d∈ds->d.Sm)->(∀kv,kv∈m->E1 prog 149 kv.1)->∀kv,kv∈DD ds i m->E1 prog 149 kv.1:=by
  intro ds
  induction ds with
  |nil=>intro i m _ h;exact h
  |cons d ds L =>
   intro i m hd J;refine L (i+1) _ (λx O=>hd x (by simp[O])) ?_;have I:=hd d (by simp);unfold Zj;cases E:Nx d with
   |none=>exact J
   |some k =>simp only;split;exact J;refine PN J ?_;unfold Nx at E;have U:=I.name;have V:=I.sig.name;split at E;simp only[B8]at E;subst E;exact NL mM _ _ (by unfold sm lim at*;omega) (by simp);split at E;simp only[B8]at E;subst E;exact NL mM _ _ (by unfold sm lim at*;omega) (by simp only[Bg];unfold sm lim at*;omega);simp at E
 exact go p.decls 0 [] h.decls.2 (by simp)
abbrev xG:=[0,1,3,4,5,6,7,9,21]
def YR(p:Prog)(h:p.Sm)(a b:A3):Ab prog 240 [.A8 (D4 p) 0,.agg [.d (.str a),.d (.str b)]]
  (.tuple [Hw ((rI p (I3 a b)).getD default),Ar (rI p (I3 a b)).isSome]):=by
 refine Ci.bd (Enters.of func240 rfl (by decide)) λW=>?_;have J:=W.2.1;simp only[SV.bd,sA]at J;have hk:=NL mM a b (Wn J.1) (Wn J.2.1);have E:Q1 (I3 a b).lits (Rt p)=Wj (I3 a b).lits p.decls 0:=by unfold Rt;rw[uU];rfl
 unfold Q1 at E;refine cB func240 ?_;refine sR xG ?_;refine kR xG λU I=>?_;refine dA rfl (cA (I _ _ ?_));refine sG xG [] 10 [] λK L=>?_;refine Bb @D4.eq_1 ?_;refine⟨db p h,hk,?_⟩;apply L;refine sK λU I=>?_;rcases O2 (I3 a b).lits p.decls 0 with⟨Z,V⟩|⟨j,d,Z,V,h3⟩
 .rw[Z]at E;have hn:Fh (D.agg [D.str a,D.str b]).lits (Rt p) 0=none:=by simpa [I3]using E
  have O:rI p (I3 a b)=none:=V;rw[hn];refine sR xG ?_;refine eA rfl<|sR xG ?_;rw[O];exact aR
 .rw[V]at E;obtain⟨q,hq⟩:∃q,Fh (D.agg [D.str a,D.str b]).lits (Rt p) 0=some (q,.int .i64 ((0+j:Nat):Int)):=by
   cases hf:Fh (D.agg [D.str a,D.str b]).lits (Rt p) 0 with
   |none=>rw[show(I3 a b).lits=(D.agg [D.str a,D.str b]).lits from rfl,hf]at E;simp at E
   |some qd =>rw[show(I3 a b).lits=(D.agg [D.str a,D.str b]).lits from rfl,hf]at E;obtain⟨q,d'⟩:=qd;simp only[Em,B8]at E;exact⟨q,by rw[E]⟩
  have hl:T2 (D.agg [D.str a,D.str b]) (Rt p) (SV.d (D.int IntKind.i64 0))=A6 j:=by simp only[T2,hq,ofD,Kf]
  have O:rI p (I3 a b)=some d:=h3;rw[hl,hq];refine sR xG ?_;refine dA rfl (cA (I _ _ ?_));refine sQ xG λK L=>?_;refine ev ?_;refine⟨by omega,Am d,E6 Z,rfl,?_⟩;refine ev ?_;apply L;rw[O];exact aR
def XR(p:Prog)(nm:A3):rI p (I3 nm [])=p.decls.find? (λd=>d.E5 nm):=by
 unfold rI
 congr 1
 funext d;unfold Nx Decl.E5;by_cases h1:d.kind=1\/d.kind=2
 .rw[A7 h1];rcases h1 with h1|h1 <;> simp[h1,I3,D.lits,D.lit,eq_comm]
 .rw[A5 h1];have I:¬d.kind=1:=λh=>h1 (.inl h);have E:¬d.kind=2:=λh=>h1 (.inr h);by_cases J:d.kind=3 <;> simp[I,E,J,I3,D.lits,D.lit]
def MN(p:Prog)(h:p.Sm)(nm:A3):Ab prog 209 [.A8 (D4 p) 0,Bo nm] (A6 (kindOf p nm)):=by
 have I:=YR p h nm [];rw[XR]at I;have J:kindOf p nm=((p.decls.find? λd=>d.E5 nm).getD default).kind:=by unfold kindOf;cases p.decls.find? (λd=>d.E5 nm) <;> rfl
 refine cB func209 ?_;refine sR [0,1,4,5] ?_;refine sQ [0,1,4,5] λK E=>?_;simp -implicitDefEqProofs only[EV,D8,Nat.reduceAdd,Nat.reduceEqDiff,Nat.reduceLeDiff,reduceCtorEq];generalize(p.decls.find? λd=>d.E5 nm).getD default=d at*;refine⟨_,.inl ⟨_,rfl,I,rfl⟩,?_⟩;refine ev ?_;apply E;refine sR [0,1,4,5] ?_;rw[J];exact aR
mutual
def Ty.names:Ty->List A3
 |.mk n a _=>n::Ty.Eg a
def Ty.Eg:List Ty->List A3
 |[]=>[]
 |t::E=>t.names++Ty.Eg E
end
theorem OA(t:Ty):t.names=t.name::Ty.Eg t.args:=by cases t;rfl
def UA:∀(a b:List Ty),Ty.Eg (a++b)=Ty.Eg a++Ty.Eg b
 |[],b=>rfl
 |t::E,b=>by simp only[Kn,Ty.Eg,UA E b,H3]
mutual
theorem CB:∀(t:Ty)(k:Int),t.count k<=2000->k+t.names.length<=t.count k
 |.mk n a p,k,h=>by
  simp only[Ty.count]at h |-;have:=EB a _ h
  grind[Ty.names]
theorem EB:∀(l:List Ty)(k:Int),Ty.Ct l k<=2000->k+(Ty.Eg l).length<=Ty.Ct l k
 |[],k,_=>by simp[Ty.Ct,Ty.Eg]
 |t::E,k,h=>by
  simp only[Ty.Ct]at h |-;split at h
  rename_i I;rw[A7 I];have L:=EB E _ h;have J:=CB t k (by omega);grind[Ty.Eg];omega
end
def Ty.Nn(t:Ty):Prop:=t.names.length<=2000
theorem Ty.Py{t:Ty}{k:Int}(E:0<=k)(h:t.count k<=2000):t.Nn:=by have:=CB t k h;unfold Ty.Nn;omega
def Ty.bL:∀{l:List Ty} {k:Int},0<=k->Ty.Ct l k<=2000->∀t,t∈l->t.Nn
 |[],_,_,_=>by simp
 |x::l,k,J,h=>by simp only[Ty.Ct]at h;split at h;have I:=Ty.Fu x k;have E:=Ty.Lz l (x.count k);intro t ht;simp at ht;rcases ht with rfl|ht;grind[Ty.Py];exact Ty.bL (by omega) h t ht;omega
inductive Ex.Nn:Ex->Prop where
 |mk (k:Int) (n:A3) (t:Ty) (a:List Ty) (ks:List Ex) (p:Int):t.Nn->(∀t,t∈a->t.Nn)->(∀e,e∈ks->Ex.Nn e)->Ex.Nn (.mk k n t a ks p)
def Ex.Nn.type{e:Ex}(h:e.Nn):e.type.Nn:=by cases h;assumption
def Ex.Nn.targs{e:Ex}(h:e.Nn):∀t,t∈e.targs->t.Nn:=by cases h;assumption
def Ex.Nn.kids{e:Ex}(h:e.Nn):∀t,t∈e.kids->t.Nn:=by cases h;assumption
mutual
theorem Ex.Py:∀(t:Ex)(k:Int),0<=k->t.count k<=2000->t.Nn
 |.mk O n t a ks p,k,E,h=>by simp only[Ex.count]at h;have U:=Ty.Fu t (k+((n.length / 50:Nat):Int));have J:=Ty.Lz a (t.count (k+((n.length / 50:Nat):Int)));have L:=Ex.Lz ks (Ty.Ct a (t.count (k+((n.length / 50:Nat):Int))));exact .mk O n t a ks p (Ty.Py (k:=k+((n.length / 50:Nat):Int)) (by omega) (by omega)) (Ty.bL (k:=t.count (k+((n.length / 50:Nat):Int))) (by omega) (by omega)) (Ex.bL ks _ (by omega) h)
theorem Ex.bL:∀(l:List Ex)(k:Int),0<=k->Ex.Ct l k<=2000->∀t,t∈l->t.Nn
 |[],k,E,h=>by simp
 |t::I,k,E,h=>by simp only[Ex.Ct]at h;split at h;have U:=Ex.Fu t k;have V:=Ex.Lz I (t.count k);have J:=Ex.bL I (t.count k) (by omega) h;have L:=Ex.Py t k E (by omega);grind;omega
end
structure A4.Nn(s:A4):Prop where
 iP:s.A1.length<=2000
 A1:∀f,f∈s.A1->f.bound.Nn
 params:∀f,f∈s.params->f.type.Nn
 result:s.result.Nn
structure Decl.Nn(d:Decl):Prop where
 iP:d.A1.length<=2000
 F8f:d.vars.length<=2000
 A1:∀f,f∈d.A1->f.bound.Nn
 fields:∀f,f∈d.fields->f.type.Nn
 sigs:∀s,s∈d.sigs->s.Nn
 sig:d.sig.Nn
 body:d.body.Nn
structure Prog.Nn(p:Prog):Prop where
 decls:∀d,d∈p.decls->d.Nn
 main:p.main.Nn
def bG:Pb Cf (λf=>f.bound.Nn):=P1 Cf (λf n=>f.bound.count (n+1+((f.name.length / 50:Nat):Int))) (λf=>f.bound.Nn) (λ_=>rfl) (λ_ _ _=>rfl)
 (λx k=>by have:=Ty.Fu x.bound (k+1+((x.name.length / 50:Nat):Int));omega)
 (λx k E h=>Ty.Py (by omega) h)
def cF:Pb Dj (λf=>f.type.Nn):=P1 Dj (λf n=>f.type.count (n+1+((f.name.length / 50:Nat):Int))) (λf=>f.type.Nn) (λ_=>rfl) (λ_ _ _=>rfl)
 (λx k=>by have:=Ty.Fu x.type (k+1+((x.name.length / 50:Nat):Int));omega)
 (λx k E h=>Ty.Py (by omega) h)
theorem A4.Py(s:A4)(n:Int)(L:0<=n)(h:s.count n<=2000):s.Nn:=by unfold A4.count at h;obtain⟨U,E⟩:=bG s.A1 (n+((s.name.length / 50:Nat):Int));obtain⟨V,I⟩:=cF s.params (Cf s.A1 (n+((s.name.length / 50:Nat):Int)));have O:=Ty.Fu s.result (Dj s.params (Cf s.A1 (n+((s.name.length / 50:Nat):Int))));have J:=(E (by omega) (by omega)).1;exact⟨by omega,(E (by omega) (by omega)).2,(I (by omega) (by omega)).2,Ty.Py (by omega) h⟩
def oh:Pb Ez A4.Nn:=P1 Ez A4.count A4.Nn (λ_=>rfl) (λ_ _ _=>rfl) (λx k=>(A4.H9 x k).1) (λx k E h=>A4.Py x k E h)
theorem Decl.Py(d:Decl)(n:Int)(Z:0<=n)(h:d.count n<=2000):d.Nn:=by unfold Decl.count at h;generalize hm:n+1+((d.name.length / 50:Nat):Int)+((d.recv.length / 50:Nat):Int)=m at h;obtain⟨a1,E⟩:=bG d.A1 m;obtain⟨b1,J⟩:=cF d.fields (Cf d.A1 m);obtain⟨c1,L⟩:=oh d.sigs (Dj d.fields (Cf d.A1 m));obtain⟨O,I⟩:=QD d.vars (Ez d.sigs (Dj d.fields (Cf d.A1 m)));generalize V:Jb d.vars (Ez d.sigs (Dj d.fields (Cf d.A1 m)))=z at*;unfold Decl.S8 at h;obtain⟨f1,_⟩:=A4.H9 d.sig z;have W:=Ex.Fu d.body (d.sig.count z);split at h;have U:=(E (by omega) (by omega)).1;have e3:=(I (by omega) (by omega)).1;exact⟨by omega,by omega,(E (by omega) (by omega)).2,(J (by omega) (by omega)).2,(L (by omega) (by omega)).2,A4.Py d.sig z (by omega) (by omega),Ex.Py d.body (d.sig.count z) (by omega) h⟩;omega
def G9j:Pb J8 Decl.Nn:=P1 J8 Decl.count Decl.Nn (λ_=>rfl) (λ_ _ _=>rfl) (λx k=>(Decl.H9 x k).1) (λx k E h=>Decl.Py x k E h)
theorem Prog.Py(p:Prog)(h:p.count<=600):p.Nn:=by unfold Prog.count at h;have I:=Ex.Fu p.main 0;obtain⟨J,E⟩:=G9j p.decls (p.main.count 0);exact⟨(E (by omega) (by omega)).2,Ex.Py p.main 0 (by omega) (by omega)⟩
def letter(n:Int):Prop:=(97<=n/\n<=122)\/(65<=n/\n<=90)
instance (n:Int):Decidable (letter n):=by unfold letter;infer_instance
def blank(n:Int):Prop:=n=9\/n=10\/n=13\/n=32
instance (n:Int):Decidable (blank n):=by unfold blank;infer_instance
def cls(n:Int):Int:=if letter n then 1 else if 48<=n/\n<=57 then 2 else if n=95 then 3 else if blank n then 4 else 0
abbrev Kg:=[0,2,16,22,24,38]
def vV(n:Int):Ab prog 178 [.d (.int .u8 n)] (A6 (cls n)):=by
 refine cB func178 ?_;refine sR Kg<|sK λU E=>?_;have r1:∀sl bx,sle sl [(0,.d (.int .u8 n))]->¬letter n->U sl bx:=by
  intro sl bx W n1;refine E _ _ (A0.ww (bx':=[]) W trivial ?_);refine sK λU E=>?_;have r2:∀sl bx,sle sl [(0,.d (.int .u8 n))]->¬(48<=n/\n<=57)->U sl bx:=by
   intro sl bx W n2;refine E _ _ (A0.ww (bx':=[]) W trivial ?_);refine sK λU E=>?_;by_cases Z:n=95
   .have V:cls n=3:=by unfold cls;rw[A5 n1,A5 n2,A7 Z]
    rw[V];refine Ak Z Kg ?_;refine tI ?_;refine sR Kg ?_;exact aR
   refine Ak Z Kg ?_;refine dA rfl (cA (E _ _ ?_));have hb:cls n=if blank n then 4 else 0:=by unfold cls;rw[A5 n1,A5 n2,A5 Z]
   rw[hb];refine sK λU E=>?_;by_cases I:n=9;rw[A7 (show blank n from .inl I)];refine Ak I Kg ?_;refine tI ?_;refine sR Kg ?_;exact aR;by_cases J:n=10;rw[A7 (show blank n from .inr (.inl J))];refine Ak J Kg ?_;refine tI ?_;refine sR Kg ?_;exact aR;by_cases L:n=13;rw[A7 (show blank n from .inr (.inr (.inl L)))];refine Ak L Kg ?_;refine tI ?_;refine sR Kg ?_;exact aR;by_cases O:n=32;rw[A7 (show blank n from .inr (.inr (.inr O)))];refine Ak O Kg ?_;refine tI ?_;refine sR Kg ?_;exact aR;rw[A5 (show ¬blank n from λh=>by unfold blank at h;omega)]at E |-;refine sR4 I J L O Kg ?_;refine kI E ?_;refine sR Kg ?_;exact aR
  by_cases I:48<=n
  .by_cases J:n<=57
   .have V:cls n=2:=by unfold cls;rw[A5 n1,A7 ⟨I,J⟩]
    rw[V];refine Ee I J Kg ?_;refine tI ?_;refine sR Kg ?_;exact aR
   refine Ee I J Kg ?_;exact dA rfl (cA (r2 _ _ sS (λh=>J h.2)))
  refine Ak I Kg ?_;exact dA rfl (cA (r2 _ _ sS (λh=>I h.1)))
 by_cases I:97<=n
 .by_cases J:n<=122
  .have V:cls n=1:=by unfold cls;rw[A7 (show letter n from .inl ⟨I,J⟩)]
   rw[V];refine Ee I J Kg ?_;refine tI ?_;refine sR Kg ?_;exact aR
  .have L:65<=n:=by omega
   have O:¬n<=90:=by omega
   refine sR4 I J L O Kg ?_;exact dA rfl (cA (r1 _ _ sS (λh=>by unfold letter at h;omega)))
 .by_cases L:65<=n
  .by_cases O:n<=90
   .have V:cls n=1:=by unfold cls;rw[A7 (show letter n from .inr ⟨L,O⟩)]
    rw[V];refine sR3 I L O Kg ?_;refine tI ?_;refine sR Kg ?_;exact aR
   refine sR3 I L O Kg ?_;exact dA rfl (cA (r1 _ _ sS (λh=>by unfold letter at h;omega)))
  refine Ee I L Kg ?_;exact dA rfl (cA (r1 _ _ sS (λh=>by unfold letter at h;omega)))
def nE(s:A3):Bool:=decide (s=[112,97,99,107,97,103,101]\/s=[109,97,105,110]\/s=[116,121,112,101]\/s=[115,116,114,117,99,116]\/s=[105,110,116,101,114,102,97,99,101]\/s=[102,117,110,99]\/s=[114,101,116,117,114,110])
abbrev Vd:=[0,2,16]
def F4r(s:A3):Ab prog 179 [Bo s] (Ar (nE s)):=by
 unfold nE;refine cB func179 ?_;refine sR Vd<|sK λK1 J=>?_;by_cases W:s=[112,97,99,107,97,103,101]
 have E:decide (s=[112,97,99,107,97,103,101])=true:=Bn W;rw[Bn (.inl W)];refine Ak E Vd ?_;refine tI ?_;refine sR Vd ?_;exact aR;have E:decide (s=[112,97,99,107,97,103,101])=false:=Cb W;by_cases a2:s=[109,97,105,110];have I:decide (s=[109,97,105,110])=true:=Bn a2;rw[Bn (.inr (.inl a2))];refine Ee E I Vd ?_;refine tI ?_;refine sR Vd ?_;exact aR;have I:decide (s=[109,97,105,110])=false:=Cb a2;by_cases U:s=[116,121,112,101];have b3:decide (s=[116,121,112,101])=true:=Bn U;rw[Bn (.inr (.inr (.inl U)))];refine sR3 E I b3 Vd ?_;refine tI ?_;refine sR Vd ?_;exact aR;have b3:decide (s=[116,121,112,101])=false:=Cb U;by_cases Z:s=[115,116,114,117,99,116];have b4:decide (s=[115,116,114,117,99,116])=true:=Bn Z;rw[Bn (.inr (.inr (.inr (.inl Z))))];refine sR4 E I b3 b4 Vd ?_;refine tI ?_;refine sR Vd ?_;exact aR;have b4:decide (s=[115,116,114,117,99,116])=false:=Cb Z;refine sR4 E I b3 b4 Vd ?_;refine kI J ?_;by_cases V:s=[105,110,116,101,114,102,97,99,101];have O:decide (s=[105,110,116,101,114,102,97,99,101])=true:=Bn V;rw[Bn (.inr (.inr (.inr (.inr (.inl V)))))];refine Ak O Vd ?_;exact aR;have O:decide (s=[105,110,116,101,114,102,97,99,101])=false:=Cb V;by_cases L:s=[102,117,110,99];have b6:decide (s=[102,117,110,99])=true:=Bn L;rw[Bn (.inr (.inr (.inr (.inr (.inr (.inl L))))))];refine Ee O b6 Vd ?_;exact aR;have b6:decide (s=[102,117,110,99])=false:=Cb L;have e:decide (s=[112,97,99,107,97,103,101]\/s=[109,97,105,110]\/s=[116,121,112,101]\/s=[115,116,114,117,99,116]\/s=[105,110,116,101,114,102,97,99,101]\/s=[102,117,110,99]\/s=[114,101,116,117,114,110])=decide (s=[114,101,116,117,114,110]):=by simp[W,a2,U,Z,V,L]
 rw[e];refine Ee O b6 Vd ?_;exact aR
def Jf(c:UInt8):Bool:=!(decide (cls c.toNat=0) ||decide (cls c.toNat=4))
def isName(s:A3):Bool:=match s with
 |[]=>false
 |c::_=>decide (cls c.toNat=1) && s.all Jf && !nE s
abbrev Qg:=[0,2,3,4,13,17,29]
def Zh(s:A3):Ab prog 101 [Bo s] (Ar (isName s)):=by
 have a3:=F4r s;refine Ci.bd (Enters.of func101 rfl (by decide)) λV=>?_;have a6:s.length<=lim:=by have:=V.1;simp only[SV.bd]at this;cases this;assumption
 refine cB func101 ?_;refine sR Qg ?_;cases s with
 |nil =>refine sK λK1 E=>?_;have a2:((0:Nat):Int)=0:=rfl;refine Ak a2 Qg ?_;refine tI ?_;refine sR Qg ?_;exact aR
 |cons c cs =>
  have J:¬(((c::cs).length:Int)=0):=by simp only[Bg];omega
  have h0:(c::cs)[0]?=some c:=rfl;have hn:isName (c::cs)=(decide (cls c.toNat=1) && (c::cs).all Jf && !nE (c::cs)):=rfl;rw[hn];have U:=vV c.toNat;generalize c::cs=s at*;refine sK λK1 E=>?_;by_cases O:cls c.toNat=1
  ·(refine sQ Qg λK z=>?_;refine Bb J ?_;refine⟨c,h0,?_⟩;(try refine G1 J O ?_);refine E0 O U ?_;apply z)
   refine kI E ?_;rw[Bn O,Ch];refine kR Qg λK1 E=>?_;refine bA (A0.ii s (X:=Unit) (λj _=>[(0,Bo s),(3,A6 j)]) (λ_ _=>[]) (λj _=>(s.drop j).all Jf=s.all Jf) () rfl sS sB ?_ ?_)
   .intro _ L;rw[Dk,eC]at L;rw[<-L,Ch]at E |-;refine Ag B1 Qg λW I=>?_;refine sE ?_;refine E _ _<|sC a3 Qg ?_;exact aR
   .intro j _ d hd a5 dp tk a1 L;rw[dp,Qa]at L;refine Ag a1 Qg λW I=>?_;refine gI I ?_;refine sK λW I=>bA ?_
    (refine sV Qg λK z=>?_;refine⟨by omega,d,hd,?_⟩;(try refine ev ?_);refine cc (vV d.toNat) ?_;apply z)
    by_cases Z:cls d.toNat=0
    .rw[<-L];rw[show Jf d=false by simp[Jf,Z],C6,C6];refine Ak Z Qg ?_;refine eA rfl<|sR Qg ?_;exact aR
    by_cases a4:cls d.toNat=4
    .rw[<-L];rw[show Jf d=false by simp[Jf,a4],C6,C6];refine Ak a4 Qg ?_;refine eA rfl<|sR Qg ?_;exact aR
    rw[show Jf d=true by simp[Jf,Z,a4],Ch]at L;refine Ee Z a4 Qg ?_;refine dA rfl (cA (I _ _ ?_))
    (refine lV Qg λK z=>?_;refine⟨by first| (unfold B6;omega)| (simp only[B6,lim]at*;omega),?_⟩;(try refine ev ?_);apply z;try simp only[Aa,])
    exact⟨(),L,sS,sB⟩
  ·(refine sQ Qg λK z=>?_;refine Bb J ?_;refine⟨c,h0,?_⟩;(try refine G1 J O ?_);refine E0 O U ?_;apply z)
   refine tI ?_;refine sR Qg ?_;rw[Cb O,C6,C6];exact aR
def Yl:∀{l:List Ty} {t:Ty},t∈l->t.names.length<=(Ty.Eg l).length
 |[],_,h=>by grind
 |x::l,t,h=>by simp only[Ty.Eg,B5];simp at h;rcases h with rfl|h;omega;have:=Yl h;omega
def wZ:∀l:List Ty,l.length<=(Ty.Eg l).length
 |[]=>by simp
 |x::l=>by have:=wZ l;grind[Ty.Eg,OA]
abbrev ZD:=[0,1,2,3,4,7,12]
def wu:∀t:Ty,t.names.length<=sm->Ab prog 184 [Ba t] (Cm t.names):=by
 intro t;induction t using Ty.induct with|_ t V=>?_;intro hs;rw[OA,Bg]at hs;rw[OA];refine cB func184 ?_;refine sR ZD ?_;refine gA 1 rfl rfl (wk [(1,.A8 (Bf t) 0)] [] ?_);refine jA ZD [7] (by decide +kernel) λK z=>?_;refine ev ?_;apply z;refine kR ZD λK1 L=>?_;refine bA (A0.ii t.args (X:=Unit) (λj _=>[(1,.A8 (Bf t) 0),(3,.acc 7),(4,A6 j)]) (λj _=>[(7,.rows 1 (Bq (t.name::Ty.Eg (t.args.take j))))]) (λj _=>True) () trivial (by simp[sle,B0,Ae,Bf]) (by simp[ble,A9,Bq,Ty.Eg]) ?_ ?_);intro _ _;rw[Ca];refine Ag B1 ZD λJ E=>?_;refine sE ?_;refine L _ _<|sR ZD ?_;exact aR
 .intro j _ d hd I dp tk O hI;have U:=Yl I;have W:=wZ t.args;rw[tk,UA];have Z:(Ty.Eg (t.args.take j)).length<=(Ty.Eg t.args).length:=by
   conv=>rhs;rw[<-Ue j t.args,UA,B5]
   omega
  refine Ag O ZD λJ E=>?_;refine gI E ?_;refine sK λJ E=>bA ?_;(refine lV ZD λK z=>?_;refine ci (Fs hd) ?_;refine cc (V d I (by omega)) ?_;refine⟨LD _,by unfold lim sm at*;omega,?_⟩;(try refine ev ?_);apply z;try simp only[Aa,Af]);refine E _ _ ?_;refine lT ZD ?_;exact⟨(),trivial,(by simp[sle,B0,Ae,Bf,]),by simp[ble,A9,Bq,Ty.Eg]⟩
def Ty.right(t:Ty):Bool:=t.names.all isName
abbrev FC:=[0,1,2,3,4,10,18]
def lL(t:Ty)(h:t.Nn):Ab prog 107 [Ba t] (Ar t.right):=by
 have U:=wu t (by grind[Ty.Nn,sm]);have a0:t.names.length<=2000:=h;unfold Ty.right;generalize t.names=l at*;refine cB func107 ?_;refine sR FC ?_;refine sC U FC ?_;refine kR FC λK1 L=>?_;refine bA (A0.ii l (X:=Unit) (λj _=>[(3,Cm l),(4,A6 j)]) (λ_ _=>[]) (λj _=>(l.drop j).all isName=l.all isName) () rfl (by simp[sle,B0,Ae,Ce,Bf,Iz,G9,Dp,Am,Ah]) (by simp[ble,A9,Ce,Bf,Iz,G9,Dp,Am,Ah]) ?_ ?_);intro _ I;rw[Dk,eC]at I;rw[<-I]at L |-;refine Ag B1 FC λO E=>?_;refine sE ?_;refine L _ _<|sR FC ?_;exact aR
 intro j _ d hd W Z tk V I;rw[Z,Qa]at I;refine Ag V FC λO E=>?_;refine gI E ?_;refine sK λO E=>bA ?_;refine sV FC λK z=>?_;refine ci (Jj hd) ?_;refine cc (Zh d) ?_;apply z;refine A0.cond rfl (λJ=>?_) (λJ=>?_);refine sR FC ?_;simp at J;rw[J,C6]at I;rw[<-I];exact aR;simp at J;rw[J,Ch]at I;refine cA (E _ _ ?_);(refine lV FC λK z=>?_;refine cl ?_;apply z;try simp only[Aa,Af,Av]);exact⟨(),I,(by simp[sle,B0,Ae,Ce,Bf,Iz,G9,Dp,Am,Ah]),(by simp[ble,A9,Ce,Bf,Iz,G9,Dp,Am,Ah])⟩
def jU(e:Ex):Prop:=(e.kind=1->e.kids=[])/\(e.kind=4\/e.kind=5->e.kids.length=1)
mutual
def Ex.One:Ex->Prop
 |.mk k n t a ks q=>jU (.mk k n t a ks q)/\KA ks
def KA:List Ex->Prop
 |[]=>True
 |e::es=>e.One/\KA es
end
def w9:∀{l:List Ex},KA l->∀e,e∈l->e.One
 |[],_=>by simp
 |x::l,h=>by rw[KA]at h;intro e he;simp only[Ay]at he;rcases he with rfl|he;exact h.1;exact w9 h.2 e he
def Ex.One.out{e:Ex}(h:e.One):jU e/\∀x,x∈e.kids->x.One:=by cases e with|mk k n t a ks q=>rw[Ex.One]at h;exact⟨h.1,w9 h.2⟩
def Ex.typed(e:Ex):Bool:=decide (e.kind=3) ||decide (e.kind=5)
def Ex.N7(e:Ex):Bool:=if e.kind=1 then decide ((e.kids.length:Int)=0)else if e.kind=2 then decide ((e.kids.length:Int) >= 1)else if e.kind=3 then true else if e.kind=4\/e.kind=5 then decide ((e.kids.length:Int)=1)else false
def Ex.Sw(e:Ex):Bool:=if e.typed=true then e.type.right && decide (e.name=[]) && e.N7 else !e.type.right && decide (e.type.name=[]) && decide (e.type.args.length=0) && isName e.name && e.N7
def Ex.DM(e:Ex):Bool:=e.targs.all λt=>decide (e.kind=2) && t.right
mutual
def Ex.right:Ex->Bool
 |.mk k n t a ks q=>JA ks && (Ex.DM (.mk k n t a ks q) && Ex.Sw (.mk k n t a ks q))
def JA:List Ex->Bool
 |[]=>true
 |e::es=>e.right && JA es
end
def LA(e:Ex):e.right=(JA e.kids && (e.DM && e.Sw)):=by cases e with|mk k n t a ks q=>rw[Ex.right];rfl
def kK:∀{l:List Ex},JA l=true->∀e,e∈l->e.right=true
 |[],_=>by simp
 |x::l,h=>by rw[JA,Bh]at h;intro e he;simp only[Ay]at he;rcases he with rfl|he;exact h.1;exact kK h.2 e he
theorem OB:∀e:Ex,e.right=true->e.One:=by
 intro e;induction e using Ex.induct with|_ e O=>?_;intro h;rw[LA,Bh,Bh]at h;have E:e.N7=true:=by have:=h.2.2;unfold Ex.Sw at this;split at this <;> (simp only[Bh]at this;exact this.2)
 have V:∀l:List Ex,(∀x,x∈l->x.One)->KA l:=by
  intro l
  induction l with
  |nil=>intro _;trivial
  |cons x l L=>intro J;rw[KA];exact⟨J x (by simp),L λy Z=>J y (by simp[Z])⟩
 have I:=V e.kids λx J=>O x J (kK h.1 x J);cases e with|mk k n t a ks q =>
 rw[Ex.One];refine⟨⟨λh1=>?_,λU=>?_⟩,I⟩;unfold Ex.N7 at E;rw[A7 h1,Di]at E;exact XC (by omega);unfold Ex.N7 at E;rw[A5 (by omega),A5 (by omega)]at E;by_cases W:(Ex.mk k n t a ks q).kind=3;omega;rw[A5 W,A7 U,Di]at E;omega
abbrev Ef:=[0,1,2,3,4,5,10,19,24,38,68,84,86,87,93,99,101]
set_option maxHeartbeats 4000000 in
def qg:∀e:Ex,e.Nn->Ab prog 39 [D6 e] (Ar e.right):=by
 intro e;induction e using Ex.induct with|_ e ih=>?_;intro hn;rw[LA];have L:=lL e.type hn.type;have a0:=Zh e.name;refine Ci.bd (Enters.of func39 rfl (by decide)) λa3=>?_;have a2:=cU a3.1;have a6:=a2.kids.1;have a7:=a2.targs.1;refine cB func39 ?_;refine sR Ef ?_;refine gA 1 rfl rfl (wk [(1,.A8 (Ce e) 0)] [] ?_);refine kR Ef λW I=>?_;refine bA (A0.ii e.kids (X:=Unit) (λj _=>[(1,.A8 (Ce e) 0),(3,A6 j)]) (λ_ _=>[]) (λj _=>JA (e.kids.drop j)=JA e.kids) () rfl (by simp[sle,B0,Ae,Ce,]) sB ?_ ?_)
 .intro _ J;rw[Dk,JA]at J;rw[<-J,Ch]at I |-;refine Ag B1 Ef λZ E=>?_;refine sE ?_;refine I _ _ ?_;refine kR Ef λW I=>?_;refine bA (A0.ii e.targs (X:=Unit) (λj _=>[(1,.A8 (Ce e) 0),(4,A6 j)]) (λ_ _=>[]) (λj _=>((e.targs.drop j).all λt=>decide (e.kind=2) && t.right)=e.DM) () rfl (by simp[sle,B0,Ae,Ce,]) sB ?_ ?_)
  .intro _ J;rw[Dk,eC]at J;rw[<-J,Ch]at I |-;refine Ag B1 Ef λZ E=>?_;refine sE ?_;refine I _ _ ?_;refine sK λW I=>?_;have rest:∀sl bx,sle sl [(1,.A8 (Ce e) 0),(5,Ar e.typed)]->W sl bx:=by
    intro sl bx U;refine I _ _ (A0.ww (bx':=[]) U trivial ?_);refine sK λW I=>?_;have rest:∀sl bx,sle sl [(1,.A8 (Ce e) 0),(5,Ar e.typed)]->e.typed=e.type.right->(e.typed=false->e.type.name=[]/\e.type.args.length=0)->W sl bx:=by
     intro sl bx U h1 h2;refine I _ _ (A0.ww (bx':=[]) U trivial ?_);have hr:e.Sw=(if e.typed=true then decide (e.name=[]) && e.N7 else isName e.name && e.N7):=by unfold Ex.Sw;rcases Fc e.typed with ht|ht;rw[A7 ht,A7 ht,<-h1,ht,Ch];rw[A5 (by simp[ht]),A5 (by simp[ht]),<-h1,ht,(h2 ht).1,(h2 ht).2];simp
     rw[hr];refine sK λW I=>?_;have rest:∀sl bx,sle sl [(1,.A8 (Ce e) 0)]->(∀b,(if e.typed=true then decide (e.name=[]) && b else isName e.name && b)=b)->W sl bx:=by
      intro sl bx U h1;rw[h1]at*;refine I _ _ (A0.ww (bx':=[]) U trivial ?_);refine kR Ef λW I=>?_;unfold Ex.N7;refine bA ?_;by_cases k1:e.kind=1;rw[A7 k1];refine Ak k1 Ef ?_;refine eA rfl<|sR Ef ?_;exact aR
      rw[A5 k1];refine Ak k1 Ef ?_;refine dA rfl ?_;by_cases k2:e.kind=2;rw[A7 k2];refine Ak k2 Ef ?_;refine eA rfl<|sR Ef ?_;exact aR
      rw[A5 k2];refine Ak k2 Ef ?_;refine dA rfl ?_;by_cases k3:e.kind=3;rw[A7 k3];refine Ak k3 Ef ?_;refine eA rfl<|sR Ef ?_;exact aR
      rw[A5 k3];refine Ak k3 Ef ?_;refine dA rfl<|sK λZ E=>?_;by_cases k4:e.kind=4
      rw[A7 (.inl k4)]at E |-;refine Ak k4 Ef ?_;refine eA rfl (cA (E _ _ ?_));refine eA rfl<|sR Ef ?_;exact aR
      by_cases k5:e.kind=5
      .rw[A7 (.inr k5)]at E |-;refine Ak k4 Ef ?_;refine dA rfl ?_
       (refine lQ Ef λK z=>?_;refine Bb k5 ?_;apply z;try simp only[Aa,]);refine E _ _<|eA rfl<|sR Ef ?_;exact aR
      have a5:e.N7=false:=by unfold Ex.N7;rw[A5 k1,A5 k2,A5 k3,A5 (by omega)]
      refine Ak k4 Ef ?_;refine dA rfl ?_;(refine lQ Ef λK z=>?_;refine Bb k5 ?_;apply z;try simp only[Aa,]);refine E _ _<|dA rfl (cA ?_);simp only[Aa,Af];refine I _ _<|sR Ef ?_;rw[a5];exact aR
     rcases Fc e.typed with ht|ht
     .rw[ht]at U |-;rw[A7 rfl]at*;by_cases O:e.name=[]
      have bn:decide (e.name=[])=true:=Bn O;refine sQ Ef λK z=>?_;simp -implicitDefEqProofs only[EV,D8,Nat.reduceEqDiff,Nat.reduceLeDiff,reduceCtorEq,M9,bn];apply z;exact dA rfl (cA (rest _ _ (by simp[sle,B0,Ae,Ce,]) (λb=>by rw[A7 ht,Bn O,Ch])));have bn:decide (e.name=[])=false:=Cb O;refine sQ Ef λK z=>?_;simp -implicitDefEqProofs only[EV,D8,Nat.reduceEqDiff,Nat.reduceLeDiff,reduceCtorEq,M9,bn];apply z;refine tI ?_;refine sR Ef ?_;rw[Cb O,C6];exact aR
     .rw[ht]at U |-;rcases Fc (isName e.name)with hin|hin
      rw[hin]at a0;refine sC a0 Ef ?_;exact dA rfl (cA (rest _ _ (by simp[sle,B0,Ae,Ce,]) (λb=>by rw[A5 (by simp[ht]),hin,Ch])));rw[hin]at a0;refine sC a0 Ef ?_;refine tI ?_;refine sR Ef ?_;rw[A5 (by simp),hin,C6];exact aR
    have hf:(e.typed≠e.type.right\/(e.typed=false/\¬(e.type.name=[]/\e.type.args.length=0)))->e.Sw=false:=by intro h;unfold Ex.Sw;rcases Fc e.typed with ht|ht;rcases Fc e.type.right with hr|hr;rw[ht,hr]at h;simp at h;rw[ht,hr];rfl;rcases Fc e.type.right with hr|hr;rw[ht,hr];rfl;rw[ht,hr]at h;simp at h;rw[ht,hr];simp;intro h1 h2;exact absurd h2 (h h1)
    have q1:(true ==true)=true:=rfl;have q2:(true ==false)=false:=rfl;have q3:(false ==true)=false:=rfl;have q4:(false ==false)=true:=rfl;rcases Fc e.typed with ht|ht;rcases Fc e.type.right with hr|hr;rw[hr]at L;rw[ht];refine sV Ef λK z=>?_;refine E0 q1 L ?_;apply z;exact dA rfl (cA (rest _ _ (by rw[ht];exact(by simp[sle,B0,Ae,Ce,])) (by rw[ht,hr]) (by rw[ht];simp)));rw[hr]at L;rw[hf (.inl (by rw[ht,hr];simp)),ht];refine sV Ef λK z=>?_;refine E0 q2 L ?_;apply z;refine tI ?_;refine sR Ef ?_;exact aR
    .rcases Fc e.type.right with hr|hr;rw[hr]at L;rw[hf (.inl (by rw[ht,hr];simp)),ht];refine sV Ef λK z=>?_;refine E0 q3 L ?_;apply z;refine tI ?_;refine sR Ef ?_;exact aR
     .rw[hr]at L;by_cases O:e.type.name=[]
      .have bn:decide (e.type.name=[])=true:=Bn O;by_cases a4:e.type.args.length=0
       .have hg:¬(0<(e.type.args.length:Int)):=by omega
        rw[ht];refine sV Ef λK z=>?_;refine⟨_,.inl ⟨_,rfl,L,rfl⟩,?_⟩;(try simp -implicitDefEqProofs only[EV,D8,Nat.reduceAdd,Nat.reduceEqDiff,Nat.reduceLeDiff,reduceCtorEq,q4,M9,bn,hg]);apply z;exact dA rfl (cA (rest _ _ (by rw[ht];exact(by simp[sle,B0,Ae,Ce,])) (by rw[ht,hr]) (λ_=>⟨O,a4⟩)))
       .have hg:0<(e.type.args.length:Int):=by omega
        rw[hf (.inr ⟨ht,λh=>a4 h.2⟩),ht];refine sV Ef λK z=>?_;refine⟨_,.inl ⟨_,rfl,L,rfl⟩,?_⟩;(try simp -implicitDefEqProofs only[EV,D8,Nat.reduceAdd,Nat.reduceEqDiff,Nat.reduceLeDiff,reduceCtorEq,q4,M9,bn,hg]);apply z;refine tI ?_;refine sR Ef ?_;exact aR
      have bn:decide (e.type.name=[])=false:=Cb O;rw[hf (.inr ⟨ht,λh=>O h.1⟩),ht];refine sV Ef λK z=>?_;refine⟨_,.inl ⟨_,rfl,L,rfl⟩,?_⟩;(try simp -implicitDefEqProofs only[EV,D8,Nat.reduceEqDiff,Nat.reduceLeDiff,reduceCtorEq,q4,M9,bn]);apply z;refine tI ?_;refine sR Ef ?_;exact aR
   by_cases k3:e.kind=3
   .have ht:e.typed=true:=by unfold Ex.typed;rw[Bn k3];rfl
    have d3:=Bn k3;(refine lQ Ef λK z=>?_;refine Bb d3 ?_;apply z;try simp only[Aa,]);exact rest _ _ (by rw[ht];exact(by simp[sle,B0,Ae,Ce,]))
   by_cases k5:e.kind=5
   .have ht:e.typed=true:=by unfold Ex.typed;rw[Bn k5,Bool.or_true]
    have d5:=Bn k5;(refine lQ Ef λK z=>?_;refine G1 k3 d5 ?_;apply z;try simp only[Aa,]);exact rest _ _ (by rw[ht];exact(by simp[sle,B0,Ae,Ce,]))
   have ht:e.typed=false:=by unfold Ex.typed;rw[Cb k3,Cb k5];rfl
   (refine lQ Ef λK z=>?_;refine G1 k3 k5 ?_;apply z;try simp only[Aa,]);exact rest _ _ (by rw[ht];exact(by simp[sle,B0,Ae,Ce,]))
  intro j _ d hd V dp tk a1 J;rw[dp,Qa]at J;refine Ag a1 Ef λZ E=>?_;refine gI E ?_;refine sK λZ E=>bA ?_;by_cases k2:e.kind=2;rw[Bn k2,Ch]at J;have d2:=Bn k2;refine sQ Ef λK z=>?_;simp -implicitDefEqProofs only[EV,D8,Nat.reduceEqDiff,reduceCtorEq,M9,d2];refine ci (Fs hd) ?_;refine cc (lL d (hn.targs d V)) ?_;apply z;refine A0.cond rfl (λhc=>?_) (λhc=>?_);refine sR Ef ?_;simp only[Lu]at hc;rw[hc,C6]at J;rw[<-J,C6];exact aR;simp only[Uw]at hc;rw[hc,Ch]at J;refine cA (E _ _ ?_);(refine lV Ef λK z=>?_;refine⟨by first| (unfold B6;omega)| (simp only[B6,lim]at*;omega),?_⟩;(try refine ev ?_);apply z;try simp only[Aa,]);exact⟨(),by rw[Bn k2];exact J,(by simp[sle,B0,Ae,Ce,]),sB⟩;rw[Cb k2,C6,C6]at J;rw[<-J,C6];refine Ak k2 Ef ?_;refine eA rfl<|sR Ef ?_;exact aR
 intro j _ d hd V dp tk a1 J;rw[dp,JA]at J;refine Ag a1 Ef λZ E=>?_;refine gI E ?_;refine sK λZ E=>bA ?_;refine sV Ef λK z=>?_;refine ci (Ey hd) ?_;refine cc (ih d V (hn.kids d V)) ?_;apply z;refine A0.cond rfl (λhc=>?_) (λhc=>?_);refine sR Ef ?_;simp only[Lu]at hc;rw[hc,C6]at J;rw[<-J,C6];exact aR;simp only[Uw]at hc;rw[hc,Ch]at J;refine cA (E _ _ ?_);(refine lV Ef λK z=>?_;refine⟨by first| (unfold B6;omega)| (simp only[B6,lim]at*;omega),?_⟩;(try refine ev ?_);apply z;try simp only[Aa,]);exact⟨(),J,(by simp[sle,B0,Ae,Ce,]),sB⟩
def Qn(l:List Aj):Bool:=l.all λf=>isName f.name && f.bound.right
abbrev Zx:=[0,2,3,7,25]
def po(l:List Aj)(hn:∀f,f∈l->f.bound.Nn):Ab prog 102 [.d (.slice (Ai l))] (Ar (Qn l)):=by
 refine Ci.bd (Enters.of func102 rfl (by decide)) λU=>?_;have a1:l.length<=lim:=by have:=U.1;simp only[SV.bd]at this;cases this with|slice _ h1 _=>simpa [Ai]using h1
 refine cB func102 ?_;refine sR Zx ?_;refine kR Zx λK1 V=>?_;refine bA (A0.ii l (X:=Unit) (λj _=>[(0,.d (.slice (Ai l))),(3,A6 j)]) (λ_ _=>[]) (λj _=>Qn (l.drop j)=Qn l) () rfl sS sB ?_ ?_);intro _ L;rw[Dk]at L;rw[<-L]at V |-;refine Ag B1 Zx λZ I=>?_;refine sE ?_;refine V _ _<|sR Zx ?_;exact aR
 intro j _ d hd W dp tk a0 L;rw[dp]at L;unfold Qn at L;rw[Qa]at L;have E:(isName d.name && d.bound.right && Qn (l.drop (j+1)))=Qn l:=L;refine Ag a0 Zx λZ I=>?_;refine gI I ?_;refine sK λZ I=>bA ?_;rcases Fc (isName d.name)with h1|h1;have J:=Zh d.name;rw[h1]at J;rw[h1,Ch]at E;refine sV Zx λK z=>?_;refine ci (Fm hd) ?_;refine cc J ?_;refine ci (Fm hd) ?_;refine cc (lL d.bound (hn d W)) ?_;apply z;refine A0.cond rfl (λO=>?_) (λO=>?_);refine sR Zx ?_;simp only[Lu]at O;rw[O,C6]at E;rw[<-E];exact aR;simp only[Uw]at O;rw[O,Ch]at E;refine cA (I _ _ ?_);(refine lV Zx λK z=>?_;refine⟨by first| (unfold B6;omega)| (simp only[B6,lim]at*;omega),?_⟩;(try refine ev ?_);apply z;try simp only[Aa,]);exact⟨(),E,sS,sB⟩;have J:=Zh d.name;rw[h1]at J;rw[h1,C6,C6]at E;rw[<-E];refine sV Zx λK z=>?_;refine ci (Fm hd) ?_;refine cc J ?_;apply z;refine eA rfl<|sR Zx ?_;exact aR
def Nf(l:List Param):Bool:=l.all λf=>isName f.name && f.type.right
abbrev Zm:=[0,2,3,7,25]
def ko(l:List Param)(hn:∀f,f∈l->f.type.Nn):Ab prog 103 [.d (.slice (Aw l))] (Ar (Nf l)):=by
 refine Ci.bd (Enters.of func103 rfl (by decide)) λU=>?_;have a1:l.length<=lim:=by have:=U.1;simp only[SV.bd]at this;cases this with|slice _ h1 _=>simpa [Aw]using h1
 refine cB func103 ?_;refine sR Zm ?_;refine kR Zm λK1 V=>?_;refine bA (A0.ii l (X:=Unit) (λj _=>[(0,.d (.slice (Aw l))),(3,A6 j)]) (λ_ _=>[]) (λj _=>Nf (l.drop j)=Nf l) () rfl sS sB ?_ ?_);intro _ L;rw[Dk]at L;rw[<-L]at V |-;refine Ag B1 Zm λZ I=>?_;refine sE ?_;refine V _ _<|sR Zm ?_;exact aR
 intro j _ d hd W dp tk a0 L;rw[dp]at L;unfold Nf at L;rw[Qa]at L;have E:(isName d.name && d.type.right && Nf (l.drop (j+1)))=Nf l:=L;refine Ag a0 Zm λZ I=>?_;refine gI I ?_;refine sK λZ I=>bA ?_;rcases Fc (isName d.name)with h1|h1;have J:=Zh d.name;rw[h1]at J;rw[h1,Ch]at E;refine sV Zm λK z=>?_;refine ci (Dt hd) ?_;refine cc J ?_;refine ci (Dt hd) ?_;refine cc (lL d.type (hn d W)) ?_;apply z;refine A0.cond rfl (λO=>?_) (λO=>?_);refine sR Zm ?_;simp only[Lu]at O;rw[O,C6]at E;rw[<-E];exact aR;simp only[Uw]at O;rw[O,Ch]at E;refine cA (I _ _ ?_);(refine lV Zm λK z=>?_;refine⟨by first| (unfold B6;omega)| (simp only[B6,lim]at*;omega),?_⟩;(try refine ev ?_);apply z;try simp only[Aa,]);exact⟨(),E,sS,sB⟩;have J:=Zh d.name;rw[h1]at J;rw[h1,C6,C6]at E;rw[<-E];refine sV Zm λK z=>?_;refine ci (Dt hd) ?_;refine cc J ?_;apply z;refine eA rfl<|sR Zm ?_;exact aR
def A4.right(s:A4):Bool:=isName s.name && Qn s.A1 && Nf s.params && s.result.right
def wb(s:A4)(J:s.Nn):Ab prog 104 [Db s] (Ar s.right):=by
 have E:=Zh s.name;have I:=po s.A1 J.A1;have L:=ko s.params J.params;have O:=lL s.result J.result;unfold A4.right;generalize isName s.name=b1 at*;generalize Qn s.A1=b2 at*;generalize Nf s.params=b3 at*;generalize s.result.right=b4 at*;refine cB func104 ?_;refine sR [0,1,2] ?_;cases b1 with
 |false =>refine sC E [0,1,2] ?_;exact aR
 |true =>
  cases b2 with
  |false =>refine sV [0,1,2] λK z=>?_;refine cc E ?_;refine cc I ?_;apply z;exact aR
  |true =>
   cases b3 with
   |false =>refine sV [0,1,2] λK z=>?_;refine cc E ?_;refine cc I ?_;refine cc L ?_;apply z;exact aR
   |true =>refine sV [0,1,2] λK z=>?_;refine cc E ?_;refine cc I ?_;refine cc L ?_;refine cc O ?_;apply z;exact aR
end Go.iA
