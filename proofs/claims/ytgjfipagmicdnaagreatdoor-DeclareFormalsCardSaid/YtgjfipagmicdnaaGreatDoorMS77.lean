/- declare.Head, Heads; what they find is what the reference finds -/
import Derived.Test.YtgjfipagmicdnaaGreatDoorMS74
import Derived.Test.YtgjfipagmicdnaaGreatDoorMG14
import Derived.Test.YtgjfipagmicdnaaGreatDoorMS28
namespace Go.Abs
set_option linter.unusedSimpArgs false
set_option linter.unusedVariables false
open Go Go.Proofs Tryz
set_option maxRecDepth 100000
set_option maxHeartbeats 1000000
def headD (p:Prog)(front:List Decl)(d:Decl):Option Int:=if knownD d=false then some d.pos else if d.kind=3 then methodD p front d else typedD p front d
def headI (p:Prog)(i:Int):Option Int:=if i < 0 then none else match p.decls[i.toNat]? with
 | none=>none
 | some d=>headD p (p.decls.take i.toNat) d
abbrev q1tx:List Nat:=[0,1,4,5,6,17,28,35]
theorem ok_DHead (hs:SortedOK)(p:Prog)(h:p.Sm)(h2:∀ d,d∈p.decls→d.Two)(i:Int):CallOK prog 12 [.dptr (tabC p) 0,intV i] (errV (headI p i)):=by
 have hp:=ok_TProgram p h
 have hpl:=h.decls.1
 unfold headI
 by_cases g1:i < 0
 ·rw [if_pos g1]
  simp only [errV,errD]
  refine cB func12 ?_
  refine sR q1tx ?_
  refine sC hp q1tx ?_
  refine kR1 g1 q1tx fun K1 u1=>?_
  refine tI ?_
  refine sR q1tx ?_
  exact aR
 rw [if_neg g1]
 obtain⟨j,rfl⟩:∃ j:Nat,i=j:=⟨i.toNat,by omega⟩
 simp only [Int.toNat_natCast]
 cases hd:p.decls[j]? with
 | none =>
  have g2:(j:Int) ≥ (p.decls.length:Int):=by have:=List.getElem?_eq_none_iff.1 hd;omega
  simp only [errV,errD]
  refine cB func12 ?_
  refine sR q1tx ?_
  refine sC hp q1tx ?_
  refine kR2 g1 g2 q1tx fun K1 u1=>?_
  refine tI ?_
  refine sR q1tx ?_
  exact aR
 | some d =>
  have hlt:=(List.getElem?_eq_some_iff.1 hd).1
  have g2:¬ (j:Int) ≥ (p.decls.length:Int):=by omega
  have hmem:=List.mem_of_getElem? hd
  have hds:=h.decls.2 d hmem
  have htw:=h2 d hmem
  have hk:=ok_known d
  have hw:=ok_when true d.pos
  have hM:=ok_DMethod p h (p.decls.take j) (by rw [List.length_take];omega) d hds htw.sig
  have hT:=ok_DTyped hs p h (p.decls.take j) (by rw [List.length_take];omega) d hds htw.sigs
  rw [show deR (p.decls.take j)=(deR p.decls).take j by simp [deR,List.map_take]] at hM hT
  simp only
  unfold headD
  generalize methodD p (p.decls.take j) d=o1 at *
  generalize typedD p (p.decls.take j) d=o2 at *
  rcases Bool.eq_false_or_eq_true (knownD d) with b | b
  ·rw [if_neg (by rw [b];decide)]
   rw [b] at hk
   rcases Bool.eq_false_or_eq_true (decide (d.kind=3)) with m | m
   ·rw [if_pos (of_decide_eq_true m)]
    refine cB func12 ?_
    refine sR q1tx ?_
    refine sC hp q1tx ?_
    refine kR2 g1 g2 q1tx fun K1 u1=>?_
    refine kI u1 ?_
    clear u1 K1
    (refine sV q1tx fun K z=>?_;refine ci (deR_get hd) ?_;apply z;clear z K)
    refine AWp.block ?_
    refine sC hk q1tx ?_
    refine AWp.condF rfl ?_
    refine sR1 m q1tx ?_
    refine AWp.condT rfl ?_
    (refine sD q1tx [] 7 mixed fun K z=>?_;refine ev ?_;refine⟨deR_row _,by omega,by omega,?_⟩;(try refine ev ?_);refine cc hM ?_;apply z;clear z K)
    exact AWp.ret ⟨_,by rw [results12];rfl,co_err _ _⟩
   ·rw [if_neg (of_decide_eq_false m)]
    refine cB func12 ?_
    refine sR q1tx ?_
    refine sC hp q1tx ?_
    refine kR2 g1 g2 q1tx fun K1 u1=>?_
    refine kI u1 ?_
    clear u1 K1
    (refine sV q1tx fun K z=>?_;refine ci (deR_get hd) ?_;apply z;clear z K)
    refine AWp.block ?_
    refine sC hk q1tx ?_
    refine AWp.condF rfl ?_
    refine sR1 m q1tx ?_
    refine AWp.condF rfl ?_
    (refine sD q1tx [] 7 mixed fun K z=>?_;refine ev ?_;refine⟨deR_row _,by omega,by omega,?_⟩;(try refine ev ?_);refine cc hT ?_;apply z;clear z K)
    exact AWp.ret ⟨_,by rw [results12];rfl,co_err _ _⟩
  ·rw [if_pos b]
   rw [b] at hk
   simp only [whenO,if_true,errV,errD] at hw ⊢
   refine cB func12 ?_
   refine sR q1tx ?_
   refine sC hp q1tx ?_
   refine kR2 g1 g2 q1tx fun K1 u1=>?_
   refine kI u1 ?_
   clear u1 K1
   (refine sV q1tx fun K z=>?_;refine ci (deR_get hd) ?_;apply z;clear z K)
   refine AWp.block ?_
   refine sC hk q1tx ?_
   refine AWp.condT rfl ?_
   refine sC hw q1tx ?_
   exact aR
theorem ok_DHeads1 (hs:SortedOK)(p:Prog)(h:p.Sm)(h2:∀ d,d∈p.decls→d.Two)(i:Int):CallOK prog 39 [intV i,.dptr [tabP p] 0] (errV (headI p i)):=by
 have hh:=ok_DHead hs p h h2 i
 generalize headI p i=o at *
 refine cB func39 ?_
 refine sR [0,1,3] ?_
 refine sC hh.ptr [0,1,3] ?_
 exact AWp.ret ⟨_,by rw [results39];rfl,co_err _ _⟩
def headsI (p:Prog):Option Int:=firstO ((List.range p.decls.length).map fun i=>headI p (i:Nat))
theorem ok_DHeads (hs:SortedOK)(p:Prog)(h:p.Sm)(h2:∀ d,d∈p.decls→d.Two):CallOK prog 14 [.dptr (tabC p) 0] (errV (headsI p)):=by
 have hp:=ok_TProgram p h
 have hpl:=h.decls.1
 have hE:=ok_each p.decls.length 39 [.ptr [tabP p]]
 have hF:=fn_each 39 [.ptr [tabP p]] ((List.range p.decls.length).map fun i=>headI p (i:Nat)) p.decls.length (by simp) (by simpa using hpl) fun j x hx=>by
  rw [List.getElem?_map,Option.map_eq_some_iff] at hx
  obtain⟨k,hk,rfl⟩:=hx
  obtain⟨h1,h3⟩:=List.getElem?_eq_some_iff.1 hk
  simp at h3
  subst h3
  exact⟨_,[.dptr [tabP p] 0],_,_,rfl,⟨⟨rfl,rfl⟩,trivial⟩,rfl,ok_DHeads1 hs p h h2 _⟩
 unfold headsI
 generalize firstO ((List.range p.decls.length).map fun i=>headI p (i:Nat))=o at *
 refine cB func14 ?_
 refine sR [0,1,2] ?_
 refine AWp.freezeP 1 rfl rfl ?_
 refine wk [(1,.dptr [tabP p] 0)] [] ?_
 (refine AWp.seqR [0,1,2] [800007] (by decide +kernel) fun K z=>?_;refine ev ?_;refine cc hp.ptr ?_;refine⟨_,opQ_cl (xs:=[.dptr [tabP p] 0]) (ys:=[.ptr [tabP p]]) ⟨⟨rfl,rfl⟩,trivial⟩ rfl,?_⟩;(try refine ev ?_);refine cc hE ?_;refine⟨_,opQ_callFn rfl hF rfl,?_⟩;(try refine ev ?_);apply z;clear z K)
 exact AWp.ret ⟨_,by rw [results14];rfl,co_err _ _⟩
abbrev q1xx:List Nat:=[0,1,3,4,5,6,7,8,11]
theorem ok_told15s (n q:Int):CallOK prog 11 [errV (some n),rsV (badR q)] (boolV (decide (n=q))):=by
 have h1:=ok_faultCode 4 n
 have h2:=ok_faultAt 4 n
 simp only [errV,errD] at h1 h2 ⊢
 refine cB func11 ?_
 refine sR q1xx ?_
 refine kR q1xx fun K1 u1=>?_
 refine kI u1 ?_
 clear u1 K1
 refine sC h1 q1xx ?_
 refine sC h2 q1xx ?_
 refine sR q1xx ?_
 exact aR
theorem ok_told15 (o:Option Int):CallOK prog 11 [errV o,rsV (resO o)] (boolV true):=by
 cases o with
 | none =>
  simp only [errV,errD]
  refine cB func11 ?_
  refine sR [0,1,3,4,5,6,7,8,11] ?_
  refine kR [0,1,3,4,5,6,7,8,11] fun K1 u1=>?_
  refine tI ?_
  refine sR [0,1,3,4,5,6,7,8,11] ?_
  exact aR
 | some n =>
  have:=ok_told15s n n
  rw [decide_eq_true rfl] at this
  exact this
def sigProg (s:Sig):Prog:=⟨[{ (default:Decl) with sig:=s }],default⟩
theorem ok_Few10 (s:Sig):CallOK prog 17 [siV s] (boolV (decide ((sigProg s).count≤600))):=by
 have hf:=ok_Few06 (sigProg s)
 refine cB func17 ?_
 refine sR [0,1,2] ?_
 refine sC hf [0,1,2] ?_
 exact aR
theorem few_two {p:Prog} (h:p.count≤600):p.Sm∧p.decls.length≤100000∧∀ d,d∈p.decls→d.Two:=by
 obtain⟨h1,h2⟩:=p.count_sm h
 exact⟨h1,by omega,fun d hd=>((p.count_Nn h).decls d hd).two⟩
theorem few_env {env:List Formal} (h:(envProg env).count≤600):env.length≤2000∧∀ f,f∈env→f.Sm:=by
 have h1:=((envProg env).count_sm h).1.decls.2 { (default:Decl) with formals:=env } (by simp [envProg])
 have h2:=((envProg env).count_Nn h).decls { (default:Decl) with formals:=env } (by simp [envProg])
 exact⟨h2.flen,h1.formals.2⟩
theorem few_sig {s:Sig} (h:(sigProg s).count≤600):s.formals.length≤2000∧s.Sm:=by
 have h1:=((sigProg s).count_sm h).1.decls.2 { (default:Decl) with sig:=s } (by simp [sigProg])
 have h2:=((sigProg s).count_Nn h).decls { (default:Decl) with sig:=s } (by simp [sigProg])
 exact⟨h2.sig.flen,h1.sig⟩
def sAny:Str:=[65,110,121]
def a15:Formal:=⟨[97],.mk sAny [] 0,3⟩
def p15:Prog:=⟨[{ (default:Decl) with kind:=2,name:=sAny },{ (default:Decl) with kind:=1,name:=[84],formals:=[a15] },{ (default:Decl) with kind:=1,name:=[84],pos:=9 }],default⟩
def m15:Decl:={ (default:Decl) with kind:=3,name:=[84],vars:=[[98]] }
def e15:List Formal:=[⟨[98],.mk sAny [] 0,3⟩]
def s15:Sig:=⟨[109],[],[],.mk [98] [] 0,0⟩
theorem p15_few:p15.count≤600:=by decide +kernel
theorem m15_few:(⟨[m15],default⟩:Prog).count≤600:=by decide +kernel
theorem s15_few:(sigProg s15).count≤600:=by decide +kernel
theorem e15_few:(envProg e15).count≤600:=by decide +kernel
theorem f15_few:(envProg [a15,a15]).count≤600:=by decide +kernel
theorem q15a:headI p15 0=none:=by decide +kernel
theorem q15b:headI p15 1=none:=by decide +kernel
theorem q15c:headI p15 2=some 9:=by decide +kernel
theorem q15d:headsI p15=some 9:=by decide +kernel
theorem q15e:envR p15 m15=e15:=by kernel_rfl
theorem q15f:formalsR p15 [] [a15,a15]=some 3:=by decide +kernel
theorem q15g:sigR p15 e15 s15=none:=by decide +kernel
abbrev q1yx:List Nat:=[0,1,2,3,4,5]
theorem ok_awake15:CallOK prog 8 [] (boolV true):=by
 obtain⟨hp,hpl,h2⟩:=few_two p15_few
 have hm:m15.Sm:=(few_two m15_few).1.decls.2 m15 (by simp)
 obtain⟨e1,e2⟩:=few_env e15_few
 obtain⟨g1,g2⟩:=few_env f15_few
 obtain⟨s1,s2⟩:=few_sig s15_few
 have c0:=ok_DHead sorted_ok p15 hp h2 0
 have c1:=ok_DHead sorted_ok p15 hp h2 1
 have c2:=ok_DHead sorted_ok p15 hp h2 2
 have c3:=ok_DHeads sorted_ok p15 hp h2
 have c4:=ok_DEnv p15 hp m15 hm
 have c5:=ok_DFormals p15 hp [] [a15,a15] (by decide) (by simp) g2
 have c6:=ok_DSig p15 hp e15 s15 (by decide) e2 s2
 have hle:(e15.length:Int)=1:=rfl
 have h0:e15[0]? = some ⟨[98],.mk sAny [] 0,3⟩:=rfl
 have t9:=ok_told15 (some 9)
 have t3:=ok_told15 (some 3)
 rw [q15a] at c0;rw [q15b] at c1;rw [q15c] at c2;rw [q15d] at c3;rw [q15e] at c4;rw [q15f] at c5;rw [q15g] at c6
 simp only [errV,errD] at c0 c1 c2 c3 c5 c6 t9 t3
 refine cB func8 ?_
 refine sR q1yx ?_
 refine sR q1yx ?_
 refine sR q1yx ?_
 refine sC (ok_New p15 hp) q1yx ?_
 refine sR q1yx ?_
 refine sC c4 q1yx ?_
 (refine sV q1yx fun K z=>?_;refine cc c0 ?_;refine cc c1 ?_;refine cc c2 ?_;refine cc t9 ?_;refine cc c3 ?_;refine⟨_,.inl ⟨_,rfl,t9,rfl⟩,?_⟩;(try refine ev1 hle ?_);refine cj (foR_get h0) ?_;refine cc c5 ?_;refine cc t3 ?_;refine cc c6 ?_;apply z;clear z K)
 exact aR
end Go.Abs
