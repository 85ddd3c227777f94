/- declare.Head, Heads; what they find is what the reference finds -/
import Derived.Test.YtlpkdlopdccmmaaGreatDoorYS74
import Derived.Test.YtlpkdlopdccmmaaGreatDoorYG14
import Derived.Test.YtlpkdlopdccmmaaGreatDoorYS28
namespace Go.Abs
set_option linter.unusedSimpArgs false
set_option linter.unusedVariables false
open Go Go.Proofs Tryz
set_option maxRecDepth 100000
set_option maxHeartbeats 1000000
def headD (p:Prog)(front:List Decl)(d:Decl):Option Int:=if knownD d=false then some d.pos else if d.kind=3 then methodD p front d else typedD p front d
def headI (p:Prog)(i:Int):Option Int:=if i < 0 then none else match p.decls[i.toNat]? with
 | none=>none
 | some d=>headD p (p.decls.take i.toNat) d
abbrev q1Lx:List Nat:=[0,1,4,5,6,17,28,35]
theorem ok_DHead (hs:SortedOK)(p:Prog)(h:p.Sm)(h2:∀ d,d∈p.decls→d.Two)(i:Int):CallOK prog 62 [.dptr (tabC p) 0,intV i] (errV (headI p i)):=by
 have hp:=ok_TProgram p h
 have hpl:=h.decls.1
 unfold headI
 by_cases g1:i < 0
 ·rw [if_pos g1]
  simp only [errV,errD]
  refine cB func62 ?_
  refine sR q1Lx ?_
  refine sC hp q1Lx ?_
  refine kR1 g1 q1Lx fun K1 u1=>?_
  refine tI ?_
  refine sR q1Lx ?_
  exact aR
 rw [if_neg g1]
 obtain⟨j,rfl⟩:∃ j:Nat,i=j:=⟨i.toNat,by omega⟩
 simp only [Int.toNat_natCast]
 cases hd:p.decls[j]? with
 | none =>
  have g2:(j:Int) ≥ (p.decls.length:Int):=by have:=List.getElem?_eq_none_iff.1 hd;omega
  simp only [errV,errD]
  refine cB func62 ?_
  refine sR q1Lx ?_
  refine sC hp q1Lx ?_
  refine kR2 g1 g2 q1Lx fun K1 u1=>?_
  refine tI ?_
  refine sR q1Lx ?_
  exact aR
 | some d =>
  have hlt:=(List.getElem?_eq_some_iff.1 hd).1
  have g2:¬ (j:Int) ≥ (p.decls.length:Int):=by omega
  have hmem:=List.mem_of_getElem? hd
  have hds:=h.decls.2 d hmem
  have htw:=h2 d hmem
  have hk:=ok_known d
  have hw:=ok_when true d.pos
  have hM:=ok_DMethod p h (p.decls.take j) (by rw [List.length_take];omega) d hds htw.sig
  have hT:=ok_DTyped hs p h (p.decls.take j) (by rw [List.length_take];omega) d hds htw.sigs
  rw [show deR (p.decls.take j)=(deR p.decls).take j by simp [deR,List.map_take]] at hM hT
  simp only
  unfold headD
  generalize methodD p (p.decls.take j) d=o1 at *
  generalize typedD p (p.decls.take j) d=o2 at *
  rcases Bool.eq_false_or_eq_true (knownD d) with b | b
  ·rw [if_neg (by rw [b];decide)]
   rw [b] at hk
   rcases Bool.eq_false_or_eq_true (decide (d.kind=3)) with m | m
   ·rw [if_pos (of_decide_eq_true m)]
    refine cB func62 ?_
    refine sR q1Lx ?_
    refine sC hp q1Lx ?_
    refine kR2 g1 g2 q1Lx fun K1 u1=>?_
    refine kI u1 ?_
    clear u1 K1
    (refine sV q1Lx fun K z=>?_;refine ci (deR_get hd) ?_;apply z;clear z K)
    refine AWp.block ?_
    refine sC hk q1Lx ?_
    refine AWp.condF rfl ?_
    refine sR1 m q1Lx ?_
    refine AWp.condT rfl ?_
    (refine sG q1Lx [] 5 [] fun K z=>?_;refine ev ?_;refine⟨deR_row _,by omega,by omega,?_⟩;(try refine ev ?_);refine cc hM ?_;apply z;clear z K)
    exact AWp.ret ⟨_,by rw [results62];rfl,co_err _ _⟩
   ·rw [if_neg (of_decide_eq_false m)]
    refine cB func62 ?_
    refine sR q1Lx ?_
    refine sC hp q1Lx ?_
    refine kR2 g1 g2 q1Lx fun K1 u1=>?_
    refine kI u1 ?_
    clear u1 K1
    (refine sV q1Lx fun K z=>?_;refine ci (deR_get hd) ?_;apply z;clear z K)
    refine AWp.block ?_
    refine sC hk q1Lx ?_
    refine AWp.condF rfl ?_
    refine sR1 m q1Lx ?_
    refine AWp.condF rfl ?_
    (refine sG q1Lx [] 5 [] fun K z=>?_;refine ev ?_;refine⟨deR_row _,by omega,by omega,?_⟩;(try refine ev ?_);refine cc hT ?_;apply z;clear z K)
    exact AWp.ret ⟨_,by rw [results62];rfl,co_err _ _⟩
  ·rw [if_pos b]
   rw [b] at hk
   simp only [whenO,if_true,errV,errD] at hw ⊢
   refine cB func62 ?_
   refine sR q1Lx ?_
   refine sC hp q1Lx ?_
   refine kR2 g1 g2 q1Lx fun K1 u1=>?_
   refine kI u1 ?_
   clear u1 K1
   (refine sV q1Lx fun K z=>?_;refine ci (deR_get hd) ?_;apply z;clear z K)
   refine AWp.block ?_
   refine sC hk q1Lx ?_
   refine AWp.condT rfl ?_
   refine sC hw q1Lx ?_
   exact aR
theorem findD_any (nm:Str):∀ (l:List Decl)(i k:Nat)(d:Decl),l[i]? = some d→d.isT nm=true→(findD nm l k≠((k+i:Nat):Int)↔((l.take i).any fun x=>x.isT nm)=true)
 | [],i,k,d,h,_=>by simp at h
 | x::l,0,k,d,h,hd=>by
  simp only [List.getElem?_cons_zero,Option.some.injEq] at h
  rw [h,findD,if_pos hd];simp
 | x::l,i+1,k,d,h,hd=>by
  rw [List.getElem?_cons_succ] at h
  have ih:=findD_any nm l i (k+1) d h hd
  rw [findD,List.take_succ_cons,List.any_cons]
  by_cases hx:x.isT nm=true
  ·rw [if_pos hx,hx,Bool.true_or];simp;omega
  ·rw [if_neg hx,show x.isT nm=false by simpa using hx,Bool.false_or,← ih,show k+1+i=k+(i+1) by omega]
theorem idxF_take {α:Type} (q:α→Bool)(l:List α)(i:Nat)(d:α)(h:l[i]? = some d)(hd:q d=true):idxF q l≠(i:Int)↔(l.take i).any q=true:=by
 constructor
 ·intro hne
  by_cases ha:(l.take i).any q=true
  ·exact ha
  ·exfalso
   refine hne (idxF_some h hd fun y hy=>?_)
   rw [List.any_eq_true] at ha
   rcases Bool.eq_false_or_eq_true (q y) with hq | hq
   ·exact absurd ⟨y,hy,hq⟩ ha
   ·exact hq
 ·intro ha he
  obtain⟨y,hy,hq⟩:=List.any_eq_true.1 ha
  have hix:=idxF_cases q l
  rcases hix with ⟨h1,_⟩ | ⟨j,x,h1,h2,h3⟩
  ·rw [h1] at he;omega
  ·obtain⟨k,hk,rfl⟩:=List.mem_take_iff_getElem.1 hy
   unfold idxF at he
   cases hf:l.findIdx? q with
   | none=>rw [hf] at he;simp only at he;omega
   | some m =>
    rw [hf] at he
    simp only at he
    obtain⟨h4,h5,h6⟩:=List.findIdx?_eq_some_iff_getElem.1 hf
    have hm:m=i:=by omega
    subst hm
    have:=h6 k (by omega)
    rw [hq] at this;exact this rfl
theorem typed_same (p:Prog)(hp:p.decls.length≤100000)(i:Nat)(d:Decl)(hd:p.decls[i]? = some d)(hk:d.kind=1∨d.kind=2):typedD p (p.decls.take i) d=typedR p i d:=by
 have hT:d.isT d.name=true:=by unfold Decl.isT;rcases hk with k | k <;> simp [k]
 have hf:=findD_any d.name p.decls i 0 d hd hT
 rw [Nat.zero_add] at hf
 unfold typedD typedR whenO
 by_cases ha:((p.decls.take i).any fun x=>x.isT d.name)=true
 ·rw [if_pos (hf.2 ha),ha];rfl
 ·rw [if_neg (fun hh=>ha (hf.1 hh)),show ((p.decls.take i).any fun x=>x.isT d.name)=false by simpa using ha]
  simp only [Bool.false_eq_true,if_false,firstO]
  cases formalsR p [] d.formals with
  | some q=>rfl
  | none =>
   simp only [firstO]
   by_cases k1:d.kind=1
   ·rw [if_pos k1,if_pos k1,recDec p hp]
    cases parR p d.formals [] d.fields with
    | some q=>rfl
    | none =>
     simp only [firstO,decide_eq_true_eq]
     split <;> rfl
   ·rw [if_neg k1,if_neg k1]
    cases sigsR p d.formals [] d.sigs <;> rfl
theorem method_same (p:Prog)(i:Nat)(d:Decl)(hd:p.decls[i]? = some d)(hk:d.kind=3):methodD p (p.decls.take i) d=methodR p i d:=by
 have hT:keyM d.name d.sig.name d=true:=by unfold keyM;simp [hk]
 have hf:=idxF_take (keyM d.name d.sig.name) p.decls i d hd hT
 unfold methodD methodR recv1 whenO recvR
 by_cases h1:kindOf p d.name≠1∨d.vars.length≠(formalsT p d.name).length
 ·rw [if_pos h1,if_pos h1];rfl
 rw [if_neg h1,if_neg h1]
 by_cases h2:varsR p [] d.vars=true
 ·rw [if_pos h2,if_pos h2];rfl
 rw [if_neg h2,if_neg h2]
 by_cases h3:methI p d.name d.sig.name≠(i:Int)
 ·rw [if_pos h3,if_pos (hf.1 h3)];rfl
 rw [if_neg h3,if_neg (fun hh=>h3 (hf.2 hh))]
 simp only [firstO]
 cases sigR p (envR p d) d.sig with
 | some q=>rfl
 | none =>
  simp only [firstO]
  cases (d.sig.params.find? fun f=>decide (f.name=d.recv)).map (·.pos) <;> rfl
theorem head_same (p:Prog)(hp:p.decls.length≤100000)(i:Nat)(d:Decl)(hd:p.decls[i]? = some d):headI p i=headR p i d:=by
 unfold headI headR headD
 rw [if_neg (by omega),Int.toNat_natCast,hd]
 simp only
 by_cases hk:d.kind=1∨d.kind=2
 ·rw [if_pos hk,if_neg (by unfold knownD;rcases hk with k | k <;> simp [k]),if_neg (by omega),typed_same p hp i d hd hk]
 ·rw [if_neg hk]
  by_cases k3:d.kind=3
  ·rw [if_pos k3,if_neg (by unfold knownD;simp [k3]),if_pos k3,method_same p i d hd k3]
  ·rw [if_neg k3,if_pos (by unfold knownD;rw [decide_eq_false_iff_not];omega),if_neg k3]
end Go.Abs
