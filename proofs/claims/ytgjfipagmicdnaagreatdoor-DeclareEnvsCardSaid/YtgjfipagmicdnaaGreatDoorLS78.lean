/- declare.Head, Heads; what they find is what the reference finds -/
import Derived.Test.YtgjfipagmicdnaaGreatDoorLS74
import Derived.Test.YtgjfipagmicdnaaGreatDoorLG14
import Derived.Test.YtgjfipagmicdnaaGreatDoorLS28
namespace Go.Abs
set_option linter.unusedSimpArgs false
set_option linter.unusedVariables false
open Go Go.Proofs Tryz
set_option maxRecDepth 100000
set_option maxHeartbeats 1000000
def headD (p:Prog)(front:List Decl)(d:Decl):Option Int:=if knownD d=false then some d.pos else if d.kind=3 then methodD p front d else typedD p front d
def headI (p:Prog)(i:Int):Option Int:=if i < 0 then none else match p.decls[i.toNat]? with
 | none=>none
 | some d=>headD p (p.decls.take i.toNat) d
abbrev q1tx:List Nat:=[0,1,4,5,6,17,28,35]
theorem ok_DHead (hs:SortedOK)(p:Prog)(h:p.Sm)(h2:∀ d,d∈p.decls→d.Two)(i:Int):CallOK prog 12 [.dptr (tabC p) 0,intV i] (errV (headI p i)):=by
 have hp:=ok_TProgram p h
 have hpl:=h.decls.1
 unfold headI
 by_cases g1:i < 0
 ·rw [if_pos g1]
  simp only [errV,errD]
  refine cB func12 ?_
  refine sR q1tx ?_
  refine sC hp q1tx ?_
  refine kR1 g1 q1tx fun K1 u1=>?_
  refine tI ?_
  refine sR q1tx ?_
  exact aR
 rw [if_neg g1]
 obtain⟨j,rfl⟩:∃ j:Nat,i=j:=⟨i.toNat,by omega⟩
 simp only [Int.toNat_natCast]
 cases hd:p.decls[j]? with
 | none =>
  have g2:(j:Int) ≥ (p.decls.length:Int):=by have:=List.getElem?_eq_none_iff.1 hd;omega
  simp only [errV,errD]
  refine cB func12 ?_
  refine sR q1tx ?_
  refine sC hp q1tx ?_
  refine kR2 g1 g2 q1tx fun K1 u1=>?_
  refine tI ?_
  refine sR q1tx ?_
  exact aR
 | some d =>
  have hlt:=(List.getElem?_eq_some_iff.1 hd).1
  have g2:¬ (j:Int) ≥ (p.decls.length:Int):=by omega
  have hmem:=List.mem_of_getElem? hd
  have hds:=h.decls.2 d hmem
  have htw:=h2 d hmem
  have hk:=ok_known d
  have hw:=ok_when true d.pos
  have hM:=ok_DMethod p h (p.decls.take j) (by rw [List.length_take];omega) d hds htw.sig
  have hT:=ok_DTyped hs p h (p.decls.take j) (by rw [List.length_take];omega) d hds htw.sigs
  rw [show deR (p.decls.take j)=(deR p.decls).take j by simp [deR,List.map_take]] at hM hT
  simp only
  unfold headD
  generalize methodD p (p.decls.take j) d=o1 at *
  generalize typedD p (p.decls.take j) d=o2 at *
  rcases Bool.eq_false_or_eq_true (knownD d) with b | b
  ·rw [if_neg (by rw [b];decide)]
   rw [b] at hk
   rcases Bool.eq_false_or_eq_true (decide (d.kind=3)) with m | m
   ·rw [if_pos (of_decide_eq_true m)]
    refine cB func12 ?_
    refine sR q1tx ?_
    refine sC hp q1tx ?_
    refine kR2 g1 g2 q1tx fun K1 u1=>?_
    refine kI u1 ?_
    clear u1 K1
    (refine sV q1tx fun K z=>?_;refine ci (deR_get hd) ?_;apply z;clear z K)
    refine AWp.block ?_
    refine sC hk q1tx ?_
    refine AWp.condF rfl ?_
    refine sR1 m q1tx ?_
    refine AWp.condT rfl ?_
    (refine sD q1tx [] 7 mixed fun K z=>?_;refine ev ?_;refine⟨deR_row _,by omega,by omega,?_⟩;(try refine ev ?_);refine cc hM ?_;apply z;clear z K)
    exact AWp.ret ⟨_,by rw [results12];rfl,co_err _ _⟩
   ·rw [if_neg (of_decide_eq_false m)]
    refine cB func12 ?_
    refine sR q1tx ?_
    refine sC hp q1tx ?_
    refine kR2 g1 g2 q1tx fun K1 u1=>?_
    refine kI u1 ?_
    clear u1 K1
    (refine sV q1tx fun K z=>?_;refine ci (deR_get hd) ?_;apply z;clear z K)
    refine AWp.block ?_
    refine sC hk q1tx ?_
    refine AWp.condF rfl ?_
    refine sR1 m q1tx ?_
    refine AWp.condF rfl ?_
    (refine sD q1tx [] 7 mixed fun K z=>?_;refine ev ?_;refine⟨deR_row _,by omega,by omega,?_⟩;(try refine ev ?_);refine cc hT ?_;apply z;clear z K)
    exact AWp.ret ⟨_,by rw [results12];rfl,co_err _ _⟩
  ·rw [if_pos b]
   rw [b] at hk
   simp only [whenO,if_true,errV,errD] at hw ⊢
   refine cB func12 ?_
   refine sR q1tx ?_
   refine sC hp q1tx ?_
   refine kR2 g1 g2 q1tx fun K1 u1=>?_
   refine kI u1 ?_
   clear u1 K1
   (refine sV q1tx fun K z=>?_;refine ci (deR_get hd) ?_;apply z;clear z K)
   refine AWp.block ?_
   refine sC hk q1tx ?_
   refine AWp.condT rfl ?_
   refine sC hw q1tx ?_
   exact aR
theorem ok_DHeads1 (hs:SortedOK)(p:Prog)(h:p.Sm)(h2:∀ d,d∈p.decls→d.Two)(i:Int):CallOK prog 39 [intV i,.dptr [tabP p] 0] (errV (headI p i)):=by
 have hh:=ok_DHead hs p h h2 i
 generalize headI p i=o at *
 refine cB func39 ?_
 refine sR [0,1,3] ?_
 refine sC hh.ptr [0,1,3] ?_
 exact AWp.ret ⟨_,by rw [results39];rfl,co_err _ _⟩
def headsI (p:Prog):Option Int:=firstO ((List.range p.decls.length).map fun i=>headI p (i:Nat))
theorem ok_DHeads (hs:SortedOK)(p:Prog)(h:p.Sm)(h2:∀ d,d∈p.decls→d.Two):CallOK prog 14 [.dptr (tabC p) 0] (errV (headsI p)):=by
 have hp:=ok_TProgram p h
 have hpl:=h.decls.1
 have hE:=ok_each p.decls.length 39 [.ptr [tabP p]]
 have hF:=fn_each 39 [.ptr [tabP p]] ((List.range p.decls.length).map fun i=>headI p (i:Nat)) p.decls.length (by simp) (by simpa using hpl) fun j x hx=>by
  rw [List.getElem?_map,Option.map_eq_some_iff] at hx
  obtain⟨k,hk,rfl⟩:=hx
  obtain⟨h1,h3⟩:=List.getElem?_eq_some_iff.1 hk
  simp at h3
  subst h3
  exact⟨_,[.dptr [tabP p] 0],_,_,rfl,⟨⟨rfl,rfl⟩,trivial⟩,rfl,ok_DHeads1 hs p h h2 _⟩
 unfold headsI
 generalize firstO ((List.range p.decls.length).map fun i=>headI p (i:Nat))=o at *
 refine cB func14 ?_
 refine sR [0,1,2] ?_
 refine AWp.freezeP 1 rfl rfl ?_
 refine wk [(1,.dptr [tabP p] 0)] [] ?_
 (refine AWp.seqR [0,1,2] [800007] (by decide +kernel) fun K z=>?_;refine ev ?_;refine cc hp.ptr ?_;refine⟨_,opQ_cl (xs:=[.dptr [tabP p] 0]) (ys:=[.ptr [tabP p]]) ⟨⟨rfl,rfl⟩,trivial⟩ rfl,?_⟩;(try refine ev ?_);refine cc hE ?_;refine⟨_,opQ_callFn rfl hF rfl,?_⟩;(try refine ev ?_);apply z;clear z K)
 exact AWp.ret ⟨_,by rw [results14];rfl,co_err _ _⟩
theorem findD_any (nm:Str):∀ (l:List Decl)(i k:Nat)(d:Decl),l[i]? = some d→d.isT nm=true→(findD nm l k≠((k+i:Nat):Int)↔((l.take i).any fun x=>x.isT nm)=true)
 | [],i,k,d,h,_=>by simp at h
 | x::l,0,k,d,h,hd=>by
  simp only [List.getElem?_cons_zero,Option.some.injEq] at h
  rw [h,findD,if_pos hd];simp
 | x::l,i+1,k,d,h,hd=>by
  rw [List.getElem?_cons_succ] at h
  have ih:=findD_any nm l i (k+1) d h hd
  rw [findD,List.take_succ_cons,List.any_cons]
  by_cases hx:x.isT nm=true
  ·rw [if_pos hx,hx,Bool.true_or];simp;omega
  ·rw [if_neg hx,show x.isT nm=false by simpa using hx,Bool.false_or,← ih,show k+1+i=k+(i+1) by omega]
theorem idxF_take {α:Type} (q:α→Bool)(l:List α)(i:Nat)(d:α)(h:l[i]? = some d)(hd:q d=true):idxF q l≠(i:Int)↔(l.take i).any q=true:=by
 constructor
 ·intro hne
  by_cases ha:(l.take i).any q=true
  ·exact ha
  ·exfalso
   refine hne (idxF_some h hd fun y hy=>?_)
   rw [List.any_eq_true] at ha
   rcases Bool.eq_false_or_eq_true (q y) with hq | hq
   ·exact absurd ⟨y,hy,hq⟩ ha
   ·exact hq
 ·intro ha he
  obtain⟨y,hy,hq⟩:=List.any_eq_true.1 ha
  have hix:=idxF_cases q l
  rcases hix with ⟨h1,_⟩ | ⟨j,x,h1,h2,h3⟩
  ·rw [h1] at he;omega
  ·obtain⟨k,hk,rfl⟩:=List.mem_take_iff_getElem.1 hy
   unfold idxF at he
   cases hf:l.findIdx? q with
   | none=>rw [hf] at he;simp only at he;omega
   | some m =>
    rw [hf] at he
    simp only at he
    obtain⟨h4,h5,h6⟩:=List.findIdx?_eq_some_iff_getElem.1 hf
    have hm:m=i:=by omega
    subst hm
    have:=h6 k (by omega)
    rw [hq] at this;exact this rfl
theorem typed_same (p:Prog)(hp:p.decls.length≤100000)(i:Nat)(d:Decl)(hd:p.decls[i]? = some d)(hk:d.kind=1∨d.kind=2):typedD p (p.decls.take i) d=typedR p i d:=by
 have hT:d.isT d.name=true:=by unfold Decl.isT;rcases hk with k | k <;> simp [k]
 have hf:=findD_any d.name p.decls i 0 d hd hT
 rw [Nat.zero_add] at hf
 unfold typedD typedR whenO
 by_cases ha:((p.decls.take i).any fun x=>x.isT d.name)=true
 ·rw [if_pos (hf.2 ha),ha];rfl
 ·rw [if_neg (fun hh=>ha (hf.1 hh)),show ((p.decls.take i).any fun x=>x.isT d.name)=false by simpa using ha]
  simp only [Bool.false_eq_true,if_false,firstO]
  cases formalsR p [] d.formals with
  | some q=>rfl
  | none =>
   simp only [firstO]
   by_cases k1:d.kind=1
   ·rw [if_pos k1,if_pos k1,recDec p hp]
    cases parR p d.formals [] d.fields with
    | some q=>rfl
    | none =>
     simp only [firstO,decide_eq_true_eq]
     split <;> rfl
   ·rw [if_neg k1,if_neg k1]
    cases sigsR p d.formals [] d.sigs <;> rfl
theorem method_same (p:Prog)(i:Nat)(d:Decl)(hd:p.decls[i]? = some d)(hk:d.kind=3):methodD p (p.decls.take i) d=methodR p i d:=by
 have hT:keyM d.name d.sig.name d=true:=by unfold keyM;simp [hk]
 have hf:=idxF_take (keyM d.name d.sig.name) p.decls i d hd hT
 unfold methodD methodR recv1 whenO recvR
 by_cases h1:kindOf p d.name≠1∨d.vars.length≠(formalsT p d.name).length
 ·rw [if_pos h1,if_pos h1];rfl
 rw [if_neg h1,if_neg h1]
 by_cases h2:varsR p [] d.vars=true
 ·rw [if_pos h2,if_pos h2];rfl
 rw [if_neg h2,if_neg h2]
 by_cases h3:methI p d.name d.sig.name≠(i:Int)
 ·rw [if_pos h3,if_pos (hf.1 h3)];rfl
 rw [if_neg h3,if_neg (fun hh=>h3 (hf.2 hh))]
 simp only [firstO]
 cases sigR p (envR p d) d.sig with
 | some q=>rfl
 | none =>
  simp only [firstO]
  cases (d.sig.params.find? fun f=>decide (f.name=d.recv)).map (·.pos) <;> rfl
theorem head_same (p:Prog)(hp:p.decls.length≤100000)(i:Nat)(d:Decl)(hd:p.decls[i]? = some d):headI p i=headR p i d:=by
 unfold headI headR headD
 rw [if_neg (by omega),Int.toNat_natCast,hd]
 simp only
 by_cases hk:d.kind=1∨d.kind=2
 ·rw [if_pos hk,if_neg (by unfold knownD;rcases hk with k | k <;> simp [k]),if_neg (by omega),typed_same p hp i d hd hk]
 ·rw [if_neg hk]
  by_cases k3:d.kind=3
  ·rw [if_pos k3,if_neg (by unfold knownD;simp [k3]),if_pos k3,method_same p i d hd k3]
  ·rw [if_neg k3,if_pos (by unfold knownD;rw [decide_eq_false_iff_not];omega),if_neg k3]
abbrev q1xx:List Nat:=[0,1,2,4,5,14,27,32]
theorem ok_RHeadI (p:Prog)(h:p.Sm)(hpl:p.decls.length≤100000)(h2:∀ d,d∈p.decls→d.Two)(i:Int):CallOK prog 13 [prV p,intV i] (rsV (resO (headI p i))):=by
 by_cases g1:i < 0
 ·unfold headI
  rw [if_pos g1]
  refine cB func13 ?_
  refine sR q1xx ?_
  refine kR1 g1 q1xx fun K1 u1=>?_
  refine tI ?_
  refine sR q1xx ?_
  exact aR
 obtain⟨j,rfl⟩:∃ j:Nat,i=j:=⟨i.toNat,by omega⟩
 cases hd:p.decls[j]? with
 | none =>
  unfold headI
  rw [if_neg g1,Int.toNat_natCast,hd]
  have g2:(j:Int) ≥ (p.decls.length:Int):=by have:=List.getElem?_eq_none_iff.1 hd;omega
  refine cB func13 ?_
  refine sR q1xx ?_
  refine kR2 g1 g2 q1xx fun K1 u1=>?_
  refine tI ?_
  refine sR q1xx ?_
  exact aR
 | some d =>
  rw [head_same p hpl j d hd]
  exact ok_Head15 p h hpl j d hd (h2 d (List.mem_of_getElem? hd))
abbrev q2xx:List Nat:=[0,1,2,3,4,9,16]
theorem ok_RHeads (p:Prog)(h:p.Sm)(hpl:p.decls.length≤100000)(h2:∀ d,d∈p.decls→d.Two):CallOK prog 15 [prV p] (rsV (resO (headsI p))):=by
 unfold headsI
 generalize hL:(List.range p.decls.length).map (fun i=>headI p (i:Nat))=L
 have hll:L.length=p.decls.length:=by rw [← hL];simp
 have hsl:=h.decls.1
 refine cB func15 ?_
 refine sR q2xx ?_
 (refine AWp.freeze 1 rfl rfl (wk [(1,.dptr (prC p) 0),(2,.box 2 0)] [(2,rs0)] ?_))
 refine kR q2xx fun K1 u1=>?_
 refine AWp.block (AWp.forIdx L (X:=Unit) (fun j _=>[(1,.dptr (prC p) 0),(2,.box 2 0),(3,intV j)]) (fun _ _=>[(2,rs0)])
  (fun j _=>∀ y,y∈L.take j→y=none) () (by simp) (by simp [sle,vle,sget,prC]) sB ?_ ?_)
 rotate_left
 ·intro j _ x hx hmem dp tk hlt hI
  have hlt':(j:Int) < (p.decls.length:Int):=by omega
  have hH:=ok_RHeadI p h hpl h2 j
  have hxe:headI p j=x:=by
   rw [← hL,List.getElem?_map,Option.map_eq_some_iff] at hx
   obtain⟨k,hk,hk2⟩:=hx
   obtain⟨h1,h3⟩:=List.getElem?_eq_some_iff.1 hk
   simp at h3
   rw [h3];exact hk2
  rw [hxe] at hH
  refine kR1 hlt' q2xx fun K2 u2=>?_
  refine gI u2 ?_
  clear u2 K2
  refine sK fun K2 u2=>?_
  refine AWp.block ?_
  refine sC hH q2xx ?_
  cases x with
  | none =>
   refine sR q2xx ?_
   refine AWp.condF rfl (AWp.skip (u2 _ _ ?_))
   clear u2 K2
   (refine lV q2xx fun K z=>?_;refine cl ?_;apply z;clear z K;try simp only [thenA,])
   refine⟨(),?_,(by simp [sle,vle,sget,prC]),sB⟩
   rw [tk]
   intro y hy
   rcases List.mem_append.1 hy with hy | hy
   ·exact hI y hy
   ·simp only [List.mem_cons,List.not_mem_nil,or_false] at hy
    rw [hy]
  | some q =>
   refine sR q2xx ?_
   refine AWp.condT rfl ?_
   refine sR q2xx ?_
   rw [firstO_some hx hI]
   exact aR
 intro _ hI
 rw [List.take_length] at hI
 rw [firstO_none hI] at u1 ⊢
 rw [hll]
 refine kR1 Int.lt_irrefl q2xx fun K2 u2=>?_
 refine AWp.stopK rfl ?_
 simp only [thenA,blockA,if_true]
 refine u1 _ _ ?_
 refine sR q2xx ?_
 exact aR
abbrev q3xx:List Nat:=[0,1,3,4,5,6,7,8,11]
theorem ok_told15s (n q:Int):CallOK prog 11 [errV (some n),rsV (badR q)] (boolV (decide (n=q))):=by
 have h1:=ok_faultCode 4 n
 have h2:=ok_faultAt 4 n
 simp only [errV,errD] at h1 h2 ⊢
 refine cB func11 ?_
 refine sR q3xx ?_
 refine kR q3xx fun K1 u1=>?_
 refine kI u1 ?_
 clear u1 K1
 refine sC h1 q3xx ?_
 refine sC h2 q3xx ?_
 refine sR q3xx ?_
 exact aR
theorem ok_told15 (o:Option Int):CallOK prog 11 [errV o,rsV (resO o)] (boolV true):=by
 cases o with
 | none =>
  simp only [errV,errD]
  refine cB func11 ?_
  refine sR [0,1,3,4,5,6,7,8,11] ?_
  refine kR [0,1,3,4,5,6,7,8,11] fun K1 u1=>?_
  refine tI ?_
  refine sR [0,1,3,4,5,6,7,8,11] ?_
  exact aR
 | some n =>
  have:=ok_told15s n n
  rw [decide_eq_true rfl] at this
  exact this
def sigProg (s:Sig):Prog:=⟨[{ (default:Decl) with sig:=s }],default⟩
theorem ok_Few10 (s:Sig):CallOK prog 17 [siV s] (boolV (decide ((sigProg s).count≤600))):=by
 have hf:=ok_Few06 (sigProg s)
 refine cB func17 ?_
 refine sR [0,1,2] ?_
 refine sC hf [0,1,2] ?_
 exact aR
theorem few_two {p:Prog} (h:p.count≤600):p.Sm∧p.decls.length≤100000∧∀ d,d∈p.decls→d.Two:=by
 obtain⟨h1,h2⟩:=p.count_sm h
 exact⟨h1,by omega,fun d hd=>((p.count_Nn h).decls d hd).two⟩
theorem few_env {env:List Formal} (h:(envProg env).count≤600):env.length≤2000∧∀ f,f∈env→f.Sm:=by
 have h1:=((envProg env).count_sm h).1.decls.2 { (default:Decl) with formals:=env } (by simp [envProg])
 have h2:=((envProg env).count_Nn h).decls { (default:Decl) with formals:=env } (by simp [envProg])
 exact⟨h2.flen,h1.formals.2⟩
theorem few_sig {s:Sig} (h:(sigProg s).count≤600):s.formals.length≤2000∧s.Sm:=by
 have h1:=((sigProg s).count_sm h).1.decls.2 { (default:Decl) with sig:=s } (by simp [sigProg])
 have h2:=((sigProg s).count_Nn h).decls { (default:Decl) with sig:=s } (by simp [sigProg])
 exact⟨h2.sig.flen,h1.sig⟩
abbrev q4xx:List Nat:=[0,1,2,4,5,12]
theorem law15_matches (haw:CallOK prog 8 [] (boolV true))(p:Prog)(i:Int):CallOK prog 3 [prV p,intV i] (boolV true):=by
 have hf:=ok_Few06 p
 by_cases hb:p.count≤600
 ·rw [decide_eq_true hb] at hf
  obtain⟨hp,hpl,h2⟩:=few_two hb
  have c1:=ok_DHead sorted_ok p hp h2 i
  have c2:=ok_RHeadI p hp hpl h2 i
  have c3:=ok_DHeads sorted_ok p hp h2
  have c4:=ok_RHeads p hp hpl h2
  have t1:=ok_told15 (headI p i)
  have t2:=ok_told15 (headsI p)
  generalize headI p i=o1 at *
  generalize headsI p=o2 at *
  refine cB func3 ?_
  refine sR q4xx ?_
  refine sK fun K1 u1=>?_
  (refine sV q4xx fun K z=>?_;refine cc haw ?_;refine cc hf ?_;apply z;clear z K)
  refine kI u1 ?_
  clear u1 K1
  refine sC (ok_New p hp) q4xx ?_
  cases o1 <;> cases o2 <;> (
   simp only [errV,errD] at c1 c3 t1 t2
   (refine sD q4xx [] 15 mixed fun K z=>?_;refine ev ?_;refine cc c1 ?_;refine cc c2 ?_;refine cc t1 ?_;refine cc c3 ?_;refine cc c4 ?_;refine cc t2 ?_;apply z;clear z K)
   exact aR)
 ·rw [decide_eq_false hb] at hf
  refine cB func3 ?_
  refine sR q4xx ?_
  refine sK fun K1 u1=>?_
  (refine sV q4xx fun K z=>?_;refine cc haw ?_;refine cc hf ?_;apply z;clear z K)
  refine tI ?_
  refine sC haw q4xx ?_
  exact aR
abbrev q5xx:List Nat:=[0,1,2,3,5,6,7,24]
theorem law15_sigs (haw:CallOK prog 8 [] (boolV true))(p:Prog)(env:List Formal)(s:Sig):CallOK prog 4 [prV p,.d (.slice (foR env)),siV s] (boolV true):=by
 have f1:=ok_Few06 p
 have f2:=ok_FewEnv env
 have f3:=ok_Few10 s
 by_cases b1:p.count≤600
 ·rw [decide_eq_true b1] at f1
  by_cases b2:(envProg env).count≤600
  ·rw [decide_eq_true b2] at f2
   by_cases b3:(sigProg s).count≤600
   ·rw [decide_eq_true b3] at f3
    obtain⟨hp,hpl,h2⟩:=few_two b1
    obtain⟨e1,e2⟩:=few_env b2
    obtain⟨s1,s2⟩:=few_sig b3
    have hll:env.length+s.formals.length≤sm:=by unfold sm;omega
    have c1:=ok_DFormals p hp env s.formals hll e2 s2.formals.2
    have c2:=ok_Formals15 p hp env s.formals hll e2 s2.formals.2
    have c3:=ok_DSig p hp env s hll e2 s2
    have c4:=ok_Sig15 p hp env s hll e2 s2
    have t1:=ok_told15 (formalsR p env s.formals)
    have t2:=ok_told15 (sigR p env s)
    generalize formalsR p env s.formals=o1 at *
    generalize sigR p env s=o2 at *
    refine cB func4 ?_
    refine sR q5xx ?_
    refine sK fun K1 u1=>?_
    (refine sV q5xx fun K z=>?_;refine cc haw ?_;refine cc f1 ?_;refine cc f2 ?_;refine cc f3 ?_;apply z;clear z K)
    refine kI u1 ?_
    clear u1 K1
    refine sC (ok_New p hp) q5xx ?_
    cases o1 <;> cases o2 <;> (
     simp only [errV,errD] at c1 c3 t1 t2
     (refine sD q5xx [] 23 mixed fun K z=>?_;refine ev ?_;refine cc c1 ?_;refine cc c2 ?_;refine cc t1 ?_;refine cc c3 ?_;refine cc c4 ?_;refine cc t2 ?_;apply z;clear z K)
     exact aR)
   ·rw [decide_eq_false b3] at f3
    refine cB func4 ?_
    refine sR q5xx ?_
    refine sK fun K1 u1=>?_
    (refine sV q5xx fun K z=>?_;refine cc haw ?_;refine cc f1 ?_;refine cc f2 ?_;refine cc f3 ?_;apply z;clear z K)
    refine tI ?_
    refine sC haw q5xx ?_
    exact aR
  ·rw [decide_eq_false b2] at f2
   refine cB func4 ?_
   refine sR q5xx ?_
   refine sK fun K1 u1=>?_
   (refine sV q5xx fun K z=>?_;refine cc haw ?_;refine cc f1 ?_;refine cc f2 ?_;apply z;clear z K)
   refine tI ?_
   refine sC haw q5xx ?_
   exact aR
 ·rw [decide_eq_false b1] at f1
  refine cB func4 ?_
  refine sR q5xx ?_
  refine sK fun K1 u1=>?_
  (refine sV q5xx fun K z=>?_;refine cc haw ?_;refine cc f1 ?_;apply z;clear z K)
  refine tI ?_
  refine sC haw q5xx ?_
  exact aR
def sAny:Str:=[65,110,121]
def a15:Formal:=⟨[97],.mk sAny [] 0,3⟩
def p15:Prog:=⟨[{ (default:Decl) with kind:=2,name:=sAny },{ (default:Decl) with kind:=1,name:=[84],formals:=[a15] },{ (default:Decl) with kind:=1,name:=[84],pos:=9 }],default⟩
def m15:Decl:={ (default:Decl) with kind:=3,name:=[84],vars:=[[98]] }
def e15:List Formal:=[⟨[98],.mk sAny [] 0,3⟩]
def s15:Sig:=⟨[109],[],[],.mk [98] [] 0,0⟩
theorem p15_few:p15.count≤600:=by decide +kernel
theorem m15_few:(⟨[m15],default⟩:Prog).count≤600:=by decide +kernel
theorem s15_few:(sigProg s15).count≤600:=by decide +kernel
theorem e15_few:(envProg e15).count≤600:=by decide +kernel
theorem f15_few:(envProg [a15,a15]).count≤600:=by decide +kernel
theorem q15a:headI p15 0=none:=by decide +kernel
theorem q15b:headI p15 1=none:=by decide +kernel
theorem q15c:headI p15 2=some 9:=by decide +kernel
theorem q15d:headsI p15=some 9:=by decide +kernel
theorem q15e:envR p15 m15=e15:=by kernel_rfl
theorem q15f:formalsR p15 [] [a15,a15]=some 3:=by decide +kernel
theorem q15g:sigR p15 e15 s15=none:=by decide +kernel
abbrev q1yx:List Nat:=[0,1,2,3,4,5]
theorem ok_awake15:CallOK prog 8 [] (boolV true):=by
 obtain⟨hp,hpl,h2⟩:=few_two p15_few
 have hm:m15.Sm:=(few_two m15_few).1.decls.2 m15 (by simp)
 obtain⟨e1,e2⟩:=few_env e15_few
 obtain⟨g1,g2⟩:=few_env f15_few
 obtain⟨s1,s2⟩:=few_sig s15_few
 have c0:=ok_DHead sorted_ok p15 hp h2 0
 have c1:=ok_DHead sorted_ok p15 hp h2 1
 have c2:=ok_DHead sorted_ok p15 hp h2 2
 have c3:=ok_DHeads sorted_ok p15 hp h2
 have c4:=ok_DEnv p15 hp m15 hm
 have c5:=ok_DFormals p15 hp [] [a15,a15] (by decide) (by simp) g2
 have c6:=ok_DSig p15 hp e15 s15 (by decide) e2 s2
 have hle:(e15.length:Int)=1:=rfl
 have h0:e15[0]? = some ⟨[98],.mk sAny [] 0,3⟩:=rfl
 have t9:=ok_told15 (some 9)
 have t3:=ok_told15 (some 3)
 rw [q15a] at c0;rw [q15b] at c1;rw [q15c] at c2;rw [q15d] at c3;rw [q15e] at c4;rw [q15f] at c5;rw [q15g] at c6
 simp only [errV,errD] at c0 c1 c2 c3 c5 c6 t9 t3
 refine cB func8 ?_
 refine sR q1yx ?_
 refine sR q1yx ?_
 refine sR q1yx ?_
 refine sC (ok_New p15 hp) q1yx ?_
 refine sR q1yx ?_
 refine sC c4 q1yx ?_
 (refine sV q1yx fun K z=>?_;refine cc c0 ?_;refine cc c1 ?_;refine cc c2 ?_;refine cc t9 ?_;refine cc c3 ?_;refine⟨_,.inl ⟨_,rfl,t9,rfl⟩,?_⟩;(try refine ev1 hle ?_);refine cj (foR_get h0) ?_;refine cc c5 ?_;refine cc t3 ?_;refine cc c6 ?_;apply z;clear z K)
 exact aR
def nmsT (l:List Decl):List Str:=(l.filter fun d=>decide (d.kind≠3)).map (·.name)
theorem nmsT_len (l:List Decl):(nmsT l).length≤l.length:=by unfold nmsT;rw [List.length_map];exact List.length_filter_le _ _
theorem heads_none {p:Prog} (hp:p.decls.length≤100000)(h:headsI p=none)(j:Nat)(d:Decl)(hd:p.decls[j]? = some d):headR p j d=none:=by
 rw [← head_same p hp j d hd]
 have hlt:=(List.getElem?_eq_some_iff.1 hd).1
 unfold headsI at h
 generalize hL:(List.range p.decls.length).map (fun i=>headI p (i:Nat))=L at h
 have hj:L[j]? = some (headI p j):=by rw [← hL,List.getElem?_map,List.getElem?_range hlt];rfl
 have key:∀ (l:List (Option Int)),firstO l=none→∀ x,x∈l→x=none:=by
  intro l
  induction l with
  | nil=>simp
  | cons y l ih =>
   intro h x hx
   cases y with
   | some q=>rw [firstO] at h;cases h
   | none =>
    rw [firstO] at h
    rcases List.mem_cons.1 hx with rfl | hx
    ·rfl
    ·exact ih h x hx
 exact key L h _ (List.mem_of_getElem? hj)
theorem order_plain {p:Prog} (hp:p.decls.length≤100000)(h:headsI p=none)(j:Nat)(d:Decl)(hd:p.decls[j]? = some d)(hk:d.kind≠3):d.name ∉ nmsT (p.decls.take j)∧d.name ∉ reachS p d.name:=by
 have hk12:∀ (k:Nat) (x:Decl),p.decls[k]? = some x→x.kind≠3→x.kind=1∨x.kind=2:=by
  intro k x hx hx3
  have:=heads_none hp h k x hx
  unfold headR at this
  by_cases h12:x.kind=1∨x.kind=2
  ·exact h12
  ·rw [if_neg h12,if_neg hx3] at this;cases this
 have h12:=hk12 j d hd hk
 have hT:d.isT d.name=true:=by unfold Decl.isT;rcases h12 with k | k <;> simp [k]
 have hh:=heads_none hp h j d hd
 unfold headR at hh
 rw [if_pos h12] at hh
 unfold typedR at hh
 by_cases hf:findD d.name p.decls 0≠(j:Int)
 ·rw [if_pos hf] at hh;cases hh
 rw [if_neg hf] at hh
 have hfa:=findD_any d.name p.decls j 0 d hd hT
 rw [Nat.zero_add] at hfa
 have hany:¬ ((p.decls.take j).any fun x=>x.isT d.name)=true:=fun ha=>hf (hfa.2 ha)
 refine⟨fun hm=>?_,fun hr=>?_⟩
 ·unfold nmsT at hm
  obtain⟨x,hx,hxn⟩:=List.mem_map.1 hm
  obtain⟨hx1,hx2⟩:=List.mem_filter.1 hx
  have hx3:x.kind≠3:=of_decide_eq_true hx2
  obtain⟨k,hk2⟩:=List.mem_iff_getElem?.1 hx1
  have hkd:p.decls[k]? = some x:=by
   rw [List.getElem?_take] at hk2
   split at hk2
   ·exact hk2
   ·cases hk2
  refine hany (List.any_eq_true.2 ⟨x,hx1,?_⟩)
  unfold Decl.isT
  rcases hk12 k x hkd hx3 with k1 | k1 <;> simp [k1,hxn]
 ·have hr':d.name∈reachN p d.name:=by
   have:=recDec p hp d.name
   rw [decide_eq_true hr] at this
   exact of_decide_eq_true this
  have hs:=(reachN_win p d.name).isS _ hr'
  cases hfo:formalsR p [] d.formals with
  | some q=>rw [hfo] at hh;cases hh
  | none =>
   rw [hfo] at hh
   simp only at hh
   by_cases k1:d.kind=1
   ·rw [if_pos k1] at hh
    cases hpa:parR p d.formals [] d.fields with
    | some q=>rw [hpa] at hh;cases hh
    | none=>rw [hpa] at hh;simp only at hh;rw [if_pos hr] at hh;cases hh
   ·have hk2:d.kind=2:=by omega
    have:kindOf p d.name=2:=by
     have hfd:p.decls.find? (fun x=>x.isT d.name)=some d:=by
      rw [List.find?_eq_some_iff_getElem]
      refine⟨hT,j,(List.getElem?_eq_some_iff.1 hd).1,(List.getElem?_eq_some_iff.1 hd).2,fun k hkj=>?_⟩
      have hkl:k < p.decls.length:=by have:=(List.getElem?_eq_some_iff.1 hd).1;omega
      rcases Bool.eq_false_or_eq_true (p.decls[k].isT d.name) with hb | hb
      ·exact absurd (List.any_eq_true.2 ⟨_,List.mem_take_iff_getElem.2 ⟨k,by have:=(List.getElem?_eq_some_iff.1 hd).1;omega,rfl⟩,hb⟩) hany
      ·rw [hb];rfl
     rw [(kind_some (show declT p d.name=some d from hfd)).1];exact hk2
    rw [this] at hs;cases hs
abbrev q1Bx:List Nat:=[0,1,2,3,4,5,12,17,25,34,50]
theorem law15_order (haw:CallOK prog 8 [] (boolV true))(p:Prog):CallOK prog 6 [prV p] (boolV true):=by
 have hf:=ok_Few06 p
 by_cases hb:p.count≤600
 rotate_left
 ·rw [decide_eq_false hb] at hf
  refine cB func6 ?_
  refine sR q1Bx ?_
  refine sK fun K1 u1=>?_
  (refine sV q1Bx fun K z=>?_;refine cc haw ?_;refine cc hf ?_;apply z;clear z K)
  refine tI ?_
  refine sC haw q1Bx ?_
  exact aR
 rw [decide_eq_true hb] at hf
 obtain⟨hp,hpl,h2⟩:=few_two hb
 have c3:=ok_DHeads sorted_ok p hp h2
 have c4:=ok_RHeads p hp hpl h2
 have hlaw:=fun (h:headsI p=none)=>order_plain hpl h
 have hsl:=hp.decls.1
 generalize headsI p=o at *
 cases o with
 | some q =>
  simp only [errV,errD] at c3
  refine cB func6 ?_
  refine sR q1Bx ?_
  refine sK fun K1 u1=>?_
  (refine sV q1Bx fun K z=>?_;refine cc haw ?_;refine cc hf ?_;apply z;clear z K)
  refine kI u1 ?_
  clear u1 K1
  refine sK fun K1 u1=>?_
  (refine sV q1Bx fun K z=>?_;refine cc (ok_New p hp) ?_;refine cc c3 ?_;apply z;clear z K)
  refine tI ?_
  refine sC c4 q1Bx ?_
  exact aR
 | none =>
  have hlaw:=hlaw rfl
  simp only [errV,errD] at c3
  refine cB func6 ?_
  refine sR q1Bx ?_
  refine sK fun K1 u1=>?_
  (refine sV q1Bx fun K z=>?_;refine cc haw ?_;refine cc hf ?_;apply z;clear z K)
  refine kI u1 ?_
  clear u1 K1
  refine sK fun K1 u1=>?_
  (refine sV q1Bx fun K z=>?_;refine cc (ok_New p hp) ?_;refine cc c3 ?_;apply z;clear z K)
  refine kI u1 ?_
  clear u1 K1
  (refine AWp.freeze 1 rfl rfl (wk [(1,.dptr (prC p) 0)] [] ?_))
  refine sR q1Bx ?_
  refine AWp.promote 3 1 3 rfl ?_
  refine kR q1Bx fun K1 u1=>?_
  refine AWp.block (AWp.forIdx p.decls (X:=Unit) (fun j _=>[(1,.dptr (prC p) 0),(3,.acc 3),(4,intV j)]) (fun j _=>[(3,.rows 1 (strR (nmsT (p.decls.take j))))])
   (fun j _=>True) () trivial (by simp [sle,vle,sget,prC]) (by simp [ble,bget,strR,nmsT]) ?_ ?_)
  rotate_left
  ·intro j _ d hd hmem dp tk hlt _
   have hnl:=nmsT_len (p.decls.take j)
   rw [List.length_take] at hnl
   have hre:=ok_Reach p hpl d.name
   have hi1:=ok_In (nmsT (p.decls.take j)) d.name
   have hi2:=ok_In (reachS p d.name) d.name
   refine kR1 hlt q1Bx fun K2 u2=>?_
   refine gI u2 ?_
   clear u2 K2
   refine sK fun K2 u2=>?_
   refine AWp.block ?_
   refine sK fun K3 u3=>?_
   rcases Bool.eq_false_or_eq_true (decide (d.kind=3)) with m | m
   ·have e:nmsT (p.decls.take (j+1))=nmsT (p.decls.take j):=by
     rw [tk];unfold nmsT;rw [List.filter_append];simp [of_decide_eq_true m]
    (refine sV q1Bx fun K z=>?_;refine⟨by omega,_,deR_get hd,rfl,?_⟩;(try refine ev1 m ?_);apply z;clear z K)
    refine AWp.condT rfl (AWp.exit ?_)
    simp only [thenA,blockA,if_true]
    refine u2 _ _ ?_
    clear u3 K3 u2 K2
    (refine lV q1Bx fun K z=>?_;refine cl ?_;apply z;clear z K;try simp only [thenA,])
    exact⟨(),trivial,(by simp [sle,vle,sget,prC]),by rw [e];simp [ble,bget]⟩
   ·have hk3:=of_decide_eq_false m
    obtain⟨n1,n2⟩:=hlaw j d hd hk3
    have e:nmsT (p.decls.take (j+1))=nmsT (p.decls.take j)++[d.name]:=by
     rw [tk];unfold nmsT;rw [List.filter_append,List.map_append];simp [hk3]
    rw [decide_eq_false n1] at hi1
    rw [decide_eq_false n2] at hi2
    (refine sV q1Bx fun K z=>?_;refine⟨by omega,_,deR_get hd,rfl,?_⟩;(try refine ev1 m ?_);apply z;clear z K)
    refine kI u3 ?_
    clear u3 K3
    (refine sV q1Bx fun K z=>?_;refine ci (deR_get hd) ?_;apply z;clear z K)
    refine sK fun K3 u3=>?_
    (refine sV q1Bx fun K z=>?_;refine⟨_,.inr ⟨_,rfl,hi1,rfl⟩,?_⟩;(try refine ev ?_);refine cc hre ?_;refine cc hi2 ?_;apply z;clear z K)
    refine kI u3 ?_
    clear u3 K3
    (refine lV q1Bx fun K z=>?_;refine⟨by simp,by (try simp only [strR_len]);unfold lim sm at *;omega,?_⟩;(try refine ev ?_);apply z;clear z K;try simp only [thenA,blockA])
    refine u2 _ _ ?_
    clear u2 K2
    (refine lV q1Bx fun K z=>?_;refine cl ?_;apply z;clear z K;try simp only [thenA,])
    exact⟨(),trivial,(by simp [sle,vle,sget,prC]),by rw [e];simp [ble,bget,strR]⟩
  intro _ _
  refine kR1 Int.lt_irrefl q1Bx fun K2 u2=>?_
  refine AWp.stopK rfl ?_
  simp only [thenA,blockA,if_true]
  refine u1 _ _ ?_
  refine sC c4 q1Bx ?_
  exact aR
end Go.Abs
