/- several texts in one -/
import Derived.Test.YtaneedhchnaniaaGreatDoorQEnc
import Derived.Test.YtaneedhchnaniaaGreatDoorQEV
import Derived.Test.YtaneedhchnaniaaGreatDoorQTypes
namespace Go.Abs
set_option maxRecDepth 100000
set_option maxHeartbeats 1000000
set_option linter.unusedSimpArgs false
set_option linter.unusedVariables false
open Go Go.Proofs Tryz
mutual
def Ty.count:Ty→Int→Int
 | .mk n a _,k=>Ty.countL a (k+1+((n.length / 50:Nat):Int))
def Ty.countL:List Ty→Int→Int
 | [],k=>k
 | t::ts,k=>if k≤2000 then Ty.countL ts (t.count k) else k
end
theorem Ty.count_eq (t:Ty)(k:Int):t.count k=Ty.countL t.args (k+1+((t.name.length / 50:Nat):Int)):=by cases t;rfl
def cap:Int:=4611686018427387904
mutual
theorem Ty.count_bd:∀ (t:Ty)(k:Int),t.Ok→k≤t.count k∧t.count k≤max k 2000+2814749767107
 | .mk n a p,k,h=>by
  have hn:n.length≤lim:=h.name
  have:=Ty.countL_bd a (k+1+((n.length / 50:Nat):Int)) (fun t ht=>h.arg t ht)
  simp only [Ty.count]
  unfold lim at hn
  omega
theorem Ty.countL_bd:∀ (l:List Ty)(k:Int),(∀ t,t∈l→t.Ok)→k≤Ty.countL l k∧Ty.countL l k≤max k (2000+2814749767107)
 | [],k,_=>by simp only [Ty.countL];omega
 | t::ts,k,h=>by
  simp only [Ty.countL]
  split
  ·have h1:=Ty.count_bd t k (h t (by simp))
   have h2:=Ty.countL_bd ts (t.count k) (fun u hu=>h u (by simp [hu]))
   omega
  ·omega
end
abbrev q1z:List Nat:=[0,1,2,4,5,21]
theorem ok_Count04:∀ (t:Ty)(n:Int),0≤n→n≤cap→CallOK prog 22 [tyV t,intV n] (intV (t.count n)):=by
 intro t
 induction t using Ty.induct with
 | h t ih =>
 intro n h0 h1
 refine CallB.bd (Enters.of func22 rfl (by decide)) fun hbd=>?_
 have hok:=ty_ok hbd.1
 have hname:=hok.name
 have hlen:=hok.len
 have hq:t.name.length / 50≤2814749767106:=by unfold lim at hname;omega
 refine cB func22 ?_
 refine sR q1z ?_
 (refine sQ q1z fun K hK=>?_;refine ev ?_)
 refine⟨by unfold InR cap at *;omega,(by first | (unfold InR;omega) | (simp only [InR,sm,lim] at *;omega)),by unfold InR cap at *;omega,?_⟩
 (apply hK;clear hK K)
 refine kR q1z fun K1 u1=>?_
 refine AWp.block (AWp.loop (X:=Nat × Int) (fun x=>[(1,intV x.2),(2,.box 2 0),(5,intV x.1)]) (fun _=>[(2,.cells [.d (.str t.name),.d (.slice (tyR t.args)),.d (.int .i64 t.pos)])])
  (fun x=>x.1≤t.args.length∧0≤x.2∧x.2≤cap+2814749769108∧Ty.countL (t.args.drop x.1) x.2=t.count n) (fun x=>t.args.length - x.1) (0,n+1+((t.name.length / 50:Nat):Int)) ?_ ?_ ?_ ?_)
 ·exact⟨by simp,by omega,by unfold cap at *;omega,by rw [Ty.count_eq];rfl⟩
 ·simp [sle,vle,sget]
 ·simp [ble,bget]
 rintro⟨i,m⟩ ⟨hi,hm0,hm1,heq⟩
 simp only at hi hm0 hm1 heq
 have fin:∀ z:Int,z=t.count n→K1 [(0,.undef),(1,intV z),(2,.box 2 0),(4,.undef),(5,intV i),(21,boolV false)] [(2,.cells [.d (.str t.name),.d (.slice (tyR t.args)),.d (.int .i64 t.pos)])]:=by
  rintro z rfl
  refine u1 _ _ ?_
  refine sR q1z ?_
  exact aR
 by_cases hlt:(i:Int) < (t.args.length:Int)
 ·have hlt':i < t.args.length:=by omega
  have hx:t.args[i]? = some t.args[i]:=List.getElem?_eq_getElem hlt'
  have hmem:t.args[i]∈t.args:=List.getElem_mem hlt'
  have dp:t.args.drop i=t.args[i]::t.args.drop (i+1):=List.drop_eq_getElem_cons hlt'
  generalize t.args[i]=x at *
  rw [dp,Ty.countL] at heq
  refine sK fun K2 u2=>?_
  by_cases hm:m≤2000
  ·rw [if_pos hm] at heq
   refine sR2 hlt hm q1z ?_
   refine AWp.condT rfl (AWp.skip (u2 _ _ ?_))
   clear u2 K2
   refine sK fun K2 u2=>?_
   refine AWp.block ?_
   (refine lQ q1z fun K hK=>?_;refine ev ?_)
   refine⟨by omega,tyC x,tyR_get hx,rfl,?_⟩
   simp -implicitDefEqProofs only [EV,Nat.reduceAdd,Nat.reduceEqDiff,reduceCtorEq,tyC]
   refine⟨intV (x.count m),.inl ⟨_,rfl,ih x hmem m hm0 (by unfold cap;omega),rfl⟩,?_⟩
   refine ev ?_
   (apply hK;clear hK K;try simp only [thenA,blockA])
   refine u2 _ _ ?_
   clear u2 K2
   (refine lQ q1z fun K hK=>?_;refine ev ?_)
   refine⟨by unfold InR;unfold lim at hlen;omega,?_⟩
   (apply hK;clear hK K;try simp only [thenA,])
   have hb:=Ty.count_bd x m (hok.arg x hmem)
   exact⟨(i+1,x.count m),⟨by simp only;omega,by simp only;omega,by simp only;unfold cap;omega,heq⟩,by simp only;omega,by simp [sle,vle,sget],by simp [ble,bget]⟩
  ·rw [if_neg hm] at heq
   refine sR2 hlt hm q1z ?_
   refine AWp.condF rfl (AWp.exit ?_)
   simp only [thenA,blockA,if_true]
   exact fin m heq
 ·refine kR1 hlt q1z fun K2 u2=>?_
  refine AWp.condF rfl (AWp.exit ?_)
  simp only [thenA,blockA,if_true]
  rw [List.drop_eq_nil_of_le (by omega),Ty.countL] at heq
  exact fin m heq
theorem div50_le {n:Nat} (h:n≤lim):n / 50≤2814749767106:=by unfold lim at h;omega
mutual
def Ex.count:Ex→Int→Int
 | .mk _ nm t ta ks _,n=>Ex.countL ks (Ty.countL ta (t.count (n+((nm.length / 50:Nat):Int))))
def Ex.countL:List Ex→Int→Int
 | [],n=>n
 | e::es,n=>if n≤2000 then Ex.countL es (e.count n) else n
end
theorem Ex.count_eq (e:Ex)(n:Int):e.count n=Ex.countL e.kids (Ty.countL e.targs (e.type.count (n+((e.name.length / 50:Nat):Int)))):=by cases e;rfl
mutual
theorem Ex.count_bd:∀ (e:Ex)(n:Int),e.Ok→n≤e.count n∧e.count n≤max n 2000+6000000000000
 | .mk k nm t ta ks p,n,h=>by
  have h1:=div50_le h.name
  have h2:=Ty.count_bd t (n+((nm.length / 50:Nat):Int)) h.type
  have h3:=Ty.countL_bd ta (t.count (n+((nm.length / 50:Nat):Int))) h.targs.2
  have h4:=Ex.countL_bd ks (Ty.countL ta (t.count (n+((nm.length / 50:Nat):Int)))) h.kids.2
  have h1':((nm.length / 50:Nat):Int)≤2814749767106:=by simp only [Ex.name] at h1;omega
  simp only [Ex.count]
  have h0:0≤((nm.length / 50:Nat):Int):=by omega
  generalize ((nm.length / 50:Nat):Int)=q at *
  omega
theorem Ex.countL_bd:∀ (l:List Ex)(n:Int),(∀ t,t∈l→t.Ok)→n≤Ex.countL l n∧Ex.countL l n≤max n (2000+6000000000000)
 | [],n,_=>by simp only [Ex.countL];omega
 | t::ts,n,h=>by
  simp only [Ex.countL]
  split
  ·have h1:=Ex.count_bd t n (h t (by simp))
   have h2:=Ex.countL_bd ts (t.count n) (fun u hu=>h u (by simp [hu]))
   omega
  ·omega
end
def foCount:List Formal→Int→Int
 | [],n=>n
 | f::fs,n=>if n≤2000 then foCount fs (f.bound.count (n+1+((f.name.length / 50:Nat):Int))) else n
def paCount:List Param→Int→Int
 | [],n=>n
 | f::fs,n=>if n≤2000 then paCount fs (f.type.count (n+1+((f.name.length / 50:Nat):Int))) else n
theorem fo1_bd (f:Formal)(n:Int)(h:f.Ok):n≤f.bound.count (n+1+((f.name.length / 50:Nat):Int))∧f.bound.count (n+1+((f.name.length / 50:Nat):Int))≤max n 2000+6000000000000:=by
 have h1:=div50_le h.name
 have h2:=Ty.count_bd f.bound (n+1+((f.name.length / 50:Nat):Int)) h.bound
 omega
theorem pa1_bd (f:Param)(n:Int)(h:f.Ok):n≤f.type.count (n+1+((f.name.length / 50:Nat):Int))∧f.type.count (n+1+((f.name.length / 50:Nat):Int))≤max n 2000+6000000000000:=by
 have h1:=div50_le h.name
 have h2:=Ty.count_bd f.type (n+1+((f.name.length / 50:Nat):Int)) h.type
 omega
theorem foCount_bd:∀ (l:List Formal)(n:Int),(∀ t,t∈l→t.Ok)→n≤foCount l n∧foCount l n≤max n (2000+6000000000000)
 | [],n,_=>by simp only [foCount];omega
 | t::ts,n,h=>by
  simp only [foCount]
  split
  ·have h1:=fo1_bd t n (h t (by simp))
   have h2:=foCount_bd ts (t.bound.count (n+1+((t.name.length / 50:Nat):Int))) (fun u hu=>h u (by simp [hu]))
   omega
  ·omega
theorem paCount_bd:∀ (l:List Param)(n:Int),(∀ t,t∈l→t.Ok)→n≤paCount l n∧paCount l n≤max n (2000+6000000000000)
 | [],n,_=>by simp only [paCount];omega
 | t::ts,n,h=>by
  simp only [paCount]
  split
  ·have h1:=pa1_bd t n (h t (by simp))
   have h2:=paCount_bd ts (t.type.count (n+1+((t.name.length / 50:Nat):Int))) (fun u hu=>h u (by simp [hu]))
   omega
  ·omega
def Sig.count (s:Sig)(n:Int):Int:=s.result.count (paCount s.params (foCount s.formals (n+((s.name.length / 50:Nat):Int))))
theorem Sig.count_bd (s:Sig)(n:Int)(h:s.Ok):n≤s.count n∧s.count n≤max n 2000+10000000000000:=by
 have h1:=div50_le h.name
 have h2:=foCount_bd s.formals (n+((s.name.length / 50:Nat):Int)) h.formals.2
 have h3:=paCount_bd s.params (foCount s.formals (n+((s.name.length / 50:Nat):Int))) h.params.2
 have h4:=Ty.count_bd s.result (paCount s.params (foCount s.formals (n+((s.name.length / 50:Nat):Int)))) h.result
 unfold Sig.count
 omega
def vaCount:List Str→Int→Int
 | [],n=>n
 | v::vs,n=>if n≤2000 then vaCount vs (n+1+((v.length / 50:Nat):Int)) else n
def siCount:List Sig→Int→Int
 | [],n=>n
 | s::ss,n=>if n≤2000 then siCount ss (s.count n) else n
def Decl.count2 (d:Decl)(n:Int):Int:=if n≤2000 then d.body.count (d.sig.count n) else n
def Decl.count (d:Decl)(n:Int):Int :=
 d.count2 (vaCount d.vars (siCount d.sigs (paCount d.fields (foCount d.formals (n+1+((d.name.length / 50:Nat):Int)+((d.recv.length / 50:Nat):Int))))))
def deCount:List Decl→Int→Int
 | [],n=>n
 | d::ds,n=>if n≤2000 then deCount ds (d.count n) else n
def Prog.count (p:Prog):Int:=deCount p.decls (p.main.count 0)
theorem vaCount_bd:∀ (l:List Str)(n:Int),(∀ t,t∈l→t.length≤lim)→n≤vaCount l n∧vaCount l n≤max n (2000+6000000000000)
 | [],n,_=>by simp only [vaCount];omega
 | t::ts,n,h=>by
  simp only [vaCount]
  split
  ·have h1:=div50_le (h t (by simp))
   have h2:=vaCount_bd ts (n+1+((t.length / 50:Nat):Int)) (fun u hu=>h u (by simp [hu]))
   omega
  ·omega
theorem siCount_bd:∀ (l:List Sig)(n:Int),(∀ t,t∈l→t.Ok)→n≤siCount l n∧siCount l n≤max n (2000+10000000000000)
 | [],n,_=>by simp only [siCount];omega
 | t::ts,n,h=>by
  simp only [siCount]
  split
  ·have h1:=Sig.count_bd t n (h t (by simp))
   have h2:=siCount_bd ts (t.count n) (fun u hu=>h u (by simp [hu]))
   omega
  ·omega
theorem Decl.count2_bd (d:Decl)(n:Int)(h:d.Ok):n≤d.count2 n∧d.count2 n≤max n (2000+20000000000000):=by
 have h1:=Sig.count_bd d.sig n h.sig
 have h2:=Ex.count_bd d.body (d.sig.count n) h.body
 unfold Decl.count2
 split <;> omega
theorem Decl.count_bd (d:Decl)(n:Int)(h:d.Ok):n≤d.count n∧d.count n≤max n 2000+30000000000000:=by
 have h1:=div50_le h.name
 have h2:=div50_le h.recv
 unfold Decl.count
 generalize hq:n+1+((d.name.length / 50:Nat):Int)+((d.recv.length / 50:Nat):Int)=n0
 have h3:=foCount_bd d.formals n0 h.formals.2
 have h4:=paCount_bd d.fields (foCount d.formals n0) h.fields.2
 have h5:=siCount_bd d.sigs (paCount d.fields (foCount d.formals n0)) h.sigs.2
 have h6:=vaCount_bd d.vars (siCount d.sigs (paCount d.fields (foCount d.formals n0))) h.vars.2
 have h7:=Decl.count2_bd d (vaCount d.vars (siCount d.sigs (paCount d.fields (foCount d.formals n0)))) h
 omega
theorem Prog.count_bd (p:Prog)(h:p.Ok):0≤p.count:=by
 have h1:=(Ex.count_bd p.main 0 h.main).1
 have h2:∀ (l:List Decl) (n:Int),(∀ d,d∈l→d.Ok)→n≤deCount l n:=by
  intro l
  induction l with
  | nil=>intro n _;simp [deCount]
  | cons d l ih =>
   intro n hl
   simp only [deCount]
   split
   ·have h3:=Decl.count_bd d n (hl d (by simp))
    have h4:=ih (d.count n) (fun u hu=>hl u (by simp [hu]))
    omega
   ·omega
 have h3:=h2 p.decls (p.main.count 0) h.decls.2
 unfold Prog.count
 omega
def Decl.isT (d:Decl)(nm:Str):Bool:=(decide (d.kind=1) || decide (d.kind=2)) && decide (d.name=nm)
def kindOf (p:Prog)(nm:Str):Int:=match p.decls.find? (fun d=>d.isT nm) with
 | some d=>d.kind
 | none=>0
def cmpS:Str→Str→Int
 | [],[]=>0
 | [],_::_=>-1
 | _::_,[]=>1
 | x::xs,y::ys=>if x < y then -1 else if y < x then 1 else cmpS xs ys
abbrev q2z:List Nat:=[0,1,4,5,15,24,31,36,41]
theorem ok_Compare (a b:Str):CallOK prog 28 [strV a,strV b] (intV (cmpS a b)):=by
 refine CallB.bd (Enters.of func28 rfl (by decide)) fun hbd=>?_
 have hla:=str_bd hbd.1
 have hlb:=str_bd hbd.2.1
 refine cB func28 ?_
 refine sR q2z ?_
 refine sK fun K1 u1=>?_
 have fin:∀ sl bx,sle sl [(0,strV a),(1,strV b)]→(cmpS a b=if (a.length:Int) < b.length then -1 else if (b.length:Int) < a.length then 1 else 0)→K1 sl bx:=by
  intro sl bx hsl hc
  refine u1 _ _ (AWp.weaken (bx':=[]) hsl trivial ?_)
  clear u1 K1
  refine sK fun K1 u1=>?_
  by_cases h1:(a.length:Int) < b.length
  ·refine sR1 h1 q2z ?_
   refine AWp.condT rfl ?_
   refine sR q2z ?_
   rw [hc,if_pos h1]
   exact aR
  ·refine sR1 h1 q2z ?_
   refine AWp.condF rfl (AWp.skip (u1 _ _ ?_))
   clear u1 K1
   refine sK fun K1 u1=>?_
   by_cases h2:(b.length:Int) < a.length
   ·refine sR1 h2 q2z ?_
    refine AWp.condT rfl ?_
    refine sR q2z ?_
    rw [hc,if_neg h1,if_pos h2]
    exact aR
   ·refine sR1 h2 q2z ?_
    refine AWp.condF rfl (AWp.skip (u1 _ _ ?_))
    clear u1 K1
    refine sR q2z ?_
    rw [hc,if_neg h1,if_neg h2]
    exact aR
 refine sR q2z ?_
 refine AWp.block (AWp.loop (X:=Nat) (fun x=>[(5,intV x),(0,strV a),(1,strV b)]) (fun _=>[])
  (fun x=>x≤a.length∧x≤b.length∧cmpS (a.drop x) (b.drop x)=cmpS a b) (fun x=>a.length - x) 0 ?_ ?_ ?_ ?_)
 ·exact⟨by simp,by simp,rfl⟩
 ·exact sS
 ·exact sB
 rintro j ⟨hj,hj2,heq⟩
 by_cases hlt:(j:Int) < (a.length:Int)
 ·by_cases hlt2:(j:Int) < (b.length:Int)
  ·have hlt':j < a.length:=by omega
   have hlt2':j < b.length:=by omega
   have hx:a[j]? = some a[j]:=List.getElem?_eq_getElem hlt'
   have hy:b[j]? = some b[j]:=List.getElem?_eq_getElem hlt2'
   rw [List.drop_eq_getElem_cons hlt',List.drop_eq_getElem_cons hlt2',cmpS] at heq
   generalize a[j]=x at *
   generalize b[j]=y at *
   refine kR2 hlt hlt2 q2z fun K2 u2=>?_
   refine AWp.condT rfl (AWp.skip (u2 _ _ ?_))
   clear u2 K2
   refine sK fun K2 u2=>?_
   refine AWp.block ?_
   refine sK fun K3 u3=>?_
   (refine sG q2z [] 6 [] fun K hK=>?_;refine ev ?_)
   refine⟨by omega,x,hx,by omega,y,hy,?_⟩
   (apply hK;clear hK K)
   have e1:∀ u v:UInt8,(u.toNat:Int) < v.toNat↔u < v:=fun u v=>by rw [UInt8.lt_iff_toNat_lt];omega
   simp only [e1]
   by_cases hxy:x < y
   ·rw [if_pos hxy] at heq
    refine AWp.condT (by simp [opnd,sget,hxy]) ?_
    refine sR q2z ?_
    rw [← heq]
    exact aR
   ·rw [if_neg hxy] at heq
    refine AWp.condF (by simp [opnd,sget,hxy]) (AWp.skip ?_)
    simp only [thenA,]
    refine u3 _ _ ?_
    clear u3 K3
    (refine sG q2z [] 6 [] fun K hK=>?_;refine ev ?_)
    refine⟨by omega,x,hx,by omega,y,hy,?_⟩
    (apply hK;clear hK K)
    simp only [e1]
    by_cases hyx:y < x
    ·rw [if_pos hyx] at heq
     refine AWp.condT (by simp [opnd,sget,hyx]) ?_
     refine sR q2z ?_
     rw [← heq]
     exact aR
    ·rw [if_neg hyx] at heq
     refine AWp.condF (by simp [opnd,sget,hyx]) (AWp.skip ?_)
     simp only [thenA,blockA]
     refine u2 _ _ ?_
     clear u2 K2
     (refine lQ q2z fun K hK=>?_;refine ev ?_)
     refine⟨by unfold InR;unfold lim at *;omega,?_⟩
     (apply hK;clear hK K;try simp only [thenA,])
     exact⟨j+1,⟨by omega,by omega,heq⟩,by omega,by simp [sle,vle,sget],sB⟩
  ·refine kR2 hlt hlt2 q2z fun K2 u2=>?_
   refine AWp.condF rfl (AWp.exit ?_)
   simp only [thenA,blockA,if_true]
   have hd:b.drop j=[]:=List.drop_eq_nil_of_le (by omega)
   rw [hd,List.drop_eq_getElem_cons (show j < a.length by omega),cmpS] at heq
   exact fin _ _ sS (by rw [← heq,if_neg (by omega),if_pos (by omega)])
 ·refine kR1 hlt q2z fun K2 u2=>?_
  refine AWp.condF rfl (AWp.exit ?_)
  simp only [thenA,blockA,if_true]
  have hd:a.drop j=[]:=List.drop_eq_nil_of_le (by omega)
  rw [hd] at heq
  refine fin _ _ sS ?_
  rw [← heq]
  by_cases hb:j < b.length
  ·rw [List.drop_eq_getElem_cons hb,cmpS,if_pos (by omega)]
  ·rw [List.drop_eq_nil_of_le (by omega),cmpS,if_neg (by omega),if_neg (by omega)]
def ins (s:Str):List Str→List Str
 | []=>[s]
 | x::xs=>if cmpS s x < 0 then s::x::xs else x::ins s xs
def putS (l:List Str)(s:Str):List Str:=if s∈l then l else ins s l
end Go.Abs
