/- instance.Methods -/
import Derived.Test.YtaneedhchnaniaaGreatDoorQW22
import Derived.Test.YtaneedhchnaniaaGreatDoorQW16
namespace Go.Abs
set_option maxHeartbeats 1000000
set_option linter.unusedSimpArgs false
set_option linter.unusedVariables false
open Go Go.Proofs Tryz
set_option maxRecDepth 100000
set_option maxHeartbeats 4000000
def callsX (p:Prog)(cs:List CallT)(x:Ty):List CallT:=(cs.filter fun c=>implB p [] x c.on).map fun c=>⟨x,c.name,c.targs⟩
theorem callsX_len (p:Prog)(cs:List CallT)(x:Ty):(callsX p cs x).length≤cs.length:=by
 unfold callsX;rw [List.length_map];exact List.length_filter_le _ _
theorem callsX_take {p:Prog} {cs:List CallT} {x:Ty} {j:Nat} {c:CallT} (h:cs[j]? = some c):callsX p (cs.take (j+1)) x=callsX p (cs.take j) x++(if implB p [] x c.on=true then [⟨x,c.name,c.targs⟩] else []):=by
 unfold callsX
 rw [List.take_add_one,h]
 simp only [Option.toList_some,List.filter_append,List.map_append]
 congr 1
 by_cases hb:implB p [] x c.on=true <;> simp [hb]
theorem callsX_Sm {p:Prog} {cs:List CallT} {x:Ty} (hx:x.Sm)(hc:∀ c,c∈cs→c.Sm):∀ c,c∈callsX p cs x→c.Sm:=fun c h=>by
 obtain⟨d,hd,rfl⟩:=List.mem_map.1 h
 have:=hc d (List.mem_filter.1 hd).1
 exact⟨hx,this.name,this.targs⟩
abbrev q1Yx:List Nat:=[0,1,2,3,4,5,6,7,8,10,14,15,16,17,24]
theorem ok_Methods (p:Prog)(h:p.Sm)(ts:List Ty)(cs:List CallT)(hcl:cs.length≤sm)(hcs:∀ c,c∈cs→c.Sm)(x:Ty)(hx:x.Sm) :
  CallP prog 21 [prV p,insV ts cs,tyV x] fun r=>∃ l':List CallT,l'.Perm (callsX p cs x)∧l'.Pairwise (fun a b=>cmpC a b≤0)∧r=.d (.slice (caR (compC l'))):=by
 have hn:=ok_New p h
 have hcn:=ok_Clone x hx
 (refine CallP.of_body func21 rfl (by decide) (by rw [ntmps21];simp) ?_;rw [ntmps21])
 refine sR q1Yx ?_
 refine sC hn q1Yx ?_
 refine sR q1Yx ?_
 refine AWp.promote 8 5 8 rfl ?_
 refine sK fun K1 u1=>?_
 (refine sQ q1Yx fun K z=>?_;simp -implicitDefEqProofs only [EV,forall_const,implies_true,Nat.reduceAdd,Nat.reduceEqDiff,Nat.reduceBEq,Nat.reduceLeDiff,Nat.reduceSub,Nat.reduceMul,Int.reduceEq,Int.reduceLT,Int.reduceLE,Int.reduceSub,Int.reduceAdd,Int.reduceToNat,reduceCtorEq,Int.reduceNeg,TF3,TF4,TF9,TF22,TF24,TF31,TF34,TF36,TF43,caR_len];apply z;clear z K)
 refine AWp.block (AWp.forIdx cs (X:=Unit) (fun j _=>[(5,.box 5 0),(7,.dptr (tabC p) 0),(8,.acc 8),(14,.d (.slice (caR cs))),(15,intV cs.length),(16,intV j)])
  (fun j _=>[(5,.cells (tyS x)),(8,.rows 5 (caR (callsX p (cs.take j) x)))])
  (fun _ _=>True) () trivial sS (by simp [ble,bget,callsX,caR]) ?_ ?_)
 rotate_left
 ·intro j _ c hd hmem dp tk hlt _
  have hc:=hcs c hmem
  have him:=ok_Implements p h [] (by simp) (by simp) x c.on hx hc.on
  simp only [show foR ([]:List Formal)=[] from rfl] at him
  have hal:=ok_All id [] [] c.targs hc.targs.1 fun t ht=>by
   have:=ok_Subst [] [] (by simp) t (hc.targs.2 t ht)
   rw [subst_nil] at this;exact this
  rw [List.map_id] at hal
  have e2:=callsX_take (p:=p) (x:=x) hd
  have e3:=callsX_len p (cs.take j) x
  have e4:(cs.take j).length≤sm:=by rw [List.length_take];omega
  have e5:(caR (callsX p (cs.take j) x)).length=(callsX p (cs.take j) x).length:=caR_len _
  refine sR1 hlt q1Yx ?_
  refine AWp.goOn rfl ?_
  refine sK fun K2 u2=>?_
  refine AWp.block ?_
  (refine sQ q1Yx fun K z=>?_;simp -implicitDefEqProofs only [EV,forall_const,implies_true,Nat.reduceAdd,Nat.reduceEqDiff,Nat.reduceBEq,Nat.reduceLeDiff,Nat.reduceSub,Nat.reduceMul,Int.reduceEq,Int.reduceLT,Int.reduceLE,Int.reduceSub,Int.reduceAdd,Int.reduceToNat,reduceCtorEq,Int.reduceNeg,TF3,TF4,TF9,TF22,TF24,TF31,TF34,TF36,TF43,caC];refine⟨by omega,_,caR_get hd,rfl,?_⟩;(try simp -implicitDefEqProofs only [EV,forall_const,implies_true,Nat.reduceAdd,Nat.reduceEqDiff,Nat.reduceBEq,Nat.reduceLeDiff,Nat.reduceSub,Nat.reduceMul,Int.reduceEq,Int.reduceLT,Int.reduceLE,Int.reduceSub,Int.reduceAdd,Int.reduceToNat,reduceCtorEq,Int.reduceNeg,TF3,TF4,TF9,TF22,TF24,TF31,TF34,TF36,TF43,caC]);apply z;clear z K)
  cases hb:implB p [] x c.on with
  | false =>
   rw [hb] at him
   rw [hb,if_neg (by simp),List.append_nil] at e2
   refine sC him q1Yx ?_
   refine AWp.condF rfl (AWp.skip (u2 _ _ ?_))
   clear u2 K2
   (refine lV q1Yx fun K z=>?_;refine cl ?_;apply z;clear z K;try simp only [thenA,blockA,if_true])
   exact⟨(),trivial,sS,by simp [ble,bget,e2]⟩
  | true =>
   rw [hb] at him
   rw [hb,if_pos rfl] at e2
   refine sC him q1Yx ?_
   refine AWp.condT rfl ?_
   generalize hM:caR (callsX p (cs.take j) x)=MR at *
   have e6:caR (callsX p (cs.take (j+1)) x)=MR++[caC ⟨x,c.name,c.targs⟩]:=by rw [e2,← hM];simp [caR]
   (refine lG q1Yx [] 10 [] fun K z=>?_;refine ev ?_;refine cc hcn ?_;refine cc hal ?_;refine⟨by simp,by (try simp only [e5]);unfold lim sm at *;omega,?_⟩;(try refine ev ?_);apply z;clear z K;try simp only [thenA,blockA,if_true])
   refine u2 _ _ ?_
   clear u2 K2
   (refine lV q1Yx fun K z=>?_;refine cl ?_;apply z;clear z K;try simp only [thenA,blockA,if_true])
   exact⟨(),trivial,sS,by simp [ble,bget,e6,caC]⟩
 intro _ _
 rw [List.take_length]
 refine sR1 Int.lt_irrefl q1Yx ?_
 refine AWp.stop rfl ?_
 simp only [thenA,blockA,if_true]
 refine u1 _ _ ?_
 clear u1 K1
 have hml:(callsX p cs x).length≤sm:=Nat.le_trans (callsX_len p cs x) hcl
 have hms:=callsX_Sm (p:=p) hx hcs
 generalize callsX p cs x=ml at *
 refine AWp.seqCP [8] [] 1 _ rfl rfl (by decide +kernel) fun K hK=>?_
 simp only [List.take_succ_cons,List.take_zero,List.drop_succ_cons,List.drop_zero]
 refine ev ?_
 refine⟨_,opP_sortC 8 ml rfl rfl rfl rfl hml hms,?_⟩
 rintro r bx2 ⟨rfl,l',hp,hs,rfl⟩
 simp only [List.getElem_toArray,List.getElem_cons_succ,List.getElem_cons_zero]
 refine ev ?_
 refine hK _ _ ?_
 clear hK K
 have hl':l'.length≤sm:=by rw [hp.length_eq];exact hml
 have hs':∀ c,c∈l'→c.Sm:=fun c hc=>hms c (hp.mem_iff.1 hc)
 refine AWp.seqCP [6] [] 1 _ rfl rfl (by decide +kernel) fun K hK=>?_
 simp only [List.take_succ_cons,List.take_zero,List.drop_succ_cons,List.drop_zero]
 refine ev ?_
 refine⟨_,opP_compactC 8 l' rfl rfl rfl hl' hs',?_⟩
 rintro r bx2 ⟨rfl,rfl⟩
 simp only [List.getElem_toArray,List.getElem_cons_succ,List.getElem_cons_zero]
 refine ev ?_
 refine hK _ _ ?_
 clear hK K
 exact AWp.ret ⟨_,_,by rw [results21];rfl,rfl,l',hp,hs,rfl⟩
end Go.Abs
