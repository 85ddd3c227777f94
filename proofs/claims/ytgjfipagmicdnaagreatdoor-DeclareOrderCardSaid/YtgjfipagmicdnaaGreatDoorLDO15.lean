/- in a program all of whose heads are in order, types have different names, and no struct is recursive -/
import Derived.Test.YtgjfipagmicdnaaGreatDoorLC15
import Derived.Test.YtgjfipagmicdnaaGreatDoorLS78
namespace Go.Proofs.YtgjfipagmicdnaaGreatDoor
set_option maxRecDepth 100000
set_option maxHeartbeats 1000000
open Go Go.ChangeShapes Go.WideShapes Go.ChangeAt Go.RowKit Go.Abs
set_option linter.unusedVariables false
theorem lifted_declareOrder (os:Os)(started:os.Started)(H:Type)(enc:TypeId × Value→H) :
  ReturnsInHanded {} Tryz.checked os 6 .any (fun w args=>(Rows.declareOrderSpec.pre enc Tryz.prog Tryz.f6 Rows.declareOrderRow.domain false w args∧laidMetH Tryz.prog Rows.declareOrderRow.laid w)∧sizedMet enc Tryz.prog Tryz.f6 (OpenSpec.ofChange Rows.declareOrderSpec) false w args)
   (Rows.declareOrderSpec.post enc Tryz.prog Tryz.f6 false true false false):=by
 refine returnsInHanded_of_change_and (C:=Tryz.checked) (X:=fun w _=>laidMetH Tryz.prog Rows.declareOrderRow.laid w) (fun _ _ _ hh h=>laidMetH.of_heap hh h) own started (by kernel_rfl) Tryz.func6
  (ChangeSpec.witness_at (enc:=enc) (C:=Tryz.checked) (os:=os) (X:=fun w _=>laidMetH Tryz.prog Rows.declareOrderRow.laid w) false (laidWorld os) #[.agg #[.slice none 0 0,.int .i64 0,.string ⟨#[]⟩,.string ⟨#[]⟩,.slice none 0 0,.int .i64 0,.slice none 0 0,.slice none 0 0,.int .i64 0]] 8 rfl (by kernel_rfl) (by kernel_rfl) (by kernel_rfl) (by kernel_rfl) (by kernel_rfl) (laidWorld_met os _)) ?_
 intro W base args ds gs before hval0 hW hcnd hsz hL _
 have hval:∀ (j:Nat) t v,Tryz.f6.params[j]? = some t→args[j]? = some v→Value.okWide Tryz.prog W .any base t v:=hval0
 have hW1:=hW
 obtain⟨p,q,hA0,hV,rfl,hfz,hnd⟩:=hW
 have hA:DataW.TrodAll enc Tryz.prog W 0 (fun _=>true) true Tryz.f6.params.toList args.toList ds p:=hA0
 rw [Tryz.params6] at hA hval
 obtain⟨v0,d0,rfl,rfl,h0⟩:=trodAll_one hA
 obtain⟨rfl,rfl⟩:=trodVars_none hV
 have w0:=weights_one (t0:=30) hsz
 obtain⟨x0,r0⟩:=arg_pr (hval 0 30 v0 rfl rfl) h0 w0 noNames
 refine (law_calls (vs:=[v0]) (law15_order ok_awake15 x0) (.cons r0 .nil) (fixed_of_laid hL)).mono fun e W2 ⟨he,bel⟩=>?_
 subst he
 exact⟨_,rfl,_,_,_,[],_,[],hW1,trodAll_mk1 (shut_bool Tryz.underlying4 _),trodAll_mk1 (Below.trod laidOut (by kernel_rfl) (of_decide_eq_true (by kernel_rfl)) h0 bel (trod_block h0)),rfl,bel.frame _,fun h=>by cases h⟩
theorem k0:Tryz.pinned.checked.prog.funcNamed Rows.declareOrderRow.func=some 6:=by kernel_rfl
theorem k1:joinedFacts Tryz.prog 6 Tryz.f6 Rows.declareOrderSpec Rows.declareOrderRow=true:=by kernel_rfl
theorem k2:Tryz.f6.isInstance Tryz.pinned.checked.prog Rows.declareOrderRow.origin Rows.declareOrderRow.targs:=of_decide_eq_true (by kernel_rfl)
theorem k3:Tryz.f6.isWrapper Tryz.pinned.checked.prog Rows.declareOrderRow.wrapper Rows.declareOrderRow.mainSum:=by unfold Func.isWrapper;first | (rw [if_pos (by decide +kernel)];kernel_rfl) | (rw [if_neg (by decide +kernel)];exact⟨rfl,rfl⟩)
theorem k4:Rows.DeclareOrderSaid :=
 OpenClaim.holds_of_wide 6 Tryz.f6 rfl rfl rfl rfl rfl rfl rfl ⟨rfl,rfl,rfl,rfl,rfl⟩ rfl rfl rfl rfl rfl k0 Tryz.func6 k1
  k2 k3
  (fun os started H enc _=>lifted_declareOrder os started H enc)
theorem declareOrder_holds:Rows.DeclareOrderCardSaid :=
 Claim7.holds_tied_plain_at .later [] [.data,.data,.data,.handle] true (true, "b0f8e2415bef163697b2759f9318434c753b2d386eac631484c292eb3db186ae") true
  k4 (fun _ h=>by cases h) (by kernel_rfl) (fun _ h=>by cases h) declareOrder_row_tie rfl ⟨rfl,rfl⟩ (by kernel_rfl) rfl
  (fun f fn hf hfn=>by
   obtain rfl:f=6:=Option.some.inj ((show Tryz.prog.funcNamed "castings/castingslaw15.DeclareOrder" = some 6 by kernel_rfl).symm.trans hf) |>.symm
   obtain rfl:fn=Tryz.f6:=(Option.some.inj (Tryz.func6.symm.trans hfn)).symm
   exact⟨by kernel_rfl,fun j t ht=>by
    rw [Tryz.params6] at ht
    have hm:t∈[30]:=List.mem_of_getElem? (i:=j) (by simpa using ht)
    simp only [List.mem_cons,List.not_mem_nil,or_false] at hm
    rcases hm with rfl
    ·exact (show Tryz.prog.wantsStandIn 30=false by kernel_rfl)⟩)
  (by kernel_rfl)
end Go.Proofs.YtgjfipagmicdnaaGreatDoor
