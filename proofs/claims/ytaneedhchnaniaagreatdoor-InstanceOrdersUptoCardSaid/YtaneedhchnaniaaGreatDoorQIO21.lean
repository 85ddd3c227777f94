/- calls are compared as in the reference implementation, and a type is in a set exactly if one of its types is the same; for inputs of bulk at most 1048576 -/
import Derived.Test.YtaneedhchnaniaaGreatDoorQC21
namespace Go.Proofs.YtaneedhchnaniaaGreatDoor
set_option maxRecDepth 100000
set_option maxHeartbeats 1000000
open Go Go.ChangeShapes Go.WideShapes Go.ChangeAt Go.RowKit Go.Abs
set_option linter.unusedVariables false
theorem reads_instanceOrders (os:Os) {H:Type} (enc:TypeId × Value→H):∃ places,DataW.whole enc Tryz.prog ((laidWorld os).forCall (fun _ _=>0) ⟨#[],#[.agg #[.string ⟨#[]⟩,.slice none 0 0,.int .i64 0,.string ⟨#[]⟩,.slice none 0 0],.agg #[.string ⟨#[]⟩,.slice none 0 0,.int .i64 0,.string ⟨#[]⟩,.slice none 0 0],.slice none 0 0,.agg #[.string ⟨#[]⟩,.slice none 0 0,.int .i64 0]],[]⟩).memory Tryz.f3.params.toList Rows.instanceOrdersSpec.vars false (#[.agg #[.string ⟨#[]⟩,.slice none 0 0,.int .i64 0,.string ⟨#[]⟩,.slice none 0 0],.agg #[.string ⟨#[]⟩,.slice none 0 0,.int .i64 0,.string ⟨#[]⟩,.slice none 0 0],.slice none 0 0,.agg #[.string ⟨#[]⟩,.slice none 0 0,.int .i64 0]]:Array Value).toList 8=some ([.agg [.agg [.lit (.string []),.nil,.lit (.int .i64 0)],.lit (.string []),.nil],.agg [.agg [.lit (.string []),.nil,.lit (.int .i64 0)],.lit (.string []),.nil],.nil,.agg [.lit (.string []),.nil,.lit (.int .i64 0)]],[],places):=⟨[],by kernel_rfl⟩
theorem lifted_instanceOrders (os:Os)(started:os.Started)(H:Type)(enc:TypeId × Value→H)(F:Stop.Interp) :
  ReturnsInHanded {} Tryz.checked os 3 .any ((Rows.OpenSpec.upto Rows.instanceOrdersSpec).preRow enc Tryz.prog Tryz.f3 Rows.instanceOrdersUptoRow.domain false Rows.instanceOrdersUptoRow.laid)
   (((Rows.OpenSpec.upto Rows.instanceOrdersSpec).at F).post enc Tryz.prog Tryz.f3 false true false false):=by
 obtain⟨places,hx⟩:=reads_instanceOrders os enc
 refine returnsInHanded_of_row (C:=Tryz.checked) (s:=Rows.OpenSpec.upto Rows.instanceOrdersSpec) own started (by kernel_rfl) Tryz.func3
  (witness_row_at (enc:=enc) (C:=Tryz.checked) false (laidWorld os) #[.agg #[.string ⟨#[]⟩,.slice none 0 0,.int .i64 0,.string ⟨#[]⟩,.slice none 0 0],.agg #[.string ⟨#[]⟩,.slice none 0 0,.int .i64 0,.string ⟨#[]⟩,.slice none 0 0],.slice none 0 0,.agg #[.string ⟨#[]⟩,.slice none 0 0,.int .i64 0]] rfl (by kernel_rfl) (by kernel_rfl) (by kernel_rfl)
   (OpenSpec.preRow_of_cond 8 hx (by kernel_rfl) (fun k hk=>by cases hk;kernel_rfl) (by kernel_rfl) (laidWorld_met os _))) ?_
 intro W base args ds gs before hval0 hW _ hcond hsz hL _ _
 have hbk0:=hcond _ rfl
 have key:Calls Tryz.prog 3 args W fun e W2=>∃ v,e=.returned v∧Rows.instanceOrdersSpec.post enc Tryz.prog Tryz.f3 false true false false W args v W2:=by
  clear hcond
  have hval:∀ (j:Nat) t v,Tryz.f3.params[j]? = some t→args[j]? = some v→Value.okWide Tryz.prog W .any base t v:=hval0
  have hW1:=hW
  obtain⟨p,q,hA0,hV,rfl,hfz,hnd⟩:=hW
  have hA:DataW.TrodAll enc Tryz.prog W 0 (fun _=>true) true Tryz.f3.params.toList args.toList ds p:=hA0
  rw [Tryz.params3] at hA hval
  obtain⟨v0,v1,v2,v3,d0,d1,d2,d3,p0,p1,p2,p3,rfl,rfl,rfl,h0,h1,h2,h3⟩:=trodAll_four hA
  obtain⟨rfl,rfl⟩:=trodVars_none hV
  have hbk:=hbk0
  rw [List.append_nil] at hbk
  obtain⟨w0,w1,w2,w3⟩:=weights_four (t0:=26) (t1:=26) (t2:=22) (t3:=24) hsz
  obtain⟨x0,r0,g0⟩:=arg_ca (hval 0 26 v0 rfl rfl) h0 w0 noNames
  obtain⟨x1,r1,g1⟩:=arg_ca (hval 1 26 v1 rfl rfl) h1 w1 noNames
  obtain⟨x2,r2⟩:=arg_tys (hval 2 22 v2 rfl rfl) h2 w2 noNames
  obtain⟨x3,r3⟩:=arg_ty (hval 3 24 v3 rfl rfl) h3 w3 noNames
  obtain⟨_,_,hfx⟩:=fixed_of_laid hL
  refine (law_calls (vs:=[v0,v1,v2,v3]) (law21_orders x0 x1 x2 x3 (by have:=bulk_bound hbk;simp only [Rows.uptoBulkAll] at this;unfold lim;omega)) (.cons r0 (.cons r1 (.cons r2 (.cons r3 .nil)))) hfx).mono fun e W2 ⟨he,bel⟩=>?_
  subst he
  exact⟨_,rfl,_,_,_,[],_,[],hW1,trodAll_mk1 (shut_bool Tryz.underlying4 _),trodAll_mk4 (Below.trod laidOut (by kernel_rfl) (of_decide_eq_true (by kernel_rfl)) h0 bel (trod_block h0)) (Below.trod laidOut (by kernel_rfl) (of_decide_eq_true (by kernel_rfl)) h1 bel (trod_block h1)) (Below.trod laidOut (by kernel_rfl) (of_decide_eq_true (by kernel_rfl)) h2 bel (trod_block h2)) (Below.trod laidOut (by kernel_rfl) (of_decide_eq_true (by kernel_rfl)) h3 bel (trod_block h3)),rfl,bel.frame _,fun h=>by cases h⟩
 exact key
theorem k0:Tryz.pinned.checked.prog.funcNamed Rows.instanceOrdersUptoRow.func=some 3:=by kernel_rfl
theorem instanceOrders_cinPlace:(Rows.instanceOrdersUptoRow.inPlace == Tryz.prog.inPlace 3)=true:=by kernel_rfl
theorem instanceOrders_cunfollowed:(Rows.instanceOrdersUptoRow.unfollowed == Tryz.prog.unfollowed 3)=true:=by kernel_rfl
theorem instanceOrders_crecurses:(Rows.instanceOrdersUptoRow.recurses == Tryz.prog.recurses 3)=true:=by kernel_rfl
theorem instanceOrders_cnamed:(Rows.instanceOrdersUptoRow.named == Tryz.prog.varsNamed 3)=true:=by kernel_rfl
theorem k1:joinedFacts Tryz.prog 3 Tryz.f3 Rows.instanceOrdersSpec Rows.instanceOrdersUptoRow=true:=by
 unfold joinedFacts
 rw [instanceOrders_cinPlace,instanceOrders_cunfollowed,instanceOrders_crecurses,instanceOrders_cnamed,laidOut,f_maps,f_heard,f_enter,f_lifts,f_make]
 kernel_rfl
theorem instanceOrders_wfT:Rows.instanceOrdersUptoRow.wfByText (Rows.OpenSpec.upto Rows.instanceOrdersSpec)=true:=by kernel_rfl
theorem instanceOrders_looks:true=Tryz.prog.looks []:=by kernel_rfl
theorem instanceOrders_goes:false=Rows.instanceOrdersUptoRow.goesBy Tryz.prog:=goes_row rfl
theorem k2:Tryz.f3.isInstance Tryz.pinned.checked.prog Rows.instanceOrdersUptoRow.origin Rows.instanceOrdersUptoRow.targs:=of_decide_eq_true (by kernel_rfl)
theorem k3:Tryz.f3.isWrapper Tryz.pinned.checked.prog Rows.instanceOrdersUptoRow.wrapper Rows.instanceOrdersUptoRow.mainSum:=by unfold Func.isWrapper;first | (rw [if_pos (by decide +kernel)];kernel_rfl) | (rw [if_neg (by decide +kernel)];exact⟨rfl,rfl⟩)
theorem k4:Rows.InstanceOrdersUptoSaid :=
 OpenClaim.holds_of_cond 3 Tryz.f3 rfl rfl rfl rfl rfl rfl rfl ⟨rfl,rfl,rfl,rfl,rfl⟩ rfl rfl rfl rfl rfl k0 Tryz.func3 k1
  k2 k3
  (fun os started H enc _ F=>by rw [OpenClaim.pre_eq_preRow];exact lifted_instanceOrders os started H enc F)
theorem instanceOrdersUpto_holds:Rows.InstanceOrdersUptoCardSaid :=
 Claim7.holds_tied_plain_at .later [] [.data,.data,.data] true (true, "be367d02c046b94b2cf6d35702f3be1dccccb1f0284e8841e6240efdd45d8e4a") true
  k4 (fun _ h=>by cases h) instanceOrders_wfT (fun _ h=>by cases h) instanceOrdersUpto_row_tie rfl ⟨rfl,rfl⟩ (by kernel_rfl) rfl
  (fun f fn hf hfn=>by
   obtain rfl:f=3:=Option.some.inj ((show Tryz.prog.funcNamed "castings/castingslaw21.InstanceOrders" = some 3 by kernel_rfl).symm.trans hf) |>.symm
   obtain rfl:fn=Tryz.f3:=(Option.some.inj (Tryz.func3.symm.trans hfn)).symm
   exact⟨instanceOrders_looks,fun j t ht=>by
    rw [Tryz.params3] at ht
    have hm:t∈[26,26,22,24]:=List.mem_of_getElem? (i:=j) (by simpa using ht)
    simp only [List.mem_cons,List.not_mem_nil,or_false] at hm
    rcases hm with rfl | rfl | rfl | rfl
    ·exact (show Tryz.prog.wantsStandIn 26=false by kernel_rfl)
    ·exact (show Tryz.prog.wantsStandIn 26=false by kernel_rfl)
    ·exact (show Tryz.prog.wantsStandIn 22=false by kernel_rfl)
    ·exact (show Tryz.prog.wantsStandIn 24=false by kernel_rfl)⟩)
  instanceOrders_goes
end Go.Proofs.YtaneedhchnaniaaGreatDoor
