/- methods, implementations and unused names of any program -/
import Derived.Test.YtlpkdlopdccmmaaGreatDoorYC24
import Derived.Test.YtlpkdlopdccmmaaGreatDoorYV13
namespace Go.Proofs.YtlpkdlopdccmmaaGreatDoor
set_option maxRecDepth 100000
set_option maxHeartbeats 1000000
open Go Go.ChangeShapes Go.WideShapes Go.ChangeAt Go.RowKit Go.Abs
set_option linter.unusedVariables false
theorem lifted_plainNames (os:Os)(started:os.Started)(H:Type)(enc:TypeId × Value→H) :
  ReturnsInHanded {} Tryz.checked os 4 .any (fun w args=>(Rows.plainNamesSpec.pre enc Tryz.prog Tryz.f4 Rows.plainNamesRow.domain false w args∧laidMetH Tryz.prog Rows.plainNamesRow.laid w)∧sizedMet enc Tryz.prog Tryz.f4 (OpenSpec.ofChange Rows.plainNamesSpec) false w args)
   (Rows.plainNamesSpec.post enc Tryz.prog Tryz.f4 false true false false):=by
 refine returnsInHanded_of_change_and (C:=Tryz.checked) (X:=fun w _=>laidMetH Tryz.prog Rows.plainNamesRow.laid w) (fun _ _ _ hh h=>laidMetH.of_heap hh h) own started (by kernel_rfl) Tryz.func4
  (ChangeSpec.witness_at (enc:=enc) (C:=Tryz.checked) (os:=os) (X:=fun w _=>laidMetH Tryz.prog Rows.plainNamesRow.laid w) false (laidWorld os) #[.agg #[.slice none 0 0,.int .i64 0,.string ⟨#[]⟩,.string ⟨#[]⟩,.slice none 0 0,.int .i64 0,.slice none 0 0,.slice none 0 0,.int .i64 0],.string ⟨#[]⟩,.string ⟨#[]⟩] 8 rfl (by kernel_rfl) (by kernel_rfl) (by kernel_rfl) (by kernel_rfl) (by kernel_rfl) (laidWorld_met os _)) ?_
 intro W base args ds gs before hval0 hW hcnd hsz hL _
 have hval:∀ (j:Nat) t v,Tryz.f4.params[j]? = some t→args[j]? = some v→Value.okWide Tryz.prog W .any base t v:=hval0
 have hW1:=hW
 obtain⟨p,q,hA0,hV,rfl,hfz,hnd⟩:=hW
 have hA:DataW.TrodAll enc Tryz.prog W 0 (fun _=>true) true Tryz.f4.params.toList args.toList ds p:=hA0
 rw [Tryz.params4] at hA hval
 obtain⟨v0,v1,v2,d0,d1,d2,p0,p1,p2,rfl,rfl,rfl,h0,h1,h2⟩:=trodAll_three hA
 obtain⟨rfl,rfl⟩:=trodVars_none hV
 obtain⟨w0,w1,w2⟩:=weights_three (t0:=30) (t1:=9) (t2:=9) hsz
 obtain⟨x0,r0⟩:=arg_pr (hval 0 30 v0 rfl rfl) h0 w0 noNames
 obtain⟨x1,r1⟩:=arg_string Tryz.underlying9 (hval 1 9 v1 rfl rfl) h1 w1 noNames
 obtain⟨x2,r2⟩:=arg_string Tryz.underlying9 (hval 2 9 v2 rfl rfl) h2 w2 noNames
 obtain⟨_,_,hfx⟩:=fixed_of_laid hL
 refine (law_calls (vs:=[v0,v1,v2]) (law24_names x0 x1 x2) (.cons r0 (.cons r1 (.cons r2 .nil))) hfx).mono fun e W2 ⟨he,bel⟩=>?_
 subst he
 exact⟨_,rfl,_,_,_,[],_,[],hW1,trodAll_mk1 (shut_bool Tryz.underlying4 _),trodAll_mk3 (Below.trod laidOut (by kernel_rfl) (of_decide_eq_true (by kernel_rfl)) h0 bel (trod_block h0)) (Below.trod laidOut (by kernel_rfl) (of_decide_eq_true (by kernel_rfl)) h1 bel (trod_block h1)) (Below.trod laidOut (by kernel_rfl) (of_decide_eq_true (by kernel_rfl)) h2 bel (trod_block h2)),rfl,bel.frame _,fun h=>by cases h⟩
theorem k0:Tryz.pinned.checked.prog.funcNamed Rows.plainNamesRow.func=some 4:=by kernel_rfl
theorem plainNames_cinPlace:(Rows.plainNamesRow.inPlace == Tryz.prog.inPlace 4)=true:=by kernel_rfl
theorem plainNames_cunfollowed:(Rows.plainNamesRow.unfollowed == Tryz.prog.unfollowed 4)=true:=by kernel_rfl
theorem plainNames_crecurses:(Rows.plainNamesRow.recurses == Tryz.prog.recurses 4)=true:=by kernel_rfl
theorem plainNames_cnamed:(Rows.plainNamesRow.named == Tryz.prog.varsNamed 4)=true:=by kernel_rfl
theorem k1:joinedFacts Tryz.prog 4 Tryz.f4 Rows.plainNamesSpec Rows.plainNamesRow=true:=by
 unfold joinedFacts
 rw [plainNames_cinPlace,plainNames_cunfollowed,plainNames_crecurses,plainNames_cnamed,laidOut,f_maps,f_heard,f_enter,f_lifts,f_make]
 kernel_rfl
theorem plainNames_wfT:Rows.plainNamesRow.wfByText (OpenSpec.ofChange Rows.plainNamesSpec)=true:=by kernel_rfl
theorem plainNames_looks:true=Tryz.prog.looks []:=by kernel_rfl
theorem plainNames_goes:false=Rows.plainNamesRow.goesBy Tryz.prog:=goes_row rfl
theorem k2:Tryz.f4.isInstance Tryz.pinned.checked.prog Rows.plainNamesRow.origin Rows.plainNamesRow.targs:=of_decide_eq_true (by kernel_rfl)
theorem k3:Tryz.f4.isWrapper Tryz.pinned.checked.prog Rows.plainNamesRow.wrapper Rows.plainNamesRow.mainSum:=by unfold Func.isWrapper;first | (rw [if_pos (by decide +kernel)];kernel_rfl) | (rw [if_neg (by decide +kernel)];exact⟨rfl,rfl⟩)
theorem k4:Rows.PlainNamesSaid :=
 OpenClaim.holds_of_wide 4 Tryz.f4 rfl rfl rfl rfl rfl rfl rfl ⟨rfl,rfl,rfl,rfl,rfl⟩ rfl rfl rfl rfl rfl k0 Tryz.func4 k1
  k2 k3
  (fun os started H enc _=>lifted_plainNames os started H enc)
theorem plainNames_holds:Rows.PlainNamesCardSaid :=
 Claim7.holds_tied_plain_at .later [] [.data,.data,.data,.handle] true (true, "3a31949aec472700bc75d8d7846e06faf5953410de2842ff7f2c87e7c9f3c9f0") true
  k4 (fun _ h=>by cases h) plainNames_wfT (fun _ h=>by cases h) plainNames_row_tie rfl ⟨rfl,rfl⟩ (by kernel_rfl) rfl
  (fun f fn hf hfn=>by
   obtain rfl:f=4:=Option.some.inj ((show Tryz.prog.funcNamed "castings/castingslaw24.PlainNames" = some 4 by kernel_rfl).symm.trans hf) |>.symm
   obtain rfl:fn=Tryz.f4:=(Option.some.inj (Tryz.func4.symm.trans hfn)).symm
   exact⟨plainNames_looks,fun j t ht=>by
    rw [Tryz.params4] at ht
    have hm:t∈[30,9,9]:=List.mem_of_getElem? (i:=j) (by simpa using ht)
    simp only [List.mem_cons,List.not_mem_nil,or_false] at hm
    rcases hm with rfl | rfl | rfl
    ·exact (show Tryz.prog.wantsStandIn 30=false by kernel_rfl)
    ·exact (show Tryz.prog.wantsStandIn 9=false by kernel_rfl)
    ·exact (show Tryz.prog.wantsStandIn 9=false by kernel_rfl)⟩)
  plainNames_goes
end Go.Proofs.YtlpkdlopdccmmaaGreatDoor
