/- if formals are in order, each end of their list is in order in the environment of its beginning -/
import Derived.Test.YtgjfipagmicdnaaGreatDoorMC15
import Derived.Test.YtgjfipagmicdnaaGreatDoorMS77
import Derived.Test.YtgjfipagmicdnaaGreatDoorMS80
namespace Go.Proofs.YtgjfipagmicdnaaGreatDoor
set_option maxRecDepth 100000
set_option maxHeartbeats 1000000
open Go Go.ChangeShapes Go.WideShapes Go.ChangeAt Go.RowKit Go.Abs
set_option linter.unusedVariables false
theorem lifted_declareFormals (os:Os)(started:os.Started)(H:Type)(enc:TypeId × Value→H) :
  ReturnsInHanded {} Tryz.checked os 7 .any (fun w args=>(Rows.declareFormalsSpec.pre enc Tryz.prog Tryz.f7 Rows.declareFormalsRow.domain false w args∧laidMetH Tryz.prog Rows.declareFormalsRow.laid w)∧sizedMet enc Tryz.prog Tryz.f7 (OpenSpec.ofChange Rows.declareFormalsSpec) false w args)
   (Rows.declareFormalsSpec.post enc Tryz.prog Tryz.f7 false true false false):=by
 refine returnsInHanded_of_change_and (C:=Tryz.checked) (X:=fun w _=>laidMetH Tryz.prog Rows.declareFormalsRow.laid w) (fun _ _ _ hh h=>laidMetH.of_heap hh h) own started (by kernel_rfl) Tryz.func7
  (ChangeSpec.witness_at (enc:=enc) (C:=Tryz.checked) (os:=os) (X:=fun w _=>laidMetH Tryz.prog Rows.declareFormalsRow.laid w) false (laidWorld os) #[.agg #[.slice none 0 0,.int .i64 0,.string ⟨#[]⟩,.string ⟨#[]⟩,.slice none 0 0,.int .i64 0,.slice none 0 0,.slice none 0 0,.int .i64 0],.slice none 0 0,.agg #[.string ⟨#[]⟩,.slice none 0 0,.slice none 0 0,.string ⟨#[]⟩,.slice none 0 0,.int .i64 0,.int .i64 0]] 8 rfl (by kernel_rfl) (by kernel_rfl) (by kernel_rfl) (by kernel_rfl) (by kernel_rfl) (laidWorld_met os _)) ?_
 intro W base args ds gs before hval0 hW hcnd hsz hL _
 have hval:∀ (j:Nat) t v,Tryz.f7.params[j]? = some t→args[j]? = some v→Value.okWide Tryz.prog W .any base t v:=hval0
 have hW1:=hW
 obtain⟨p,q,hA0,hV,rfl,hfz,hnd⟩:=hW
 have hA:DataW.TrodAll enc Tryz.prog W 0 (fun _=>true) true Tryz.f7.params.toList args.toList ds p:=hA0
 rw [Tryz.params7] at hA hval
 obtain⟨v0,v1,v2,d0,d1,d2,p0,p1,p2,rfl,rfl,rfl,h0,h1,h2⟩:=trodAll_three hA
 obtain⟨rfl,rfl⟩:=trodVars_none hV
 obtain⟨w0,w1,w2⟩:=weights_three (t0:=30) (t1:=45) (t2:=48) hsz
 obtain⟨x0,r0⟩:=arg_pr (hval 0 30 v0 rfl rfl) h0 w0 noNames
 obtain⟨x1,r1⟩:=arg_fos (hval 1 45 v1 rfl rfl) h1 w1 noNames
 obtain⟨x2,r2⟩:=arg_si (hval 2 48 v2 rfl rfl) h2 w2 noNames
 refine (law_calls (vs:=[v0,v1,v2]) (law15_formals ok_awake15 x0 x1 x2) (.cons r0 (.cons r1 (.cons r2 .nil))) (fixed_of_laid hL)).mono fun e W2 ⟨he,bel⟩=>?_
 subst he
 exact⟨_,rfl,_,_,_,[],_,[],hW1,trodAll_mk1 (shut_bool Tryz.underlying4 _),trodAll_mk3 (Below.trod laidOut (by kernel_rfl) (of_decide_eq_true (by kernel_rfl)) h0 bel (trod_block h0)) (Below.trod laidOut (by kernel_rfl) (of_decide_eq_true (by kernel_rfl)) h1 bel (trod_block h1)) (Below.trod laidOut (by kernel_rfl) (of_decide_eq_true (by kernel_rfl)) h2 bel (trod_block h2)),rfl,bel.frame _,fun h=>by cases h⟩
theorem k0:Tryz.pinned.checked.prog.funcNamed Rows.declareFormalsRow.func=some 7:=by kernel_rfl
theorem k1:joinedFacts Tryz.prog 7 Tryz.f7 Rows.declareFormalsSpec Rows.declareFormalsRow=true:=by kernel_rfl
theorem k2:Tryz.f7.isInstance Tryz.pinned.checked.prog Rows.declareFormalsRow.origin Rows.declareFormalsRow.targs:=of_decide_eq_true (by kernel_rfl)
theorem k3:Tryz.f7.isWrapper Tryz.pinned.checked.prog Rows.declareFormalsRow.wrapper Rows.declareFormalsRow.mainSum:=by unfold Func.isWrapper;first | (rw [if_pos (by decide +kernel)];kernel_rfl) | (rw [if_neg (by decide +kernel)];exact⟨rfl,rfl⟩)
theorem k4:Rows.DeclareFormalsSaid :=
 OpenClaim.holds_of_wide 7 Tryz.f7 rfl rfl rfl rfl rfl rfl rfl ⟨rfl,rfl,rfl,rfl,rfl⟩ rfl rfl rfl rfl rfl k0 Tryz.func7 k1
  k2 k3
  (fun os started H enc _=>lifted_declareFormals os started H enc)
theorem declareFormals_holds:Rows.DeclareFormalsCardSaid :=
 Claim7.holds_tied_plain_at .later [] [.data,.data,.data,.handle] true (true, "b0f8e2415bef163697b2759f9318434c753b2d386eac631484c292eb3db186ae") true
  k4 (fun _ h=>by cases h) (by kernel_rfl) (fun _ h=>by cases h) declareFormals_row_tie rfl ⟨rfl,rfl⟩ (by kernel_rfl) rfl
  (fun f fn hf hfn=>by
   obtain rfl:f=7:=Option.some.inj ((show Tryz.prog.funcNamed "castings/castingslaw15.DeclareFormals" = some 7 by kernel_rfl).symm.trans hf) |>.symm
   obtain rfl:fn=Tryz.f7:=(Option.some.inj (Tryz.func7.symm.trans hfn)).symm
   exact⟨by kernel_rfl,fun j t ht=>by
    rw [Tryz.params7] at ht
    have hm:t∈[30,45,48]:=List.mem_of_getElem? (i:=j) (by simpa using ht)
    simp only [List.mem_cons,List.not_mem_nil,or_false] at hm
    rcases hm with rfl | rfl | rfl
    ·exact (show Tryz.prog.wantsStandIn 30=false by kernel_rfl)
    ·exact (show Tryz.prog.wantsStandIn 45=false by kernel_rfl)
    ·exact (show Tryz.prog.wantsStandIn 48=false by kernel_rfl)⟩)
  (by kernel_rfl)
end Go.Proofs.YtgjfipagmicdnaaGreatDoor
