/- DensityRuns answers true for every input, and the input reads as it did; what the package variables hold is tied to the program's text. -/
import Derived.Test.YtodmckckapmmoaaGreatDoorM8
import Derived.Test.YtodmckckapmmoaaGreatDoorTie
import Derived.Test.YtodmckckapmmoaaGreatDoorCards
import Derived.SevenTiedAt

set_option linter.unusedVariables false
set_option linter.unusedSimpArgs false
set_option linter.unnecessarySimpa false

namespace Go.Proofs.YtodmckckapmmoaaGreatDoor
open Go Go.Proofs.YtodmckckapmmoaaGreatDoor.X Go.Proofs.YtodmckckapmmoaaGreatDoor.X.PH Go.ChangeShapes Go.WideShapes Go.ChangeAt Go.RowKit Go.Deep
set_option maxRecDepth 100000
theorem densityRuns_lifted (os : Os) (started:os.Started) (H:Type) (enc:TypeId × Value→H) :
    ReturnsInHanded {} Tryz.checked os 5 .any (fun w args=>(Rows.densityRunsSpec.pre enc Tryz.prog Tryz.f5 [] false w args∧laidMetH Tryz.prog laid2 w)∧sizedMet enc Tryz.prog Tryz.f5 (OpenSpec.ofChange Rows.densityRunsSpec) false w args)
      (Rows.densityRunsSpec.post enc Tryz.prog Tryz.f5 false true false false):=by
  refine returnsInHanded_of_change_and (C:=Tryz.checked) (X:=fun w _=>laidMetH Tryz.prog laid2 w) (fun _ _ _ hh h=>h.of_heap hh) own started (by kernel_rfl) Tryz.func5
    (ChangeSpec.witness_shaped (enc:=enc) (C:=Tryz.checked) (os:=os) (X:=fun w _=>laidMetH Tryz.prog laid2 w) false (World.doorLaid Tryz.prog 400 os) #[.agg #[.int .i64 0,.int .i64 0,.slice none 0 0],.slice none 0 0] 8 rfl (World.shaped_of_RefB (by kernel_rfl) (by kernel_rfl)) (by kernel_rfl) (by kernel_rfl) (by kernel_rfl) (door_met os _)) ?_
  intro W base args ds gs before hval0 hW _ _ hL _
  have hval:∀ (j:Nat) t v,Tryz.f5.params[j]?=some t→args[j]?=some v→Value.okWide Tryz.prog W .any base t v:=hval0
  have hW':=hW
  obtain⟨p,q,hA0,hV,rfl,_,_⟩:=hW
  have hA:DataW.TrodAll enc Tryz.prog W 0 (fun _=>true) true Tryz.f5.params.toList args.toList ds p:=hA0
  rw[Tryz.params5] at hA hval
  obtain⟨v0,v1,d0,d1,p0,p1,rfl,rfl,rfl,g0,g1⟩:=trodAll_two hA
  obtain⟨rfl,rfl⟩:=trodVars_none hV
  have hG:=glob_of_laid hL
  obtain⟨m0,w0,rfl,h0,b0⟩:=open_circ (hval 0 56 v0 rfl rfl) g0
  obtain⟨a1,len1,cap1,rfl⟩:=okWide_slice Tryz.underlying23 (hval 1 23 v1 rfl rfl)
  obtain⟨m1,h1,b1⟩:=open_mat g1
  clear hA0 hval0
  simp only[List.append_nil] at hW'
  have hlt:∀ x∈p0++p1,x.block < W.heap.size:=fun x hx=>by simpa using hW'.lt x hx
  have hmax:maxLen=9223372036854775807:=rfl
  rw[hmax] at b0 b1
  have hc:=e5 m0 m1 (by omega) (by omega) (heapP W) _ _ hG ⟨_,rfl,h0⟩ h1
  refine (Cl.calls hc).mono ?_
  rintro e W' ⟨v,rfl,hbel,rfl⟩
  have k0:=Below.trod (t:=56) laidOut (by kernel_rfl) (of_decide_eq_true (by kernel_rfl)) g0 hbel fun x hx=>hlt x (by simp[hx])
  have k1:=Below.trod (t:=23) laidOut (by kernel_rfl) (of_decide_eq_true (by kernel_rfl)) g1 hbel fun x hx=>hlt x (by simp[hx])
  have hk:=trodAll_mk2 k0 k1
  refine⟨_,rfl,[d0,d1],[],p0++p1,[],p0++p1,[],hW',trodAll_mk1 (shut_bool Tryz.underlying4 _),hk,rfl,hbel.frame _,fun h=>by cases h⟩
theorem densityRuns_row : Rows.DensityRunsSaid:=
  OpenClaim.holds_of_wide 5 Tryz.f5 rfl rfl rfl rfl rfl rfl rfl ⟨rfl,rfl,rfl,rfl,rfl⟩ rfl rfl rfl rfl rfl (by kernel_rfl) Tryz.func5 (by kernel_rfl)
    (of_decide_eq_true (by kernel_rfl)) (by unfold Func.isWrapper;first | (rw[if_pos (by decide +kernel)];kernel_rfl) | (rw[if_neg (by decide +kernel)];exact⟨rfl,rfl⟩))
    (fun os started H enc _=>densityRuns_lifted os started H enc)
theorem densityRuns_holds : Rows.DensityRunsCardSaid:=
  Claim7.holds_tied_plain_at .later [] [.data, .data] true (true, "9aeebd5c05ecba59b773b5f45a0a0e86dc3dea2ba20c39fb0b997fe145ce3af5") false
    densityRuns_row (fun _ h=>by cases h) (by kernel_rfl) (fun _ h=>by cases h) densityRuns_row_tie rfl ⟨rfl,rfl⟩ (by kernel_rfl) rfl
    (fun f fn hf hfn=>by
      obtain rfl : f = 5 := Option.some.inj ((show Tryz.prog.funcNamed "spoondrift/spoondriftlaw16.DensityRuns" = some 5 by kernel_rfl).symm.trans hf) |>.symm
      obtain rfl:fn=Tryz.f5:=(Option.some.inj (Tryz.func5.symm.trans hfn)).symm
      exact⟨by kernel_rfl,fun j t ht=>by
        rw[Tryz.params5] at ht
        have hm:t∈([56,23]:List TypeId):=by simpa using Array.mem_of_getElem? ht
        have hall:(([56,23]:List TypeId).all fun u=>!Tryz.prog.wantsStandIn u)=true:=by kernel_rfl
        exact (show Tryz.prog.wantsStandIn t=false by simpa using List.all_eq_true.1 hall t hm)⟩)
    (by kernel_rfl)
#print axioms densityRuns_holds
end Go.Proofs.YtodmckckapmmoaaGreatDoor
