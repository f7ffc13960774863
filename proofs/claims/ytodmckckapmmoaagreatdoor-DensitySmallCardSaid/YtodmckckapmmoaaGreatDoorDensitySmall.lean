/- DensitySmall answers true for every input, and the input reads as it did; what the package variables hold is tied to the program's text. -/
import Derived.Test.YtodmckckapmmoaaGreatDoorM8
import Derived.Test.YtodmckckapmmoaaGreatDoorTie
import Derived.Test.YtodmckckapmmoaaGreatDoorCards
import Derived.SevenTiedAt
set_option linter.unusedVariables false
set_option linter.unusedSimpArgs false
set_option linter.unnecessarySimpa false
namespace Go.Proofs.YtodmckckapmmoaaGreatDoor
open Go Go.Proofs.YtodmckckapmmoaaGreatDoor.X Go.Proofs.YtodmckckapmmoaaGreatDoor.X.PH Go.ChangeShapes Go.WideShapes Go.ChangeAt Go.RowKit Go.Deep
set_option maxRecDepth 100000
theorem densitySmall_lifted (os : Os) (started:os.Started) (H:Type) (enc:TypeId × Value→H) :
 ReturnsInHanded {} Tryz.checked os 7 .any (fun w args=>(Rows.densitySmallSpec.pre enc Tryz.prog Tryz.f7 [] false w args∧laidMetH Tryz.prog laid2 w)∧sizedMet enc Tryz.prog Tryz.f7 (OpenSpec.ofChange Rows.densitySmallSpec) false w args)
  (Rows.densitySmallSpec.post enc Tryz.prog Tryz.f7 false true false false):=by
 refine returnsInHanded_of_change_and (C:=Tryz.checked) (X:=fun w _=>laidMetH Tryz.prog laid2 w) (fun _ _ _ hh h=>h.of_heap hh) own started (by kernel_rfl) Tryz.func7
  (ChangeSpec.witness_shaped (enc:=enc) (C:=Tryz.checked) (os:=os) (X:=fun w _=>laidMetH Tryz.prog laid2 w) false (World.doorLaid Tryz.prog 400 os) #[] 8 rfl (World.shaped_of_RefB (by kernel_rfl) (by kernel_rfl)) (by kernel_rfl) (by kernel_rfl) (by kernel_rfl) (door_met os _)) ?_
 intro W base args ds gs before hval0 hW _ _ hL _
 have hval:∀ (j:Nat) t v,Tryz.f7.params[j]?=some t→args[j]?=some v→Value.okWide Tryz.prog W .any base t v:=hval0
 have hW':=hW
 obtain⟨p,q,hA0,hV,rfl,_,_⟩:=hW
 have hA:DataW.TrodAll enc Tryz.prog W 0 (fun _=>true) true Tryz.f7.params.toList args.toList ds p:=hA0
 rw[Tryz.params7] at hA hval
 obtain⟨ha,rfl,rfl⟩:=trodAll_nil hA
 obtain rfl:args=#[]:=by
  obtain⟨l⟩:=args
  exact congrArg Array.mk ha
 obtain⟨rfl,rfl⟩:=trodVars_none hV
 have hG:=glob_of_laid hL
 clear hA0 hval0
 simp only[List.append_nil] at hW'
 have hmax:maxLen=9223372036854775807:=rfl
 have hc:=e7 (heapP W) hG
 refine (Cl.calls hc).mono ?_
 rintro e W' ⟨v,rfl,hbel,rfl⟩
 refine⟨_,rfl,[],[],[],[],[],[],hW',trodAll_mk1 (shut_bool Tryz.underlying4 _),trodAll_mk0,rfl,hbel.frame _,fun h=>by cases h⟩
theorem densitySmall_row : Rows.DensitySmallSaid:=
 OpenClaim.holds_of_wide 7 Tryz.f7 rfl rfl rfl rfl rfl rfl rfl ⟨rfl,rfl,rfl,rfl,rfl⟩ rfl rfl rfl rfl rfl (by kernel_rfl) Tryz.func7 (by kernel_rfl)
  (of_decide_eq_true (by kernel_rfl)) (by unfold Func.isWrapper;first | (rw[if_pos (by decide +kernel)];kernel_rfl) | (rw[if_neg (by decide +kernel)];exact⟨rfl,rfl⟩))
  (fun os started H enc _=>densitySmall_lifted os started H enc)
theorem densitySmall_holds : Rows.DensitySmallCardSaid:=
 Claim7.holds_tied_plain_at .later [] [.data, .data] true (true, "9aeebd5c05ecba59b773b5f45a0a0e86dc3dea2ba20c39fb0b997fe145ce3af5") false
  densitySmall_row (fun _ h=>by cases h) (by kernel_rfl) (fun _ h=>by cases h) densitySmall_row_tie rfl ⟨rfl,rfl⟩ (by kernel_rfl) rfl
  (fun f fn hf hfn=>by
   obtain rfl : f = 7 := Option.some.inj ((show Tryz.prog.funcNamed "spoondrift/spoondriftlaw16.DensitySmall" = some 7 by kernel_rfl).symm.trans hf) |>.symm
   obtain rfl:fn=Tryz.f7:=(Option.some.inj (Tryz.func7.symm.trans hfn)).symm
   exact⟨by kernel_rfl,fun j t ht=>by
    rw[Tryz.params7] at ht
    have hm:t∈([]:List TypeId):=by simpa using Array.mem_of_getElem? ht
    have hall:(([]:List TypeId).all fun u=>!Tryz.prog.wantsStandIn u)=true:=by kernel_rfl
    exact (show Tryz.prog.wantsStandIn t=false by simpa using List.all_eq_true.1 hall t hm)⟩)
  (by kernel_rfl)
#print axioms densitySmall_holds
end Go.Proofs.YtodmckckapmmoaaGreatDoor
