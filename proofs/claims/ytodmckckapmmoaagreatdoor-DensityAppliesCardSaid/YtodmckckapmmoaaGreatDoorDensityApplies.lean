/- DensityApplies answers true for every input, and the input reads as it did; what the package variables hold is tied to the program's text. -/
import Derived.Test.YtodmckckapmmoaaGreatDoorM7
import Derived.Test.YtodmckckapmmoaaGreatDoorTie
import Derived.Test.YtodmckckapmmoaaGreatDoorCards
import Derived.SevenTiedAt

set_option linter.unusedVariables false
set_option linter.unusedSimpArgs false
set_option linter.unnecessarySimpa false

namespace Go.Proofs.YtodmckckapmmoaaGreatDoor
open Go Go.Proofs.YtodmckckapmmoaaGreatDoor.X Go.Proofs.YtodmckckapmmoaaGreatDoor.X.PH Go.ChangeShapes Go.WideShapes Go.ChangeAt Go.RowKit Go.Deep
set_option maxRecDepth 100000
theorem densityApplies_lifted (os : Os) (started:os.Started) (H:Type) (enc:TypeId × Value→H) :
    ReturnsInHanded {} Tryz.checked os 4 .any (fun w args=>(Rows.densityAppliesSpec.pre enc Tryz.prog Tryz.f4 [] false w args∧laidMetH Tryz.prog laid2 w)∧sizedMet enc Tryz.prog Tryz.f4 (OpenSpec.ofChange Rows.densityAppliesSpec) false w args)
      (Rows.densityAppliesSpec.post enc Tryz.prog Tryz.f4 false true false false):=by
  refine returnsInHanded_of_change_and (C:=Tryz.checked) (X:=fun w _=>laidMetH Tryz.prog laid2 w) (fun _ _ _ hh h=>h.of_heap hh) own started (by kernel_rfl) Tryz.func4
    (ChangeSpec.witness_shaped (enc:=enc) (C:=Tryz.checked) (os:=os) (X:=fun w _=>laidMetH Tryz.prog laid2 w) false (World.doorLaid Tryz.prog 400 os) #[.slice none 0 0,.agg #[.int .i64 0,.slice none 0 0,.int .i64 0,.int .i64 0],.int .i64 0,.int .i64 0] 8 rfl (World.shaped_of_RefB (by kernel_rfl) (by kernel_rfl)) (by kernel_rfl) (by kernel_rfl) (by kernel_rfl) (door_met os _)) ?_
  intro W base args ds gs before hval0 hW _ _ hL _
  have hval:∀ (j:Nat) t v,Tryz.f4.params[j]?=some t→args[j]?=some v→Value.okWide Tryz.prog W .any base t v:=hval0
  have hW':=hW
  obtain⟨p,q,hA0,hV,rfl,_,_⟩:=hW
  have hA:DataW.TrodAll enc Tryz.prog W 0 (fun _=>true) true Tryz.f4.params.toList args.toList ds p:=hA0
  rw[Tryz.params4] at hA hval
  obtain⟨v0,v1,v2,v3,d0,d1,d2,d3,p0,p1,p2,p3,rfl,rfl,rfl,g0,g1,g2,g3⟩:=trodAll_four hA
  obtain⟨rfl,rfl⟩:=trodVars_none hV
  have hG:=glob_of_laid hL
  obtain⟨a0,len0,cap0,rfl⟩:=okWide_slice Tryz.underlying23 (hval 0 23 v0 rfl rfl)
  obtain⟨m0,h0,b0⟩:=open_mat g0
  obtain⟨m1,w1,rfl,h1,b1⟩:=open_gate (hval 1 42 v1 rfl rfl) g1
  obtain⟨m2,rfl,b2⟩:=open_int (hval 2 3 v2 rfl rfl) g2
  obtain⟨m3,rfl,b3⟩:=open_int (hval 3 3 v3 rfl rfl) g3
  clear hA0 hval0
  simp only[List.append_nil] at hW'
  have hlt:∀ x∈p0++p1++p2++p3,x.block < W.heap.size:=fun x hx=>by simpa using hW'.lt x hx
  have hmax:maxLen=9223372036854775807:=rfl
  rw[hmax] at b0 b1
  have hc:=e4 m0 m1 m2 m3 (by omega) (by omega) (heapP W) _ _ hG h0 h1
  refine (Cl.calls hc).mono ?_
  rintro e W' ⟨v,rfl,hbel,rfl⟩
  have k0:=Below.trod (t:=23) laidOut (by kernel_rfl) (of_decide_eq_true (by kernel_rfl)) g0 hbel fun x hx=>hlt x (by simp[hx])
  have k1:=Below.trod (t:=42) laidOut (by kernel_rfl) (of_decide_eq_true (by kernel_rfl)) g1 hbel fun x hx=>hlt x (by simp[hx])
  have k2:=Below.trod (t:=3) laidOut (by kernel_rfl) (of_decide_eq_true (by kernel_rfl)) g2 hbel fun x hx=>hlt x (by simp[hx])
  have k3:=Below.trod (t:=3) laidOut (by kernel_rfl) (of_decide_eq_true (by kernel_rfl)) g3 hbel fun x hx=>hlt x (by simp[hx])
  have hk:=trodAll_mk4 k0 k1 k2 k3
  rw[← List.append_assoc,← List.append_assoc] at hk
  refine⟨_,rfl,[d0,d1,d2,d3],[],p0++p1++p2++p3,[],p0++p1++p2++p3,[],hW',trodAll_mk1 (shut_bool Tryz.underlying4 _),hk,rfl,hbel.frame _,fun h=>by cases h⟩
theorem densityApplies_row : Rows.DensityAppliesSaid:=
  OpenClaim.holds_of_wide 4 Tryz.f4 rfl rfl rfl rfl rfl rfl rfl ⟨rfl,rfl,rfl,rfl,rfl⟩ rfl rfl rfl rfl rfl (by kernel_rfl) Tryz.func4 (by kernel_rfl)
    (of_decide_eq_true (by kernel_rfl)) (by unfold Func.isWrapper;first | (rw[if_pos (by decide +kernel)];kernel_rfl) | (rw[if_neg (by decide +kernel)];exact⟨rfl,rfl⟩))
    (fun os started H enc _=>densityApplies_lifted os started H enc)
theorem densityApplies_holds : Rows.DensityAppliesCardSaid:=
  Claim7.holds_tied_plain_at .later [] [.data, .data] true (true, "9aeebd5c05ecba59b773b5f45a0a0e86dc3dea2ba20c39fb0b997fe145ce3af5") false
    densityApplies_row (fun _ h=>by cases h) (by kernel_rfl) (fun _ h=>by cases h) densityApplies_row_tie rfl ⟨rfl,rfl⟩ (by kernel_rfl) rfl
    (fun f fn hf hfn=>by
      obtain rfl : f = 4 := Option.some.inj ((show Tryz.prog.funcNamed "spoondrift/spoondriftlaw16.DensityApplies" = some 4 by kernel_rfl).symm.trans hf) |>.symm
      obtain rfl:fn=Tryz.f4:=(Option.some.inj (Tryz.func4.symm.trans hfn)).symm
      exact⟨by kernel_rfl,fun j t ht=>by
        rw[Tryz.params4] at ht
        have hm:t∈([23,42,3,3]:List TypeId):=by simpa using Array.mem_of_getElem? ht
        have hall:(([23,42,3,3]:List TypeId).all fun u=>!Tryz.prog.wantsStandIn u)=true:=by kernel_rfl
        exact (show Tryz.prog.wantsStandIn t=false by simpa using List.all_eq_true.1 hall t hm)⟩)
    (by kernel_rfl)
#print axioms densityApplies_holds
end Go.Proofs.YtodmckckapmmoaaGreatDoor
