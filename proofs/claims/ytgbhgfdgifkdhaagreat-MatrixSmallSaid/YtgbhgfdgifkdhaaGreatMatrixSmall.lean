/- MatrixSmall answers true for every input, and the input reads as it did. -/
import Derived.Test.YtgbhgfdgifkdhaaGreatM7

set_option linter.unusedVariables false
set_option linter.unusedSimpArgs false
set_option linter.unnecessarySimpa false

namespace Go.Proofs.YtgbhgfdgifkdhaaGreat
open Go.Proofs.YtgbhgfdgifkdhaaGreat.X Go.Proofs.YtgbhgfdgifkdhaaGreat.X.PH Go.ChangeShapes Go.WideShapes Go.ChangeAt Go.RowKit Go.Deep
set_option maxRecDepth 100000
theorem matrixSmall_lifted (os : Os) (started:os.Started) (H:Type) (enc:TypeId × Value→H) :
    ReturnsInHanded {} Tryz.checked os 3 .any (Rows.matrixSmallSpec.pre6 enc Tryz.prog Tryz.f3 Rows.matrixSmallRow.domain false) (Rows.matrixSmallSpec.post enc Tryz.prog Tryz.f3 false true false false):=by
  refine returnsInHanded_of_change (C:=Tryz.checked) own started (by kernel_rfl) Tryz.func3
    (ChangeSpec.witness6 (enc:=enc) (C:=Tryz.checked) false ⟨#[],#[],[]⟩ 8 (by kernel_rfl) (by kernel_rfl) (by kernel_rfl) (by kernel_rfl)) ?_
  intro W base args ds gs before hval0 hW _ _
  have hval:∀ (j:Nat) t v,Tryz.f3.params[j]?=some t→args[j]?=some v→Value.okWide Tryz.prog W .any base t v:=hval0
  have hW':=hW
  obtain⟨p,q,hA0,hV,rfl,_,_⟩:=hW
  have hA:DataW.TrodAll enc Tryz.prog W 0 (fun _=>true) true Tryz.f3.params.toList args.toList ds p:=hA0
  rw[Tryz.params3] at hA hval
  obtain⟨ha,rfl,rfl⟩:=trodAll_nil hA
  obtain rfl:args=#[]:=by
    obtain⟨l⟩:=args
    exact congrArg Array.mk ha
  obtain⟨rfl,rfl⟩:=trodVars_none hV
  clear hA0 hval0
  simp only[List.append_nil] at hW'
  have hc:=j3 (heapP W)
  refine (Cl.calls hc).mono ?_
  rintro e W' ⟨v,rfl,hbel,rfl⟩
  refine⟨_,rfl,[],[],[],[],[],[],hW',trodAll_mk1 (shut_bool Tryz.underlying4 _),trodAll_mk0,rfl,hbel.frame _,fun h=>by cases h⟩
theorem matrixSmall_holds : Rows.MatrixSmallSaid:=
  OpenClaim.holds_of_wide 3 Tryz.f3 rfl rfl rfl rfl rfl rfl rfl ⟨rfl,rfl,rfl,rfl,rfl⟩ rfl rfl rfl rfl rfl (by kernel_rfl) Tryz.func3 (by kernel_rfl)
    (of_decide_eq_true (by kernel_rfl)) (by unfold Func.isWrapper;first | (rw[if_pos (by decide +kernel)];kernel_rfl) | (rw[if_neg (by decide +kernel)];exact⟨rfl,rfl⟩))
    (fun os started H enc _=>matrixSmall_lifted os started H enc)
#print axioms matrixSmall_holds
end Go.Proofs.YtgbhgfdgifkdhaaGreat
