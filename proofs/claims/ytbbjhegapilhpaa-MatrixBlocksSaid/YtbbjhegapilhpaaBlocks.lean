/- MatrixBlocks answers true for every input, and nothing that is passed in is changed; no condition. -/
import Derived.Test.YtbbjhegapilhpaaM5

set_option linter.unusedVariables false
set_option linter.unusedSimpArgs false
set_option linter.unnecessarySimpa false

namespace Go.Proofs.Ytbbjhegapilhpaa
open Go.Proofs.Ytbbjhegapilhpaa.X Go.Proofs.Ytbbjhegapilhpaa.X.PH
set_option maxRecDepth 100000

set_option maxHeartbeats 4000000 in
theorem law3 (l : List Int) (base : Option Addr) (cap : Nat) (hcap : l.length ≤ cap) (hlen : l.length < 9223372036854775808) (H : PH) (hv : BytesH H (.slice base l.length cap) l) : Cl Try.prog 3 [.slice base l.length cap] H emp fun r _ _ => r = .bool true := by
  refine Cl_of (pol := polL) Γok Try.func3 (by kernel_rfl) rfl ?_
  conv => whnf
  refine (c49 l base cap hcap hlen _ hv).mono fun r H1 O1 s1 hr => ?_
  obtain ⟨bk, rfl, st⟩ := hr
  conv => whnf
  refine (c50 1 3 (by decide) (by decide) (by decide) (0) bk (by omega) _ _ st).mono fun r H2 O2 s2 hr => ?_
  obtain ⟨a, rfl, ha, _, st⟩ := hr
  obtain ⟨a, rfl⟩ := nat_of (a := a) (by omega)
  conv => whnf
  refine (c50 1 3 (by decide) (by decide) (by decide) (0 + 1) bk (by omega) _ _ st).mono fun r H3 O3 s3 hr => ?_
  obtain ⟨b, rfl, hb, _, st⟩ := hr
  obtain ⟨b, rfl⟩ := nat_of (a := b) (by omega)
  conv => whnf
  refine (c50 1 3 (by decide) (by decide) (by decide) (0 + 1 + 1) bk (by omega) _ _ st).mono fun r H4 O4 s4 hr => ?_
  obtain ⟨c, rfl, hc, _, st⟩ := hr
  obtain ⟨c, rfl⟩ := nat_of (a := c) (by omega)
  conv => whnf
  refine (c50 1 3 (by decide) (by decide) (by decide) (0 + 1 + 1 + 1) bk (by omega) _ _ st).mono fun r H5 O5 s5 hr => ?_
  obtain ⟨d, rfl, hd, _, st⟩ := hr
  obtain ⟨d, rfl⟩ := nat_of (a := d) (by omega)
  conv => whnf
  refine (c50 1 3 (by decide) (by decide) (by decide) (0 + 1 + 1 + 1 + 1) bk (by omega) _ _ st).mono fun r H6 O6 s6 hr => ?_
  obtain ⟨i, rfl, hi, _, st⟩ := hr
  obtain ⟨i, rfl⟩ := nat_of (a := i) (by omega)
  conv => whnf
  refine (c50 1 3 (by decide) (by decide) (by decide) (0 + 1 + 1 + 1 + 1 + 1) bk (by omega) _ _ st).mono fun r H7 O7 s7 hr => ?_
  obtain ⟨k, rfl, hk, _, st⟩ := hr
  obtain ⟨k, rfl⟩ := nat_of (a := k) (by omega)
  conv => whnf
  refine (c51' a b (by omega) (by omega) (0 + 1 + 1 + 1 + 1 + 1 + 1) bk (by omega) _ _ st).mono fun r H8 O8 s8 hr => ?_
  obtain ⟨x, hx, mx, st⟩ := hr
  replace mx := small_MV mx (by omega) (by omega) (by omega) (by omega)
  conv => whnf
  refine (c51' c d (by omega) (by omega) (0 + 1 + 1 + 1 + 1 + 1 + 1 + 320 * a) bk (by omega) _ _ st).mono fun r H9 O9 s9 hr => ?_
  obtain ⟨y, hy, my, st⟩ := hr
  replace hx := hx.up s9
  replace my := small_MV my (by omega) (by omega) (by omega) (by omega)
  conv => whnf
  refine (c51' b i (by omega) (by omega) (0 + 1 + 1 + 1 + 1 + 1 + 1 + 320 * a + 320 * c) bk (by omega) _ _ st).mono fun r H10 O10 s10 hr => ?_
  obtain ⟨u, hu, mu, st⟩ := hr
  replace hx := hx.up s10
  replace hy := hy.up s10
  replace mu := small_MV mu (by omega) (by omega) (by omega) (by omega)
  conv => whnf
  refine (c51' d k (by omega) (by omega) (0 + 1 + 1 + 1 + 1 + 1 + 1 + 320 * a + 320 * c + 320 * b) bk (by omega) _ _ st).mono fun r H11 O11 s11 hr => ?_
  obtain ⟨v, hv, mv, st⟩ := hr
  replace hx := hx.up s11
  replace hy := hy.up s11
  replace hu := hu.up s11
  replace mv := small_MV mv (by omega) (by omega) (by omega) (by omega)
  conv => whnf
  obtain ⟨xy, uv, xu, yv, lr, e1, e2, e3, e4, e5, e6, mxy, muv, mxu, myv, mlr⟩ := blocks_law mx my mu mv (by omega) (by omega) (by omega) (by omega) (by omega) (by omega)
  have hc12 := Cl.outH (c41q x y mx.lens.1 my.lens.1 _ _ _ hx hy)
  rw [e1] at hc12
  refine hc12.use fun r H12 s12 hr => ?_
  obtain ⟨_, vxy, rfl, hxy⟩ := hr
  clear hc12
  obtain ⟨sb12, sc12, rfl⟩ := MatH.sl hxy
  replace hx := hx.up s12
  replace hy := hy.up s12
  replace hu := hu.up s12
  replace hv := hv.up s12
  conv => whnf
  have hc13 := Cl.outH (c41q u v mu.lens.1 mv.lens.1 _ _ _ hu hv)
  rw [e2] at hc13
  refine hc13.use fun r H13 s13 hr => ?_
  obtain ⟨_, vuv, rfl, huv⟩ := hr
  clear hc13
  obtain ⟨sb13, sc13, rfl⟩ := MatH.sl huv
  replace hx := hx.up s13
  replace hy := hy.up s13
  replace hu := hu.up s13
  replace hv := hv.up s13
  replace hxy := hxy.up s13
  conv => whnf
  have hc14 := Cl.outH (c40q xy uv mxy.lens.1 muv.lens.1 _ _ _ hxy huv)
  rw [e3] at hc14
  refine hc14.use fun r H14 s14 hr => ?_
  obtain ⟨_, vl1, rfl, hl1⟩ := hr
  clear hc14
  obtain ⟨sb14, sc14, rfl⟩ := MatH.sl hl1
  replace hx := hx.up s14
  replace hy := hy.up s14
  replace hu := hu.up s14
  replace hv := hv.up s14
  replace hxy := hxy.up s14
  replace huv := huv.up s14
  conv => whnf
  have hc15 := Cl.outH (c40q x u mx.lens.1 mu.lens.1 _ _ _ hx hu)
  rw [e4] at hc15
  refine hc15.use fun r H15 s15 hr => ?_
  obtain ⟨_, vxu, rfl, hxu⟩ := hr
  clear hc15
  obtain ⟨sb15, sc15, rfl⟩ := MatH.sl hxu
  replace hx := hx.up s15
  replace hy := hy.up s15
  replace hu := hu.up s15
  replace hv := hv.up s15
  replace hxy := hxy.up s15
  replace huv := huv.up s15
  replace hl1 := hl1.up s15
  conv => whnf
  have hc16 := Cl.outH (c40q y v my.lens.1 mv.lens.1 _ _ _ hy hv)
  rw [e5] at hc16
  refine hc16.use fun r H16 s16 hr => ?_
  obtain ⟨_, vyv, rfl, hyv⟩ := hr
  clear hc16
  obtain ⟨sb16, sc16, rfl⟩ := MatH.sl hyv
  replace hx := hx.up s16
  replace hy := hy.up s16
  replace hu := hu.up s16
  replace hv := hv.up s16
  replace hxy := hxy.up s16
  replace huv := huv.up s16
  replace hl1 := hl1.up s16
  replace hxu := hxu.up s16
  conv => whnf
  have hc17 := Cl.outH (c41q xu yv mxu.lens.1 myv.lens.1 _ _ _ hxu hyv)
  rw [e6] at hc17
  refine hc17.use fun r H17 s17 hr => ?_
  obtain ⟨_, vl2, rfl, hl2⟩ := hr
  clear hc17
  obtain ⟨sb17, sc17, rfl⟩ := MatH.sl hl2
  replace hx := hx.up s17
  replace hy := hy.up s17
  replace hu := hu.up s17
  replace hv := hv.up s17
  replace hxy := hxy.up s17
  replace huv := huv.up s17
  replace hl1 := hl1.up s17
  replace hxu := hxu.up s17
  replace hyv := hyv.up s17
  conv => whnf
  have mac : a * c ≤ 3 * 3 := Nat.mul_le_mul (by omega) (by omega)
  rw [show ((lr.length : Int) == IntKind.i64.wrap ((a : Int) * (c : Int))) = true by
    rw [mlr.len, ← Int.natCast_mul, wrap_id (by omega) (by omega)]
    simp]
  conv => whnf
  refine (c52 lr lr _ _ _ hl1 hl2 (by have := mlr.lens.1; omega) mlr.lens.2).val fun H18 s18 => ?_
  replace hx := hx.up s18
  replace hy := hy.up s18
  replace hu := hu.up s18
  replace hv := hv.up s18
  replace hxy := hxy.up s18
  replace huv := huv.up s18
  replace hl1 := hl1.up s18
  replace hxu := hxu.up s18
  replace hyv := hyv.up s18
  replace hl2 := hl2.up s18
  rw [eqM_refl]
  conv => whnf
  refine (c14 _).val fun H19 s19 => ?_
  replace hx := hx.up s19
  replace hy := hy.up s19
  replace hu := hu.up s19
  replace hv := hv.up s19
  replace hxy := hxy.up s19
  replace huv := huv.up s19
  replace hl1 := hl1.up s19
  replace hxu := hxu.up s19
  replace hyv := hyv.up s19
  replace hl2 := hl2.up s19
  conv => whnf
end Go.Proofs.Ytbbjhegapilhpaa

namespace Go.Proofs.Ytbbjhegapilhpaa
open Go.Proofs.Ytbbjhegapilhpaa.X Go.Proofs.Ytbbjhegapilhpaa.X.PH Go.ChangeShapes Go.WideShapes Go.ChangeAt Go.RowKit Go.Deep
set_option maxRecDepth 100000

theorem matrixBlocks_lifted (os : Os) (started : os.Started) (H : Type) (enc : TypeId × Value → H) :
    ReturnsInHanded {} Try.checked os 3 .any (Rows.matrixBlocksSpec.pre6 enc Try.prog Try.f3 Rows.matrixBlocksRow.domain false) (Rows.matrixBlocksSpec.post enc Try.prog Try.f3 false true false false) := by
  refine returnsInHanded_of_change (C := Try.checked) own started (by kernel_rfl) Try.func3
    (ChangeSpec.witness6 (enc := enc) (C := Try.checked) false ⟨#[], #[.slice none 0 0], []⟩ 8 (by kernel_rfl) (by kernel_rfl) (by kernel_rfl) (by kernel_rfl)) ?_
  intro W base args ds gs before hval0 hW _ _
  have hval : ∀ (j : Nat) t v, Try.f3.params[j]? = some t → args[j]? = some v → Value.okWide Try.prog W .any base t v := hval0
  have hW' := hW
  obtain ⟨p, q, hA0, hV, rfl, _, _⟩ := hW
  have hA : DataW.TrodAll enc Try.prog W 0 (fun _ => true) true Try.f3.params.toList args.toList ds p := hA0
  rw [Try.params3] at hA hval
  obtain ⟨v0, d0, rfl, rfl, g0⟩ := trodAll_one hA
  obtain ⟨rfl, rfl⟩ := trodVars_none hV
  obtain ⟨a0, len0, cap0, rfl⟩ := okWide_slice Try.underlying22 (hval 0 22 v0 rfl rfl)
  obtain ⟨m0, el0, h0, cl0, b0⟩ := open_bytes g0
  clear hA0 hval0
  simp only [List.append_nil] at hW'
  have hlt : ∀ x ∈ p, x.block < W.heap.size := fun x hx => by simpa using hW'.lt x hx
  have hmax : maxLen = 9223372036854775807 := rfl
  rw [hmax] at b0
  subst el0
  have hc := law3 m0 _ _ cl0 (by omega) (heapP W) h0
  refine (Cl.calls hc).mono ?_
  rintro e W' ⟨v, rfl, hbel, rfl⟩
  have k0 := Below.trod (t := 22) laidOut (by kernel_rfl) (of_decide_eq_true (by kernel_rfl)) g0 hbel fun x hx => hlt x (by simp [hx])
  have hk := trodAll_mk1 k0
  refine ⟨_, rfl, [d0], [], p, [], p, [], hW', trodAll_mk1 (shut_bool Try.underlying4 _), hk, rfl, hbel.frame _, fun h => by cases h⟩

/-- MatrixBlocks answers true for every input, and the input reads as it did. -/
theorem matrixBlocks_holds : Rows.MatrixBlocksSaid :=
  OpenClaim.holds_of_wide 3 Try.f3 rfl rfl rfl rfl rfl rfl rfl ⟨rfl, rfl, rfl, rfl, rfl⟩ rfl rfl rfl rfl rfl (by kernel_rfl) Try.func3 (by kernel_rfl)
    (of_decide_eq_true (by kernel_rfl)) (by unfold Func.isWrapper; first | (rw [if_pos (by decide +kernel)]; kernel_rfl) | (rw [if_neg (by decide +kernel)]; exact ⟨rfl, rfl⟩))
    (fun os started H enc _ => matrixBlocks_lifted os started H enc)
#print axioms matrixBlocks_holds
end Go.Proofs.Ytbbjhegapilhpaa
