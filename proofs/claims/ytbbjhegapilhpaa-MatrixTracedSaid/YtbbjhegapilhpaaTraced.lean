/- MatrixTraced answers true for every input, and nothing that is passed in is changed; no condition. -/
import Derived.Test.YtbbjhegapilhpaaM5

set_option linter.unusedVariables false
set_option linter.unusedSimpArgs false
set_option linter.unnecessarySimpa false

namespace Go.Proofs.Ytbbjhegapilhpaa
open Go.Proofs.Ytbbjhegapilhpaa.X Go.Proofs.Ytbbjhegapilhpaa.X.PH
set_option maxRecDepth 100000

theorem traced_one {x y xy yx : Mx} {a b : Nat} (hx : MV 3 20 x a b) (hy : MV 3 20 y b a) (ha : a ≤ 4) (hb : b ≤ 4) (h1 : MulMF x y = (xy, 0)) (h2 : MulMF y x = (yx, 0)) : ∃ p, TraceF xy = (p, 0) ∧ TraceF yx = (p, 0) := by
  obtain ⟨xy', p1, p2, p3, p4⟩ := MulM_lv hx hy (by decide) (by decide) (by omega)
  obtain ⟨yx', q1, q2, q3, q4⟩ := MulM_lv hy hx (by decide) (by decide) (by omega)
  rw [h1] at p1
  rw [h2] at q1
  cases p1
  cases q1
  have p2 := p2.mono (B := 6400) (by omega)
  have q2 := q2.mono (B := 6400) (by omega)
  obtain ⟨p, s1, s2, s3, s4⟩ := trace_lv p2 (by decide) (by decide) (by omega)
  obtain ⟨q, t1, t2, t3, t4⟩ := trace_lv q2 (by decide) (by decide) (by omega)
  have e1 : q = p := by
    refine t2.ext s2 t3.le s3.le ?_
    show lv 6 q = lv 6 p
    rw [t4, s4]
    rw [su_congr b fun i hi => q4 i i hi hi, su_congr a fun i hi => p4 i i hi hi, su_swap]
    refine su_congr a fun i hi => su_congr b fun j hj => ?_
    exact pz_comm _ _
  exact ⟨p, s1, by rw [t1, e1]⟩

set_option maxHeartbeats 4000000 in
theorem law4 (l : List Int) (base : Option Addr) (cap : Nat) (hcap : l.length ≤ cap) (hlen : l.length < 9223372036854775808) (H : PH) (hv : BytesH H (.slice base l.length cap) l) : Cl Try.prog 4 [.slice base l.length cap] H emp fun r _ _ => r = .bool true := by
  refine Cl_of (pol := polL) Γok Try.func4 (by kernel_rfl) rfl ?_
  conv => whnf
  refine (c49 l base cap hcap hlen _ hv).mono fun r H1 O1 s1 hr => ?_
  obtain ⟨bk, rfl, st⟩ := hr
  conv => whnf
  refine (c50 1 4 (by decide) (by decide) (by decide) (0) bk (by omega) _ _ st).mono fun r H2 O2 s2 hr => ?_
  obtain ⟨a, rfl, ha, _, st⟩ := hr
  obtain ⟨a, rfl⟩ := nat_of (a := a) (by omega)
  conv => whnf
  refine (c50 1 4 (by decide) (by decide) (by decide) (0 + 1) bk (by omega) _ _ st).mono fun r H3 O3 s3 hr => ?_
  obtain ⟨b, rfl, hb, _, st⟩ := hr
  obtain ⟨b, rfl⟩ := nat_of (a := b) (by omega)
  conv => whnf
  refine (c51' a b (by omega) (by omega) (0 + 1 + 1) bk (by omega) _ _ st).mono fun r H4 O4 s4 hr => ?_
  obtain ⟨x, hx, mx, st⟩ := hr
  replace mx := small_MV mx (by omega) (by omega) (by omega) (by omega)
  conv => whnf
  refine (c51' b a (by omega) (by omega) (0 + 1 + 1 + 320 * a) bk (by omega) _ _ st).mono fun r H5 O5 s5 hr => ?_
  obtain ⟨y, hy, my, st⟩ := hr
  replace hx := hx.up s5
  replace my := small_MV my (by omega) (by omega) (by omega) (by omega)
  conv => whnf
  obtain ⟨xy, p1, p2, p3, p4⟩ := MulM_lv mx my (by decide) (by decide) (by omega)
  obtain ⟨yx, q1, q2, q3, q4⟩ := MulM_lv my mx (by decide) (by decide) (by omega)
  have mxy := p2.mono (B := 6400) (by omega)
  have myx := q2.mono (B := 6400) (by omega)
  obtain ⟨p, t1⟩ := traced_one mx my (by omega) (by omega) p1 q1
  have hc6 := Cl.outH (c40q x y mx.lens.1 my.lens.1 _ _ _ hx hy)
  rw [p1] at hc6
  refine hc6.use fun r H6 s6 hr => ?_
  obtain ⟨_, vxy, rfl, hxy⟩ := hr
  clear hc6
  obtain ⟨sb6, sc6, rfl⟩ := MatH.sl hxy
  replace hx := hx.up s6
  replace hy := hy.up s6
  replace st := st.up s6
  conv => whnf
  have hc7 := Cl.outH (c40q y x my.lens.1 mx.lens.1 _ _ _ hy hx)
  rw [q1] at hc7
  refine hc7.use fun r H7 s7 hr => ?_
  obtain ⟨_, vyx, rfl, hyx⟩ := hr
  clear hc7
  obtain ⟨sb7, sc7, rfl⟩ := MatH.sl hyx
  replace hx := hx.up s7
  replace hy := hy.up s7
  replace st := st.up s7
  replace hxy := hxy.up s7
  conv => whnf
  have hc8 := c60 xy mxy.lens.1 _ _ hxy
  rw [t1.1] at hc8
  refine hc8.val fun H8 s8 => ?_
  clear hc8
  replace hx := hx.up s8
  replace hy := hy.up s8
  replace st := st.up s8
  replace hxy := hxy.up s8
  replace hyx := hyx.up s8
  conv => whnf
  intro bn8
  conv => whnf
  have hc9 := c60 yx myx.lens.1 _ _ hyx
  rw [t1.2] at hc9
  refine hc9.val fun H9 s9 => ?_
  clear hc9
  replace hx := hx.up s9
  replace hy := hy.up s9
  replace st := st.up s9
  replace hxy := hxy.up s9
  replace hyx := hyx.up s9
  conv => whnf
  intro bn9
  conv => whnf
  rw [eqCells_nv p]
  conv => whnf
  refine (c51' a a (by omega) (by omega) (0 + 1 + 1 + 320 * a + 320 * b) bk (by omega) _ _ st).mono fun r H10 O10 s10 hr => ?_
  obtain ⟨u, hu, mu, st⟩ := hr
  replace hx := hx.up s10
  replace hy := hy.up s10
  replace hxy := hxy.up s10
  replace hyx := hyx.up s10
  replace mu := small_MV mu (by omega) (by omega) (by omega) (by omega)
  conv => whnf
  refine (c51' b b (by omega) (by omega) (0 + 1 + 1 + 320 * a + 320 * b + 320 * a) bk (by omega) _ _ st).mono fun r H11 O11 s11 hr => ?_
  obtain ⟨v, hv, mv, st⟩ := hr
  replace hx := hx.up s11
  replace hy := hy.up s11
  replace hxy := hxy.up s11
  replace hyx := hyx.up s11
  replace hu := hu.up s11
  replace mv := small_MV mv (by omega) (by omega) (by omega) (by omega)
  conv => whnf
  obtain ⟨_, _, kr, d, _, t, tu, tv, cj, _, _, _, _, e5, e6, e7, e8, e9, e10, e11, e12, _, _, mkr, md⟩ := traced_law mx my mu mv (by omega) (by omega)
  have hc12 := Cl.outH (c41q u v mu.lens.1 mv.lens.1 _ _ _ hu hv)
  rw [e5] at hc12
  refine hc12.use fun r H12 s12 hr => ?_
  obtain ⟨_, vkr, rfl, hkr⟩ := hr
  clear hc12
  obtain ⟨sb12, sc12, rfl⟩ := MatH.sl hkr
  replace hx := hx.up s12
  replace hy := hy.up s12
  replace hxy := hxy.up s12
  replace hyx := hyx.up s12
  replace hu := hu.up s12
  replace hv := hv.up s12
  conv => whnf
  have hc13 := c60 kr mkr.lens.1 _ _ hkr
  rw [e6] at hc13
  refine hc13.val fun H13 s13 => ?_
  clear hc13
  replace hx := hx.up s13
  replace hy := hy.up s13
  replace hxy := hxy.up s13
  replace hyx := hyx.up s13
  replace hu := hu.up s13
  replace hv := hv.up s13
  replace hkr := hkr.up s13
  conv => whnf
  intro bn13
  conv => whnf
  have hc14 := c60 u mu.lens.1 _ _ hu
  rw [e7] at hc14
  refine hc14.val fun H14 s14 => ?_
  clear hc14
  replace hx := hx.up s14
  replace hy := hy.up s14
  replace hxy := hxy.up s14
  replace hyx := hyx.up s14
  replace hu := hu.up s14
  replace hv := hv.up s14
  replace hkr := hkr.up s14
  conv => whnf
  intro bn14
  conv => whnf
  have hc15 := c60 v mv.lens.1 _ _ hv
  rw [e8] at hc15
  refine hc15.val fun H15 s15 => ?_
  clear hc15
  replace hx := hx.up s15
  replace hy := hy.up s15
  replace hxy := hxy.up s15
  replace hyx := hyx.up s15
  replace hu := hu.up s15
  replace hv := hv.up s15
  replace hkr := hkr.up s15
  conv => whnf
  intro bn15
  conv => whnf
  have hc16 := c104 tu tv H15
  rw [e9] at hc16
  refine hc16.val fun H16 s16 => ?_
  clear hc16
  replace hx := hx.up s16
  replace hy := hy.up s16
  replace hxy := hxy.up s16
  replace hyx := hyx.up s16
  replace hu := hu.up s16
  replace hv := hv.up s16
  replace hkr := hkr.up s16
  conv => whnf
  intro bn16
  conv => whnf
  have hc17 := Cl.outH (c53 u mu.lens.1 _ _ hu)
  rw [e10] at hc17
  refine hc17.use fun r H17 s17 hr => ?_
  obtain ⟨_, vd, rfl, hd⟩ := hr
  clear hc17
  obtain ⟨sb17, sc17, rfl⟩ := MatH.sl hd
  replace hx := hx.up s17
  replace hy := hy.up s17
  replace hxy := hxy.up s17
  replace hyx := hyx.up s17
  replace hu := hu.up s17
  replace hv := hv.up s17
  replace hkr := hkr.up s17
  conv => whnf
  have hc18 := c60 d md.lens.1 _ _ hd
  rw [e11] at hc18
  refine hc18.val fun H18 s18 => ?_
  clear hc18
  replace hx := hx.up s18
  replace hy := hy.up s18
  replace hxy := hxy.up s18
  replace hyx := hyx.up s18
  replace hu := hu.up s18
  replace hv := hv.up s18
  replace hkr := hkr.up s18
  replace hd := hd.up s18
  conv => whnf
  intro bn18
  conv => whnf
  have hc19 := c122 tu H18
  rw [e12] at hc19
  refine hc19.val fun H19 s19 => ?_
  clear hc19
  replace hx := hx.up s19
  replace hy := hy.up s19
  replace hxy := hxy.up s19
  replace hyx := hyx.up s19
  replace hu := hu.up s19
  replace hv := hv.up s19
  replace hkr := hkr.up s19
  replace hd := hd.up s19
  conv => whnf
  intro bn19
  conv => whnf
  rw [eqCells_nv t]
  conv => whnf
  rw [eqCells_nv cj]
  conv => whnf
  refine (c14 _).val fun H20 s20 => ?_
  replace hx := hx.up s20
  replace hy := hy.up s20
  replace hxy := hxy.up s20
  replace hyx := hyx.up s20
  replace hu := hu.up s20
  replace hv := hv.up s20
  replace hkr := hkr.up s20
  replace hd := hd.up s20
  conv => whnf
end Go.Proofs.Ytbbjhegapilhpaa

namespace Go.Proofs.Ytbbjhegapilhpaa
open Go.Proofs.Ytbbjhegapilhpaa.X Go.Proofs.Ytbbjhegapilhpaa.X.PH Go.ChangeShapes Go.WideShapes Go.ChangeAt Go.RowKit Go.Deep
set_option maxRecDepth 100000

theorem matrixTraced_lifted (os : Os) (started : os.Started) (H : Type) (enc : TypeId × Value → H) :
    ReturnsInHanded {} Try.checked os 4 .any (Rows.matrixTracedSpec.pre6 enc Try.prog Try.f4 Rows.matrixTracedRow.domain false) (Rows.matrixTracedSpec.post enc Try.prog Try.f4 false true false false) := by
  refine returnsInHanded_of_change (C := Try.checked) own started (by kernel_rfl) Try.func4
    (ChangeSpec.witness6 (enc := enc) (C := Try.checked) false ⟨#[], #[.slice none 0 0], []⟩ 8 (by kernel_rfl) (by kernel_rfl) (by kernel_rfl) (by kernel_rfl)) ?_
  intro W base args ds gs before hval0 hW _ _
  have hval : ∀ (j : Nat) t v, Try.f4.params[j]? = some t → args[j]? = some v → Value.okWide Try.prog W .any base t v := hval0
  have hW' := hW
  obtain ⟨p, q, hA0, hV, rfl, _, _⟩ := hW
  have hA : DataW.TrodAll enc Try.prog W 0 (fun _ => true) true Try.f4.params.toList args.toList ds p := hA0
  rw [Try.params4] at hA hval
  obtain ⟨v0, d0, rfl, rfl, g0⟩ := trodAll_one hA
  obtain ⟨rfl, rfl⟩ := trodVars_none hV
  obtain ⟨a0, len0, cap0, rfl⟩ := okWide_slice Try.underlying22 (hval 0 22 v0 rfl rfl)
  obtain ⟨m0, el0, h0, cl0, b0⟩ := open_bytes g0
  clear hA0 hval0
  simp only [List.append_nil] at hW'
  have hlt : ∀ x ∈ p, x.block < W.heap.size := fun x hx => by simpa using hW'.lt x hx
  have hmax : maxLen = 9223372036854775807 := rfl
  rw [hmax] at b0
  subst el0
  have hc := law4 m0 _ _ cl0 (by omega) (heapP W) h0
  refine (Cl.calls hc).mono ?_
  rintro e W' ⟨v, rfl, hbel, rfl⟩
  have k0 := Below.trod (t := 22) laidOut (by kernel_rfl) (of_decide_eq_true (by kernel_rfl)) g0 hbel fun x hx => hlt x (by simp [hx])
  have hk := trodAll_mk1 k0
  refine ⟨_, rfl, [d0], [], p, [], p, [], hW', trodAll_mk1 (shut_bool Try.underlying4 _), hk, rfl, hbel.frame _, fun h => by cases h⟩

/-- MatrixTraced answers true for every input, and the input reads as it did. -/
theorem matrixTraced_holds : Rows.MatrixTracedSaid :=
  OpenClaim.holds_of_wide 4 Try.f4 rfl rfl rfl rfl rfl rfl rfl ⟨rfl, rfl, rfl, rfl, rfl⟩ rfl rfl rfl rfl rfl (by kernel_rfl) Try.func4 (by kernel_rfl)
    (of_decide_eq_true (by kernel_rfl)) (by unfold Func.isWrapper; first | (rw [if_pos (by decide +kernel)]; kernel_rfl) | (rw [if_neg (by decide +kernel)]; exact ⟨rfl, rfl⟩))
    (fun os started H enc _ => matrixTraced_lifted os started H enc)
#print axioms matrixTraced_holds
end Go.Proofs.Ytbbjhegapilhpaa
