/- MatrixApart answers true for every list of bytes, and the list reads as it did: operators on different wires can be exchanged and are the product of blocks, also in another order of the wires. -/
import Derived.Test.YtmhnalikebkhjaaGreatM7

set_option linter.unusedVariables false
set_option linter.unusedSimpArgs false
set_option linter.unnecessarySimpa false


namespace Go.Proofs.YtmhnalikebkhjaaGreat
open Go.Proofs.YtmhnalikebkhjaaGreat.X Go.Proofs.YtmhnalikebkhjaaGreat.X.PH Go.ChangeShapes Go.WideShapes Go.ChangeAt Go.RowKit Go.Deep
set_option maxRecDepth 100000
theorem cells5 : Tryz.prog.cellsOf 5 = 1 := by kernel_rfl
section
variable {H : Type} {enc : TypeId × Value → H} {W : World}
/-- Bytes that are passed in. -/
theorem open_bytes {a0 : Option Addr} {n0 c0 : Nat} {d : DataW H} {p : List MemPlace} (h : DataW.Trod enc Tryz.prog W 0 (fun _ => true) true 22 (.slice a0 n0 c0) d p) : ∃ l : List Int, n0 = l.length ∧ BytesH (heapP W) (.slice a0 n0 c0) l ∧ l.length ≤ c0 ∧ l.length ≤ maxLen := by
  obtain ⟨fuel, h⟩ := h
  rcases open_slice Tryz.underlying22 h with ⟨hv, _⟩ | ⟨a, len, cap, m, n, D, Pl, hv, _, hl, hmax, hm, _, hx⟩
  · simp [Value.cells] at hv
    obtain ⟨rfl, rfl, rfl⟩ := hv
    exact ⟨[], rfl, ⟨none, 0, rfl, .inl ⟨rfl, rfl⟩⟩, by simp, by simp⟩
  simp [Value.cells] at hv
  obtain ⟨rfl, rfl, rfl⟩ := hv
  simp only [if_true] at hm
  rw [cells5] at hx
  obtain ⟨f, hf⟩ := choose_lt (α := Int) (n := n0) (p := fun i y => W.cells? 0 (a.add (i * 1)) 1 = some [.int .u8 y]) (fun i hi => by
    obtain ⟨cs', h1, h2⟩ := hx i (by omega)
    obtain ⟨k, rfl, _⟩ := DataW.trod_int Tryz.underlying5 h2
    exact ⟨k, h1⟩)
  refine ⟨(List.range n0).map f, by simp, ?_, by simp; omega, by simp; omega⟩
  rcases Nat.eq_zero_or_pos n0 with h0 | hpos
  · subst h0
    exact ⟨some a, c0, rfl, .inl ⟨rfl, rfl⟩⟩
  obtain ⟨b, off, c, t, fr, ha, hH, _⟩ := cells_block (hf 0 hpos) (by decide)
  have ha' : a = ⟨b, off, none⟩ := by
    rw [Nat.zero_mul] at ha
    exact ha
  subst ha'
  refine ⟨some ⟨b, off, none⟩, c0, by simp, .inr ⟨b, off, c, t, fr, rfl, hH, ?_⟩⟩
  have hfam := take_fam 1 (fun x : Int => [Value.int .u8 x]) f (fun _ => rfl) (c.toList.drop off) n0 fun i hi => by
    obtain ⟨b', off', c', t', fr', ha', hH', hc⟩ := cells_block (hf i hi) (by decide)
    have e : (Addr.add ⟨b, off, none⟩ (i * 1)) = ⟨b, off + i * 1, none⟩ := by
      unfold Addr.add
      split
      · rename_i e; rw [e]; rfl
      · rfl
    rw [e] at ha'
    cases ha'
    rw [hH] at hH'
    cases hH'
    rw [List.drop_drop]
    exact hc
  simp only [List.length_map, List.length_range]
  rw [Nat.mul_one] at hfam
  rw [hfam, List.map_map]
  generalize List.range n0 = r
  clear hfam hf hx hpos hH
  induction r with
  | nil => rfl
  | cons x r ih =>
    simp only [List.map_cons, List.flatten_cons]
    rw [ih]
    rfl
end
end Go.Proofs.YtmhnalikebkhjaaGreat


namespace Go.Proofs.YtmhnalikebkhjaaGreat
open Go.Proofs.YtmhnalikebkhjaaGreat.X Go.Proofs.YtmhnalikebkhjaaGreat.X.PH Go.ChangeShapes Go.WideShapes Go.ChangeAt Go.RowKit Go.Deep
set_option maxRecDepth 100000

theorem matrixApart_lifted (os : Os) (started : os.Started) (H : Type) (enc : TypeId × Value → H) :
    ReturnsInHanded {} Tryz.checked os 3 .any (Rows.matrixApartSpec.pre6 enc Tryz.prog Tryz.f3 Rows.matrixApartRow.domain false) (Rows.matrixApartSpec.post enc Tryz.prog Tryz.f3 false true false false) := by
  refine returnsInHanded_of_change (C := Tryz.checked) own started (by kernel_rfl) Tryz.func3
    (ChangeSpec.witness6 (enc := enc) (C := Tryz.checked) false ⟨#[], #[.slice none 0 0], []⟩ 8 (by kernel_rfl) (by kernel_rfl) (by kernel_rfl) (by kernel_rfl)) ?_
  intro W base args ds gs before hval0 hW _ _
  have hval : ∀ (j : Nat) t v, Tryz.f3.params[j]? = some t → args[j]? = some v → Value.okWide Tryz.prog W .any base t v := hval0
  have hW' := hW
  obtain ⟨p, q, hA0, hV, rfl, _, _⟩ := hW
  have hA : DataW.TrodAll enc Tryz.prog W 0 (fun _ => true) true Tryz.f3.params.toList args.toList ds p := hA0
  rw [Tryz.params3] at hA hval
  obtain ⟨v0, d0, rfl, rfl, g0⟩ := trodAll_one hA
  obtain ⟨rfl, rfl⟩ := trodVars_none hV
  obtain ⟨a0, len0, cap0, rfl⟩ := okWide_slice Tryz.underlying22 (hval 0 22 v0 rfl rfl)
  obtain ⟨m0, el0, h0, cl0, b0⟩ := open_bytes g0
  clear hA0 hval0
  simp only [List.append_nil] at hW'
  have hlt : ∀ x ∈ p, x.block < W.heap.size := fun x hx => by simpa using hW'.lt x hx
  have hmax : maxLen = 9223372036854775807 := rfl
  rw [hmax] at b0
  subst el0
  have hc := c11 m0 _ _ cl0 (by omega) (heapP W) h0
  refine (Cl.calls hc).mono ?_
  rintro e W' ⟨v, rfl, hbel, rfl⟩
  have k0 := Below.trod (t := 22) laidOut (by kernel_rfl) (of_decide_eq_true (by kernel_rfl)) g0 hbel fun x hx => hlt x (by simp [hx])
  have hk := trodAll_mk1 k0
  refine ⟨_, rfl, [d0], [], p, [], p, [], hW', trodAll_mk1 (shut_bool Tryz.underlying4 _), hk, rfl, hbel.frame _, fun h => by cases h⟩

/-- MatrixApart answers true for every input, and the input reads as it did. -/
theorem matrixApart_holds : Rows.MatrixApartSaid :=
  OpenClaim.holds_of_wide 3 Tryz.f3 rfl rfl rfl rfl rfl rfl rfl ⟨rfl, rfl, rfl, rfl, rfl⟩ rfl rfl rfl rfl rfl (by kernel_rfl) Tryz.func3 (by kernel_rfl)
    (of_decide_eq_true (by kernel_rfl)) (by unfold Func.isWrapper; first | (rw [if_pos (by decide +kernel)]; kernel_rfl) | (rw [if_neg (by decide +kernel)]; exact ⟨rfl, rfl⟩))
    (fun os started H enc _ => matrixApart_lifted os started H enc)
#print axioms matrixApart_holds
end Go.Proofs.YtmhnalikebkhjaaGreat
