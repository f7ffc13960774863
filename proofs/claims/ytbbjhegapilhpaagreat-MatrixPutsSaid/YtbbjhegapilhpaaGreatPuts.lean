/- MatrixPuts answers true for every input, and nothing that is passed in is changed; no condition. -/
import Derived.Test.YtbbjhegapilhpaaGreatM7

set_option linter.unusedVariables false
set_option linter.unusedSimpArgs false
set_option linter.unnecessarySimpa false

namespace Go.Proofs.YtbbjhegapilhpaaGreat
open Go.Proofs.YtbbjhegapilhpaaGreat.X Go.Proofs.YtbbjhegapilhpaaGreat.X.PH Go.ChangeShapes Go.WideShapes Go.ChangeAt Go.RowKit Go.Deep
set_option maxRecDepth 100000
section
variable {H : Type} {enc : TypeId × Value → H} {W : World}
/-- An integer that is passed in. -/
theorem open_int {r : Reach} {base : Nat} {v : Value} {d : DataW H} {p : List MemPlace} (hv : Value.okWide Tryz.prog W r base 3 v) (_ : DataW.Trod enc Tryz.prog W 0 (fun _ => true) true 3 v d p) : ∃ n, v = .int .i64 n ∧ (-9223372036854775808 ≤ n ∧ n < 9223372036854775808) := by
  have hv' := hv
  obtain ⟨n, rfl⟩ := okWide_int Tryz.underlying3 hv
  refine ⟨n, rfl, ?_⟩
  simp only [Value.okWide, Tryz.underlying3, Cell.okWide, Cell.ok] at hv'
  have h := hv'.2
  unfold IntKind.has at h
  exact ⟨h.1, by have := h.2; have e : IntKind.i64.max = 9223372036854775807 := rfl; omega⟩
end
end Go.Proofs.YtbbjhegapilhpaaGreat

namespace Go.Proofs.YtbbjhegapilhpaaGreat
open Go.Proofs.YtbbjhegapilhpaaGreat.X Go.Proofs.YtbbjhegapilhpaaGreat.X.PH Go.ChangeShapes Go.WideShapes Go.ChangeAt Go.RowKit Go.Deep
set_option maxRecDepth 100000
theorem cells3i : Tryz.prog.cellsOf 3 = 1 := by kernel_rfl
section
variable {H : Type} {enc : TypeId × Value → H} {W : World}
/-- Integers that are passed in, in a slice. -/
theorem open_ints0 {a0 : Option Addr} {n0 c0 : Nat} {d : DataW H} {p : List MemPlace} (h : DataW.Trod enc Tryz.prog W 0 (fun _ => true) true 23 (.slice a0 n0 c0) d p) : ∃ l : List Int, n0 = l.length ∧ IntsH (heapP W) (.slice a0 n0 c0) l ∧ l.length ≤ c0 ∧ l.length ≤ maxLen := by
  obtain ⟨fuel, h⟩ := h
  rcases open_slice Tryz.underlying23 h with ⟨hv, _⟩ | ⟨a, len, cap, m, n, D, Pl, hv, _, hl, hmax, hm, _, hx⟩
  · simp [Value.cells] at hv
    obtain ⟨rfl, rfl, rfl⟩ := hv
    exact ⟨[], rfl, ⟨none, 0, rfl, .inl ⟨rfl, rfl⟩⟩, by simp, by simp⟩
  simp [Value.cells] at hv
  obtain ⟨rfl, rfl, rfl⟩ := hv
  simp only [if_true] at hm
  rw [cells3i] at hx
  obtain ⟨f, hf⟩ := choose_lt (α := Int) (n := n0) (p := fun i y => W.cells? 0 (a.add (i * 1)) 1 = some [.int .i64 y]) (fun i hi => by
    obtain ⟨cs', h1, h2⟩ := hx i (by omega)
    obtain ⟨k, rfl, _⟩ := DataW.trod_int Tryz.underlying3 h2
    exact ⟨k, h1⟩)
  refine ⟨(List.range n0).map f, by simp, ?_, by simp; omega, by simp; omega⟩
  rcases Nat.eq_zero_or_pos n0 with h0 | hpos
  · subst h0
    exact ⟨some a, c0, rfl, .inl ⟨rfl, rfl⟩⟩
  obtain ⟨b, off, c, t, fr, ha, hH, _⟩ := cells_block (hf 0 hpos) (by decide)
  have ha' : a = ⟨b, off, none⟩ := by
    rw [Nat.zero_mul] at ha
    exact ha
  subst ha'
  refine ⟨some ⟨b, off, none⟩, c0, by simp, .inr ⟨b, off, c, t, fr, rfl, hH, ?_⟩⟩
  have hfam := take_fam 1 (fun x : Int => [Value.int .i64 x]) f (fun _ => rfl) (c.toList.drop off) n0 fun i hi => by
    obtain ⟨b', off', c', t', fr', ha', hH', hc⟩ := cells_block (hf i hi) (by decide)
    have e : (Addr.add ⟨b, off, none⟩ (i * 1)) = ⟨b, off + i * 1, none⟩ := by
      unfold Addr.add
      split
      · rename_i e; rw [e]; rfl
      · rfl
    rw [e] at ha'
    cases ha'
    rw [hH] at hH'
    cases hH'
    rw [List.drop_drop]
    exact hc
  simp only [List.length_map, List.length_range]
  rw [Nat.mul_one] at hfam
  rw [hfam, List.map_map]
  generalize List.range n0 = r
  clear hfam hf hx hpos hH
  induction r with
  | nil => rfl
  | cons x r ih =>
    simp only [List.map_cons, List.flatten_cons]
    rw [ih]
    rfl
theorem open_ints {a0 : Option Addr} {n0 c0 : Nat} {d : DataW H} {p : List MemPlace} (h : DataW.Trod enc Tryz.prog W 0 (fun _ => true) true 23 (.slice a0 n0 c0) d p) : ∃ l : List Int, IntsH (heapP W) (.slice a0 n0 c0) l ∧ l.length ≤ maxLen := by
  obtain ⟨l, _, h1, _, h2⟩ := open_ints0 h
  exact ⟨l, h1, h2⟩
end
end Go.Proofs.YtbbjhegapilhpaaGreat

namespace Go.Proofs.YtbbjhegapilhpaaGreat
open Go.Proofs.YtbbjhegapilhpaaGreat.X Go.Proofs.YtbbjhegapilhpaaGreat.X.PH Go.ChangeShapes Go.WideShapes Go.ChangeAt Go.RowKit Go.Deep
set_option maxRecDepth 100000

theorem matrixPuts_lifted (os : Os) (started : os.Started) (H : Type) (enc : TypeId × Value → H) :
    ReturnsInHanded {} Tryz.checked os 3 .any (Rows.matrixPutsSpec.pre6 enc Tryz.prog Tryz.f3 Rows.matrixPutsRow.domain false) (Rows.matrixPutsSpec.post enc Tryz.prog Tryz.f3 false true false false) := by
  refine returnsInHanded_of_change (C := Tryz.checked) own started (by kernel_rfl) Tryz.func3
    (ChangeSpec.witness6 (enc := enc) (C := Tryz.checked) false ⟨#[], #[.int .i64 0, .int .i64 0, .slice none 0 0, .slice none 0 0], []⟩ 8 (by kernel_rfl) (by kernel_rfl) (by kernel_rfl) (by kernel_rfl)) ?_
  intro W base args ds gs before hval0 hW _ _
  have hval : ∀ (j : Nat) t v, Tryz.f3.params[j]? = some t → args[j]? = some v → Value.okWide Tryz.prog W .any base t v := hval0
  have hW' := hW
  obtain ⟨p, q, hA0, hV, rfl, _, _⟩ := hW
  have hA : DataW.TrodAll enc Tryz.prog W 0 (fun _ => true) true Tryz.f3.params.toList args.toList ds p := hA0
  rw [Tryz.params3] at hA hval
  obtain ⟨v0, v1, v2, v3, d0, d1, d2, d3, p0, p1, p2, p3, rfl, rfl, rfl, g0, g1, g2, g3⟩ := trodAll_four hA
  obtain ⟨rfl, rfl⟩ := trodVars_none hV
  obtain ⟨m0, rfl, b0⟩ := open_int (hval 0 3 v0 rfl rfl) g0
  obtain ⟨m1, rfl, b1⟩ := open_int (hval 1 3 v1 rfl rfl) g1
  obtain ⟨a2, len2, cap2, rfl⟩ := okWide_slice Tryz.underlying22 (hval 2 22 v2 rfl rfl)
  obtain ⟨m2, h2, b2⟩ := open_mat g2
  obtain ⟨a3, len3, cap3, rfl⟩ := okWide_slice Tryz.underlying23 (hval 3 23 v3 rfl rfl)
  obtain ⟨m3, h3, b3⟩ := open_ints g3
  clear hA0 hval0
  simp only [List.append_nil] at hW'
  have hlt : ∀ x ∈ p0 ++ p1 ++ p2 ++ p3, x.block < W.heap.size := fun x hx => by simpa using hW'.lt x hx
  have hmax : maxLen = 9223372036854775807 := rfl
  rw [hmax] at b2 b3
  have hc := c3 m0 m1 m2 m3 (by omega) (by omega) (heapP W) _ _ h2 h3
  refine (Cl.calls hc).mono ?_
  rintro e W' ⟨v, rfl, hbel, rfl⟩
  have k0 := Below.trod (t := 3) laidOut (by kernel_rfl) (of_decide_eq_true (by kernel_rfl)) g0 hbel fun x hx => hlt x (by simp [hx])
  have k1 := Below.trod (t := 3) laidOut (by kernel_rfl) (of_decide_eq_true (by kernel_rfl)) g1 hbel fun x hx => hlt x (by simp [hx])
  have k2 := Below.trod (t := 22) laidOut (by kernel_rfl) (of_decide_eq_true (by kernel_rfl)) g2 hbel fun x hx => hlt x (by simp [hx])
  have k3 := Below.trod (t := 23) laidOut (by kernel_rfl) (of_decide_eq_true (by kernel_rfl)) g3 hbel fun x hx => hlt x (by simp [hx])
  have hk := trodAll_mk4 k0 k1 k2 k3
  rw [← List.append_assoc, ← List.append_assoc] at hk
  refine ⟨_, rfl, [d0, d1, d2, d3], [], p0 ++ p1 ++ p2 ++ p3, [], p0 ++ p1 ++ p2 ++ p3, [], hW', trodAll_mk1 (shut_bool Tryz.underlying4 _), hk, rfl, hbel.frame _, fun h => by cases h⟩

/-- MatrixPuts answers true for every input, and the input reads as it did. -/
theorem matrixPuts_holds : Rows.MatrixPutsSaid :=
  OpenClaim.holds_of_wide 3 Tryz.f3 rfl rfl rfl rfl rfl rfl rfl ⟨rfl, rfl, rfl, rfl, rfl⟩ rfl rfl rfl rfl rfl (by kernel_rfl) Tryz.func3 (by kernel_rfl)
    (of_decide_eq_true (by kernel_rfl)) (by unfold Func.isWrapper; first | (rw [if_pos (by decide +kernel)]; kernel_rfl) | (rw [if_neg (by decide +kernel)]; exact ⟨rfl, rfl⟩))
    (fun os started H enc _ => matrixPuts_lifted os started H enc)
#print axioms matrixPuts_holds
end Go.Proofs.YtbbjhegapilhpaaGreat
