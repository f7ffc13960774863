/- MatrixSames answers true for every input, and its arguments read afterwards as they did before; nothing is asked of the input. -/
import Derived.Test.YtbbjhegapilhpaaGreatM4

set_option linter.unusedVariables false
set_option linter.unusedSimpArgs false
set_option linter.unnecessarySimpa false

namespace Go.Proofs.YtbbjhegapilhpaaGreat
open Go.Proofs.YtbbjhegapilhpaaGreat.X Go.Proofs.YtbbjhegapilhpaaGreat.X.PH
set_option maxRecDepth 100000

/-- The same number at a place. -/
def eqAt (m n : List (List (P4 × Int))) (t : Nat) : Bool :=
  eqN (formR (entry m (t / wideM m) (t % wideM m)).1 (entry m (t / wideM m) (t % wideM m)).2) (formR (entry n (t / wideM m) (t % wideM m)).1 (entry n (t / wideM m) (t % wideM m)).2)
def equalR (m n : List (List (P4 × Int))) : Bool := alikeF m n && (List.range (m.length * wideM m)).all (eqAt m n)
/-- The K of right numbers. -/
theorem right_k {m : List (List (P4 × Int))} (h : checkMF m = 0) {i k : Nat} (hi : i < m.length) (hk : k < m[i].length) : -9223372036854775808 ≤ (m[i][k]).2 ∧ (m[i][k]).2 < 9223372036854775808 := by
  rw [checkMF_checkMR] at h
  obtain ⟨_, _, _, z4⟩ := checkMR_zero h
  have := checkR_zero (z4 _ (List.getElem_mem hi) _ (List.getElem_mem hk))
  omega
theorem alike_iff {m n : List (List (P4 × Int))} (h : alikeF m n = true) : m.length = n.length ∧ wideM m = wideM n := by
  unfold alikeF at h
  simp at h
  omega
theorem divmod {i k w : Nat} (hk : k < w) : (i * w + k) / w = i ∧ (i * w + k) % w = k := by
  have hw : 0 < w := by omega
  rw [Nat.mul_comm, Nat.mul_add_div hw, Nat.div_eq_of_lt hk, Nat.mul_add_mod, Nat.mod_eq_of_lt hk]
  exact ⟨rfl, rfl⟩
theorem c96 (m n : List (List (P4 × Int))) (hm : checkMF m = 0) (hn : checkMF n = 0) (H : PH) (u v : Value) (hu : MatH H u m) (hv : MatH H v n) : Cl Tryz.prog 96 [u, v] H emp fun r _ _ => r = .bool (equalR m n) := by
  obtain ⟨base, cap, rfl⟩ := hu.sl
  obtain ⟨base', cap', rfl⟩ := hv.sl
  have rm := right_of hm
  have rn := right_of hn
  refine Cl_of (pol := polL) Γok Tryz.func96 (by kernel_rfl) rfl ?_
  conv => whnf
  refine (c97 m n rm.pos rn.pos _ _ _ hu hv).val fun H1 s1 => ?_
  conv => whnf
  unfold equalR
  refine if_intro (fun ha => ?_) (fun ha => ?_)
  · conv => whnf
    rw [show alikeF m n = false by simpa using ha]
    rfl
  have ha : alikeF m n = true := by simpa using ha
  obtain ⟨e1, e2⟩ := alike_iff ha
  rw [ha, Bool.true_and]
  have hle := rm.le
  have hwle := rm.wle
  conv => whnf
  refine W_loop (pol := polL) Γok (Nat × PH) (fun i => i.1 ≤ m.length ∧ Sub H1 i.2 ∧ ∀ t, t < i.1 * wideM m → eqAt m n t = true) (fun i => m.length - i.1) (fun i => [(5, .v (.int .i64 i.1))]) (fun _ => []) (fun i => i.2) (fun _ => emp) ⟨(0, H1), ⟨by simp, Sub.refl _, by simp⟩, rfl, rfl, ?_⟩ ?_
  · conv => whnf
    repeat (refine ⟨rfl, ?_⟩; conv => whnf)
    exact trivial
  · rintro ⟨i, H'⟩ ⟨h1, h2, h3⟩
    dsimp only at h1 h2 h3
    conv => whnf
    refine if_intro (fun h => ?_) (fun h => ?_)
    · have hi : i < m.length := by simpa using h
      have hi' : i < n.length := by omega
      have r1 := rm.row _ (List.getElem_mem hi)
      have r2 := rn.row _ (List.getElem_mem hi')
      conv => whnf
      refine W_loopX (pol := polL) Γok (Nat × PH) (fun k => k.1 ≤ wideM m ∧ Sub H1 k.2 ∧ ∀ t, t < i * wideM m + k.1 → eqAt m n t = true) (fun k => wideM m - k.1) (fun e k => e = .exit 2 ∧ Sub H1 k.2 ∧ ∀ t, t < (i + 1) * wideM m → eqAt m n t = true) (fun k => [(6, .v (.int .i64 k.1))]) (fun _ => []) (fun k => k.2) (fun _ => emp) ⟨(0, H'), ⟨by simp, h2, by simpa using h3⟩, rfl, rfl, ?_⟩ ?_ ?_
      · conv => whnf
        repeat (refine ⟨rfl, ?_⟩; conv => whnf)
        exact trivial
      · rintro ⟨k, H2⟩ ⟨k1, k2, k3⟩
        dsimp only at k1 k2 k3
        have hu2 := (hu.up s1).up k2
        have hv2 := (hv.up s1).up k2
        obtain ⟨bu, ou, ru, cu, hbu, hru, _⟩ := hu2.rd (O := emp) hi
        subst hbu
        conv => whnf
        refine dec_intro (by omega) ?_
        conv => whnf
        refine ⟨_, hru, ?_⟩
        conv => whnf
        refine if_intro (fun h => ?_) (fun h => ?_)
        · have hk : k < wideM m := by simp at h; omega
          have hkm : k < m[i].length := by omega
          have hkn : k < n[i].length := by omega
          obtain ⟨b0, off, b', off', cu', hb0, q1, q2⟩ := hu2.row' hi hkm
          obtain ⟨b1, off1, b1', off1', cv', hb1, q3, q4⟩ := hv2.row' hi' hkn
          cases hb0
          subst hb1
          have hdm := divmod (i := i) hk
          have he : eqAt m n (i * wideM m + k) = eqN (formR m[i][k].1 m[i][k].2) (formR n[i][k].1 n[i][k].2) := by
            unfold eqAt
            rw [hdm.1, hdm.2, entry_get hi hkm, entry_get hi' hkn]
          conv => whnf
          refine W_draw (pol := polL) Γok mixes [(0, .pendO), (1, .pendO), (2, .pendO), (3, .pendO), (4, .pendO), (5, .pendO), (6, .pendO), (7, .pendO), (8, .pendO), (9, .pendO), (10, .pendO), (11, .pendO), (12, .pendO), (13, .pendO), (14, .lock), (15, .pendO)] 42 (by kernel_rfl) rfl ?_
          conv => whnf
          refine dec_intro (by omega) ?_
          conv => whnf
          refine ⟨_, q1 _, ?_⟩
          conv => whnf
          refine dec_intro (by omega) ?_
          conv => whnf
          refine ⟨_, q2 _, ?_⟩
          conv => whnf
          refine dec_intro (by omega) ?_
          conv => whnf
          refine ⟨_, q3 _, ?_⟩
          conv => whnf
          refine dec_intro (by omega) ?_
          conv => whnf
          refine ⟨_, q4 _, ?_⟩
          conv => whnf
          refine (c100 m[i][k] n[i][k] (right_k hm hi hkm) (right_k hn hi' hkn) _).val fun H3 s3 => ?_
          conv => whnf
          refine if_intro (fun hq => ?_) (fun hq => ?_)
          · conv => whnf
            refine .inl ?_
            conv => whnf
            have : (List.range (m.length * wideM m)).all (eqAt m n) = false := by
              rw [List.all_eq_false]
              refine ⟨i * wideM m + k, List.mem_range.2 ?_, by rw [he]; simpa using hq⟩
              have : (i + 1) * wideM m ≤ m.length * wideM m := Nat.mul_le_mul_right _ hi
              rw [Nat.succ_mul] at this
              omega
            rw [this]
          · conv => whnf
            refine ⟨(k + 1, H3), ⟨hk, k2.trans s3, fun t ht => ?_⟩, by dsimp only; omega, ?_⟩
            · rcases Nat.lt_or_ge t (i * wideM m + k) with h | h
              · exact k3 t h
              · rw [show t = i * wideM m + k by omega, he]; simpa using hq
            conv => whnf
            refine ⟨rfl, rfl, ?_⟩
            conv => whnf
            repeat (refine ⟨rfl, ?_⟩; conv => whnf)
            refine ⟨by show En.v (.int .i64 (IntKind.i64.wrap (k + 1))) = _; rw [wrap_id (by omega) (by omega)]; rfl, ?_⟩
            conv => whnf
            repeat (refine ⟨rfl, ?_⟩; conv => whnf)
            exact trivial
        · have hk : k = wideM m := by simp at h; omega
          conv => whnf
          refine .inr ⟨(k, H2), ⟨rfl, k2, fun t ht => k3 t (by rw [Nat.succ_mul] at ht; omega)⟩, ?_⟩
          conv => whnf
          refine ⟨rfl, rfl, ?_⟩
          conv => whnf
          repeat (refine ⟨rfl, ?_⟩; conv => whnf)
          exact trivial
      · rintro e ⟨k, H2⟩ ⟨rfl, k2, k3⟩
        conv => whnf
        refine ⟨(i + 1, H2), ⟨hi, k2, k3⟩, by dsimp only; omega, ?_⟩
        conv => whnf
        refine ⟨rfl, rfl, ?_⟩
        conv => whnf
        repeat (refine ⟨rfl, ?_⟩; conv => whnf)
        refine ⟨by show En.v (.int .i64 (IntKind.i64.wrap (i + 1))) = _; rw [wrap_id (by omega) (by omega)]; rfl, ?_⟩
        conv => whnf
        repeat (refine ⟨rfl, ?_⟩; conv => whnf)
        exact trivial
    · conv => whnf
      have hi : i = m.length := by simp at h; omega
      subst hi
      rw [show (List.range (m.length * wideM m)).all (eqAt m n) = true from List.all_eq_true.2 fun t ht => h3 t (List.mem_range.1 ht)]
theorem c31 (m n : List (List (P4 × Int))) (H : PH) (u v : Value) (hu : MatH H u m) (hv : MatH H v n) : Cl Tryz.prog 31 [u, v] H emp fun r _ _ => r = .tuple #[.bool (if errsM [m, n] = 0 then equalR m n else false), .int .i64 (errsM [m, n])] := by
  refine Cl_of (pol := polL) Γok Tryz.func31 (by kernel_rfl) rfl ?_
  conv => whnf
  refine (c95 m n _ _ _ hu hv).val fun H1 s1 => ?_
  rw [bothR_eq]
  conv => whnf
  refine if_intro (fun he => ?_) (fun he => ?_)
  · conv => whnf
    rw [if_neg (show ¬ errsM [m, n] = 0 by simpa using he)]
  · have he : errsM [m, n] = 0 := by simpa using he
    have hz := firstErr_zero he
    rw [he, if_pos rfl]
    conv => whnf
    refine (c96 m n (hz _ (by simp)) (hz _ (by simp)) _ _ _ (hu.up s1) (hv.up s1)).val fun H2 s2 => ?_
    conv => whnf
end Go.Proofs.YtbbjhegapilhpaaGreat

namespace Go.Proofs.YtbbjhegapilhpaaGreat
open Go.Proofs.YtbbjhegapilhpaaGreat.X Go.Proofs.YtbbjhegapilhpaaGreat.X.PH
set_option maxRecDepth 100000

def samePl (m n : List (List (P4 × Int))) (t : Nat) : Bool :=
  eqN (LeastF (entry m (t / wideM m) (t % wideM m)).1 (entry m (t / wideM m) (t % wideM m)).2).1 (LeastF (entry n (t / wideM m) (t % wideM m)).1 (entry n (t / wideM m) (t % wideM m)).2).1
theorem c103 (m n : List (List (P4 × Int))) (rm : Right m) (rn : Right n) (ha : alikeF m n = true) (H : PH) (u v : Value) (hu : MatH H u m) (hv : MatH H v n) : Cl Tryz.prog 103 [u, v] H emp fun r _ _ => r = .bool ((List.range (m.length * wideM m)).all (samePl m n)) := by
  obtain ⟨e1, e2⟩ := alike_iff ha
  obtain ⟨base, cap, rfl⟩ := hu.sl
  obtain ⟨base', cap', rfl⟩ := hv.sl
  refine Cl_of (pol := polL) Γok Tryz.func103 (by kernel_rfl) rfl ?_
  conv => whnf
  repeat (intro _; conv => whnf)
  refine (c92 (m.map List.length) _ _ (by simp; have := rm.le; omega) (fun n hn => by obtain ⟨r, hr, rfl⟩ := List.mem_map.1 hn; have := rm.row r hr; have := rm.wle; omega) hu.shape).use fun it H1 s1 hit => ?_
  obtain ⟨_, hit⟩ := hit
  rw [rm.lens] at hit
  conv => whnf
  refine W_range (pol := polL) Γok (placesN 0 (List.replicate m.length (wideM m))) hit Unit (fun t _ H6 => Sub H1 H6 ∧ ∀ q, q < t → samePl m n q = true) (fun e _ _ => e = .ret ∧ (List.range (m.length * wideM m)).all (samePl m n) = false) (fun _ => []) (fun _ => emp) (fun _ _ _ _ hs h => ⟨h.1.trans hs, h.2⟩) (fun _ _ _ _ hs h => h) ⟨(), ⟨Sub.refl _, by simp⟩, rfl, ?_⟩ ?_ ?_ ?_
  · conv => whnf
  · rintro t x hx ⟨⟩ H6 s6 ⟨t1, t2⟩ l o o' hl
    have hlt : t < m.length * wideM m := by
      rw [← placesN_uniform_length m.length (wideM m)]
      exact (List.getElem?_eq_some_iff.1 hx).1
    obtain ⟨g1, g2, g3⟩ := placesN_uniform hlt
    rw [g3] at hx
    cases hx
    have r1 := rm.row _ (List.getElem_mem g1)
    have g1' : t / wideM m < n.length := by omega
    have r2 := rn.row _ (List.getElem_mem g1')
    have hs : samePl m n t = eqN (LeastF (m[t / wideM m][t % wideM m]'(by omega)).1 (m[t / wideM m][t % wideM m]'(by omega)).2).1 (LeastF (n[t / wideM m][t % wideM m]'(by omega)).1 (n[t / wideM m][t % wideM m]'(by omega)).2).1 := by
      unfold samePl
      rw [entry_get g1 (by omega), entry_get g1' (by omega)]
    conv => whnf
    intro b9
    conv => whnf
    refine ⟨rfl, ?_⟩
    conv => whnf
    refine ⟨emp, rfl, ?_⟩
    conv => whnf
    refine (c84 m _ _ g1 (by omega) _ _ ((hu.up s1).up t1)).val fun H7 s7 => ?_
    conv => whnf
    refine (c83 (m[t / wideM m][t % wideM m]'(by omega)).1 (m[t / wideM m][t % wideM m]'(by omega)).2 _).val fun H8 s8 => ?_
    conv => whnf
    intro b10
    conv => whnf
    refine (c84 n _ _ g1' (by omega) _ _ ((((hv.up s1).up t1).up s7).up s8)).val fun H9 s9 => ?_
    conv => whnf
    refine (c83 (n[t / wideM m][t % wideM m]'(by omega)).1 (n[t / wideM m][t % wideM m]'(by omega)).2 _).val fun H10 s10 => ?_
    conv => whnf
    intro b12
    conv => whnf
    refine if_intro (fun hq => ?_) (fun hq => ?_)
    · conv => whnf
      have hq : samePl m n t = false := by rw [hs]; exact Bool.not_eq_true' _ |>.mp hq
      refine ⟨(), .inr ⟨⟨rfl, ?_⟩, rfl⟩, rfl, rfl, ?_⟩
      · rw [List.all_eq_false]
        exact ⟨t, List.mem_range.2 hlt, by rw [hq]; simp⟩
      conv => whnf
      repeat (refine ⟨rfl, ?_⟩; conv => whnf)
      exact trivial
    · conv => whnf
      have hq : samePl m n t = true := by rw [hs]; exact Bool.not_eq_false' .. |>.mp hq
      refine ⟨(), .inl ⟨rfl, t1.trans (s7.trans (s8.trans (s9.trans s10))), fun q hqt => ?_⟩, rfl, rfl, ?_⟩
      · rcases Nat.lt_or_ge q t with h | h
        · exact t2 q h
        · rw [show q = t by omega]; exact hq
      conv => whnf
      repeat (refine ⟨rfl, ?_⟩; conv => whnf)
      exact trivial
  · rintro ⟨⟩ H6 s6 ⟨t1, t2⟩
    conv => whnf
    rw [placesN_uniform_length] at t2
    rw [show (List.range (m.length * wideM m)).all (samePl m n) = true from List.all_eq_true.2 fun q hq => t2 q (List.mem_range.1 hq)]
  · rintro e ⟨⟩ H6 s6 ⟨rfl, h⟩
    conv => whnf
    rw [h]
def sameF (m n : List (List (P4 × Int))) : Bool := alikeF m n && (List.range (m.length * wideM m)).all (samePl m n)
theorem c33 (m n : List (List (P4 × Int))) (hlm : m.length < 1000000) (hln : n.length < 1000000) (H : PH) (u v : Value) (hu : MatH H u m) (hv : MatH H v n) : Cl Tryz.prog 33 [u, v] H emp fun r _ _ => r = .tuple #[.bool (if errsM [m, n] = 0 then sameF m n else false), .int .i64 (errsM [m, n])] := by
  obtain ⟨base, cap, rfl⟩ := hu.sl
  obtain ⟨base', cap', rfl⟩ := hv.sl
  refine Cl_of (pol := fun | 9 => .imm | _ => .loc) Γok Tryz.func33 (by kernel_rfl) rfl ?_
  conv => whnf
  intro b hb _
  conv => whnf
  have s1 := sub_ins H (.cells ⟨[.slice base m.length cap, .slice base' n.length cap']⟩ 22 (0, 0)) hb
  refine (c101 [m, n] (by simp) (by simp; omega) _ _ (pair_mats (ins_same _ _ _) (hu.up s1) (hv.up s1))).val fun H2 s2 => ?_
  conv => whnf
  refine if_intro (fun he => ?_) (fun he => ?_)
  · conv => whnf
    rw [if_neg (show ¬ errsM [m, n] = 0 by simpa using he)]
  · have he : errsM [m, n] = 0 := by simpa using he
    obtain ⟨rm, rn⟩ := rights_of he
    have hu2 := (hu.up s1).up s2
    have hv2 := (hv.up s1).up s2
    rw [he, if_pos rfl]
    conv => whnf
    refine (c102 m n rm.pos rn.pos _ _ _ hu2 hv2).val fun H3 s3 => ?_
    conv => whnf
    unfold sameF
    refine if_intro (fun ha => ?_) (fun ha => ?_)
    · conv => whnf
      refine (c103 m n rm rn ha _ _ _ (hu2.up s3) (hv2.up s3)).val fun H4 s4 => ?_
      conv => whnf
      rw [ha, Bool.true_and]
    · conv => whnf
      rw [show alikeF m n = false from ha]
      rfl

/-! ### the reference's Phase -/
def phAt (m n : List (List (P4 × Int))) (k t : Nat) : Bool :=
  eqN (formR (entry m (t / wideM m) (t % wideM m)).1 (entry m (t / wideM m) (t % wideM m)).2) (formR (MulR (OmegaF k) (entry n (t / wideM m) (t % wideM m))).1.1 (MulR (OmegaF k) (entry n (t / wideM m) (t % wideM m))).1.2)
def allPhR (m n : List (List (P4 × Int))) (k : Nat) : Bool := (List.range (m.length * wideM m)).all (phAt m n k)
def PhaseR (m n : List (List (P4 × Int))) : Int × Int :=
  if errsM [m, n] ≠ 0 then (0, errsM [m, n]) else if alikeF m n = false then (0, 7) else match (List.range 8).find? (allPhR m n) with
    | some k => (k, 0)
    | none => (0, 6)
set_option maxHeartbeats 2000000 in
theorem c32 (m n : List (List (P4 × Int))) (hk2 : ∀ (k : Nat) (x : P4 × Int), k < 8 → -9223372036854775808 ≤ (MulR (OmegaF k) x).1.2 ∧ (MulR (OmegaF k) x).1.2 < 9223372036854775808) (H : PH) (u v : Value) (hu : MatH H u m) (hv : MatH H v n) : Cl Tryz.prog 32 [u, v] H emp fun r _ _ => r = .tuple #[.int .i64 (PhaseR m n).1, .int .i64 (PhaseR m n).2] := by
  obtain ⟨base, cap, rfl⟩ := hu.sl
  obtain ⟨base', cap', rfl⟩ := hv.sl
  refine Cl_of (pol := polL) Γok Tryz.func32 (by kernel_rfl) rfl ?_
  conv => whnf
  refine (c95 m n _ _ _ hu hv).val fun H1 s1 => ?_
  rw [bothR_eq]
  conv => whnf
  unfold PhaseR
  refine if_intro (fun he => ?_) (fun he => ?_)
  · conv => whnf
    rw [if_pos (show errsM [m, n] ≠ 0 by simpa using he)]
  have he : errsM [m, n] = 0 := by simpa using he
  rw [if_neg (show ¬ errsM [m, n] ≠ 0 by simpa using he)]
  obtain ⟨rm, rn⟩ := rights_of he
  have hz := firstErr_zero he
  have hcm : checkMF m = 0 := hz _ (by simp)
  have hle := rm.le
  have hwle := rm.wle
  conv => whnf
  refine (c97 m n rm.pos rn.pos _ _ _ (hu.up s1) (hv.up s1)).val fun H2 s2 => ?_
  conv => whnf
  refine if_intro (fun ha => ?_) (fun ha => ?_)
  · conv => whnf
    rw [if_pos (show alikeF m n = false by simpa using ha)]
  have ha : alikeF m n = true := by simpa using ha
  rw [if_neg (show ¬ alikeF m n = false by rw [ha]; simp)]
  obtain ⟨e1, e2⟩ := alike_iff ha
  conv => whnf
  refine W_loop (pol := polL) Γok (Nat × PH) (fun i => i.1 ≤ 8 ∧ Sub H2 i.2 ∧ ∀ k, k < i.1 → allPhR m n k = false) (fun i => 8 - i.1) (fun i => [(7, .v (.int .i64 i.1))]) (fun _ => []) (fun i => i.2) (fun _ => emp) ⟨(0, H2), ⟨by simp, Sub.refl _, by simp⟩, rfl, rfl, ?_⟩ ?_
  · conv => whnf
    repeat (refine ⟨rfl, ?_⟩; conv => whnf)
    exact trivial
  · rintro ⟨k, H'⟩ ⟨h1, h2, h3⟩
    dsimp only at h1 h2 h3
    conv => whnf
    refine if_intro (fun h => ?_) (fun h => ?_)
    · have hk : k < 8 := by simp at h; omega
      conv => whnf
      have allsucc : ∀ t : Nat, (List.range (t + 1)).all (phAt m n k) = ((List.range t).all (phAt m n k) && phAt m n k t) := fun t => by
        rw [List.range_succ, List.all_append]; simp
      refine W_loopX (pol := polL) Γok (Nat × PH × Bool) (fun i => i.1 ≤ m.length ∧ Sub H2 i.2.1 ∧ i.2.2 = (List.range (i.1 * wideM m)).all (phAt m n k)) (fun i => m.length - i.1) (fun e i => e = .exit 2 ∧ Sub H2 i.2.1 ∧ i.2.2 = allPhR m n k) (fun i => [(9, .v (.int .i64 i.1)), (8, .v (.bool i.2.2))]) (fun _ => []) (fun i => i.2.1) (fun _ => emp) ⟨(0, H', true), ⟨by simp, h2, by simp⟩, rfl, rfl, ?_⟩ ?_ ?_
      · conv => whnf
        repeat (refine ⟨rfl, ?_⟩; conv => whnf)
        exact trivial
      · rintro ⟨i, H3, b⟩ ⟨k1, k2, k3⟩
        dsimp only at k1 k2 k3
        conv => whnf
        refine if_intro (fun h => ?_) (fun h => ?_)
        · have hi : i < m.length := by simpa using h
          have hi' : i < n.length := by omega
          have r1 := rm.row _ (List.getElem_mem hi)
          have r2 := rn.row _ (List.getElem_mem hi')
          conv => whnf
          refine W_loopX (pol := polL) Γok (Nat × PH × Bool) (fun q => q.1 ≤ wideM m ∧ Sub H2 q.2.1 ∧ q.2.2 = (List.range (i * wideM m + q.1)).all (phAt m n k)) (fun q => wideM m - q.1) (fun e q => e = .exit 4 ∧ Sub H2 q.2.1 ∧ q.2.2 = (List.range ((i + 1) * wideM m)).all (phAt m n k)) (fun q => [(10, .v (.int .i64 q.1)), (8, .v (.bool q.2.2))]) (fun _ => []) (fun q => q.2.1) (fun _ => emp) ⟨(0, H3, b), ⟨by simp, k2, by simpa using k3⟩, rfl, rfl, ?_⟩ ?_ ?_
          · conv => whnf
            repeat (refine ⟨rfl, ?_⟩; conv => whnf)
            exact trivial
          · rintro ⟨q, H4, b⟩ ⟨q1, q2, q3⟩
            dsimp only at q1 q2 q3
            have hu4 := ((hu.up s1).up s2).up q2
            have hv4 := ((hv.up s1).up s2).up q2
            obtain ⟨bu, ou, ru, cu, hbu, hru, _⟩ := hu4.rd (O := emp) hi
            subst hbu
            conv => whnf
            refine dec_intro (by omega) ?_
            conv => whnf
            refine ⟨_, hru, ?_⟩
            conv => whnf
            refine if_intro (fun h => ?_) (fun h => ?_)
            · have hq : q < wideM m := by simp at h; omega
              have hqm : q < m[i].length := by omega
              have hqn : q < n[i].length := by omega
              obtain ⟨b0, off, b', off', cu', hb0, p1, p2⟩ := hu4.row' hi hqm
              obtain ⟨b1, off1, b1', off1', cv', hb1, p3, p4⟩ := hv4.row' hi' hqn
              cases hb0
              subst hb1
              have hdm := divmod (i := i) hq
              have hph : phAt m n k (i * wideM m + q) = eqN (formR m[i][q].1 m[i][q].2) (formR (MulR (OmegaF k) n[i][q]).1.1 (MulR (OmegaF k) n[i][q]).1.2) := by
                unfold phAt
                rw [hdm.1, hdm.2, entry_get hi hqm, entry_get hi' hqn]
              have fin : ∀ (H5 : PH) (c : Bool), Sub H4 H5 → c = (b && phAt m n k (i * wideM m + q)) → (q + 1 ≤ wideM m ∧ Sub H2 H5 ∧ c = (List.range (i * wideM m + (q + 1))).all (phAt m n k)) := fun H5 c s5 hc => ⟨hq, q2.trans s5, by rw [hc, q3, show i * wideM m + (q + 1) = (i * wideM m + q) + 1 by omega, allsucc]⟩
              conv => whnf
              refine W_draw (pol := polL) Γok mixes [(0, .pendO), (2, .pend), (3, .pend), (4, .pend), (5, .pend), (6, .pend), (7, .pend), (8, .pend), (1, .lock), (9, .lock), (10, .pendO), (11, .pendO), (12, .pendH), (13, .late), (14, .lock), (15, .pendO)] 69 (by kernel_rfl) rfl ?_
              conv => whnf
              refine dec_intro (by omega) ?_
              conv => whnf
              refine ⟨_, p3 _, ?_⟩
              conv => whnf
              refine dec_intro (by omega) ?_
              conv => whnf
              refine ⟨_, p4 _, ?_⟩
              conv => whnf
              refine (c99 k hk _).val fun H5 s5 => ?_
              conv => whnf
              refine (c98 (OmegaF k) n[i][q] _).val fun H6 s6 => ?_
              conv => whnf
              intro bx
              conv => whnf
              refine W_draw (pol := polL) Γok mixes [(0, .pendO), (1, .pendO), (2, .pendO), (3, .pendO), (4, .pendO), (5, .pendO), (6, .pendO), (7, .pendO), (8, .pendO), (9, .pendO), (10, .lock), (11, .pendO), (12, .lock)] 69 (by kernel_rfl) rfl ?_
              conv => whnf
              have ss := s5.trans s6
              cases b with
              | false =>
                conv => whnf
                refine ⟨(q + 1, H6, false), fin H6 false ss (by simp), by dsimp only; omega, ?_⟩
                conv => whnf
                refine ⟨rfl, rfl, ?_⟩
                conv => whnf
                repeat (refine ⟨rfl, ?_⟩; conv => whnf)
                refine ⟨by show En.v (.int .i64 (IntKind.i64.wrap (q + 1))) = _; rw [wrap_id (by omega) (by omega)]; rfl, ?_⟩
                conv => whnf
                repeat (refine ⟨rfl, ?_⟩; conv => whnf)
                exact trivial
              | true =>
                conv => whnf
                refine dec_intro (by dsimp only; omega) ?_
                conv => whnf
                obtain ⟨b2, off2, b2', off2', cu2, hb2, p5, p6⟩ := (hu4.up ss).row' hi hqm
                cases hb2
                refine ⟨_, p5 _, ?_⟩
                conv => whnf
                refine dec_intro (by dsimp only; omega) ?_
                conv => whnf
                refine ⟨_, p6 _, ?_⟩
                conv => whnf
                refine (c100 m[i][q] (MulR (OmegaF k) n[i][q]).1 (right_k hcm hi hqm) (hk2 k _ hk) _).val fun H7 s7 => ?_
                conv => whnf
                refine ⟨(q + 1, H7, eqN (formR m[i][q].1 m[i][q].2) (formR (MulR (OmegaF k) n[i][q]).1.1 (MulR (OmegaF k) n[i][q]).1.2)), fin H7 _ (ss.trans s7) (by rw [hph]; simp), by dsimp only; omega, ?_⟩
                conv => whnf
                refine ⟨rfl, rfl, ?_⟩
                conv => whnf
                repeat (refine ⟨rfl, ?_⟩; conv => whnf)
                refine ⟨by show En.v (.int .i64 (IntKind.i64.wrap (q + 1))) = _; rw [wrap_id (by omega) (by omega)]; rfl, ?_⟩
                conv => whnf
                repeat (refine ⟨rfl, ?_⟩; conv => whnf)
                exact trivial
            · have hq : q = wideM m := by simp at h; omega
              conv => whnf
              refine .inr ⟨(q, H4, b), ⟨rfl, q2, by rw [q3, hq, Nat.succ_mul]⟩, ?_⟩
              conv => whnf
              refine ⟨rfl, rfl, ?_⟩
              conv => whnf
              repeat (refine ⟨rfl, ?_⟩; conv => whnf)
              exact trivial
          · rintro e ⟨q, H4, b⟩ ⟨rfl, q2, q3⟩
            dsimp only at q2 q3
            conv => whnf
            refine ⟨(i + 1, H4, b), ⟨hi, q2, q3⟩, by dsimp only; omega, ?_⟩
            conv => whnf
            refine ⟨rfl, rfl, ?_⟩
            conv => whnf
            repeat (refine ⟨rfl, ?_⟩; conv => whnf)
            refine ⟨by show En.v (.int .i64 (IntKind.i64.wrap (i + 1))) = _; rw [wrap_id (by omega) (by omega)]; rfl, ?_⟩
            conv => whnf
            repeat (refine ⟨rfl, ?_⟩; conv => whnf)
            exact trivial
        · have hi : i = m.length := by simp at h; omega
          conv => whnf
          refine .inr ⟨(i, H3, b), ⟨rfl, k2, by rw [k3, hi]; rfl⟩, ?_⟩
          conv => whnf
          refine ⟨rfl, rfl, ?_⟩
          conv => whnf
          repeat (refine ⟨rfl, ?_⟩; conv => whnf)
          exact trivial
      · rintro e ⟨i, H3, b⟩ ⟨rfl, k2, k3⟩
        dsimp only at k2 k3
        conv => whnf
        refine if_intro (fun hb => ?_) (fun hb => ?_)
        · conv => whnf
          have hf : (List.range 8).find? (allPhR m n) = some k := by
            rw [List.find?_range_eq_some]
            refine ⟨by rw [← k3]; exact hb, by simpa using hk, fun j hj => ?_⟩
            rw [h3 j hj]
            rfl
          rw [hf]
        · conv => whnf
          refine ⟨(k + 1, H3), ⟨hk, k2, fun j hj => ?_⟩, by dsimp only; omega, ?_⟩
          · rcases Nat.lt_or_ge j k with h | h
            · exact h3 j h
            · rw [show j = k by omega, ← k3]; exact hb
          conv => whnf
          refine ⟨rfl, rfl, ?_⟩
          conv => whnf
          repeat (refine ⟨rfl, ?_⟩; conv => whnf)
          refine ⟨by show En.v (.int .i64 (IntKind.i64.wrap (k + 1))) = _; rw [wrap_id (by omega) (by omega)]; rfl, ?_⟩
          conv => whnf
          repeat (refine ⟨rfl, ?_⟩; conv => whnf)
          exact trivial
    · conv => whnf
      have hi : k = 8 := by simp at h; omega
      subst hi
      have hf : (List.range 8).find? (allPhR m n) = none := by
        rw [List.find?_eq_none]
        intro k hk
        rw [h3 k (List.mem_range.1 hk)]
        simp
      rw [hf]
end Go.Proofs.YtbbjhegapilhpaaGreat

namespace Go.Proofs.YtbbjhegapilhpaaGreat
open Go.Proofs.YtbbjhegapilhpaaGreat.X Go.Proofs.YtbbjhegapilhpaaGreat.X.PH
set_option maxRecDepth 100000

theorem c136 (vs : List Value) (q : Nat → Bool) (hlen : vs.length < 1000000) (H : PH) (v f : Value) (hv : SlH H v vs.length vs) (hf : ∀ (i : Nat) x, vs[i]? = some x → Does Tryz.prog H f [x] fun r _ => r = .bool (q i)) : Cl Tryz.prog 136 [v, f] H emp fun r _ _ => ∃ i : Int, r = .int .i64 i ∧ (decide (i ≥ 0) = (List.range vs.length).any q) := by
  obtain ⟨base, cap, rfl, _⟩ := id hv
  refine Cl_of (pol := polL) Γok Tryz.func136 (by kernel_rfl) rfl ?_
  conv => whnf
  refine W_loop (pol := polL) Γok (Nat × PH) (fun i => i.1 ≤ vs.length ∧ Sub H i.2 ∧ ∀ t, t < i.1 → q t = false) (fun i => vs.length - i.1) (fun i => [(8, .v (.int .i64 i.1))]) (fun _ => []) (fun i => i.2) (fun _ => emp) ⟨(0, H), ⟨by simp, Sub.refl _, by simp⟩, rfl, rfl, ?_⟩ ?_
  · conv => whnf
    repeat (refine ⟨rfl, ?_⟩; conv => whnf)
    exact trivial
  · rintro ⟨i, H'⟩ ⟨h1, h2, h3⟩
    dsimp only at h1 h2 h3
    conv => whnf
    refine if_intro (fun h => ?_) (fun h => ?_)
    · have hi : i < vs.length := by simpa using h
      obtain ⟨b, off, rfl, hrd⟩ := SlH.one (O := emp) (hv.up h2) rfl hi
      conv => whnf
      refine dec_intro (by omega) ?_
      conv => whnf
      refine ⟨_, hrd, ?_⟩
      conv => whnf
      refine ((hf i _ (List.getElem?_eq_getElem hi)).up h2).use fun r H2 s2 hr => ?_
      subst hr
      conv => whnf
      refine if_intro (fun he => ?_) (fun he => ?_)
      · conv => whnf
        refine ⟨i, rfl, ?_⟩
        rw [show (List.range vs.length).any q = true from List.any_eq_true.2 ⟨i, List.mem_range.2 hi, he⟩]
        simp
      · conv => whnf
        refine ⟨(i + 1, H2), ⟨hi, h2.trans s2, fun t ht => ?_⟩, by dsimp only; omega, ?_⟩
        · rcases Nat.lt_or_ge t i with h | h
          · exact h3 t h
          · rw [show t = i by omega]; exact he
        · conv => whnf
          refine ⟨rfl, rfl, ?_⟩
          conv => whnf
          repeat (refine ⟨rfl, ?_⟩; conv => whnf)
          refine ⟨by show En.v (.int .i64 (IntKind.i64.wrap (i + 1))) = _; rw [wrap_id (by omega) (by omega)]; rfl, ?_⟩
          conv => whnf
          repeat (refine ⟨rfl, ?_⟩; conv => whnf)
          exact trivial
    · conv => whnf
      have hi : i = vs.length := by simp at h; omega
      subst hi
      refine ⟨_, rfl, ?_⟩
      rw [show (List.range vs.length).any q = false from List.any_eq_false.2 fun t ht => by rw [h3 t (List.mem_range.1 ht)]; simp]
      decide
theorem c66 (vs : List Value) (q : Nat → Bool) (hlen : vs.length < 1000000) (H : PH) (v f : Value) (hv : SlH H v vs.length vs) (hf : ∀ (i : Nat) x, vs[i]? = some x → Does Tryz.prog H f [x] fun r _ => r = .bool (q i)) : Cl Tryz.prog 66 [v, f] H emp fun r _ _ => r = .bool ((List.range vs.length).any q) := by
  refine Cl_of (pol := polL) Γok Tryz.func66 (by kernel_rfl) rfl ?_
  conv => whnf
  refine (c136 vs q hlen _ _ _ hv hf).use fun r H1 s1 hr => ?_
  obtain ⟨_, i, rfl, hi⟩ := hr
  conv => whnf
  rw [hi]
theorem c67 (m : List (List (P4 × Int))) (hlen : m.length < 9223372036854775808) (H : PH) (v : Value) (hv : MatH H v m) : Cl Tryz.prog 67 [v] H emp fun r _ _ => r = .bool (greatF m 8) := by
  refine Cl_of (pol := polL) Γok Tryz.func67 (by kernel_rfl) rfl ?_
  conv => whnf
  refine (c26 m 8 _ _ hv hlen).val fun H1 s1 => ?_
  conv => whnf
/-- Matrices that are more than what is looked at. -/
def bigF (ms : List (List (List (P4 × Int)))) : Bool := (List.range ms.length).any fun i => greatF (ms.getD i []) 8
theorem c13 (ms : List (List (List (P4 × Int)))) (hlen : ms.length < 1000000) (hrow : ∀ m ∈ ms, m.length < 9223372036854775808) (H : PH) (v : Value) (hv : MatsH H v ms) : Cl Tryz.prog 13 [v] H emp fun r _ _ => r = .bool (bigF ms) := by
  obtain ⟨vs, h1, h2, h3⟩ := hv
  rw [← h1] at h2
  refine Cl_of (pol := polL) Γok Tryz.func13 (by kernel_rfl) rfl ?_
  conv => whnf
  refine (c66 vs (fun i => greatF (ms.getD i []) 8) (by omega) _ _ _ h2 (fun i x hx => ⟨67, [], [], rfl, fun H' hs => ?_⟩)).val fun H1 s1 => ?_
  · have hlt := (List.getElem?_eq_some_iff.1 hx).1
    have hi : i < ms.length := by omega
    rw [show ms.getD i [] = ms[i] by simp [List.getD_eq_getElem?_getD, hi]]
    exact c67 _ (hrow _ (List.getElem_mem hi)) H' _ ((h3 i _ x (List.getElem?_eq_getElem hi) hx).up hs)
  · conv => whnf
    unfold bigF
    rw [h1]
theorem big_le {ms : List (List (List (P4 × Int)))} (h : bigF ms = false) : ∀ m ∈ ms, m.length ≤ 8 ∧ ∀ r ∈ m, r.length ≤ 8 := by
  intro m hm
  obtain ⟨i, hi, rfl⟩ := List.getElem_of_mem hm
  unfold bigF at h
  have := List.any_eq_false.1 h i (List.mem_range.2 hi)
  rw [show ms.getD i [] = ms[i] by simp [List.getD_eq_getElem?_getD, hi]] at this
  obtain ⟨g1, g2⟩ := great_le (n := 8) (by simpa using this)
  exact ⟨by omega, fun r hr => by have := g2 r hr; omega⟩
end Go.Proofs.YtbbjhegapilhpaaGreat

namespace Go.Proofs.YtbbjhegapilhpaaGreat
open Go.Proofs.YtbbjhegapilhpaaGreat.X Go.Proofs.YtbbjhegapilhpaaGreat.X.PH
set_option maxRecDepth 100000

theorem isZero_iff {p : P4} : p.isZero = true ↔ p.a = 0 ∧ p.b = 0 ∧ p.c = 0 ∧ p.d = 0 := by
  unfold P4.isZero
  simp
theorem halved_zero {p : P4} (h : p.within 1073741824) (he : evenR p = true) (hz : (halvedR p).isZero = true) : p.isZero = true := by
  obtain ⟨h1, h2, h3, h4⟩ := h
  obtain ⟨e1, e2⟩ := evenR_iff.1 he
  have w : ∀ x : Int, -4294967296 ≤ x → x ≤ 4294967296 → wr x = x := fun x a b => wrap_id (by omega) (by omega)
  rw [isZero_iff] at hz ⊢
  unfold halvedR at hz
  simp only [shr1_div, low_mod] at hz
  rw [w (p.b / 2 - p.d / 2) (by omega) (by omega), w (p.a / 2 + p.c / 2) (by omega) (by omega), w (p.b / 2 + p.d / 2) (by omega) (by omega), w (p.c / 2 - p.a / 2) (by omega) (by omega), w _ (by omega) (by omega), w _ (by omega) (by omega)] at hz
  omega
theorem lowerR_end : ∀ (k : Nat) (p : P4), p.within 1073741824 → p.isZero = false → ((lowerR k p).2 = 0 ∨ evenR (lowerR k p).1 = false) ∧ (lowerR k p).1.isZero = false ∧ (lowerR k p).1.within 1073741824 ∧ (lowerR k p).2 ≤ k
  | 0, p, h, hz => ⟨.inl rfl, hz, h, Nat.le_refl _⟩
  | k + 1, p, h, hz => by
    unfold lowerR
    cases e : evenR p with
    | false => exact ⟨.inr (by simpa using e), by simpa using hz, by simpa using h, by simp⟩
    | true =>
      obtain ⟨h1, h2⟩ := half_eq h e
      rw [h1] at h2
      have hz' : (halvedR p).isZero = false := by
        cases e' : (halvedR p).isZero with
        | false => rfl
        | true => rw [halved_zero h e e'] at hz; cases hz
      obtain ⟨a, b, c, d⟩ := lowerR_end k (halvedR p) h2 hz'
      simp only [if_true]
      exact ⟨a, b, c, by omega⟩
theorem lowerR_stop {j : Nat} {q : P4} (h : j = 0 ∨ evenR q = false) : lowerR j q = (q, j) := by
  cases j with
  | zero => rfl
  | succ j =>
    have he : evenR q = false := by
      rcases h with h | h
      · cases h
      · exact h
    unfold lowerR
    rw [he]
    rfl
/-- The least form of a right number is a right number, and its own least form. -/
theorem formR_right {p : P4} {k : Int} (h : checkF p k = 0) : checkF (formR p k).1 (formR p k).2 = 0 ∧ formR (formR p k).1 (formR p k).2 = formR p k := by
  obtain ⟨k1, k2, hp⟩ := checkF_range h
  have hw := (all_iff (by decide) (by decide)).1 hp
  have mk : ∀ (q : P4) (j : Int), 0 ≤ j → j ≤ 60 → q.within 1073741824 → checkF q j = 0 := fun q j a b c => by
    unfold checkF
    rw [(all_iff (by decide) (by decide)).2 c]
    simp
    omega
  cases hz : p.isZero with
  | true =>
    have e : formR p k = (P4.zero, 0) := by unfold formR; rw [hz]; rfl
    rw [e]
    exact ⟨by kernel_rfl, by kernel_rfl⟩
  | false =>
    by_cases h0 : 0 < k
    · have e : formR p k = ((lowerR k.toNat p).1, ((lowerR k.toNat p).2 : Int)) := by
        unfold formR; rw [hz, if_neg (by simp), if_pos h0]
      obtain ⟨a, b, c, d⟩ := lowerR_end k.toNat p hw hz
      rw [e]
      refine ⟨mk _ _ (by dsimp only; omega) (by dsimp only; omega) c, ?_⟩
      unfold formR
      dsimp only
      rw [b]
      simp only [Bool.false_eq_true, if_false]
      by_cases hj : (lowerR k.toNat p).2 = 0
      · rw [hj]; rfl
      · rw [if_pos (by omega), Int.toNat_natCast, lowerR_stop a]
    · have e : formR p k = (p, k) := by
        unfold formR; rw [hz, if_neg (by simp), if_neg h0]
      rw [e]
      exact ⟨h, e⟩
theorem formR_bounds (p : P4) {k : Int} (h1 : -9223372036854775808 ≤ k) (h2 : k < 9223372036854775808) : -9223372036854775808 ≤ (formR p k).2 ∧ (formR p k).2 < 9223372036854775808 := by
  have hl : ∀ (n : Nat) (p : P4), (lowerR n p).2 ≤ n := by
    intro n
    induction n with
    | zero => intro p; exact Nat.le_refl _
    | succ n ih =>
      intro p
      unfold lowerR
      split
      · have := ih (halvedR p); omega
      · exact Nat.le_refl _
  unfold formR
  split
  · simp
  · split
    · have := hl k.toNat p
      dsimp only
      omega
    · exact ⟨h1, h2⟩
theorem MulR_bounds (x y : P4 × Int) : -9223372036854775808 ≤ (MulR x y).1.2 ∧ (MulR x y).1.2 < 9223372036854775808 := by
  unfold MulR
  split
  · simp
  · unfold fitsR
    split
    · simp
    · exact formR_bounds _ (wr_bounds _).1 (wr_bounds _).2

/-! ### times a power of w -/
theorem errs_same (l : List (P4 × Int)) : errsR l = errsF l := by
  unfold errsR errsF
  simp only [checkF_checkR]
theorem rot {k : Nat} (hk : k < 8) {q : P4} (h : q.within 1073741824) : timesP (omegaP k) q = productR (omegaP k) q ∧ (productR (omegaP k) q).within 1073741824 := by
  obtain ⟨⟨a, b, c, d⟩⟩ : Nonempty ((-1073741824 ≤ q.a ∧ q.a ≤ 1073741824) ∧ (-1073741824 ≤ q.b ∧ q.b ≤ 1073741824) ∧ (-1073741824 ≤ q.c ∧ q.c ≤ 1073741824) ∧ (-1073741824 ≤ q.d ∧ q.d ≤ 1073741824)) := ⟨h⟩
  have w : ∀ x : Int, -4294967296 ≤ x → x ≤ 4294967296 → wr x = x := fun x a b => wrap_id (by omega) (by omega)
  have w0 : wr 0 = 0 := w 0 (by omega) (by omega)
  have wa := w q.a (by omega) (by omega)
  have wb := w q.b (by omega) (by omega)
  have wc := w q.c (by omega) (by omega)
  have wd := w q.d (by omega) (by omega)
  have na := w (-q.a) (by omega) (by omega)
  have nb := w (-q.b) (by omega) (by omega)
  have nc := w (-q.c) (by omega) (by omega)
  have nd := w (-q.d) (by omega) (by omega)
  obtain rfl | rfl | rfl | rfl | rfl | rfl | rfl | rfl : k = 0 ∨ k = 1 ∨ k = 2 ∨ k = 3 ∨ k = 4 ∨ k = 5 ∨ k = 6 ∨ k = 7 := by omega
  all_goals
    unfold timesP productR omegaP P4.within
    simp [w0, wa, wb, wc, wd, na, nb, nc, nd, Int.neg_mul]
    try omega
theorem Mul_same {k : Nat} (hk : k < 8) {y : P4 × Int} (hy : checkF y.1 y.2 = 0) : MulF (OmegaF k) y = MulR (OmegaF k) y ∧ formR (MulR (OmegaF k) y).1.1 (MulR (OmegaF k) y).1.2 = (MulR (OmegaF k) y).1 := by
  obtain ⟨k1, k2, hp⟩ := checkF_range hy
  have hw := (all_iff (by decide) (by decide)).1 hp
  have eo : OmegaF k = (omegaP k, 0) := by
    unfold OmegaF
    rw [show ((k : Int) % 8).toNat = k by omega]
  have ho : checkF (omegaP k) 0 = 0 := by
    obtain rfl | rfl | rfl | rfl | rfl | rfl | rfl | rfl : k = 0 ∨ k = 1 ∨ k = 2 ∨ k = 3 ∨ k = 4 ∨ k = 5 ∨ k = 6 ∨ k = 7 := by omega
    all_goals rfl
  have hc : checks2 (OmegaF k) y = 0 := by
    rw [eo]
    unfold checks2 errsF
    simp only [List.map_cons, List.map_nil, firstErr, ho, hy, if_true]
  have hr : errsR [OmegaF k, y] = 0 := by rw [errs_same]; exact hc
  obtain ⟨r1, r2⟩ := rot hk hw
  have hk' : wr ((OmegaF k).2 + y.2) = y.2 := by
    rw [eo]
    dsimp only
    rw [Int.zero_add]
    exact wrap_id (by omega) (by omega)
  have hcp : checkF (productR (omegaP k) y.1) y.2 = 0 := by
    unfold checkF
    rw [(all_iff (by decide) (by decide)).2 r2]
    simp
    omega
  obtain ⟨f1, f2⟩ := formR_right hcp
  have e1 : MulF (OmegaF k) y = (formR (productR (omegaP k) y.1) y.2, 0) := by
    unfold MulF
    rw [if_pos hc, hk', eo]
    dsimp only
    rw [r1, least_eq hcp]
  have e2 : MulR (OmegaF k) y = (formR (productR (omegaP k) y.1) y.2, 0) := by
    unfold MulR
    rw [if_neg (by rw [hr]; simp), hk', eo]
    unfold fitsR
    rw [if_neg]
    rw [← checkF_checkR, f1]
    simp
  rw [e1, e2]
  exact ⟨rfl, f2⟩

/-! ### the two laws -/
theorem entry_right {m : List (List (P4 × Int))} (h : checkMF m = 0) {i k : Nat} (hi : i < m.length) (hk : k < wideM m) : checkF (entry m i k).1 (entry m i k).2 = 0 := by
  have rm := right_of h
  have hr := rm.row _ (List.getElem_mem hi)
  rw [checkMF_checkMR] at h
  obtain ⟨_, _, _, z4⟩ := checkMR_zero h
  rw [entry_get hi (by omega), checkF_checkR]
  exact z4 _ (List.getElem_mem hi) _ (List.getElem_mem _)
theorem all_congr {n : Nat} {p q : Nat → Bool} (h : ∀ t, t < n → p t = q t) : (List.range n).all p = (List.range n).all q := by
  rw [Bool.eq_iff_iff, List.all_eq_true, List.all_eq_true]
  constructor
  · intro hp t ht; rw [← h t (List.mem_range.1 ht)]; exact hp t ht
  · intro hp t ht; rw [h t (List.mem_range.1 ht)]; exact hp t ht
theorem same_eq {m n : List (List (P4 × Int))} (he : errsM [m, n] = 0) : sameF m n = equalR m n := by
  have hz := firstErr_zero he
  have hm : checkMF m = 0 := hz _ (by simp)
  have hn : checkMF n = 0 := hz _ (by simp)
  unfold sameF equalR
  cases ha : alikeF m n with
  | false => rfl
  | true =>
    obtain ⟨e1, e2⟩ := alike_iff ha
    rw [Bool.true_and, Bool.true_and]
    apply all_congr
    intro t ht
    obtain ⟨g1, g2, _⟩ := placesN_uniform ht
    unfold samePl eqAt
    rw [LeastF_eq (entry_right hm g1 g2), LeastF_eq (entry_right hn (by omega) (by omega))]
theorem phase_eq {m n : List (List (P4 × Int))} : PhaseF m n = PhaseR m n := by
  unfold PhaseF PhaseR
  by_cases he : errsM [m, n] ≠ 0
  · rw [if_pos he, if_pos he]
  · rw [if_neg he, if_neg he]
    have he : errsM [m, n] = 0 := by simpa using he
    have hz := firstErr_zero he
    have hm : checkMF m = 0 := hz _ (by simp)
    have hn : checkMF n = 0 := hz _ (by simp)
    cases ha : alikeF m n with
    | false => rfl
    | true =>
      obtain ⟨e1, e2⟩ := alike_iff ha
      have : ∀ k, k < 8 → allPh m n k = allPhR m n k := by
        intro k hk
        unfold allPh allPhR
        apply all_congr
        intro t ht
        obtain ⟨g1, g2, _⟩ := placesN_uniform ht
        obtain ⟨f1, f2⟩ := Mul_same hk (entry_right hn (i := t / wideM m) (k := t % wideM m) (by omega) (by omega))
        unfold samePh phAt
        rw [LeastF_eq (entry_right hm g1 g2), f1, f2]
      have hf : (List.range 8).find? (allPh m n) = (List.range 8).find? (allPhR m n) := by
        have key : ∀ l : List Nat, (∀ k ∈ l, k < 8) → l.find? (allPh m n) = l.find? (allPhR m n) := by
          intro l
          induction l with
          | nil => intro _; rfl
          | cons k l ih =>
            intro hl
            rw [List.find?_cons, List.find?_cons, this k (hl k (by simp)), ih fun j hj => hl j (by simp [hj])]
        exact key _ fun k hk => List.mem_range.1 hk
      rw [hf]
      rfl
end Go.Proofs.YtbbjhegapilhpaaGreat

namespace Go.Proofs.YtbbjhegapilhpaaGreat
open Go.Proofs.YtbbjhegapilhpaaGreat.X Go.Proofs.YtbbjhegapilhpaaGreat.X.PH
set_option maxRecDepth 100000

theorem c5 (m n : List (List (P4 × Int))) (hlm : m.length < 9223372036854775808) (hln : n.length < 9223372036854775808) (H : PH) (u v : Value) (hu : MatH H u m) (hv : MatH H v n) :
    Cl Tryz.prog 5 [u, v] H emp fun r _ _ => r = .bool true := by
  obtain ⟨base, cap, rfl⟩ := hu.sl
  obtain ⟨base', cap', rfl⟩ := hv.sl
  refine Cl_of (pol := fun | 17 => .imm | _ => .loc) Γok Tryz.func5 (by kernel_rfl) rfl ?_
  conv => whnf
  intro b hb _
  conv => whnf
  have s1 := sub_ins H (.cells ⟨[.slice base m.length cap, .slice base' n.length cap']⟩ 22 (0, 0)) hb
  refine (c13 [m, n] (by simp) (by simp; omega) _ _ (pair_mats (ins_same _ _ _) (hu.up s1) (hv.up s1))).val fun H1 s2 => ?_
  conv => whnf
  refine if_intro (fun hg => ?_) (fun hg => ?_)
  · conv => whnf
    refine (c14 _).val fun H2 s3 => ?_
    conv => whnf
  have hle := big_le hg
  obtain ⟨hm8, hmr⟩ := hle m (by simp)
  obtain ⟨hn8, hnr⟩ := hle n (by simp)
  have hu1 := (hu.up s1).up s2
  have hv1 := (hv.up s1).up s2
  conv => whnf
  refine (c15' m _ _ hu1 (by omega) (fun r hr => by have := hmr r hr; omega)).use fun x H2 s3 hx => ?_
  obtain ⟨_, hx⟩ := hx
  conv => whnf
  refine (c15' n _ _ (hv1.up s3) (by omega) (fun r hr => by have := hnr r hr; omega)).use fun y H3 s4 hy => ?_
  obtain ⟨_, hy⟩ := hy
  conv => whnf
  have hu3 := (hu1.up s3).up s4
  have hv3 := (hv1.up s3).up s4
  have hx3 := hx.up s4
  refine (c31 m n _ _ _ hu3 hv3).val fun H4 s5 => ?_
  conv => whnf
  refine (c32 m n (fun k x _ => MulR_bounds _ _) _ _ _ (hu3.up s5) (hv3.up s5)).val fun H5 s6 => ?_
  conv => whnf
  have ss := s5.trans s6
  have hS : (if errsM [m, n] = 0 then sameF m n else false) = (if errsM [m, n] = 0 then equalR m n else false) := by
    by_cases he : errsM [m, n] = 0
    · rw [if_pos he, if_pos he, same_eq he]
    · rw [if_neg he, if_neg he]
  have h33 := c33 m n (by omega) (by omega) _ _ _ (hx3.up ss) (hy.up ss)
  rw [hS] at h33
  refine h33.val fun H6 s7 => ?_
  conv => whnf
  have h34 := c34 m n (by omega) (by omega) _ _ _ ((hx3.up ss).up s7) ((hy.up ss).up s7)
  rw [phase_eq] at h34
  refine h34.val fun H7 s8 => ?_
  conv => whnf
  generalize (if errsM [m, n] = 0 then equalR m n else false) = q
  generalize errsM [m, n] = e
  generalize (PhaseR m n).1 = p1
  generalize (PhaseR m n).2 = p2
  have sss := ss.trans (s7.trans s8)
  have bq : (q == q) = true := beq_self_eq_true q
  repeat ((first | rw [beq_self_eq_true e] | rw [beq_self_eq_true p2] | rw [bq] | rw [beq_self_eq_true p1]); conv => whnf)
  have hmr' : ∀ r ∈ m, r.length < 9223372036854775808 := fun r hr => by have := hmr r hr; omega
  have hnr' : ∀ r ∈ n, r.length < 9223372036854775808 := fun r hr => by have := hnr r hr; omega
  refine (c23 m m _ _ _ (hx3.up sss) (hu3.up sss) (by omega) hmr').val fun H8 s9 => ?_
  rw [eqM_refl]
  conv => whnf
  refine (c23 n n _ _ _ ((hy.up sss).up s9) ((hv3.up sss).up s9) (by omega) hnr').val fun H9 s10 => ?_
  rw [eqM_refl]
  conv => whnf
  refine (c14 _).val fun H10 s11 => ?_
  conv => whnf
end Go.Proofs.YtbbjhegapilhpaaGreat

namespace Go.Proofs.YtbbjhegapilhpaaGreat
open Go.Proofs.YtbbjhegapilhpaaGreat.X Go.Proofs.YtbbjhegapilhpaaGreat.X.PH Go.ChangeShapes Go.WideShapes Go.ChangeAt Go.RowKit Go.Deep
set_option maxRecDepth 100000

theorem sames_lifted (os : Os) (started : os.Started) (H : Type) (enc : TypeId × Value → H) :
    ReturnsInHanded {} Tryz.checked os 5 .any (Rows.matrixSamesSpec.pre6 enc Tryz.prog Tryz.f5 Rows.matrixSamesRow.domain false) (Rows.matrixSamesSpec.post enc Tryz.prog Tryz.f5 false true false false) := by
  refine returnsInHanded_of_change (C := Tryz.checked) own started (by kernel_rfl) Tryz.func5
    (ChangeSpec.witness6 (enc := enc) (C := Tryz.checked) false ⟨#[], #[.slice none 0 0, .slice none 0 0], []⟩ 8 (by kernel_rfl) (by kernel_rfl) (by kernel_rfl) (by kernel_rfl)) ?_
  intro W base args ds gs before hval0 hW _ _
  have hval : ∀ (j : Nat) t v, Tryz.f5.params[j]? = some t → args[j]? = some v → Value.okWide Tryz.prog W .any base t v := hval0
  have hW' := hW
  obtain ⟨p, q, hA0, hV, rfl, _, _⟩ := hW
  have hA : DataW.TrodAll enc Tryz.prog W 0 (fun _ => true) true Tryz.f5.params.toList args.toList ds p := hA0
  rw [Tryz.params5] at hA hval
  obtain ⟨v0, v1, d0, d1, p0, p1, rfl, rfl, rfl, h0, h1⟩ := trodAll_two hA
  obtain ⟨rfl, rfl⟩ := trodVars_none hV
  obtain ⟨a0, len, cap, rfl⟩ := okWide_slice Tryz.underlying22 (hval 0 22 v0 rfl rfl)
  obtain ⟨a1, len1, cap1, rfl⟩ := okWide_slice Tryz.underlying22 (hval 1 22 v1 rfl rfl)
  obtain ⟨m, hm, hlen⟩ := open_mat h0
  obtain ⟨n, hn, hlen'⟩ := open_mat h1
  clear hA0 hval0
  simp only [List.append_nil] at hW'
  have hlt : ∀ x ∈ p0 ++ p1, x.block < W.heap.size := fun x hx => by simpa using hW'.lt x hx
  have h : maxLen = 9223372036854775807 := rfl
  rw [h] at hlen hlen'
  have hc := c5 m n (by omega) (by omega) (heapP W) _ _ hm hn
  refine (Cl.calls hc).mono ?_
  rintro e W' ⟨v, rfl, hbel, rfl⟩
  have k0 := Below.trod (t := 22) laidOut (by kernel_rfl) (of_decide_eq_true (by kernel_rfl)) h0 hbel fun x hx => hlt x (by simp [hx])
  have k1 := Below.trod (t := 22) laidOut (by kernel_rfl) (of_decide_eq_true (by kernel_rfl)) h1 hbel fun x hx => hlt x (by simp [hx])
  refine ⟨_, rfl, [d0, d1], [], p0 ++ p1, [], p0 ++ p1, [], hW', trodAll_mk1 (shut_bool Tryz.underlying4 _), trodAll_mk2 k0 k1, rfl, hbel.frame _, fun h => by cases h⟩

/-- MatrixSames answers true for every input, and the input reads as it did. -/
theorem matrixSames_holds : Rows.MatrixSamesSaid :=
  OpenClaim.holds_of_wide 5 Tryz.f5 rfl rfl rfl rfl rfl rfl rfl ⟨rfl, rfl, rfl, rfl, rfl⟩ rfl rfl rfl rfl rfl (by kernel_rfl) Tryz.func5 (by kernel_rfl)
    (of_decide_eq_true (by kernel_rfl)) (by unfold Func.isWrapper; first | (rw [if_pos (by decide +kernel)]; kernel_rfl) | (rw [if_neg (by decide +kernel)]; exact ⟨rfl, rfl⟩))
    (fun os started H enc _ => sames_lifted os started H enc)
#print axioms matrixSames_holds
end Go.Proofs.YtbbjhegapilhpaaGreat
